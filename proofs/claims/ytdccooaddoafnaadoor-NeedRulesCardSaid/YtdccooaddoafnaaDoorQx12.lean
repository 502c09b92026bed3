-- PRINTED by print.py (a twelfth state) out of the translation. Not trusted: Lean checks it.
import Derived.Test.YtdccooaddoafnaaDoorQx0
import Derived.Test.YtdccooaddoafnaaDoorQx11
namespace Go.Proofs.YtdccooaddoafnaaDoor.Q
open Go.RowKit Go.Proofs.YtdccooaddoafnaaDoorW.PrintWords Go.Proofs.YtdccooaddoafnaaDoorW.PrintLast Go.Proofs.YtdccooaddoafnaaDoorW.PrintMore
attribute [local go_sem] str_gtr str_geq str_leq max2_int min2_int max_two min_two max_three min_three max_four min_four
set_option linter.unusedVariables false
set_option maxHeartbeats 8000000
set_option maxRecDepth 1000000
set_option linter.unusedSimpArgs false

/-! ### hopperref16_Right: function 11 -/
-- told by hand
def r16a (p : S24) (deep : Int) : Bool := (decide (deep < 1) || (decide (p.f0 < 1) || decide (14 < p.f0)))
def r16k (p : S24) : Bool := ((p.f1 != 0) || ((p.f3 != 0) || ((p.f4 != 0) || ((!p.f2.toList.isEmpty) || (decide (p.f5.length < 1) || (decide (16 < p.f5.length) || ((p.f0 == 14) && ((p.f5.length : Int) != 1))))))))
def r16l (p : S24) (cols : Int) : Bool := (decide (0 < p.f5.length) || (decide (p.f1 < 0) || (decide (cols ≤ p.f1) || (decide (4096 < p.f2.size) || (decide (p.f4 < 0) || (decide (2 < p.f4) || ((decide (0 < p.f4) && decide (6 < p.f0)) || ((p.f0 == 11) && (!p.f2.toList.isEmpty)))))))))
def refRightP : Nat → S24 → Int → Int → Option Bool
 | 0, _, _, _ => none
 | k + 1, p, cols, deep => if r16a p deep = true then some false else if 12 ≤ p.f0 then (if r16k p = true then some false else allE (fun q => refRightP k q cols (wrap64 (deep - 1))) p.f5) else
  if r16l p cols = true then some false else if p.f0 = 10 then (hopperref09_Parse.f k p.f2 p.f3).map (fun x => x.2 == 0) else some (p.f3 == 0)
def hopperref16_Right.f (k : Nat) (a0_0 : Int) (a0_1 : Int) (a0_2 : ByteArray) (a0_3 : Int) (a0_4 : Int) (l0_5 : List (S24)) (a1 : Int) (a2 : Int) : Option Bool := refRightP k ⟨a0_0, a0_1, a0_2, a0_3, a0_4, l0_5⟩ a1 a2
theorem hopperref16_Right.core (k : Nat) : ∀ (p : S24) (cs : List Value) (cols deep : Int) (r : Bool) (w : World), k24.K w p cs → refRightP k p cols deep = some r →
  Calls Tryd.prog 11 #[.agg cs.toArray, .int .i64 cols, .int .i64 deep] w fun e w' => e = .returned (.bool r) ∧ Below w.heap.size w w' := by
 have HSZ := Aside0.mk (show ∀ W, (sizeOf 24).run Tryd.prog W = .ok 6 W from fun W => by first | exact Tryd.sizeOf24 | exact Tryd.sizeOf24 W | go_simp)
 have HAGG := Aside0.mk (show ∀ W, (isAgg 24).run Tryd.prog W = .ok true W from fun W => by first | exact Tryd.isAgg24 | exact Tryd.isAgg24 W | go_simp)
 induction k with
 | zero => intro p cs cols deep r w _ h; cases h
 | succ k ih =>
 intro p cs cols deep r w hK h
 have hup := Tryd.underlying24; unfold refRightP at h
 have HL6 := Aside0.mk (show cs.length = 6 from k24.K_len hK)
 obtain ⟨A5, c5, ecs, hl5, hk5⟩ := k24_open hK
 have HN5 := Aside0.mk hk5.2.1; have H0 := Aside0.mk (show cs[0]? = some (.int .i64 p.f0) from by rw [ecs]; rfl)
 have H1 := Aside0.mk (show cs[1]? = some (.int .i64 p.f1) from by rw [ecs]; rfl)
 have H2 := Aside0.mk (show cs[2]? = some (.string p.f2) from by rw [ecs]; rfl)
 have H3 := Aside0.mk (show cs[3]? = some (.int .i64 p.f3) from by rw [ecs]; rfl)
 have H4 := Aside0.mk (show cs[4]? = some (.int .i64 p.f4) from by rw [ecs]; rfl)
 have H5 := Aside0.mk (show cs[5]? = some (.slice A5 p.f5.length c5) from by rw [ecs]; rfl)
 have HK5 := Aside0.mk hk5; have IH := Aside0.mk ih; clear hK hk5 hl5 ih ecs; go_enter Tryd.func11, Tryd.ntmps11
 go_upto_region 1 with (first
  | ((with_reducible refine gate_dst (N := 3) rfl ?_); refine box_all rfl rfl (cs := cs.toArray) rfl (fun W => by rw [List.size_toArray, HL6.out]; exact HSZ.out W) ?_; intro w1 hbx hbw; have BW := Aside0.mk hbw; have BX := Aside0.mk hbx; clear hbx hbw))
 go_cut [21] (fun s21 wc => s21 = .bool (r16a p deep) ∧ Aside0 (Below w.heap.size w wc) ∧ Aside0 (wc.heap[w.heap.size]? = some (.cells cs.toArray 24 (0, 0))))
 case first =>
  have hcv0 : w1.cell? ⟨w.heap.size, 0, none⟩ = some (.int .i64 p.f0) := blk_cells BX.out 0 _ H0.out; have hcv1 : w1.cell? ⟨w.heap.size, 1, none⟩ = some (.int .i64 p.f1) := blk_cells BX.out 1 _ H1.out; have hcv2 : w1.cell? ⟨w.heap.size, 2, none⟩ = some (.string p.f2) := blk_cells BX.out 2 _ H2.out; have hcv3 : w1.cell? ⟨w.heap.size, 3, none⟩ = some (.int .i64 p.f3) := blk_cells BX.out 3 _ H3.out; have hcv4 : w1.cell? ⟨w.heap.size, 4, none⟩ = some (.int .i64 p.f4) := blk_cells BX.out 4 _ H4.out; have hcv5 : w1.cell? ⟨w.heap.size, 5, none⟩ = some (.slice A5 p.f5.length c5) := blk_cells BX.out 5 _ H5.out
  clear hcv1 hcv2 hcv3 hcv4 hcv5
  cases qq1 : decide (deep < 1) with
  | true =>
   go_wp2
   go_meet
   case rel => exact ⟨by simp only [r16a, qq1] <;> rfl, BW, BX⟩
  | false =>
   cases qq2 : decide (p.f0 < 1) with
   | true =>
    go_wp2
    go_meet
    case rel => exact ⟨by simp only [r16a, qq1, qq2] <;> rfl, BW, BX⟩
   | false =>
    cases qq3 : decide (14 < p.f0) with
    | true =>
     go_wp2
     go_meet
     case rel => exact ⟨by simp only [r16a, qq1, qq2, qq3] <;> rfl, BW, BX⟩
    | false =>
     go_wp2
     go_meet
     case rel => exact ⟨by simp only [r16a, qq1, qq2, qq3] <;> rfl, BW, BX⟩
 case rest =>
  clear BW BX; obtain ⟨rfl, BW, BX⟩ := hcut
  cases ha : r16a p deep with
  | true =>
   rw [ha, if_pos rfl] at h
   obtain rfl := Option.some.inj h
   clear h; go_wp2
   go_ret
   exact ⟨rfl, BW.out⟩
  | false =>
  rw [ha, if_neg Bool.false_ne_true] at h
  clear ha; have hcv0 : wc.cell? ⟨w.heap.size, 0, none⟩ = some (.int .i64 p.f0) := blk_cells BX.out 0 _ H0.out; have hcv1 : wc.cell? ⟨w.heap.size, 1, none⟩ = some (.int .i64 p.f1) := blk_cells BX.out 1 _ H1.out; have hcv2 : wc.cell? ⟨w.heap.size, 2, none⟩ = some (.string p.f2) := blk_cells BX.out 2 _ H2.out; have hcv3 : wc.cell? ⟨w.heap.size, 3, none⟩ = some (.int .i64 p.f3) := blk_cells BX.out 3 _ H3.out; have hcv4 : wc.cell? ⟨w.heap.size, 4, none⟩ = some (.int .i64 p.f4) := blk_cells BX.out 4 _ H4.out; have hcv5 : wc.cell? ⟨w.heap.size, 5, none⟩ = some (.slice A5 p.f5.length c5) := blk_cells BX.out 5 _ H5.out
  by_cases q12 : 12 ≤ p.f0
  ·rw [if_pos q12] at h; have q12b : decide (12 ≤ p.f0) = true := decide_eq_true q12; have HH := Aside0.mk h; clear h; go_upto_region 4 with (fail)
   go_cut [65] (fun s65 wc => s65 = .bool (r16k p) ∧ Aside0 (Below w.heap.size w wc) ∧ Aside0 (wc.heap[w.heap.size]? = some (.cells cs.toArray 24 (0, 0))))
   case first =>
    cases qq4 : (p.f1 != 0) with
    | true =>
     go_wp2
     go_meet
     case rel => exact ⟨by simp only [r16k, qq4] <;> rfl, BW, BX⟩
    | false =>
     cases qq5 : (p.f3 != 0) with
     | true =>
      go_wp2
      go_meet
      case rel => exact ⟨by simp only [r16k, qq4, qq5] <;> rfl, BW, BX⟩
     | false =>
      cases qq6 : (p.f4 != 0) with
      | true =>
       go_wp2
       go_meet
       case rel => exact ⟨by simp only [r16k, qq4, qq5, qq6] <;> rfl, BW, BX⟩
      | false =>
       cases qq7 : (!p.f2.toList.isEmpty) with
       | true =>
        go_wp2
        go_meet
        case rel => exact ⟨by simp only [r16k, qq4, qq5, qq6, qq7] <;> rfl, BW, BX⟩
       | false =>
        cases qq8 : decide (p.f5.length < 1) with
        | true =>
         have qq8i : decide ((p.f5.length : Int) < (1 : Int)) = true := by rw [← qq8]; exact decide_eq_decide.2 (by omega)
         go_wp2
         go_meet
         case rel => exact ⟨by simp only [r16k, qq4, qq5, qq6, qq7, qq8] <;> rfl, BW, BX⟩
        | false =>
         have qq8i : decide ((p.f5.length : Int) < (1 : Int)) = false := by rw [← qq8]; exact decide_eq_decide.2 (by omega)
         cases qq9 : decide (16 < p.f5.length) with
         | true =>
          have qq9i : decide ((16 : Int) < (p.f5.length : Int)) = true := by rw [← qq9]; exact decide_eq_decide.2 (by omega)
          go_wp2
          go_meet
          case rel => exact ⟨by simp only [r16k, qq4, qq5, qq6, qq7, qq8, qq9] <;> rfl, BW, BX⟩
         | false =>
          have qq9i : decide ((16 : Int) < (p.f5.length : Int)) = false := by rw [← qq9]; exact decide_eq_decide.2 (by omega)
          cases qq10 : (p.f0 == 14) with
          | false =>
           go_wp2
           go_meet
           case rel => exact ⟨by simp only [r16k, qq4, qq5, qq6, qq7, qq8, qq9, qq10] <;> rfl, BW, BX⟩
          | true =>
           cases qq10b : ((p.f5.length : Int) != 1) with
           | true =>
            go_wp2
            go_meet
            case rel => exact ⟨by simp only [r16k, qq4, qq5, qq6, qq7, qq8, qq9, qq10, qq10b] <;> rfl, BW, BX⟩
           | false =>
            go_wp2
            go_meet
            case rel => exact ⟨by simp only [r16k, qq4, qq5, qq6, qq7, qq8, qq9, qq10, qq10b] <;> rfl, BW, BX⟩
   case rest =>
    clear BW BX; clear hcv0 hcv1 hcv2 hcv3 hcv4 hcv5; obtain ⟨rfl, BW, BX⟩ := hcut; have h := HH.out; clear HH
    cases hb : r16k p with
    | true =>
     rw [hb, if_pos rfl] at h
     obtain rfl := Option.some.inj h
     clear h; go_wp2
     go_ret
     exact ⟨rfl, BW.out⟩
    | false =>
    rw [hb, if_neg Bool.false_ne_true] at h
    have HAL := Aside0.mk h; clear h hb; have hcv5 : wc.cell? ⟨w.heap.size, 5, none⟩ = some (.slice A5 p.f5.length c5) := blk_cells BX.out 5 _ H5.out; go_upto_if 70 with (fail)
    clear hcv5; go_loopg [7] p.f5.length (fun gg s7 wr => ∃ (i : Nat), s7 = .int .i64 i ∧ i ≤ p.f5.length ∧ p.f5.length - i ≤ gg ∧ Aside0 (allE (fun q => refRightP k q cols (wrap64 (deep - 1))) (p.f5.drop i) = some r) ∧ Aside0 (Below w.heap.size w wr) ∧ Aside0 (wr.heap[w.heap.size]? = some (.cells cs.toArray 24 (0, 0))))
    case atStart => exact ⟨0, by first | rfl | simp, Nat.zero_le _, by omega, HAL, BW, BX⟩
    case round =>
     clear HAL BW BX; obtain ⟨i, rfl, hin, hg0, HTS, HB, BX⟩ := hrel; have hcv5 : wr.cell? ⟨w.heap.size, 5, none⟩ = some (.slice A5 p.f5.length c5) := blk_cells BX.out 5 _ H5.out; have hn := HN5.out; by_cases hlt : i < p.f5.length
     ·have hltz : (i : Int) < (p.f5.length : Int) := by omega
      have hi0 : (0 : Int) ≤ (i : Int) := by omega
      have hks := HTS.out; rw [drop_getE z24 p.f5 i hlt] at hks
      simp only [allE] at hks
      obtain ⟨t, ht, hks⟩ := Option.bind_eq_some_iff.1 hks
      obtain ⟨ad, c, e17, hcl, hKu, hcell⟩ := Kd.C_elem HK5.out z24 i hlt
      replace hcell : ∀ j v, c[j]? = some v → w.cell? ((ad.add (i * 6)).add j) = some v := hcell
      replace hcl : c.length = 6 := hcl
      subst e17; have HCALL := Aside0.mk (fun W (hb : Below w.heap.size w W) => IH.out (p.f5.getD i z24) c cols (wrap64 (deep - 1)) t W (k24.K_below hb hKu) ht)
      have HCL := Aside0.mk hcl; have HCELL := Aside0.mk (show ∀ j v, c[j]? = some v → wr.cell? ((ad.add (i * 6)).add j) = some v from fun j v hj => (HB.out.cell (World.block_lt_of_cell? w _ (hcell j v hj))).trans (hcell j v hj))
      clear hKu ht HTS hcl hcell hn
      cases t with
      | true =>
       rw [if_pos rfl] at hks; have HTS2 := Aside0.mk hks; clear hks
       go_wp2_with (first
        | ((with_reducible refine gate_dst (N := 77) rfl ?_); refine load_all rfl rfl (cs := c) rfl HAGG.out (fun W => by rw [HCL.out]; exact HSZ.out W) HCELL.out ?_)
        | (go_at_call 11; refine (HCALL.out _ HB.out).mono ?_; rintro e w4 ⟨rfl, hb4⟩; have HB4 := Aside0.mk (below_step HB.out hb4); have BX4 := Aside0.mk (blk_keep hb4 BX.out); clear hb4))
       go_roundg (p.f5.length - (i + 1))
       case measure => omega
       case rel => have hN := HN5.out; exact ⟨i + 1, by first | go_num | (congr 1; unfold wrap64; omega), by omega, by omega, HTS2, HB4, BX4⟩
      | false =>
       rw [if_neg (by decide)] at hks
       obtain rfl := Option.some.inj hks
       clear hks
       go_wp2_with (first
        | ((with_reducible refine gate_dst (N := 77) rfl ?_); refine load_all rfl rfl (cs := c) rfl HAGG.out (fun W => by rw [HCL.out]; exact HSZ.out W) HCELL.out ?_)
        | (go_at_call 11; refine (HCALL.out _ HB.out).mono ?_; rintro e w4 ⟨rfl, hb4⟩; have HB4 := Aside0.mk (below_step HB.out hb4); clear hb4))
       go_ret
       exact ⟨rfl, HB4.out⟩
     ·have hltz : ¬ (i : Int) < (p.f5.length : Int) := by omega
      have hks := HTS.out; rw [List.drop_of_length_le (by omega)] at hks
      simp only [allE] at hks
      obtain rfl := Option.some.inj hks
      clear hks HTS hn; go_wp2
      go_ret
      exact ⟨rfl, HB.out⟩
  ·rw [if_neg q12] at h; have q12b : decide (12 ≤ p.f0) = false := decide_eq_false q12; have HH := Aside0.mk h; clear h; go_upto_region 12 with (fail)
   go_cut [133] (fun s133 wc => s133 = .bool (r16l p cols) ∧ Aside0 (Below w.heap.size w wc) ∧ Aside0 (wc.heap[w.heap.size]? = some (.cells cs.toArray 24 (0, 0))))
   case first =>
    cases qq11 : decide (0 < p.f5.length) with
    | true =>
     have qq11i : decide ((0 : Int) < (p.f5.length : Int)) = true := by rw [← qq11]; exact decide_eq_decide.2 (by omega)
     go_wp2
     go_meet
     case rel => exact ⟨by simp only [r16l, qq11] <;> rfl, BW, BX⟩
    | false =>
     have qq11i : decide ((0 : Int) < (p.f5.length : Int)) = false := by rw [← qq11]; exact decide_eq_decide.2 (by omega)
     cases qq12 : decide (p.f1 < 0) with
     | true =>
      go_wp2
      go_meet
      case rel => exact ⟨by simp only [r16l, qq11, qq12] <;> rfl, BW, BX⟩
     | false =>
      cases qq13 : decide (cols ≤ p.f1) with
      | true =>
       go_wp2
       go_meet
       case rel => exact ⟨by simp only [r16l, qq11, qq12, qq13] <;> rfl, BW, BX⟩
      | false =>
       cases qq14 : decide (4096 < p.f2.size) with
       | true =>
        have qq14i : decide ((4096 : Int) < (p.f2.size : Int)) = true := by rw [← qq14]; exact decide_eq_decide.2 (by omega)
        go_wp2
        go_meet
        case rel => exact ⟨by simp only [r16l, qq11, qq12, qq13, qq14] <;> rfl, BW, BX⟩
       | false =>
        have qq14i : decide ((4096 : Int) < (p.f2.size : Int)) = false := by rw [← qq14]; exact decide_eq_decide.2 (by omega)
        cases qq15 : decide (p.f4 < 0) with
        | true =>
         go_wp2
         go_meet
         case rel => exact ⟨by simp only [r16l, qq11, qq12, qq13, qq14, qq15] <;> rfl, BW, BX⟩
        | false =>
         cases qq16 : decide (2 < p.f4) with
         | true =>
          go_wp2
          go_meet
          case rel => exact ⟨by simp only [r16l, qq11, qq12, qq13, qq14, qq15, qq16] <;> rfl, BW, BX⟩
         | false =>
          cases qq17 : decide (0 < p.f4) with
          | false =>
           cases qq18 : (p.f0 == 11) with
           | false =>
            go_wp2
            go_meet
            case rel => exact ⟨by simp only [r16l, qq11, qq12, qq13, qq14, qq15, qq16, qq17, qq18] <;> rfl, BW, BX⟩
           | true =>
            cases qq18b : (!p.f2.toList.isEmpty) with
            | true =>
             go_wp2
             go_meet
             case rel => exact ⟨by simp only [r16l, qq11, qq12, qq13, qq14, qq15, qq16, qq17, qq18, qq18b] <;> rfl, BW, BX⟩
            | false =>
             go_wp2
             go_meet
             case rel => exact ⟨by simp only [r16l, qq11, qq12, qq13, qq14, qq15, qq16, qq17, qq18, qq18b] <;> rfl, BW, BX⟩
          | true =>
           cases qq17b : decide (6 < p.f0) with
           | true =>
            go_wp2
            go_meet
            case rel => exact ⟨by simp only [r16l, qq11, qq12, qq13, qq14, qq15, qq16, qq17, qq17b] <;> rfl, BW, BX⟩
           | false =>
            cases qq19 : (p.f0 == 11) with
            | false =>
             go_wp2
             go_meet
             case rel => exact ⟨by simp only [r16l, qq11, qq12, qq13, qq14, qq15, qq16, qq17, qq17b, qq19] <;> rfl, BW, BX⟩
            | true =>
             cases qq19b : (!p.f2.toList.isEmpty) with
             | true =>
              go_wp2
              go_meet
              case rel => exact ⟨by simp only [r16l, qq11, qq12, qq13, qq14, qq15, qq16, qq17, qq17b, qq19, qq19b] <;> rfl, BW, BX⟩
             | false =>
              go_wp2
              go_meet
              case rel => exact ⟨by simp only [r16l, qq11, qq12, qq13, qq14, qq15, qq16, qq17, qq17b, qq19, qq19b] <;> rfl, BW, BX⟩
   case rest =>
    clear BW BX; clear hcv0 hcv1 hcv2 hcv3 hcv4 hcv5; obtain ⟨rfl, BW, BX⟩ := hcut; have h := HH.out; clear HH; have hcv0 : wc.cell? ⟨w.heap.size, 0, none⟩ = some (.int .i64 p.f0) := blk_cells BX.out 0 _ H0.out; have hcv1 : wc.cell? ⟨w.heap.size, 1, none⟩ = some (.int .i64 p.f1) := blk_cells BX.out 1 _ H1.out; have hcv2 : wc.cell? ⟨w.heap.size, 2, none⟩ = some (.string p.f2) := blk_cells BX.out 2 _ H2.out; have hcv3 : wc.cell? ⟨w.heap.size, 3, none⟩ = some (.int .i64 p.f3) := blk_cells BX.out 3 _ H3.out; have hcv4 : wc.cell? ⟨w.heap.size, 4, none⟩ = some (.int .i64 p.f4) := blk_cells BX.out 4 _ H4.out; have hcv5 : wc.cell? ⟨w.heap.size, 5, none⟩ = some (.slice A5 p.f5.length c5) := blk_cells BX.out 5 _ H5.out
    cases hb : r16l p cols with
    | true =>
     rw [hb, if_pos rfl] at h
     obtain rfl := Option.some.inj h
     clear h; go_wp2
     go_ret
     exact ⟨rfl, BW.out⟩
    | false =>
    rw [hb, if_neg Bool.false_ne_true] at h
    clear hb; by_cases q10 : p.f0 = 10
    ·rw [if_pos q10] at h; have q10b : (p.f0 == 10) = true := beq_iff_eq.mpr q10; obtain ⟨⟨l1, e1⟩, hp, rfl⟩ := Option.map_eq_some_iff.1 h
     have HPA := Aside0.mk (fun W => hopperref09_Parse.calls k p.f2 p.f3 l1 e1 W hp)
     clear h hp q10
     go_wp2_with (first
      | (go_at_call 20; refine (HPA.out _).mono ?_; rintro e w4 ⟨v4, rfl, _, hb4⟩; have BW4 := Aside0.mk (below_step BW.out hb4); clear hb4))
     go_ret
     exact ⟨rfl, BW4.out⟩
    ·rw [if_neg q10] at h; have q10b : (p.f0 == 10) = false := beq_eq_false_iff_ne.mpr q10; obtain rfl := Option.some.inj h
     clear h q10; go_wp2
     go_ret
     exact ⟨rfl, BW.out⟩
theorem hopperref16_Right.calls (k : Nat) (a0_0 : Int) (a0_1 : Int) (a0_2 : ByteArray) (a0_3 : Int) (a0_4 : Int) (A0_5 : Option Addr) (c0_5 : Nat) (l0_5 : List (S24)) (a1 : Int) (a2 : Int) (r : Bool) (w : World) (hr0_5 : Kd.C k24 w A0_5 l0_5.length l0_5) (hc0_5 : l0_5.length ≤ c0_5) (h : hopperref16_Right.f k a0_0 a0_1 a0_2 a0_3 a0_4 l0_5 a1 a2 = some r) :
  Calls Tryd.prog 11 #[.agg #[.int .i64 a0_0, .int .i64 a0_1, .string a0_2, .int .i64 a0_3, .int .i64 a0_4, .slice A0_5 l0_5.length c0_5], .int .i64 a1, .int .i64 a2] w fun e w' => e = .returned (.bool r) ∧ Below w.heap.size w w' :=
 hopperref16_Right.core k ⟨a0_0, a0_1, a0_2, a0_3, a0_4, l0_5⟩ _ a1 a2 r w (k24_mk w ⟨a0_0, a0_1, a0_2, a0_3, a0_4, l0_5⟩ hc0_5 hr0_5) h

/-! ### hopperref16_Rows: function 12 -/
mutual
def hopperref16_Rows.j0 : Nat → List (List (S40)) → Int → Bool → Option (Bool)
 | 0, _, _, _ => none
 | k + 1, x0, x1, x17 => if x17 = true then (some false) else (hopperref16_Rows.l0 k x0 x1 0)
def hopperref16_Rows.l0 : Nat → List (List (S40)) → Int → Int → Option (Bool)
 | 0, _, _, _ => none
 | k + 1, x0, x1, x5 => if x5 < (x0.length : Int) then (if 0 ≤ x5 then (if ((rd_L6 x0 x5).length : Int) = x1 then (hopperref16_Rows.l1 k x0 x1 x5 0) else (some false)) else (none)) else (some true)
def hopperref16_Rows.l1 : Nat → List (List (S40)) → Int → Int → Int → Option (Bool)
 | 0, _, _, _, _ => none
 | k + 1, x0, x1, x5, x6 => if x6 < x1 then (if 0 ≤ x5 then (if x5 < (x0.length : Int) then (if 0 ≤ x6 then (if x6 < ((rd_L6 x0 x5).length : Int) then (if (((rd_T40 (rd_L6 x0 x5) x6).f1).size : Int) > 100 then (some false) else (if (rd_T40 (rd_L6 x0 x5) x6).f0 = true then (if ((rd_T40 (rd_L6 x0 x5) x6).f1).toList = ([] : List UInt8) then (hopperref16_Rows.l1 k x0 x1 x5 (wrap64 (x6 + 1))) else (some false)) else (hopperref16_Rows.l1 k x0 x1 x5 (wrap64 (x6 + 1))))) else (none)) else (none)) else (none)) else (none)) else (hopperref16_Rows.l0 k x0 x1 (wrap64 (x5 + 1)))
end
def hopperref16_Rows.f (k : Nat) (l0 : List (List (S40))) (a1 : Int) : Option (Bool) := if a1 < 1 then (hopperref16_Rows.j0 k l0 a1 true) else (if a1 > 8 then (hopperref16_Rows.j0 k l0 a1 true) else (hopperref16_Rows.j0 k l0 a1 (decide ((l0.length : Int) > 100))))
theorem hopperref16_Rows.calls (k : Nat) (A0 : Option Addr) (c0 : Nat) (l0 : List (List (S40))) (a1 : Int) (r : Bool) (w : World) (hr0 : Kd.C (Kd.slice 40 k40) w A0 l0.length l0) (hc0 : l0.length ≤ c0) (h : hopperref16_Rows.f k l0 a1 = some r) :
  Calls Tryd.prog 12 #[.slice A0 l0.length c0, .int .i64 a1] w fun e w' => e = .returned (.bool r) ∧ Drawn0 w w' := by
 have HR0 := Aside0.mk hr0; have HC0 := Aside0.mk hc0; clear hr0 hc0; have H : (if a1 < 1 then (hopperref16_Rows.j0 k l0 a1 true) else (if a1 > 8 then (hopperref16_Rows.j0 k l0 a1 true) else (hopperref16_Rows.j0 k l0 a1 (decide ((l0.length : Int) > 100))))) = some r := h; clear h; have HC3 := Aside0.mk H; clear H; go_enter Tryd.func12, Tryd.ntmps12
 go_upto_region 1 with (fail)
 go_cut [17] (fun v17 wc => ∃ (kq : Nat) (x17_2 : Bool), v17 = .bool x17_2 ∧ Aside0 (hopperref16_Rows.j0 kq l0 a1 x17_2 = some r) ∧ Aside0 (kq ≤ k) ∧ Drawn0 w wc)
 case first =>
  have H := HC3.out; clear HC3; by_cases c4 : a1 < 1
  ·rw [if_pos c4] at H; have c4b0 : decide (a1 < 1) = true := decide_eq_true c4; clear c4; (first | rw [c4b0] | (simp only [i64_w, i32_w]; rw [c4b0]) | skip)
   have H' := Aside0.mk H
   clear H; go_wp2
   go_meet
   case rel => exact ⟨_, (true), (by first | rfl | (simp; done) | (simp [*]; done)), H', ⟨by first | omega | exact Nat.le_refl _⟩, by repeat (first | exact Drawn0.refl _ | apply Drawn0.step)⟩
  ·rw [if_neg c4] at H; have c4b0 : decide (a1 < 1) = false := decide_eq_false c4; clear c4; (first | rw [c4b0] | (simp only [i64_w, i32_w]; rw [c4b0]) | skip)
   by_cases c5 : a1 > 8
   ·rw [if_pos c5] at H; have c5b0 : decide (8 < a1) = true := decide_eq_true c5; clear c5; have H' := Aside0.mk H
    clear H; go_wp2
    go_meet
    case rel => exact ⟨_, (true), (by first | rfl | (simp; done) | (simp [*]; done)), H', ⟨by first | omega | exact Nat.le_refl _⟩, by repeat (first | exact Drawn0.refl _ | apply Drawn0.step)⟩
   ·rw [if_neg c5] at H; have c5b0 : decide (8 < a1) = false := decide_eq_false c5; clear c5; have H' := Aside0.mk H
    clear H; go_wp2
    go_meet
    case rel => exact ⟨_, (decide ((l0.length : Int) > 100)), (by first | rfl | (simp; done) | (simp [*]; done)), H', ⟨by first | omega | exact Nat.le_refl _⟩, by repeat (first | exact Drawn0.refl _ | apply Drawn0.step)⟩
 case rest =>
  clear HC3; try clear c1
  try clear p2
  try clear c4
  try clear c4b0
  try clear c5
  try clear c5b0
  obtain ⟨kq, x17_2, rfl, HA, HJ2, ⟨mc2, rfl⟩⟩ := hcut
  cases kq with
  | zero => exact absurd HA.out (by simp [hopperref16_Rows.j0])
  | succ kj2 =>
   have H := HA.out; clear HA; simp only [hopperref16_Rows.j0] at H
   by_cases c6 : x17_2 = true
   ·subst c6; have H1 : (some false) = some r := by rw [if_pos rfl] at H; exact H
    clear H; have H := H1; clear H1; obtain rfl := Option.some.inj H
    go_wp2
    go_ret
    exact exD
   ·replace c6 := Bool.eq_false_iff.mpr c6; subst c6; have H1 : (hopperref16_Rows.l0 kj2 l0 a1 0) = some r := by rw [if_neg (show ¬ (false = true) by decide)] at H; exact H
    clear H; have H := H1; clear H1; have H' := Aside0.mk H
    clear H; go_wp2
    go_loopg [5] kj2 (fun kq v5 w' => ∃ (x5_2 : Int), v5 = .int .i64 x5_2 ∧ Aside0 (hopperref16_Rows.l0 kq l0 a1 x5_2 = some r) ∧ Aside0 (kq ≤ kj2) ∧ Drawn0 w w')
    case atStart => exact ⟨(0), (by first | rfl | (simp; done) | (simp [*]; done)), H', ⟨Nat.le_refl _⟩, by repeat (first | exact Drawn0.refl _ | apply Drawn0.step)⟩
    case round =>
     clear H'; (try clear c1); (try clear c2); (try clear p2); (try clear c4); (try clear c4b0); (try clear c5); (try clear c5b0); (try clear c6); (try clear p2); obtain ⟨x5_2, rfl, HA, HK2, ⟨m2, rfl⟩⟩ := hrel
     cases gk with
     | zero => exact absurd HA.out (by simp [hopperref16_Rows.l0])
     | succ k2 =>
      have H := HA.out; clear HA; simp only [hopperref16_Rows.l0] at H
      by_cases c7 : x5_2 < (l0.length : Int)
      ·rw [if_pos c7] at H; have c7b0 : decide (x5_2 < (l0.length : Int)) = true := decide_eq_true c7; clear c7; by_cases c8 : 0 ≤ x5_2
       case neg => rw [if_neg c8] at H; exact absurd H (by simp)
       rw [if_pos c8] at H; have c8b0 : decide (0 ≤ x5_2) = true := decide_eq_true c8; clear c8; by_cases c9 : ((rd_L6 l0 x5_2).length : Int) = a1
       ·rw [if_pos c9] at H; have c9b0 : (((rd_L6 l0 x5_2).length : Int) == a1) = true := beq_iff_eq.mpr c9; have c9b1 : (((rd_L6 l0 x5_2).length : Int) != a1) = false := bne_eq_false_iff_eq.mpr c9; clear c9; have H' := Aside0.mk H
        clear H; have p286 : 0 ≤ (x5_2 : Int) := dtA; have q286 : x5_2 < (l0.length : Int) := dtA; obtain ⟨ad286, A286_0, c286_0, e286, hx286_0, hl286_0, hi286_0⟩ := at_L6 HR0.out x5_2 p286 q286
        cases e286
        have HR286_0 := Aside0.mk hi286_0; have HC286_0 := Aside0.mk hl286_0; clear hi286_0 hl286_0; replace p286 := eq_true p286; replace q286 := eq_true q286; go_wp2
        go_loopg [6] k2 (fun kq v6 w' => ∃ (x6_3 : Int), v6 = .int .i64 x6_3 ∧ Aside0 (hopperref16_Rows.l1 kq l0 a1 x5_2 x6_3 = some r) ∧ Aside0 (kq ≤ k2) ∧ Drawn0 w w')
        case atStart => exact ⟨(0), (by first | rfl | (simp; done) | (simp [*]; done)), H', ⟨Nat.le_refl _⟩, by repeat (first | exact Drawn0.refl _ | apply Drawn0.step)⟩
        case round =>
         clear H'; (try clear c1); (try clear c2); (try clear p2); (try clear q2); (try clear hx2); (try clear c4); (try clear c4b0); (try clear c5); (try clear c5b0); (try clear c6); (try clear c7); (try clear c7b0); (try clear c8); (try clear c8b0); (try clear c9); (try clear c9b0); (try clear c9b1); (try clear hx286_0); (try clear p2); (try clear p286); (try clear q286); obtain ⟨x6_3, rfl, HA, HK3, ⟨m3, rfl⟩⟩ := hrel
         cases gk with
         | zero => exact absurd HA.out (by simp [hopperref16_Rows.l1])
         | succ k3 =>
          have H := HA.out; clear HA; simp only [hopperref16_Rows.l1] at H
          by_cases c10 : x6_3 < a1
          ·rw [if_pos c10] at H; have c10b0 : decide (x6_3 < a1) = true := decide_eq_true c10; clear c10; by_cases c11 : 0 ≤ x5_2
           case neg => rw [if_neg c11] at H; exact absurd H (by simp)
           rw [if_pos c11] at H; have c11b0 : decide (0 ≤ x5_2) = true := decide_eq_true c11; clear c11; by_cases c12 : x5_2 < (l0.length : Int)
           case neg => rw [if_neg c12] at H; exact absurd H (by simp)
           rw [if_pos c12] at H; have c12b0 : decide (x5_2 < (l0.length : Int)) = true := decide_eq_true c12; clear c12; by_cases c13 : 0 ≤ x6_3
           case neg => rw [if_neg c13] at H; exact absurd H (by simp)
           rw [if_pos c13] at H; have c13b0 : decide (0 ≤ x6_3) = true := decide_eq_true c13; clear c13; by_cases c14 : x6_3 < ((rd_L6 l0 x5_2).length : Int)
           case neg => rw [if_neg c14] at H; exact absurd H (by simp)
           rw [if_pos c14] at H; have c14b0 : decide (x6_3 < ((rd_L6 l0 x5_2).length : Int)) = true := decide_eq_true c14; clear c14; by_cases c15 : (((rd_T40 (rd_L6 l0 x5_2) x6_3).f1).size : Int) > 100
           ·rw [if_pos c15] at H; have c15b0 : decide (100 < (((rd_T40 (rd_L6 l0 x5_2) x6_3).f1).size : Int)) = true := decide_eq_true c15; have c15b1 : decide (100 < ((rd_T40 (rd_L6 l0 x5_2) x6_3).f1).size) = true := decide_eq_true (by omega)
            clear c15; obtain rfl := Option.some.inj H
            have p287 : 0 ≤ (x5_2 : Int) := dtA; have q287 : x5_2 < (l0.length : Int) := dtA; obtain ⟨ad287, A287_0, c287_0, e287, hx287_0, hl287_0, hi287_0⟩ := at_L6 HR0.out x5_2 p287 q287
            obtain rfl : ad286 = ad287 := (by injection e287)
            have HR287_0 := Aside0.mk hi287_0; have HC287_0 := Aside0.mk hl287_0; clear hi287_0 hl287_0; replace p287 := eq_true p287; replace q287 := eq_true q287; have p288 : 0 ≤ (x6_3 : Int) := dtA; have q288 : x6_3 < ((rd_L6 l0 x5_2).length : Int) := dtA; obtain ⟨ad288, e288, hx288_0, hx288_1⟩ := at_T40 HR287_0.out x6_3 p288 q288
            cases e288
            replace p288 := eq_true p288; replace q288 := eq_true q288; go_wp2
            go_ret
            exact exD
           ·rw [if_neg c15] at H; have c15b0 : decide (100 < (((rd_T40 (rd_L6 l0 x5_2) x6_3).f1).size : Int)) = false := decide_eq_false c15; have c15b1 : decide (100 < ((rd_T40 (rd_L6 l0 x5_2) x6_3).f1).size) = false := decide_eq_false (by omega)
            clear c15; obtain ⟨bq16, hbq16⟩ : ∃ b_ : Bool, b_ = ((rd_T40 (rd_L6 l0 x5_2) x6_3).f0) := ⟨_, rfl⟩
            replace H : (if bq16 = true then (if ((rd_T40 (rd_L6 l0 x5_2) x6_3).f1).toList = ([] : List UInt8) then (hopperref16_Rows.l1 k3 l0 a1 x5_2 (wrap64 (x6_3 + 1))) else (some false)) else (hopperref16_Rows.l1 k3 l0 a1 x5_2 (wrap64 (x6_3 + 1)))) = some r := by rw [← hbq16] at H; exact H
            have Nbq16 := Aside0.mk hbq16; clear hbq16; by_cases c17 : bq16 = true
            ·subst c17; have H1 : (if ((rd_T40 (rd_L6 l0 x5_2) x6_3).f1).toList = ([] : List UInt8) then (hopperref16_Rows.l1 k3 l0 a1 x5_2 (wrap64 (x6_3 + 1))) else (some false)) = some r := by rw [if_pos rfl] at H; exact H
             clear H; have H := H1; clear H1; by_cases c18 : ((rd_T40 (rd_L6 l0 x5_2) x6_3).f1).toList = ([] : List UInt8)
             ·rw [if_pos c18] at H; have c18b0 : (((rd_T40 (rd_L6 l0 x5_2) x6_3).f1).toList == ([] : List UInt8)) = true := beq_iff_eq.mpr c18; have c18b1 : (((rd_T40 (rd_L6 l0 x5_2) x6_3).f1).toList != ([] : List UInt8)) = false := bne_eq_false_iff_eq.mpr c18; clear c18; have H' := Aside0.mk H
              clear H; have p287 : 0 ≤ (x5_2 : Int) := dtA; have q287 : x5_2 < (l0.length : Int) := dtA; obtain ⟨ad287, A287_0, c287_0, e287, hx287_0, hl287_0, hi287_0⟩ := at_L6 HR0.out x5_2 p287 q287
              obtain rfl : ad286 = ad287 := (by injection e287)
              have HR287_0 := Aside0.mk hi287_0; have HC287_0 := Aside0.mk hl287_0; clear hi287_0 hl287_0; replace p287 := eq_true p287; replace q287 := eq_true q287; have p288 : 0 ≤ (x6_3 : Int) := dtA; have q288 : x6_3 < ((rd_L6 l0 x5_2).length : Int) := dtA; obtain ⟨ad288, e288, hx288_0, hx288_1⟩ := at_T40 HR287_0.out x6_3 p288 q288
              (try rw [← Nbq16.out] at hx288_0)
              cases e288
              replace p288 := eq_true p288; replace q288 := eq_true q288; have p289 : 0 ≤ (x5_2 : Int) := dtA; have q289 : x5_2 < (l0.length : Int) := dtA; obtain ⟨ad289, A289_0, c289_0, e289, hx289_0, hl289_0, hi289_0⟩ := at_L6 HR0.out x5_2 p289 q289
              obtain rfl : ad286 = ad289 := (by injection e289)
              have HR289_0 := Aside0.mk hi289_0; have HC289_0 := Aside0.mk hl289_0; clear hi289_0 hl289_0; replace p289 := eq_true p289; replace q289 := eq_true q289; have ea_ := Option.some.inj (hx287_0.symm.trans hx289_0)
              injection ea_ with ea_ en_ ec_
              subst ea_; subst ec_; clear en_; have p290 : 0 ≤ (x6_3 : Int) := dtA; have q290 : x6_3 < ((rd_L6 l0 x5_2).length : Int) := dtA; obtain ⟨ad290, e290, hx290_0, hx290_1⟩ := at_T40 HR289_0.out x6_3 p290 q290
              (try rw [← Nbq16.out] at hx290_0)
              cases e290
              replace p290 := eq_true p290; replace q290 := eq_true q290; have p291 : 0 ≤ (x5_2 : Int) := dtA; have q291 : x5_2 < (l0.length : Int) := dtA; obtain ⟨ad291, A291_0, c291_0, e291, hx291_0, hl291_0, hi291_0⟩ := at_L6 HR0.out x5_2 p291 q291
              obtain rfl : ad286 = ad291 := (by injection e291)
              have HR291_0 := Aside0.mk hi291_0; have HC291_0 := Aside0.mk hl291_0; clear hi291_0 hl291_0; replace p291 := eq_true p291; replace q291 := eq_true q291; have ea_ := Option.some.inj (hx287_0.symm.trans hx291_0)
              injection ea_ with ea_ en_ ec_
              subst ea_; subst ec_; clear en_; have p292 : 0 ≤ (x6_3 : Int) := dtA; have q292 : x6_3 < ((rd_L6 l0 x5_2).length : Int) := dtA; obtain ⟨ad292, e292, hx292_0, hx292_1⟩ := at_T40 HR291_0.out x6_3 p292 q292
              (try rw [← Nbq16.out] at hx292_0)
              cases e292
              replace p292 := eq_true p292; replace q292 := eq_true q292; go_wp2
              go_roundg k3
              case measure => have := HJ2.out; have := HK2.out; have := HK3.out; omega
              case rel => exact ⟨(wrap64 (x6_3 + 1)), (by first | rfl | (simp; done) | (simp [*]; done)), (by first | exact H' | (rw [← Nbq16.out]; exact H')), ⟨by have := HJ2.out; have := HK2.out; have := HK3.out; omega⟩, by repeat (first | exact Drawn0.refl _ | apply Drawn0.step)⟩
             ·rw [if_neg c18] at H; have c18b0 : (((rd_T40 (rd_L6 l0 x5_2) x6_3).f1).toList == ([] : List UInt8)) = false := beq_eq_false_iff_ne.mpr c18; have c18b1 : (((rd_T40 (rd_L6 l0 x5_2) x6_3).f1).toList != ([] : List UInt8)) = true := bne_iff_ne.mpr c18; obtain rfl := Option.some.inj H
              have p287 : 0 ≤ (x5_2 : Int) := dtA; have q287 : x5_2 < (l0.length : Int) := dtA; obtain ⟨ad287, A287_0, c287_0, e287, hx287_0, hl287_0, hi287_0⟩ := at_L6 HR0.out x5_2 p287 q287
              obtain rfl : ad286 = ad287 := (by injection e287)
              have HR287_0 := Aside0.mk hi287_0; have HC287_0 := Aside0.mk hl287_0; clear hi287_0 hl287_0; replace p287 := eq_true p287; replace q287 := eq_true q287; have p288 : 0 ≤ (x6_3 : Int) := dtA; have q288 : x6_3 < ((rd_L6 l0 x5_2).length : Int) := dtA; obtain ⟨ad288, e288, hx288_0, hx288_1⟩ := at_T40 HR287_0.out x6_3 p288 q288
              (try rw [← Nbq16.out] at hx288_0)
              cases e288
              replace p288 := eq_true p288; replace q288 := eq_true q288; have p289 : 0 ≤ (x5_2 : Int) := dtA; have q289 : x5_2 < (l0.length : Int) := dtA; obtain ⟨ad289, A289_0, c289_0, e289, hx289_0, hl289_0, hi289_0⟩ := at_L6 HR0.out x5_2 p289 q289
              obtain rfl : ad286 = ad289 := (by injection e289)
              have HR289_0 := Aside0.mk hi289_0; have HC289_0 := Aside0.mk hl289_0; clear hi289_0 hl289_0; replace p289 := eq_true p289; replace q289 := eq_true q289; have ea_ := Option.some.inj (hx287_0.symm.trans hx289_0)
              injection ea_ with ea_ en_ ec_
              subst ea_; subst ec_; clear en_; have p290 : 0 ≤ (x6_3 : Int) := dtA; have q290 : x6_3 < ((rd_L6 l0 x5_2).length : Int) := dtA; obtain ⟨ad290, e290, hx290_0, hx290_1⟩ := at_T40 HR289_0.out x6_3 p290 q290
              (try rw [← Nbq16.out] at hx290_0)
              cases e290
              replace p290 := eq_true p290; replace q290 := eq_true q290; have p291 : 0 ≤ (x5_2 : Int) := dtA; have q291 : x5_2 < (l0.length : Int) := dtA; obtain ⟨ad291, A291_0, c291_0, e291, hx291_0, hl291_0, hi291_0⟩ := at_L6 HR0.out x5_2 p291 q291
              obtain rfl : ad286 = ad291 := (by injection e291)
              have HR291_0 := Aside0.mk hi291_0; have HC291_0 := Aside0.mk hl291_0; clear hi291_0 hl291_0; replace p291 := eq_true p291; replace q291 := eq_true q291; have ea_ := Option.some.inj (hx287_0.symm.trans hx291_0)
              injection ea_ with ea_ en_ ec_
              subst ea_; subst ec_; clear en_; have p292 : 0 ≤ (x6_3 : Int) := dtA; have q292 : x6_3 < ((rd_L6 l0 x5_2).length : Int) := dtA; obtain ⟨ad292, e292, hx292_0, hx292_1⟩ := at_T40 HR291_0.out x6_3 p292 q292
              (try rw [← Nbq16.out] at hx292_0)
              cases e292
              replace p292 := eq_true p292; replace q292 := eq_true q292; go_wp2
              go_ret
              exact exD
            ·replace c17 := Bool.eq_false_iff.mpr c17; subst c17; have H1 : (hopperref16_Rows.l1 k3 l0 a1 x5_2 (wrap64 (x6_3 + 1))) = some r := by rw [if_neg (show ¬ (false = true) by decide)] at H; exact H
             clear H; have H := H1; clear H1; have H' := Aside0.mk H
             clear H; have p287 : 0 ≤ (x5_2 : Int) := dtA; have q287 : x5_2 < (l0.length : Int) := dtA; obtain ⟨ad287, A287_0, c287_0, e287, hx287_0, hl287_0, hi287_0⟩ := at_L6 HR0.out x5_2 p287 q287
             obtain rfl : ad286 = ad287 := (by injection e287)
             have HR287_0 := Aside0.mk hi287_0; have HC287_0 := Aside0.mk hl287_0; clear hi287_0 hl287_0; replace p287 := eq_true p287; replace q287 := eq_true q287; have p288 : 0 ≤ (x6_3 : Int) := dtA; have q288 : x6_3 < ((rd_L6 l0 x5_2).length : Int) := dtA; obtain ⟨ad288, e288, hx288_0, hx288_1⟩ := at_T40 HR287_0.out x6_3 p288 q288
             (try rw [← Nbq16.out] at hx288_0)
             cases e288
             replace p288 := eq_true p288; replace q288 := eq_true q288; have p289 : 0 ≤ (x5_2 : Int) := dtA; have q289 : x5_2 < (l0.length : Int) := dtA; obtain ⟨ad289, A289_0, c289_0, e289, hx289_0, hl289_0, hi289_0⟩ := at_L6 HR0.out x5_2 p289 q289
             obtain rfl : ad286 = ad289 := (by injection e289)
             have HR289_0 := Aside0.mk hi289_0; have HC289_0 := Aside0.mk hl289_0; clear hi289_0 hl289_0; replace p289 := eq_true p289; replace q289 := eq_true q289; have ea_ := Option.some.inj (hx287_0.symm.trans hx289_0)
             injection ea_ with ea_ en_ ec_
             subst ea_; subst ec_; clear en_; have p290 : 0 ≤ (x6_3 : Int) := dtA; have q290 : x6_3 < ((rd_L6 l0 x5_2).length : Int) := dtA; obtain ⟨ad290, e290, hx290_0, hx290_1⟩ := at_T40 HR289_0.out x6_3 p290 q290
             (try rw [← Nbq16.out] at hx290_0)
             cases e290
             replace p290 := eq_true p290; replace q290 := eq_true q290; go_wp2
             go_roundg k3
             case measure => have := HJ2.out; have := HK2.out; have := HK3.out; omega
             case rel => exact ⟨(wrap64 (x6_3 + 1)), (by first | rfl | (simp; done) | (simp [*]; done)), (by first | exact H' | (rw [← Nbq16.out]; exact H')), ⟨by have := HJ2.out; have := HK2.out; have := HK3.out; omega⟩, by repeat (first | exact Drawn0.refl _ | apply Drawn0.step)⟩
          ·rw [if_neg c10] at H; have c10b0 : decide (x6_3 < a1) = false := decide_eq_false c10; clear c10; have H' := Aside0.mk H
           clear H; go_wp2
           go_roundg k3
           case measure => have := HJ2.out; have := HK2.out; have := HK3.out; omega
           case rel => exact ⟨(wrap64 (x5_2 + 1)), (by first | rfl | (simp; done) | (simp [*]; done)), (by first | exact H' | (rw [← Nbq16.out]; exact H')), ⟨by have := HJ2.out; have := HK2.out; have := HK3.out; omega⟩, by repeat (first | exact Drawn0.refl _ | apply Drawn0.step)⟩
       ·rw [if_neg c9] at H; have c9b0 : (((rd_L6 l0 x5_2).length : Int) == a1) = false := beq_eq_false_iff_ne.mpr c9; have c9b1 : (((rd_L6 l0 x5_2).length : Int) != a1) = true := bne_iff_ne.mpr c9; obtain rfl := Option.some.inj H
        have p286 : 0 ≤ (x5_2 : Int) := dtA; have q286 : x5_2 < (l0.length : Int) := dtA; obtain ⟨ad286, A286_0, c286_0, e286, hx286_0, hl286_0, hi286_0⟩ := at_L6 HR0.out x5_2 p286 q286
        cases e286
        have HR286_0 := Aside0.mk hi286_0; have HC286_0 := Aside0.mk hl286_0; clear hi286_0 hl286_0; replace p286 := eq_true p286; replace q286 := eq_true q286; go_wp2
        go_ret
        exact exD
      ·rw [if_neg c7] at H; have c7b0 : decide (x5_2 < (l0.length : Int)) = false := decide_eq_false c7; clear c7; obtain rfl := Option.some.inj H
       go_wp2
       go_ret
       exact exD

end Go.Proofs.YtdccooaddoafnaaDoor.Q
