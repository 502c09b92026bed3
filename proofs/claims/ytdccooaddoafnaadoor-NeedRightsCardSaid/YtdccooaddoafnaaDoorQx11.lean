-- PRINTED by print.py (a twelfth state) out of the translation. Not trusted: Lean checks it.
import Derived.Test.YtdccooaddoafnaaDoorQx0
import Derived.Test.YtdccooaddoafnaaDoorQx3
import Derived.Test.YtdccooaddoafnaaDoorQx9
import Derived.Test.YtdccooaddoafnaaDoorQx10
namespace Go.Proofs.YtdccooaddoafnaaDoor.Q
open Go.RowKit Go.Proofs.YtdccooaddoafnaaDoorW.PrintWords Go.Proofs.YtdccooaddoafnaaDoorW.PrintLast Go.Proofs.YtdccooaddoafnaaDoorW.PrintMore
attribute [local go_sem] str_gtr str_geq str_leq max2_int min2_int max_two min_two max_three min_three max_four min_four   -- for this text's walks alone
set_option linter.unusedVariables false
set_option linter.unusedSimpArgs false

/-! ### hopperref16_Right: function 11 -/
-- told by hand
def r16a (p : S24) (deep : Int) : Bool := (decide (deep < 1) || (decide (p.f0 < 1) || decide (14 < p.f0)))
def r16k (p : S24) : Bool := ((p.f1 != 0) || ((p.f3 != 0) || ((p.f4 != 0) || ((!p.f2.toList.isEmpty) || (decide (p.f5.length < 1) || (decide (16 < p.f5.length) || ((p.f0 == 14) && ((p.f5.length : Int) != 1))))))))
def r16l (p : S24) (cols : Int) : Bool := (decide (0 < p.f5.length) || (decide (p.f1 < 0) || (decide (cols ≤ p.f1) || (decide (4096 < p.f2.size) || (decide (p.f4 < 0) || (decide (2 < p.f4) || ((decide (0 < p.f4) && decide (6 < p.f0)) || ((p.f0 == 11) && (!p.f2.toList.isEmpty)))))))))
def refRightP : Nat → S24 → Int → Int → Option Bool
 | 0, _, _, _ => none
 | k + 1, p, cols, deep => if r16a p deep = true then some false else if 12 ≤ p.f0 then (if r16k p = true then some false else allE (fun q => refRightP k q cols (wrap64 (deep - 1))) p.f5) else
  if r16l p cols = true then some false else if p.f0 = 10 then (hopperref09_Parse.f k p.f2 p.f3).map (fun x => x.2 == 0) else some (p.f3 == 0)
def hopperref16_Right.f (k : Nat) (a0_0 : Int) (a0_1 : Int) (a0_2 : ByteArray) (a0_3 : Int) (a0_4 : Int) (l0_5 : List (S24)) (a1 : Int) (a2 : Int) : Option Bool := refRightP k ⟨a0_0, a0_1, a0_2, a0_3, a0_4, l0_5⟩ a1 a2
set_option maxHeartbeats 8000000 in
set_option maxRecDepth 1000000 in
theorem hopperref16_Right.core (k : Nat) : ∀ (p : S24) (cs : List Value) (cols deep : Int) (r : Bool) (w : World), k24.K w p cs → refRightP k p cols deep = some r →
  Calls Tryd.prog 11 #[.agg cs.toArray, .int .i64 cols, .int .i64 deep] w fun e w' => e = .returned (.bool r) ∧ Below w.heap.size w w' := by
 have HSZ := Aside0.mk (show ∀ W, (sizeOf 24).run Tryd.prog W = .ok 6 W from fun W => by first | exact Tryd.sizeOf24 | exact Tryd.sizeOf24 W | go_simp)
 have HAGG := Aside0.mk (show ∀ W, (isAgg 24).run Tryd.prog W = .ok true W from fun W => by first | exact Tryd.isAgg24 | exact Tryd.isAgg24 W | go_simp)
 induction k with
 | zero => intro p cs cols deep r w _ h; cases h
 | succ k ih =>
 intro p cs cols deep r w hK h
 have hup := Tryd.underlying24
 unfold refRightP at h
 have HL6 := Aside0.mk (show cs.length = 6 from k24.K_len hK)
 obtain ⟨A5, c5, ecs, hl5, hk5⟩ := k24_open hK
 have HN5 := Aside0.mk hk5.2.1
 have H0 := Aside0.mk (show cs[0]? = some (.int .i64 p.f0) from by rw [ecs]; rfl)
 have H1 := Aside0.mk (show cs[1]? = some (.int .i64 p.f1) from by rw [ecs]; rfl)
 have H2 := Aside0.mk (show cs[2]? = some (.string p.f2) from by rw [ecs]; rfl)
 have H3 := Aside0.mk (show cs[3]? = some (.int .i64 p.f3) from by rw [ecs]; rfl)
 have H4 := Aside0.mk (show cs[4]? = some (.int .i64 p.f4) from by rw [ecs]; rfl)
 have H5 := Aside0.mk (show cs[5]? = some (.slice A5 p.f5.length c5) from by rw [ecs]; rfl)
 have HK5 := Aside0.mk hk5
 have IH := Aside0.mk ih
 clear hK hk5 hl5 ih ecs
 go_enter Tryd.func11, Tryd.ntmps11
 go_upto_region 1 with (first
  | ((with_reducible refine gate_dst (N := 3) rfl ?_); refine box_all rfl rfl (cs := cs.toArray) rfl (fun W => by rw [List.size_toArray, HL6.out]; exact HSZ.out W) ?_; intro w1 hbx hbw; have BW := Aside0.mk hbw; have BX := Aside0.mk hbx; clear hbx hbw))
 go_cut [21] (fun s21 wc => s21 = .bool (r16a p deep) ∧ Aside0 (Below w.heap.size w wc) ∧ Aside0 (wc.heap[w.heap.size]? = some (.cells cs.toArray 24 (0, 0))))
 case first =>
  have hcv0 : w1.cell? ⟨w.heap.size, 0, none⟩ = some (.int .i64 p.f0) := blk_cells BX.out 0 _ H0.out; have hcv1 : w1.cell? ⟨w.heap.size, 1, none⟩ = some (.int .i64 p.f1) := blk_cells BX.out 1 _ H1.out; have hcv2 : w1.cell? ⟨w.heap.size, 2, none⟩ = some (.string p.f2) := blk_cells BX.out 2 _ H2.out; have hcv3 : w1.cell? ⟨w.heap.size, 3, none⟩ = some (.int .i64 p.f3) := blk_cells BX.out 3 _ H3.out; have hcv4 : w1.cell? ⟨w.heap.size, 4, none⟩ = some (.int .i64 p.f4) := blk_cells BX.out 4 _ H4.out; have hcv5 : w1.cell? ⟨w.heap.size, 5, none⟩ = some (.slice A5 p.f5.length c5) := blk_cells BX.out 5 _ H5.out
  clear hcv1 hcv2 hcv3 hcv4 hcv5
  cases qq1 : decide (deep < 1) with
  | true =>
   go_wp2
   go_meet
   case rel => exact ⟨by simp only [r16a, qq1] <;> rfl, BW, BX⟩
  | false =>
   cases qq2 : decide (p.f0 < 1) with
   | true =>
    go_wp2
    go_meet
    case rel => exact ⟨by simp only [r16a, qq1, qq2] <;> rfl, BW, BX⟩
   | false =>
    cases qq3 : decide (14 < p.f0) with
    | true =>
     go_wp2
     go_meet
     case rel => exact ⟨by simp only [r16a, qq1, qq2, qq3] <;> rfl, BW, BX⟩
    | false =>
     go_wp2
     go_meet
     case rel => exact ⟨by simp only [r16a, qq1, qq2, qq3] <;> rfl, BW, BX⟩
 case rest =>
  clear BW BX
  obtain ⟨rfl, BW, BX⟩ := hcut
  cases ha : r16a p deep with
  | true =>
   rw [ha, if_pos rfl] at h
   obtain rfl := Option.some.inj h
   clear h
   go_wp2
   go_ret
   exact ⟨rfl, BW.out⟩
  | false =>
  rw [ha, if_neg Bool.false_ne_true] at h
  clear ha
  have hcv0 : wc.cell? ⟨w.heap.size, 0, none⟩ = some (.int .i64 p.f0) := blk_cells BX.out 0 _ H0.out; have hcv1 : wc.cell? ⟨w.heap.size, 1, none⟩ = some (.int .i64 p.f1) := blk_cells BX.out 1 _ H1.out; have hcv2 : wc.cell? ⟨w.heap.size, 2, none⟩ = some (.string p.f2) := blk_cells BX.out 2 _ H2.out; have hcv3 : wc.cell? ⟨w.heap.size, 3, none⟩ = some (.int .i64 p.f3) := blk_cells BX.out 3 _ H3.out; have hcv4 : wc.cell? ⟨w.heap.size, 4, none⟩ = some (.int .i64 p.f4) := blk_cells BX.out 4 _ H4.out; have hcv5 : wc.cell? ⟨w.heap.size, 5, none⟩ = some (.slice A5 p.f5.length c5) := blk_cells BX.out 5 _ H5.out
  by_cases q12 : 12 ≤ p.f0
  ·rw [if_pos q12] at h
   have q12b : decide (12 ≤ p.f0) = true := decide_eq_true q12
   have HH := Aside0.mk h
   clear h
   go_upto_region 4 with (fail)
   go_cut [65] (fun s65 wc => s65 = .bool (r16k p) ∧ Aside0 (Below w.heap.size w wc) ∧ Aside0 (wc.heap[w.heap.size]? = some (.cells cs.toArray 24 (0, 0))))
   case first =>
    cases qq4 : (p.f1 != 0) with
    | true =>
     go_wp2
     go_meet
     case rel => exact ⟨by simp only [r16k, qq4] <;> rfl, BW, BX⟩
    | false =>
     cases qq5 : (p.f3 != 0) with
     | true =>
      go_wp2
      go_meet
      case rel => exact ⟨by simp only [r16k, qq4, qq5] <;> rfl, BW, BX⟩
     | false =>
      cases qq6 : (p.f4 != 0) with
      | true =>
       go_wp2
       go_meet
       case rel => exact ⟨by simp only [r16k, qq4, qq5, qq6] <;> rfl, BW, BX⟩
      | false =>
       cases qq7 : (!p.f2.toList.isEmpty) with
       | true =>
        go_wp2
        go_meet
        case rel => exact ⟨by simp only [r16k, qq4, qq5, qq6, qq7] <;> rfl, BW, BX⟩
       | false =>
        cases qq8 : decide (p.f5.length < 1) with
        | true =>
         have qq8i : decide ((p.f5.length : Int) < (1 : Int)) = true := by rw [← qq8]; exact decide_eq_decide.2 (by omega)
         go_wp2
         go_meet
         case rel => exact ⟨by simp only [r16k, qq4, qq5, qq6, qq7, qq8] <;> rfl, BW, BX⟩
        | false =>
         have qq8i : decide ((p.f5.length : Int) < (1 : Int)) = false := by rw [← qq8]; exact decide_eq_decide.2 (by omega)
         cases qq9 : decide (16 < p.f5.length) with
         | true =>
          have qq9i : decide ((16 : Int) < (p.f5.length : Int)) = true := by rw [← qq9]; exact decide_eq_decide.2 (by omega)
          go_wp2
          go_meet
          case rel => exact ⟨by simp only [r16k, qq4, qq5, qq6, qq7, qq8, qq9] <;> rfl, BW, BX⟩
         | false =>
          have qq9i : decide ((16 : Int) < (p.f5.length : Int)) = false := by rw [← qq9]; exact decide_eq_decide.2 (by omega)
          cases qq10 : (p.f0 == 14) with
          | false =>
           go_wp2
           go_meet
           case rel => exact ⟨by simp only [r16k, qq4, qq5, qq6, qq7, qq8, qq9, qq10] <;> rfl, BW, BX⟩
          | true =>
           cases qq10b : ((p.f5.length : Int) != 1) with
           | true =>
            go_wp2
            go_meet
            case rel => exact ⟨by simp only [r16k, qq4, qq5, qq6, qq7, qq8, qq9, qq10, qq10b] <;> rfl, BW, BX⟩
           | false =>
            go_wp2
            go_meet
            case rel => exact ⟨by simp only [r16k, qq4, qq5, qq6, qq7, qq8, qq9, qq10, qq10b] <;> rfl, BW, BX⟩
   case rest =>
    clear BW BX
    clear hcv0 hcv1 hcv2 hcv3 hcv4 hcv5
    obtain ⟨rfl, BW, BX⟩ := hcut
    have h := HH.out
    clear HH
    cases hb : r16k p with
    | true =>
     rw [hb, if_pos rfl] at h
     obtain rfl := Option.some.inj h
     clear h
     go_wp2
     go_ret
     exact ⟨rfl, BW.out⟩
    | false =>
    rw [hb, if_neg Bool.false_ne_true] at h
    have HAL := Aside0.mk h
    clear h hb
    have hcv5 : wc.cell? ⟨w.heap.size, 5, none⟩ = some (.slice A5 p.f5.length c5) := blk_cells BX.out 5 _ H5.out
    go_upto_if 70 with (fail)
    clear hcv5
    go_loopg [7] p.f5.length (fun gg s7 wr => ∃ (i : Nat), s7 = .int .i64 i ∧ i ≤ p.f5.length ∧ p.f5.length - i ≤ gg ∧ Aside0 (allE (fun q => refRightP k q cols (wrap64 (deep - 1))) (p.f5.drop i) = some r) ∧ Aside0 (Below w.heap.size w wr) ∧ Aside0 (wr.heap[w.heap.size]? = some (.cells cs.toArray 24 (0, 0))))
    case atStart => exact ⟨0, by first | rfl | simp, Nat.zero_le _, by omega, HAL, BW, BX⟩
    case round =>
     clear HAL BW BX
     obtain ⟨i, rfl, hin, hg0, HTS, HB, BX⟩ := hrel
     have hcv5 : wr.cell? ⟨w.heap.size, 5, none⟩ = some (.slice A5 p.f5.length c5) := blk_cells BX.out 5 _ H5.out
     have hn := HN5.out
     by_cases hlt : i < p.f5.length
     ·have hltz : (i : Int) < (p.f5.length : Int) := by omega
      have hi0 : (0 : Int) ≤ (i : Int) := by omega
      have hks := HTS.out
      rw [drop_getE z24 p.f5 i hlt] at hks
      simp only [allE] at hks
      obtain ⟨t, ht, hks⟩ := Option.bind_eq_some_iff.1 hks
      obtain ⟨ad, c, e17, hcl, hKu, hcell⟩ := Kd.C_elem HK5.out z24 i hlt
      replace hcell : ∀ j v, c[j]? = some v → w.cell? ((ad.add (i * 6)).add j) = some v := hcell
      replace hcl : c.length = 6 := hcl
      subst e17
      have HCALL := Aside0.mk (fun W (hb : Below w.heap.size w W) => IH.out (p.f5.getD i z24) c cols (wrap64 (deep - 1)) t W (k24.K_below hb hKu) ht)
      have HCL := Aside0.mk hcl
      have HCELL := Aside0.mk (show ∀ j v, c[j]? = some v → wr.cell? ((ad.add (i * 6)).add j) = some v from fun j v hj => (HB.out.cell (World.block_lt_of_cell? w _ (hcell j v hj))).trans (hcell j v hj))
      clear hKu ht HTS hcl hcell hn
      cases t with
      | true =>
       rw [if_pos rfl] at hks
       have HTS2 := Aside0.mk hks
       clear hks
       go_wp2_with (first
        | ((with_reducible refine gate_dst (N := 77) rfl ?_); refine load_all rfl rfl (cs := c) rfl HAGG.out (fun W => by rw [HCL.out]; exact HSZ.out W) HCELL.out ?_)
        | (go_at_call 11; refine (HCALL.out _ HB.out).mono ?_; rintro e w4 ⟨rfl, hb4⟩; have HB4 := Aside0.mk (below_step HB.out hb4); have BX4 := Aside0.mk (blk_keep hb4 BX.out); clear hb4))
       go_roundg (p.f5.length - (i + 1))
       case measure => omega
       case rel => have hN := HN5.out; exact ⟨i + 1, by first | go_num | (congr 1; unfold wrap64; omega), by omega, by omega, HTS2, HB4, BX4⟩
      | false =>
       rw [if_neg (by decide)] at hks
       obtain rfl := Option.some.inj hks
       clear hks
       go_wp2_with (first
        | ((with_reducible refine gate_dst (N := 77) rfl ?_); refine load_all rfl rfl (cs := c) rfl HAGG.out (fun W => by rw [HCL.out]; exact HSZ.out W) HCELL.out ?_)
        | (go_at_call 11; refine (HCALL.out _ HB.out).mono ?_; rintro e w4 ⟨rfl, hb4⟩; have HB4 := Aside0.mk (below_step HB.out hb4); clear hb4))
       go_ret
       exact ⟨rfl, HB4.out⟩
     ·have hltz : ¬ (i : Int) < (p.f5.length : Int) := by omega
      have hks := HTS.out
      rw [List.drop_of_length_le (by omega)] at hks
      simp only [allE] at hks
      obtain rfl := Option.some.inj hks
      clear hks HTS hn
      go_wp2
      go_ret
      exact ⟨rfl, HB.out⟩
  ·rw [if_neg q12] at h
   have q12b : decide (12 ≤ p.f0) = false := decide_eq_false q12
   have HH := Aside0.mk h
   clear h
   go_upto_region 12 with (fail)
   go_cut [133] (fun s133 wc => s133 = .bool (r16l p cols) ∧ Aside0 (Below w.heap.size w wc) ∧ Aside0 (wc.heap[w.heap.size]? = some (.cells cs.toArray 24 (0, 0))))
   case first =>
    cases qq11 : decide (0 < p.f5.length) with
    | true =>
     have qq11i : decide ((0 : Int) < (p.f5.length : Int)) = true := by rw [← qq11]; exact decide_eq_decide.2 (by omega)
     go_wp2
     go_meet
     case rel => exact ⟨by simp only [r16l, qq11] <;> rfl, BW, BX⟩
    | false =>
     have qq11i : decide ((0 : Int) < (p.f5.length : Int)) = false := by rw [← qq11]; exact decide_eq_decide.2 (by omega)
     cases qq12 : decide (p.f1 < 0) with
     | true =>
      go_wp2
      go_meet
      case rel => exact ⟨by simp only [r16l, qq11, qq12] <;> rfl, BW, BX⟩
     | false =>
      cases qq13 : decide (cols ≤ p.f1) with
      | true =>
       go_wp2
       go_meet
       case rel => exact ⟨by simp only [r16l, qq11, qq12, qq13] <;> rfl, BW, BX⟩
      | false =>
       cases qq14 : decide (4096 < p.f2.size) with
       | true =>
        have qq14i : decide ((4096 : Int) < (p.f2.size : Int)) = true := by rw [← qq14]; exact decide_eq_decide.2 (by omega)
        go_wp2
        go_meet
        case rel => exact ⟨by simp only [r16l, qq11, qq12, qq13, qq14] <;> rfl, BW, BX⟩
       | false =>
        have qq14i : decide ((4096 : Int) < (p.f2.size : Int)) = false := by rw [← qq14]; exact decide_eq_decide.2 (by omega)
        cases qq15 : decide (p.f4 < 0) with
        | true =>
         go_wp2
         go_meet
         case rel => exact ⟨by simp only [r16l, qq11, qq12, qq13, qq14, qq15] <;> rfl, BW, BX⟩
        | false =>
         cases qq16 : decide (2 < p.f4) with
         | true =>
          go_wp2
          go_meet
          case rel => exact ⟨by simp only [r16l, qq11, qq12, qq13, qq14, qq15, qq16] <;> rfl, BW, BX⟩
         | false =>
          cases qq17 : decide (0 < p.f4) with
          | false =>
           cases qq18 : (p.f0 == 11) with
           | false =>
            go_wp2
            go_meet
            case rel => exact ⟨by simp only [r16l, qq11, qq12, qq13, qq14, qq15, qq16, qq17, qq18] <;> rfl, BW, BX⟩
           | true =>
            cases qq18b : (!p.f2.toList.isEmpty) with
            | true =>
             go_wp2
             go_meet
             case rel => exact ⟨by simp only [r16l, qq11, qq12, qq13, qq14, qq15, qq16, qq17, qq18, qq18b] <;> rfl, BW, BX⟩
            | false =>
             go_wp2
             go_meet
             case rel => exact ⟨by simp only [r16l, qq11, qq12, qq13, qq14, qq15, qq16, qq17, qq18, qq18b] <;> rfl, BW, BX⟩
          | true =>
           cases qq17b : decide (6 < p.f0) with
           | true =>
            go_wp2
            go_meet
            case rel => exact ⟨by simp only [r16l, qq11, qq12, qq13, qq14, qq15, qq16, qq17, qq17b] <;> rfl, BW, BX⟩
           | false =>
            cases qq19 : (p.f0 == 11) with
            | false =>
             go_wp2
             go_meet
             case rel => exact ⟨by simp only [r16l, qq11, qq12, qq13, qq14, qq15, qq16, qq17, qq17b, qq19] <;> rfl, BW, BX⟩
            | true =>
             cases qq19b : (!p.f2.toList.isEmpty) with
             | true =>
              go_wp2
              go_meet
              case rel => exact ⟨by simp only [r16l, qq11, qq12, qq13, qq14, qq15, qq16, qq17, qq17b, qq19, qq19b] <;> rfl, BW, BX⟩
             | false =>
              go_wp2
              go_meet
              case rel => exact ⟨by simp only [r16l, qq11, qq12, qq13, qq14, qq15, qq16, qq17, qq17b, qq19, qq19b] <;> rfl, BW, BX⟩
   case rest =>
    clear BW BX
    clear hcv0 hcv1 hcv2 hcv3 hcv4 hcv5
    obtain ⟨rfl, BW, BX⟩ := hcut
    have h := HH.out
    clear HH
    have hcv0 : wc.cell? ⟨w.heap.size, 0, none⟩ = some (.int .i64 p.f0) := blk_cells BX.out 0 _ H0.out; have hcv1 : wc.cell? ⟨w.heap.size, 1, none⟩ = some (.int .i64 p.f1) := blk_cells BX.out 1 _ H1.out; have hcv2 : wc.cell? ⟨w.heap.size, 2, none⟩ = some (.string p.f2) := blk_cells BX.out 2 _ H2.out; have hcv3 : wc.cell? ⟨w.heap.size, 3, none⟩ = some (.int .i64 p.f3) := blk_cells BX.out 3 _ H3.out; have hcv4 : wc.cell? ⟨w.heap.size, 4, none⟩ = some (.int .i64 p.f4) := blk_cells BX.out 4 _ H4.out; have hcv5 : wc.cell? ⟨w.heap.size, 5, none⟩ = some (.slice A5 p.f5.length c5) := blk_cells BX.out 5 _ H5.out
    cases hb : r16l p cols with
    | true =>
     rw [hb, if_pos rfl] at h
     obtain rfl := Option.some.inj h
     clear h
     go_wp2
     go_ret
     exact ⟨rfl, BW.out⟩
    | false =>
    rw [hb, if_neg Bool.false_ne_true] at h
    clear hb
    by_cases q10 : p.f0 = 10
    ·rw [if_pos q10] at h
     have q10b : (p.f0 == 10) = true := beq_iff_eq.mpr q10
     obtain ⟨⟨l1, e1⟩, hp, rfl⟩ := Option.map_eq_some_iff.1 h
     have HPA := Aside0.mk (fun W => hopperref09_Parse.calls k p.f2 p.f3 l1 e1 W hp)
     clear h hp q10
     go_wp2_with (first
      | (go_at_call 20; refine (HPA.out _).mono ?_; rintro e w4 ⟨v4, rfl, _, hb4⟩; have BW4 := Aside0.mk (below_step BW.out hb4); clear hb4))
     go_ret
     exact ⟨rfl, BW4.out⟩
    ·rw [if_neg q10] at h
     have q10b : (p.f0 == 10) = false := beq_eq_false_iff_ne.mpr q10
     obtain rfl := Option.some.inj h
     clear h q10
     go_wp2
     go_ret
     exact ⟨rfl, BW.out⟩
theorem hopperref16_Right.calls (k : Nat) (a0_0 : Int) (a0_1 : Int) (a0_2 : ByteArray) (a0_3 : Int) (a0_4 : Int) (A0_5 : Option Addr) (c0_5 : Nat) (l0_5 : List (S24)) (a1 : Int) (a2 : Int) (r : Bool) (w : World) (hr0_5 : Kd.C k24 w A0_5 l0_5.length l0_5) (hc0_5 : l0_5.length ≤ c0_5) (h : hopperref16_Right.f k a0_0 a0_1 a0_2 a0_3 a0_4 l0_5 a1 a2 = some r) :
  Calls Tryd.prog 11 #[.agg #[.int .i64 a0_0, .int .i64 a0_1, .string a0_2, .int .i64 a0_3, .int .i64 a0_4, .slice A0_5 l0_5.length c0_5], .int .i64 a1, .int .i64 a2] w fun e w' => e = .returned (.bool r) ∧ Below w.heap.size w w' :=
 hopperref16_Right.core k ⟨a0_0, a0_1, a0_2, a0_3, a0_4, l0_5⟩ _ a1 a2 r w (k24_mk w ⟨a0_0, a0_1, a0_2, a0_3, a0_4, l0_5⟩ hc0_5 hr0_5) h

/-! ### hopperlaw16_NeedRights: function 3 -/
set_option maxRecDepth 100000 in
def hopperlaw16_NeedRights.j0 : Nat → Int → Bool → Int → Int → ByteArray → Int → Int → List (S24) → Option (Bool)
 | 0, _, _, _, _, _, _, _, _ => none
 | k + 1, x1, x11, x307000, x307001, x307002, x307003, x307004, x307005 => if x11 = true then ((hopperlaw16_awake.f k).bind fun t309 => (some t309)) else ((need_Right.f k x307000 x307001 x307002 x307003 x307004 x307005 x1).bind fun t310 => ((hopperref16_Right.f k x307000 x307001 x307002 x307003 x307004 x307005 x1 12).bind fun t311 => (some (t310 == t311))))
def hopperlaw16_NeedRights.f (k : Nat) (a0_0 : Int) (a0_1 : Int) (a0_2 : ByteArray) (a0_3 : Int) (a0_4 : Int) (l0_5 : List (S24)) (a1 : Int) : Option (Bool) := (hopperlaw16_awake.f k).bind fun t307 => (if t307 = true then ((hopperref16_Small.f k a0_0 a0_1 a0_2 a0_3 a0_4 l0_5 20).bind fun t308 => (hopperlaw16_NeedRights.j0 k a1 (!t308) a0_0 a0_1 a0_2 a0_3 a0_4 l0_5)) else (hopperlaw16_NeedRights.j0 k a1 true a0_0 a0_1 a0_2 a0_3 a0_4 l0_5))
def hopperlaw16_NeedRights.T3 : Bool × List (List Nat × List Nat) := (true, [([], []), ([], []), ([0, 1], [0, 1]), ([], []), ([], []), ([3, 4, 2], [3, 4]), ([2, 5], [2, 5]), ([6, 5, 0, 1, 2, 3, 4, 5, 6], [6])])
def hopperlaw16_NeedRights.B3 : List Nat := [0, 0, 3, 0, 0, 31, 63, 127]
theorem hopperlaw16_NeedRights.tab3 : rtab .any (opsOf Tryd.f3 3) = hopperlaw16_NeedRights.T3 := by kernel_rfl
theorem hopperlaw16_NeedRights.bits3 : waitsOk hopperlaw16_NeedRights.T3.2 hopperlaw16_NeedRights.B3 = true := by kernel_rfl
set_option maxHeartbeats 8000000 in
set_option maxRecDepth 100000 in
theorem hopperlaw16_NeedRights.calls (k : Nat) (a0_0 : Int) (a0_1 : Int) (a0_2 : ByteArray) (a0_3 : Int) (a0_4 : Int) (A0_5 : Option Addr) (c0_5 : Nat) (l0_5 : List (S24)) (a1 : Int) (r : Bool) (w : World) (hr0_5 : Kd.C k24 w A0_5 l0_5.length l0_5) (hc0_5 : l0_5.length ≤ c0_5) (hT : Facts w) (h : hopperlaw16_NeedRights.f k a0_0 a0_1 a0_2 a0_3 a0_4 l0_5 a1 = some r) :
  Calls Tryd.prog 3 #[.agg #[.int .i64 a0_0, .int .i64 a0_1, .string a0_2, .int .i64 a0_3, .int .i64 a0_4, .slice A0_5 l0_5.length c0_5], .int .i64 a1] w fun e w' => e = .returned (.bool r) ∧ Below w.heap.size w w' := by
 have hu24 := Tryd.underlying24
 have HT := Aside0.mk hT
 clear hT
 have HR0_5 := Aside0.mk hr0_5
 have HC0_5 := Aside0.mk hc0_5
 clear hr0_5 hc0_5
 have HB := Aside0.mk (Below.refl w.heap.size w)
 have H : ((hopperlaw16_awake.f k).bind fun t307 => (if t307 = true then ((hopperref16_Small.f k a0_0 a0_1 a0_2 a0_3 a0_4 l0_5 20).bind fun t308 => (hopperlaw16_NeedRights.j0 k a1 (!t308) a0_0 a0_1 a0_2 a0_3 a0_4 l0_5)) else (hopperlaw16_NeedRights.j0 k a1 true a0_0 a0_1 a0_2 a0_3 a0_4 l0_5))) = some r := h
 clear h
 have HC3 := Aside0.mk H
 clear H
 go_enter Tryd.func3, Tryd.ntmps3
 go_upto_region 1 with (first | ((with_reducible refine gate_dst (N := 2) rfl ?_); refine box_event ?hg (N := 2) ?hd (cs := #[.int .i64 a0_0, .int .i64 a0_1, .string a0_2, .int .i64 a0_3, .int .i64 a0_4, .slice A0_5 l0_5.length c0_5]) (t := 24) ?hr ?_; (case hd => rfl); (case hg => rfl); (case hr => first | (go_simp; done) | (go_simp; rfl) | (go_simp; simp (disch := omega) only [Go.u8_and63, Go.u8_and31, Go.u8_and15, Go.u8_and7, Go.u8_or128, Go.u8_or192, Go.u8_or224, Go.u8_or240, m64]; done)); intro gb306 hg w4 hbox hb; have n0_ := Aside0.mk (below_step (mvB HB.out) hb); have n1_ := Aside0.mk (hbox); have n2_ := Aside0.mk ((by rw [hg]; exact (below_size (mvB HB.out)) : w.heap.size ≤ gb306)); have n3_ := Aside0.mk ((by rw [hg]; exact (below_size (mvB HB.out)) : w.heap.size ≤ gb306)); clear HB; have HB := n0_; have BK306 := n1_; have GW306 := n2_; have GE306 := n3_; clear n0_ n1_ n2_ n3_; clear hb hbox hg))
 (try simp only [Act.put, List.setIfInBounds_toArray, List.set_cons_zero, List.set_cons_succ])
 go_cut [11] (fun v11 wc => ∃ (kq : Nat) (x11_2 : Bool), v11 = .bool x11_2 ∧ Aside0 (hopperlaw16_NeedRights.j0 kq a1 x11_2 a0_0 a0_1 a0_2 a0_3 a0_4 l0_5 = some r) ∧ Aside0 (kq ≤ k) ∧ Aside0 (wc.heap[gb306]? = some (.cells #[.int .i64 a0_0, .int .i64 a0_1, .string a0_2, .int .i64 a0_3, .int .i64 a0_4, (.slice A0_5 l0_5.length c0_5)] 24 (0, 0))) ∧ Aside0 (Below w.heap.size w wc))
 case first =>
  have H := HC3.out
  clear HC3
  replace H := Option.bind_eq_some_iff.mp H
  obtain ⟨t307, A50, H⟩ := H
  replace H : (if t307 = true then ((hopperref16_Small.f k a0_0 a0_1 a0_2 a0_3 a0_4 l0_5 20).bind fun t308 => (hopperlaw16_NeedRights.j0 k a1 (!t308) a0_0 a0_1 a0_2 a0_3 a0_4 l0_5)) else (hopperlaw16_NeedRights.j0 k a1 true a0_0 a0_1 a0_2 a0_3 a0_4 l0_5)) = some r := H
  have A5 := Aside0.mk A50
  clear A50
  by_cases c6 : t307 = true
  ·subst c6
   have H1 : ((hopperref16_Small.f k a0_0 a0_1 a0_2 a0_3 a0_4 l0_5 20).bind fun t308 => (hopperlaw16_NeedRights.j0 k a1 (!t308) a0_0 a0_1 a0_2 a0_3 a0_4 l0_5)) = some r := by rw [if_pos rfl] at H; exact H
   clear H
   have H := H1
   clear H1
   replace H := Option.bind_eq_some_iff.mp H
   obtain ⟨t308, A70, H⟩ := H
   replace H : (hopperlaw16_NeedRights.j0 k a1 (!t308) a0_0 a0_1 a0_2 a0_3 a0_4 l0_5) = some r := H
   have A7 := Aside0.mk A70
   clear A70
   have H' := Aside0.mk H
   clear H
   go_wp2_with (first | ((with_reducible refine gate_callee (f := 8) rfl ?_); refine goesL_ (some 5) rfl rfl Tryd.func8 (by kernel_rfl) rfl #[] rfl (by (try simp only [List.map_toArray, List.map_cons, List.map_nil]); first | done | rfl | (simp only [List.length_drop, List.length_take]; rfl)) ?_; (with_reducible refine (hopperlaw16_awake.calls k  true _ ?side1 A5.out).mono ?_); (case side1 => first | exact HT.out | exact Facts.below HT.out (mvG HB.out GE306.out) | exact Facts.below HT.out HB.out | (repeat (first | exact HT.out | refine Facts.drewN ?_ _ | refine Facts.drew ?_ | refine Facts.alloc ?_ _))); rintro e w8 ⟨rfl, hb⟩; refine ⟨_, rfl, ?_⟩; have n0_ := Aside0.mk (blk_below (g := gb306) (o := .cells #[.int .i64 a0_0, .int .i64 a0_1, .string a0_2, .int .i64 a0_3, .int .i64 a0_4, .slice A0_5 l0_5.length c0_5] 24 (0, 0)) (mvK BK306.out) hb); have n1_ := Aside0.mk (below_step (mvG HB.out GE306.out) hb); clear BK306; clear HB; have BK306 := n0_; have HB := n1_; clear n0_ n1_; (try clear hb); (try clear hb2); (try clear hk); (try clear hi); have hcz9_0 : w8.cell? ⟨gb306, 0, none⟩ = some (.int .i64 a0_0) := (blk_cell BK306.out 0).trans rfl; have hcz9_1 : w8.cell? ⟨gb306, 1, none⟩ = some (.int .i64 a0_1) := (blk_cell BK306.out 1).trans rfl; have hcz9_2 : w8.cell? ⟨gb306, 2, none⟩ = some (.string a0_2) := (blk_cell BK306.out 2).trans rfl; have hcz9_3 : w8.cell? ⟨gb306, 3, none⟩ = some (.int .i64 a0_3) := (blk_cell BK306.out 3).trans rfl; have hcz9_4 : w8.cell? ⟨gb306, 4, none⟩ = some (.int .i64 a0_4) := (blk_cell BK306.out 4).trans rfl; have hcz9_5 : w8.cell? ⟨gb306, 5, none⟩ = some (.slice A0_5 l0_5.length c0_5) := (blk_cell BK306.out 5).trans rfl; have hfz9_0 := blk_frozen BK306.out 0; have hfz9_1 := blk_frozen BK306.out 1; have hfz9_2 := blk_frozen BK306.out 2; have hfz9_3 := blk_frozen BK306.out 3; have hfz9_4 := blk_frozen BK306.out 4; have hfz9_5 := blk_frozen BK306.out 5) | (go_at_call 9; (with_reducible refine (hopperref16_Small.calls k a0_0 a0_1 a0_2 a0_3 a0_4 _ _ l0_5 20 t308 _ ?side1 ?side2 A7.out).mono ?_); (case side1 => repeat (first | exact (Kd.C_below HR0_5.out HB.out) | (with_reducible refine Kd.C_alloc ?_ _) | (with_reducible refine Kd.C_drewN ?_ _) | (with_reducible refine Kd.C_drew ?_))); (case side2 => exact HC0_5.out); rintro e w10 ⟨rfl, hb⟩; have n0_ := Aside0.mk (blk_below (g := gb306) (o := .cells #[.int .i64 a0_0, .int .i64 a0_1, .string a0_2, .int .i64 a0_3, .int .i64 a0_4, .slice A0_5 l0_5.length c0_5] 24 (0, 0)) (mvK BK306.out) hb); have n1_ := Aside0.mk (below_step (mvG HB.out GE306.out) hb); clear BK306; clear HB; have BK306 := n0_; have HB := n1_; clear n0_ n1_; (try clear hb); (try clear hb2); (try clear hk); (try clear hi)))
   go_meet
   case rel => exact ⟨_, (!t308), (by first | rfl | (simp; done) | (simp [*]; done)), H', ⟨by first | omega | exact Nat.le_refl _⟩, ⟨mvK BK306.out⟩, ⟨mvG HB.out GE306.out⟩⟩
  ·replace c6 := Bool.eq_false_iff.mpr c6
   subst c6
   have H1 : (hopperlaw16_NeedRights.j0 k a1 true a0_0 a0_1 a0_2 a0_3 a0_4 l0_5) = some r := by rw [if_neg (show ¬ (false = true) by decide)] at H; exact H
   clear H
   have H := H1
   clear H1
   have H' := Aside0.mk H
   clear H
   go_wp2_with (first | ((with_reducible refine gate_callee (f := 8) rfl ?_); refine goesL_ (some 5) rfl rfl Tryd.func8 (by kernel_rfl) rfl #[] rfl (by (try simp only [List.map_toArray, List.map_cons, List.map_nil]); first | done | rfl | (simp only [List.length_drop, List.length_take]; rfl)) ?_; (with_reducible refine (hopperlaw16_awake.calls k  false _ ?side1 A5.out).mono ?_); (case side1 => first | exact HT.out | exact Facts.below HT.out (mvG HB.out GE306.out) | exact Facts.below HT.out HB.out | (repeat (first | exact HT.out | refine Facts.drewN ?_ _ | refine Facts.drew ?_ | refine Facts.alloc ?_ _))); rintro e w11 ⟨rfl, hb⟩; refine ⟨_, rfl, ?_⟩; have n0_ := Aside0.mk (blk_below (g := gb306) (o := .cells #[.int .i64 a0_0, .int .i64 a0_1, .string a0_2, .int .i64 a0_3, .int .i64 a0_4, .slice A0_5 l0_5.length c0_5] 24 (0, 0)) (mvK BK306.out) hb); have n1_ := Aside0.mk (below_step (mvG HB.out GE306.out) hb); clear BK306; clear HB; have BK306 := n0_; have HB := n1_; clear n0_ n1_; (try clear hb); (try clear hb2); (try clear hk); (try clear hi)))
   go_meet
   case rel => exact ⟨_, (true), (by first | rfl | (simp; done) | (simp [*]; done)), H', ⟨by first | omega | exact Nat.le_refl _⟩, ⟨mvK BK306.out⟩, ⟨mvG HB.out GE306.out⟩⟩
 case rest =>
  clear HC3
  try clear p2
  try clear c3
  try clear c6
  try clear c8
  try clear hcz9_0
  try clear hcz9_1
  try clear hcz9_2
  try clear hcz9_3
  try clear hcz9_4
  try clear hcz9_5
  try clear hfz9_0
  try clear hfz9_1
  try clear hfz9_2
  try clear hfz9_3
  try clear hfz9_4
  try clear hfz9_5
  obtain ⟨kq, x11_2, rfl, HA, HJ2, BK306, HB⟩ := hcut
  cases kq with
  | zero => exact absurd HA.out (by simp [hopperlaw16_NeedRights.j0])
  | succ kj2 =>
   have H := HA.out
   clear HA
   simp only [hopperlaw16_NeedRights.j0] at H
   by_cases c12 : x11_2 = true
   ·subst c12
    have H1 : ((hopperlaw16_awake.f kj2).bind fun t309 => (some t309)) = some r := by rw [if_pos rfl] at H; exact H
    clear H
    have H := H1
    clear H1
    replace H := Option.bind_eq_some_iff.mp H
    obtain ⟨t309, A130, H⟩ := H
    replace H : (some t309) = some r := H
    have A13 := Aside0.mk A130
    clear A130
    obtain rfl := Option.some.inj H
    go_wp2_with (first | ((with_reducible refine gate_callee (f := 8) rfl ?_); refine goesL_ (some 12) rfl rfl Tryd.func8 (by kernel_rfl) rfl #[] rfl (by (try simp only [List.map_toArray, List.map_cons, List.map_nil]); first | done | rfl | (simp only [List.length_drop, List.length_take]; rfl)) ?_; (with_reducible refine (hopperlaw16_awake.calls kj2  t309 _ ?side1 A13.out).mono ?_); (case side1 => first | exact HT.out | exact Facts.below HT.out (mvG HB.out GE306.out) | exact Facts.below HT.out HB.out | (repeat (first | exact HT.out | refine Facts.drewN ?_ _ | refine Facts.drew ?_ | refine Facts.alloc ?_ _))); rintro e w14 ⟨rfl, hb⟩; refine ⟨_, rfl, ?_⟩; have n0_ := Aside0.mk (blk_below (g := gb306) (o := .cells #[.int .i64 a0_0, .int .i64 a0_1, .string a0_2, .int .i64 a0_3, .int .i64 a0_4, .slice A0_5 l0_5.length c0_5] 24 (0, 0)) (mvK BK306.out) hb); have n1_ := Aside0.mk (below_step (mvG HB.out GE306.out) hb); clear BK306; clear HB; have BK306 := n0_; have HB := n1_; clear n0_ n1_; (try clear hb); (try clear hb2); (try clear hk); (try clear hi)))
    go_ret
    exact ⟨by first | rfl | (simp [errW_none, errW_some] <;> rfl) | (simp [*, errW_none, errW_some] <;> rfl) | exact congrArg (fun b_ => Ending.returned (.bool b_)) (decide_eq_decide.2 (by unfold wrap64; omega)), mvG HB.out GE306.out⟩
   ·replace c12 := Bool.eq_false_iff.mpr c12
    subst c12
    have H1 : ((need_Right.f kj2 a0_0 a0_1 a0_2 a0_3 a0_4 l0_5 a1).bind fun t310 => ((hopperref16_Right.f kj2 a0_0 a0_1 a0_2 a0_3 a0_4 l0_5 a1 12).bind fun t311 => (some (t310 == t311)))) = some r := by rw [if_neg (show ¬ (false = true) by decide)] at H; exact H
    clear H
    have H := H1
    clear H1
    replace H := Option.bind_eq_some_iff.mp H
    obtain ⟨t310, A150, H⟩ := H
    replace H : ((hopperref16_Right.f kj2 a0_0 a0_1 a0_2 a0_3 a0_4 l0_5 a1 12).bind fun t311 => (some (t310 == t311))) = some r := H
    have A15 := Aside0.mk A150
    clear A150
    replace H := Option.bind_eq_some_iff.mp H
    obtain ⟨t311, A160, H⟩ := H
    replace H : (some (t310 == t311)) = some r := H
    have A16 := Aside0.mk A160
    clear A160
    obtain rfl := Option.some.inj H
    try go_wp2
    have n0_ := Aside0.mk (blk_drew BK306.out)
    have n1_ := Aside0.mk (below_drew1 HB.out)
    clear BK306
    clear HB
    have BK306 := n0_
    have HB := n1_
    clear n0_ n1_
    refine start_ (n := 8) (S := fun w' => w'.cell? ⟨gb306, 0, none⟩ = some (.int .i64 a0_0) ∧ w'.cell? ⟨gb306, 1, none⟩ = some (.int .i64 a0_1) ∧ w'.cell? ⟨gb306, 2, none⟩ = some (.string a0_2) ∧ w'.cell? ⟨gb306, 3, none⟩ = some (.int .i64 a0_3) ∧ w'.cell? ⟨gb306, 4, none⟩ = some (.int .i64 a0_4) ∧ w'.cell? ⟨gb306, 5, none⟩ = some (.slice A0_5 l0_5.length c0_5)) (ds := []) #[false, false, false, false, false, false, false, false] (by kernel_rfl) rfl rfl ⟨(blk_cell BK306.out 0).trans rfl, (blk_cell BK306.out 1).trans rfl, (blk_cell BK306.out 2).trans rfl, (blk_cell BK306.out 3).trans rfl, (blk_cell BK306.out 4).trans rfl, (blk_cell BK306.out 5).trans rfl⟩ (fun hHeld => ?_); refine with_tabW hopperlaw16_NeedRights.tab3 hopperlaw16_NeedRights.bits3 (fun HT_ HW_ => ?_)
    generalize wc.drew = w17 at BK306 HB hHeld ⊢
    refine pure_ (i := 1) (N := some 14) (v := ?_) (a' := ?_) #[false, true, false, false, false, false, false, false] rfl rfl (any_of HT_.out (by kernel_rfl)) (fun _ _ _ h => h) (Or.inl ⟨by rfl, ?_⟩) ?_ ?_
    rotate_left
    ·intro w'
     go_simp
     with_reducible rfl
    rotate_left
    ·simp only [Act.put, List.setIfInBounds_toArray, List.set_cons_zero, List.set_cons_succ, i64_w, i32_w]
     rfl
    refine pure_ (i := 4) (N := some 17) (v := ?_) (a' := ?_) #[false, true, false, false, true, false, false, false] rfl rfl (any_of HT_.out (by kernel_rfl)) (fun _ _ _ h => h) (Or.inl ⟨by rfl, ?_⟩) ?_ ?_
    rotate_left
    ·intro w'
     go_simp
     with_reducible rfl
    rotate_left
    ·simp only [Act.put, List.setIfInBounds_toArray, List.set_cons_zero, List.set_cons_succ, i64_w, i32_w]
     rfl
    refine take_ (i := 0) (N := some 13) (v := ?_) (a' := ?_) #[true, true, false, false, true, false, false, false] rfl rfl (take_ofW HT_.out HW_.out (by kernel_rfl)) (fun _ _ _ h => h) (Or.inl ⟨by rfl, ?_⟩) hHeld ?_ ?_
    rotate_left
    ·rintro w' ⟨s0, s1, s2, s3, s4, s5⟩
     go_simp
     with_reducible rfl
    rotate_left
    ·simp only [Act.put, List.setIfInBounds_toArray, List.set_cons_zero, List.set_cons_succ, i64_w, i32_w]
     rfl
    refine take_ (i := 3) (N := some 16) (v := ?_) (a' := ?_) #[true, true, false, true, true, false, false, false] rfl rfl (take_ofW HT_.out HW_.out (by kernel_rfl)) (fun _ _ _ h => h) (Or.inl ⟨by rfl, ?_⟩) hHeld ?_ ?_
    rotate_left
    ·rintro w' ⟨s0, s1, s2, s3, s4, s5⟩
     go_simp
     with_reducible rfl
    rotate_left
    ·simp only [Act.put, List.setIfInBounds_toArray, List.set_cons_zero, List.set_cons_succ, i64_w, i32_w]
     rfl
    refine one_ (i := 2) (N := some 15) #[true, true, true, true, true, false, false, false] rfl rfl (one_of HT_.out (by kernel_rfl)) (by decide) (fun K hK => ?_)
    refine goes_ Tryd.func10 (by kernel_rfl) rfl #[.agg #[.int .i64 a0_0, .int .i64 a0_1, .string a0_2, .int .i64 a0_3, .int .i64 a0_4, .slice A0_5 l0_5.length c0_5], .int .i64 a1] (by rfl) rfl rfl (by (try simp only [List.map_toArray, List.map_cons, List.map_nil]); first | done | rfl | (simp only [List.length_drop, List.length_take]; rfl)) ?_
    with_reducible refine (need_Right.calls kj2 a0_0 a0_1 a0_2 a0_3 a0_4 _ _ l0_5 a1 t310 _ ?side1 ?side2 A15.out).mono ?_
    (case side1 => repeat (first | exact (Kd.C_below HR0_5.out HB.out) | (with_reducible refine Kd.C_alloc ?_ _) | (with_reducible refine Kd.C_drewN ?_ _) | (with_reducible refine Kd.C_drew ?_)))
    (case side2 => exact HC0_5.out)
    rintro e w18 ⟨rfl, hb⟩
    refine ⟨_, rfl, ?_⟩
    have n0_ := Aside0.mk (blk_below (g := gb306) (o := .cells #[.int .i64 a0_0, .int .i64 a0_1, .string a0_2, .int .i64 a0_3, .int .i64 a0_4, .slice A0_5 l0_5.length c0_5] 24 (0, 0)) (mvK BK306.out) hb)
    have n1_ := Aside0.mk (below_step (mvG HB.out GE306.out) hb)
    clear BK306
    clear HB
    have BK306 := n0_
    have HB := n1_
    clear n0_ n1_
    (try clear hb)
    (try clear hb2)
    (try clear hk)
    (try clear hi)
    refine hK.out _ _ ⟨(blk_cell BK306.out 0).trans rfl, (blk_cell BK306.out 1).trans rfl, (blk_cell BK306.out 2).trans rfl, (blk_cell BK306.out 3).trans rfl, (blk_cell BK306.out 4).trans rfl, (blk_cell BK306.out 5).trans rfl⟩ (fun hHeld => ?_)
    clear hK K
    refine norm_ (a' := ?_) ?_ ?_
    rotate_left
    ·show Act.put _ (some 15) _ = _
     simp only [Act.put, List.setIfInBounds_toArray, List.set_cons_zero, List.set_cons_succ, i64_w, i32_w]
     rfl
    refine one_ (i := 5) (N := some 18) #[true, true, true, true, true, true, false, false] rfl rfl (one_of HT_.out (by kernel_rfl)) (by decide) (fun K hK => ?_)
    refine goes_ Tryd.func11 (by kernel_rfl) rfl #[.agg #[.int .i64 a0_0, .int .i64 a0_1, .string a0_2, .int .i64 a0_3, .int .i64 a0_4, .slice A0_5 l0_5.length c0_5], .int .i64 a1, .int .i64 12] (by rfl) rfl rfl (by (try simp only [List.map_toArray, List.map_cons, List.map_nil]); first | done | rfl | (simp only [List.length_drop, List.length_take]; rfl)) ?_
    with_reducible refine (hopperref16_Right.calls kj2 a0_0 a0_1 a0_2 a0_3 a0_4 _ _ l0_5 a1 12 t311 _ ?side1 ?side2 A16.out).mono ?_
    (case side1 => repeat (first | exact (Kd.C_below HR0_5.out HB.out) | (with_reducible refine Kd.C_alloc ?_ _) | (with_reducible refine Kd.C_drewN ?_ _) | (with_reducible refine Kd.C_drew ?_)))
    (case side2 => exact HC0_5.out)
    rintro e w19 ⟨rfl, hb⟩
    refine ⟨_, rfl, ?_⟩
    have n0_ := Aside0.mk (blk_below (g := gb306) (o := .cells #[.int .i64 a0_0, .int .i64 a0_1, .string a0_2, .int .i64 a0_3, .int .i64 a0_4, .slice A0_5 l0_5.length c0_5] 24 (0, 0)) (mvK BK306.out) hb)
    have n1_ := Aside0.mk (below_step (mvG HB.out GE306.out) hb)
    clear BK306
    clear HB
    have BK306 := n0_
    have HB := n1_
    clear n0_ n1_
    (try clear hb)
    (try clear hb2)
    (try clear hk)
    (try clear hi)
    refine hK.out _ _ ⟨(blk_cell BK306.out 0).trans rfl, (blk_cell BK306.out 1).trans rfl, (blk_cell BK306.out 2).trans rfl, (blk_cell BK306.out 3).trans rfl, (blk_cell BK306.out 4).trans rfl, (blk_cell BK306.out 5).trans rfl⟩ (fun hHeld => ?_)
    clear hK K
    refine norm_ (a' := ?_) ?_ ?_
    rotate_left
    ·show Act.put _ (some 18) _ = _
     simp only [Act.put, List.setIfInBounds_toArray, List.set_cons_zero, List.set_cons_succ, i64_w, i32_w]
     rfl
    refine pure_ (i := 6) (N := some 19) (v := ?_) (a' := ?_) #[true, true, true, true, true, true, true, false] rfl rfl (any_of HT_.out (by kernel_rfl)) (fun _ _ _ h => h) (Or.inl ⟨by rfl, ?_⟩) ?_ ?_
    rotate_left
    ·intro w'
     go_simp
     with_reducible rfl
    rotate_left
    ·simp only [Act.put, List.setIfInBounds_toArray, List.set_cons_zero, List.set_cons_succ, i64_w, i32_w]
     rfl
    refine pure_ (i := 7) (N := some 4) (v := ?_) (a' := ?_) #[true, true, true, true, true, true, true, true] rfl rfl (any_of HT_.out (by kernel_rfl)) (fun _ _ _ h => h) (Or.inl ⟨by rfl, ?_⟩) ?_ ?_
    rotate_left
    ·intro w'
     go_simp
     with_reducible rfl
    rotate_left
    ·simp only [Act.put, List.setIfInBounds_toArray, List.set_cons_zero, List.set_cons_succ, i64_w, i32_w]
     rfl
    refine done_ (done_of HT_.out (by kernel_rfl)) ?_
    try go_wp2
    go_ret
    exact ⟨by first | rfl | (simp [errW_none, errW_some] <;> rfl) | (simp [*, errW_none, errW_some] <;> rfl) | exact congrArg (fun b_ => Ending.returned (.bool b_)) (decide_eq_decide.2 (by unfold wrap64; omega)), mvG HB.out GE306.out⟩

/-- THE ONE PURE STATEMENT of hopperlaw16_NeedRights: yours. -/
def hopperlaw16_NeedRights.Pure : Prop := ∀ (a0_0 : Int) (a0_1 : Int) (a0_2 : ByteArray) (a0_3 : Int) (a0_4 : Int) (l0_5 : List (S24)) (a1 : Int), (fun x_ : Int => (Lit.int .i64 x_).wf = true) a0_0 → (fun x_ : Int => (Lit.int .i64 x_).wf = true) a0_1 → (fun x_ : ByteArray => x_.size ≤ maxLen) a0_2 → (fun x_ : Int => (Lit.int .i64 x_).wf = true) a0_3 → (fun x_ : Int => (Lit.int .i64 x_).wf = true) a0_4 → (WfSl Wf24) l0_5 → (fun x_ : Int => (Lit.int .i64 x_).wf = true) a1 → ∃ k, hopperlaw16_NeedRights.f k a0_0 a0_1 a0_2 a0_3 a0_4 l0_5 a1 = some true

end Go.Proofs.YtdccooaddoafnaaDoor.Q
