-- PRINTED by print.py (a twelfth state) out of the translation. Not trusted: Lean checks it.
import Derived.Test.YtmddkhoibahehaaQx0
import Derived.Test.YtmddkhoibahehaaQx1
import Derived.Test.YtmddkhoibahehaaQx2
namespace Go.Proofs.Ytmddkhoibahehaa.Q
open Go.RowKit Go.Proofs.YtmddkhoibahehaaW.PrintWords Go.Proofs.YtmddkhoibahehaaW.PrintLast Go.Proofs.YtmddkhoibahehaaW.PrintMore
attribute [local go_sem] str_gtr str_geq str_leq max2_int min2_int max_two min_two max_three min_three max_four min_four   -- for this text's walks alone
set_option linter.unusedVariables false
set_option linter.unusedSimpArgs false

/-! ### like_Quote: function 20 -/
-- told by hand
def like_Quote.f (a0 : ByteArray) (a1 : Int) : Option (ByteArray) := if a0.size ≤ 35184372088832 then some (strOfNums (HopPure.quote a1 a0.data.toList)) else none
/-- '[]byte(s)': a new row that reads as the string's bytes. -/
theorem conv_bytes {P : Program} (src dst e : TypeId) (hs : P.underlying src = some .string) (hd : P.underlying dst = some (.slice e)) (he : P.underlying e = some (.int .u8)) (s : ByteArray) (w : World) :
    ∃ (W1 : World) (cap : Nat), (convert src dst (.string s)).run P w = .ok (.slice (some ⟨w.heap.size, 0, none⟩) s.size cap) W1 ∧ (∀ i : Int, 0 ≤ i → i < (s.size : Int) → W1.cell? ⟨w.heap.size, i.toNat, none⟩ = some (.int .u8 (bt s i))) ∧ Below w.heap.size w W1 ∧ w.heap.size < W1.heap.size := by
  refine ⟨Lib.bytesWorld w e s, _, Lib.run_convert_string_bytes w src dst e s hs hd he, fun i h0 h1 => ?_, ⟨rfl, rfl, rfl, by rw [Lib.bytesWorld_size]; omega, fun j hj => Lib.bytesWorld_at_old w e s j hj⟩, by rw [Lib.bytesWorld_size]; omega⟩
  · have h2 : i.toNat < s.size := by omega
    rw [Lib.bytesWorld_cell w e s i.toNat h2, bt_list s i (by rw [dsize]; exact h2)]
    have h3 : i.toNat < s.data.toList.length := by rw [dsize]; exact h2
    have h4 : i.toNat < s.data.size := h2
    have h5 : s.data.toList.getD i.toNat 0 = s.data.toList[i.toNat] := by rw [List.getD_eq_getElem?_getD, List.getElem?_eq_getElem h3]; rfl
    rw [h5]
/-- The round's step on what is collected. -/
theorem quote_step (a0 : ByteArray) (a1 x : Int) (xs : List Int) (h0 : 0 ≤ x) (h1 : x < (a0.size : Int)) (hx : xs = HopPure.quote a1 (a0.data.toList.take x.toNat)) :
    ((bt a0 x = 37 ∨ bt a0 x = 95 ∨ bt a0 x = a1) → (xs ++ [a1 % 256]) ++ [bt a0 x] = HopPure.quote a1 (a0.data.toList.take (x + 1).toNat)) ∧ (¬ (bt a0 x = 37 ∨ bt a0 x = 95 ∨ bt a0 x = a1) → xs ++ [bt a0 x] = HopPure.quote a1 (a0.data.toList.take (x + 1).toNat)) := by
  have h2 : x.toNat < a0.data.toList.length := by rw [dsize]; omega
  rw [toNat_succ h0, HopPure.quote_snoc _ _ _ h2, bt_list a0 x h2, ← hx]
  unfold HopPure.quote1
  constructor
  · intro h
    rw [if_pos (by omega), List.append_assoc]; rfl
  · intro h
    rw [if_neg (by omega)]
theorem quote_bound {a0 : ByteArray} {a1 : Int} {n : Nat} {xs : List Int} (h : xs = HopPure.quote a1 (a0.data.toList.take n)) (hs : a0.size ≤ 35184372088832) : xs.length ≤ 70368744177664 := by
  subst h
  have h1 := HopPure.quote_length a1 (a0.data.toList.take n)
  have h2 : (a0.data.toList.take n).length ≤ a0.data.toList.length := List.length_take_le' ..
  rw [dsize] at h2
  omega
theorem sign_special (c : Int) (h : c = 37 ∨ c = 95) : ∃ t : Int, like_sign.f c = some t ∧ 255 < t := by
  rcases h with rfl | rfl
  · exact ⟨257, rfl, by omega⟩
  · exact ⟨256, rfl, by omega⟩
theorem sign_plain (c : Int) (h0 : 0 ≤ c) (h1 : c ≤ 255) (h : ¬ (c = 37 ∨ c = 95)) : like_sign.f c = some c := by
  unfold like_sign.f
  rw [if_neg (fun e => h (.inl e)), if_neg (fun e => h (.inr e))]
  unfold wrap64
  congr 1
  omega
set_option maxHeartbeats 4000000 in
set_option maxRecDepth 100000 in
theorem like_Quote.calls (a0 : ByteArray) (a1 : Int) (r : ByteArray) (w : World) (h : like_Quote.f a0 a1 = some r) :
    Calls Try.prog 20 #[.string a0, .int .i64 a1] w fun e w' => e = .returned (.string r) ∧ Below w.heap.size w w' := by
  have hs : a0.size ≤ 35184372088832 := by
    unfold like_Quote.f at h
    by_cases hs : a0.size ≤ 35184372088832
    · exact hs
    · rw [if_neg hs] at h; cases h
  unfold like_Quote.f at h
  rw [if_pos hs] at h
  have H0 : Aside0 (strOfNums (HopPure.quote a1 a0.data.toList) = r) := ⟨Option.some.inj h⟩
  clear h
  obtain ⟨W1, cap, kc, hcell, hB1, hlt1⟩ := conv_bytes 9 40 5 Try.underlying9 Try.underlying40 Try.underlying5 a0 w
  have HCELL := Aside0.mk hcell
  have HB1 := Aside0.mk hB1
  have HLT1 := Aside0.mk hlt1
  clear hcell hB1 hlt1
  go_enter Try.func20, Try.ntmps20
  go_wp2
  clear kc
  have HB := Aside0.mk (Below.refl W1.heap.size W1)
  go_loopg [5, 7, 11] a0.size (fun kq v5 v7 v11 w' => ∃ (x5 : List Int) (x11 : Int), v11 = .int .i64 x11 ∧ 0 ≤ x11 ∧ x11 ≤ (a0.size : Int) ∧ Aside0 ((kq : Int) + x11 = (a0.size : Int)) ∧ Aside0 (x5 = HopPure.quote a1 (a0.data.toList.take x11.toNat)) ∧ Aside0 (Kd.R (Kd.int .u8) 5 w' W1.heap.size (fun _ => True) v5 x5) ∧ Aside0 (Below W1.heap.size W1 w'))
  case atStart => exact ⟨[], 0, rfl, by omega, by omega, ⟨by omega⟩, ⟨rfl⟩, ⟨Kd.R_nil _ _ _ _ _⟩, HB⟩
  case round =>
    obtain ⟨x5, x11, rfl, h0, h1, HK, HX, HO, HB⟩ := hrel
    have HLEN : Aside0 (x5.length ≤ 70368744177664) := ⟨quote_bound HX.out hs⟩
    by_cases hlt : x11 < (a0.size : Int)
    · have hx := HCELL.out x11 h0 hlt
      replace hx := (HB.out.cell (p := ⟨w.heap.size, x11.toNat, none⟩) HLT1.out).trans hx
      have hb1 := bt_range a0 x11
      have HST := Aside0.mk (quote_step a0 a1 x11 x5 h0 hlt HX.out)
      have HW : Aside0 (wrap64 (bt a0 x11) = bt a0 x11) := ⟨by unfold wrap64; omega⟩
      by_cases hsp : bt a0 x11 = 37 ∨ bt a0 x11 = 95
      · obtain ⟨t_, ht, ht2⟩ := sign_special _ hsp
        have HSP := Aside0.mk hsp
        have HS := Aside0.mk ht
        have c1 : decide (255 < t_) = true := decide_eq_true ht2
        clear hsp ht
        go_wp2_with (first | ((with_reducible refine gate_callee (f := 22) rfl ?_); refine goesL_ (some 16) rfl rfl Try.func22 (by kernel_rfl) rfl #[.int .u8 (bt a0 x11)] rfl (by (try simp only [List.map_toArray, List.map_cons, List.map_nil]); first | done | rfl | (simp only [List.length_drop, List.length_take]; rfl)) ?_; (with_reducible refine (like_sign.calls (bt a0 x11) _ _ HS.out).mono ?_); rintro e w' ⟨rfl, ⟨nd, rfl⟩⟩; refine ⟨_, rfl, ?_⟩) | ((with_reducible refine gate_builtin (b := .append) (xs := #[.tmp 24, .tmp 27]) rfl ?_); at_builtin; refine Kd.R_append (Kd.int .u8) (w0 := W1) W1.heap.size rfl (.tmp 24) (.tmp 27) 40 5 (.int .u8 0) 1 rfl Try.underlying40 info5 rfl (by decide) (by omega) u5 x5 (a1 % 256) [.int .u8 (a1 % 256)] (fun _ => True) (fun _ => False) rfl rfl ?aP (fun _ hk => hk.elim) ?aF ?aO ?aB ?aS ?aL ?_; (case aP => exact rfl); (case aB => exact (by repeat (first | (with_reducible first | exact HB.out | apply below_alloc | apply pw_below_drewN | apply below_drew1) | exact HB.out))); (case aF => exact (fun _ _ => trivial)); (case aO => exact (by (with_reducible repeat (first | apply Kd.R_alloc | apply Kd.R_drewN | apply Kd.R_drew)); exact HO.out)); (case aS => exact (below_size (by repeat (first | (with_reducible first | exact HB.out | apply below_alloc | apply pw_below_drewN | apply below_drew1) | exact HB.out)))); (case aL => have := HLEN.out; first | omega | (simp only [List.length_append, List.length_cons, List.length_nil]; omega)); intro v1 w_v1 ho hb hg hat; have n0_ := Aside0.mk hb; have n1_ := Aside0.mk ho; clear HB; clear HO; have HB := n0_; have Hv1 := n1_; clear n0_ n1_; clear ho hb hg hat) | ((with_reducible refine gate_builtin (b := .append) (xs := #[.tmp 29, .tmp 31]) rfl ?_); at_builtin; refine Kd.R_append (Kd.int .u8) (w0 := W1) W1.heap.size rfl (.tmp 29) (.tmp 31) 40 5 (.int .u8 0) 1 rfl Try.underlying40 info5 rfl (by decide) (by omega) v1 (x5 ++ [a1 % 256]) (bt a0 x11) [.int .u8 (bt a0 x11)] (fun _ => True) (fun _ => False) rfl rfl ?aP (fun _ hk => hk.elim) ?aF ?aO ?aB ?aS ?aL ?_; (case aP => exact rfl); (case aB => exact (by repeat (first | (with_reducible first | exact HB.out | apply below_alloc | apply pw_below_drewN | apply below_drew1) | exact HB.out))); (case aF => exact (fun _ _ => trivial)); (case aO => exact (by (with_reducible repeat (first | apply Kd.R_alloc | apply Kd.R_drewN | apply Kd.R_drew)); exact Hv1.out)); (case aS => exact (below_size (by repeat (first | (with_reducible first | exact HB.out | apply below_alloc | apply pw_below_drewN | apply below_drew1) | exact HB.out)))); (case aL => have := HLEN.out; first | omega | (simp only [List.length_append, List.length_cons, List.length_nil]; omega)); intro v2 w_v2 ho hb hg hat; have n0_ := Aside0.mk hb; have n1_ := Aside0.mk ho; clear HB; clear Hv1; have HB := n0_; have Hv2 := n1_; clear n0_ n1_; clear ho hb hg hat))
        go_roundg (a0.size - (x11 + 1).toNat)
        case measure => have := HK.out; omega
        case rel => exact ⟨_, x11 + 1, rfl, by omega, by omega, ⟨by omega⟩, ⟨HST.out.1 (HSP.out.elim (fun z => .inl z) (fun z => .inr (.inl z)))⟩, Hv2, HB⟩
      · have HS := Aside0.mk (sign_plain (bt a0 x11) hb1.1 hb1.2 hsp)
        have HSP := Aside0.mk hsp
        have c1 : decide (255 < bt a0 x11) = false := decide_eq_false (by omega)
        clear hsp
        by_cases he : bt a0 x11 = a1
        · have c2 : (bt a0 x11 == a1) = true := beq_iff_eq.mpr he
          have HE := Aside0.mk he
          clear he
          go_wp2_with (first | ((with_reducible refine gate_callee (f := 22) rfl ?_); refine goesL_ (some 16) rfl rfl Try.func22 (by kernel_rfl) rfl #[.int .u8 (bt a0 x11)] rfl (by (try simp only [List.map_toArray, List.map_cons, List.map_nil]); first | done | rfl | (simp only [List.length_drop, List.length_take]; rfl)) ?_; (with_reducible refine (like_sign.calls (bt a0 x11) _ _ HS.out).mono ?_); rintro e w' ⟨rfl, ⟨nd, rfl⟩⟩; refine ⟨_, rfl, ?_⟩) | ((with_reducible refine gate_builtin (b := .append) (xs := #[.tmp 24, .tmp 27]) rfl ?_); at_builtin; refine Kd.R_append (Kd.int .u8) (w0 := W1) W1.heap.size rfl (.tmp 24) (.tmp 27) 40 5 (.int .u8 0) 1 rfl Try.underlying40 info5 rfl (by decide) (by omega) u5 x5 (a1 % 256) [.int .u8 (a1 % 256)] (fun _ => True) (fun _ => False) rfl rfl ?aP (fun _ hk => hk.elim) ?aF ?aO ?aB ?aS ?aL ?_; (case aP => exact rfl); (case aB => exact (by repeat (first | (with_reducible first | exact HB.out | apply below_alloc | apply pw_below_drewN | apply below_drew1) | exact HB.out))); (case aF => exact (fun _ _ => trivial)); (case aO => exact (by (with_reducible repeat (first | apply Kd.R_alloc | apply Kd.R_drewN | apply Kd.R_drew)); exact HO.out)); (case aS => exact (below_size (by repeat (first | (with_reducible first | exact HB.out | apply below_alloc | apply pw_below_drewN | apply below_drew1) | exact HB.out)))); (case aL => have := HLEN.out; first | omega | (simp only [List.length_append, List.length_cons, List.length_nil]; omega)); intro v1 w_v1 ho hb hg hat; have n0_ := Aside0.mk hb; have n1_ := Aside0.mk ho; clear HB; clear HO; have HB := n0_; have Hv1 := n1_; clear n0_ n1_; clear ho hb hg hat) | ((with_reducible refine gate_builtin (b := .append) (xs := #[.tmp 29, .tmp 31]) rfl ?_); at_builtin; refine Kd.R_append (Kd.int .u8) (w0 := W1) W1.heap.size rfl (.tmp 29) (.tmp 31) 40 5 (.int .u8 0) 1 rfl Try.underlying40 info5 rfl (by decide) (by omega) v1 (x5 ++ [a1 % 256]) (bt a0 x11) [.int .u8 (bt a0 x11)] (fun _ => True) (fun _ => False) rfl rfl ?aP (fun _ hk => hk.elim) ?aF ?aO ?aB ?aS ?aL ?_; (case aP => exact rfl); (case aB => exact (by repeat (first | (with_reducible first | exact HB.out | apply below_alloc | apply pw_below_drewN | apply below_drew1) | exact HB.out))); (case aF => exact (fun _ _ => trivial)); (case aO => exact (by (with_reducible repeat (first | apply Kd.R_alloc | apply Kd.R_drewN | apply Kd.R_drew)); exact Hv1.out)); (case aS => exact (below_size (by repeat (first | (with_reducible first | exact HB.out | apply below_alloc | apply pw_below_drewN | apply below_drew1) | exact HB.out)))); (case aL => have := HLEN.out; first | omega | (simp only [List.length_append, List.length_cons, List.length_nil]; omega)); intro v2 w_v2 ho hb hg hat; have n0_ := Aside0.mk hb; have n1_ := Aside0.mk ho; clear HB; clear Hv1; have HB := n0_; have Hv2 := n1_; clear n0_ n1_; clear ho hb hg hat))
          go_roundg (a0.size - (x11 + 1).toNat)
          case measure => have := HK.out; omega
          case rel => exact ⟨_, x11 + 1, rfl, by omega, by omega, ⟨by omega⟩, ⟨HST.out.1 (.inr (.inr HE.out))⟩, Hv2, HB⟩
        · have c2 : (bt a0 x11 == a1) = false := beq_eq_false_iff_ne.mpr he
          have HE := Aside0.mk he
          clear he
          go_wp2_with (first | ((with_reducible refine gate_callee (f := 22) rfl ?_); refine goesL_ (some 16) rfl rfl Try.func22 (by kernel_rfl) rfl #[.int .u8 (bt a0 x11)] rfl (by (try simp only [List.map_toArray, List.map_cons, List.map_nil]); first | done | rfl | (simp only [List.length_drop, List.length_take]; rfl)) ?_; (with_reducible refine (like_sign.calls (bt a0 x11) _ _ HS.out).mono ?_); rintro e w' ⟨rfl, ⟨nd, rfl⟩⟩; refine ⟨_, rfl, ?_⟩) | ((with_reducible refine gate_builtin (b := .append) (xs := #[.tmp 29, .tmp 31]) rfl ?_); at_builtin; refine Kd.R_append (Kd.int .u8) (w0 := W1) W1.heap.size rfl (.tmp 29) (.tmp 31) 40 5 (.int .u8 0) 1 rfl Try.underlying40 info5 rfl (by decide) (by omega) u5 x5 (bt a0 x11) [.int .u8 (bt a0 x11)] (fun _ => True) (fun _ => False) rfl rfl ?aP (fun _ hk => hk.elim) ?aF ?aO ?aB ?aS ?aL ?_; (case aP => exact rfl); (case aB => exact (by repeat (first | (with_reducible first | exact HB.out | apply below_alloc | apply pw_below_drewN | apply below_drew1) | exact HB.out))); (case aF => exact (fun _ _ => trivial)); (case aO => exact (by (with_reducible repeat (first | apply Kd.R_alloc | apply Kd.R_drewN | apply Kd.R_drew)); exact HO.out)); (case aS => exact (below_size (by repeat (first | (with_reducible first | exact HB.out | apply below_alloc | apply pw_below_drewN | apply below_drew1) | exact HB.out)))); (case aL => have := HLEN.out; first | omega | (simp only [List.length_append, List.length_cons, List.length_nil]; omega)); intro v2 w_v2 ho hb hg hat; have n0_ := Aside0.mk hb; have n1_ := Aside0.mk ho; clear HB; clear HO; have HB := n0_; have Hv2 := n1_; clear n0_ n1_; clear ho hb hg hat))
          go_roundg (a0.size - (x11 + 1).toNat)
          case measure => have := HK.out; omega
          case rel => exact ⟨_, x11 + 1, rfl, by omega, by omega, ⟨by omega⟩, ⟨HST.out.2 (fun z => z.elim (fun y => HSP.out (.inl y)) (fun z => z.elim (fun y => HSP.out (.inr y)) HE.out))⟩, Hv2, HB⟩
    · have ei : x11 = (a0.size : Int) := by omega
      have HX2 : Aside0 (x5 = HopPure.quote a1 a0.data.toList) := ⟨by rw [HX.out, ei, List.take_of_length_le]; rw [dsize]; simp⟩
      have hlt0 : decide (x11 < (a0.size : Int)) = false := decide_eq_false hlt
      clear ei
      obtain ⟨Ao, co, eo⟩ := Kd.R_slice HO.out
      subst eo
      have hcs := fun wx => Kd.C_string (w := wx) (src := 40) (dst := 9) (c := co) Try.underlying40 Try.underlying5 Try.underlying9 (A := Ao) (n := x5.length) (xs := x5)
      have hc1 := hcs _ (Kd.R_reads' HO.out).2.2
      clear hcs
      go_wp2
      go_ret
      exact ⟨by rw [← H0.out, ← HX2.out] <;> rfl, (HB1.out.trans ((HB.out).mono (Nat.le_of_lt HLT1.out)))⟩

end Go.Proofs.Ytmddkhoibahehaa.Q
