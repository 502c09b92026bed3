-- PRINTED by print.py (a twelfth state) out of the translation. Not trusted: Lean checks it.
import Derived.Test.YtmddkhoibahehaaQx0
namespace Go.Proofs.Ytmddkhoibahehaa.Q
open Go.RowKit Go.Proofs.YtmddkhoibahehaaW.PrintWords Go.Proofs.YtmddkhoibahehaaW.PrintLast Go.Proofs.YtmddkhoibahehaaW.PrintMore
attribute [local go_sem] str_gtr str_geq str_leq max2_int min2_int max_two min_two max_three min_three max_four min_four   -- for this text's walks alone
set_option linter.unusedVariables false
set_option linter.unusedSimpArgs false

/-! ### like_Match: function 15 -/
-- told by hand
def like_Match.f (l0 : List Int) (a1 : ByteArray) : Option (Bool) := if l0.length ≤ 1152921504606846976 then (if a1.size ≤ 1152921504606846976 then some (HopPure.lm l0 a1.data.toList) else none) else none
theorem bt_list (s : ByteArray) (i : Int) (h : i.toNat < s.data.toList.length) : bt s i = ((s.data.toList[i.toNat]).toNat : Int) := by
  have h2 : i.toNat < s.size := by simpa using h
  unfold bt
  rw [dif_pos h2]
  rfl
theorem rd_list (l : List Int) (i : Int) (h : i.toNat < l.length) : rd l i = l[i.toNat] := by
  simp [rd, List.getD, h]
def mbk (back : Int) : Option Nat := if back < 0 then none else some back.toNat
/-- The search's state: bounds, that it is sound, what it still has to tell. -/
structure InvMatch (l : List Int) (s : ByteArray) (r : Bool) (at_ i back from_ : Int) : Prop where
  a0 : 0 ≤ at_
  i0 : 0 ≤ i
  b0 : -1 ≤ back
  f0 : 0 ≤ from_
  ok : HopPure.Ok l s.data.toList at_.toNat i.toNat (mbk back) from_.toNat
  cur : HopPure.cur l s.data.toList at_.toNat i.toNat (mbk back) from_.toNat = r
theorem toNat_succ {i : Int} (h : 0 ≤ i) : (i + 1).toNat = i.toNat + 1 := by omega
theorem dsize (s : ByteArray) : s.data.toList.length = s.size := by simp
theorem InvMatch.a1 {l : List Int} {s : ByteArray} {r : Bool} {at_ i back from_ : Int} (h : InvMatch l s r at_ i back from_) : at_ ≤ s.size := by have := h.ok.at_le; rw [dsize] at this; have := h.a0; omega
theorem InvMatch.i1 {l : List Int} {s : ByteArray} {r : Bool} {at_ i back from_ : Int} (h : InvMatch l s r at_ i back from_) : i ≤ l.length := by have := h.ok.i_le; have := h.i0; omega
theorem InvMatch.f1 {l : List Int} {s : ByteArray} {r : Bool} {at_ i back from_ : Int} (h : InvMatch l s r at_ i back from_) : from_ ≤ at_ := by have := h.ok.fr; have := h.f0; have := h.a0; omega
theorem InvMatch.star {l : List Int} {s : ByteArray} {r : Bool} {at_ i back from_ : Int} (h : InvMatch l s r at_ i back from_) (hi : i < (l.length : Int)) (he : rd l i = 257) : InvMatch l s r at_ (i + 1) (i + 1) at_ := by
  have hi0 := h.i0
  have hin : i.toNat < l.length := by omega
  rw [rd_list l i hin] at he
  have hb : mbk (i + 1) = some (i.toNat + 1) := by unfold mbk; rw [if_neg (by omega), toNat_succ hi0]
  obtain ⟨h1, h2⟩ := h.ok.star hin he
  exact ⟨h.a0, by omega, by omega, h.a0, by rw [hb, toNat_succ hi0]; exact h1, by rw [hb, toNat_succ hi0, h2]; exact h.cur⟩
theorem InvMatch.step {l : List Int} {s : ByteArray} {r : Bool} {at_ i back from_ : Int} (h : InvMatch l s r at_ i back from_) (hi : i < (l.length : Int)) (ha : at_ < (s.size : Int)) (h1 : ¬ rd l i = 257) (h2 : rd l i = 256 ∨ rd l i = bt s at_) : InvMatch l s r (at_ + 1) (i + 1) back from_ := by
  have hi0 := h.i0
  have ha0 := h.a0
  have hin : i.toNat < l.length := by omega
  have han : at_.toNat < s.data.toList.length := by rw [dsize]; omega
  rw [rd_list l i hin] at h1 h2
  rw [bt_list s at_ han] at h2
  obtain ⟨h3, h4⟩ := h.ok.step hin han h1 h2
  exact ⟨by omega, by omega, h.b0, h.f0, by rw [toNat_succ hi0, toNat_succ ha0]; exact h3, by rw [toNat_succ hi0, toNat_succ ha0, h4]; exact h.cur⟩
theorem InvMatch.no {l : List Int} {s : ByteArray} {r : Bool} {at_ i back from_ : Int} (h : InvMatch l s r at_ i back from_) (ha : at_ < (s.size : Int)) (hn : i < (l.length : Int) → ¬ rd l i = 257 ∧ ¬ (rd l i = 256 ∨ rd l i = bt s at_)) : HopPure.lm (l.drop i.toNat) (s.data.toList.drop at_.toNat) = false := by
  have hi0 := h.i0
  have ha0 := h.a0
  have han : at_.toNat < s.data.toList.length := by rw [dsize]; omega
  refine HopPure.lm_no han fun hi => ?_
  have := hn (by omega)
  rw [rd_list l i hi, bt_list s at_ han] at this
  exact this
theorem InvMatch.back {l : List Int} {s : ByteArray} {r : Bool} {at_ i back from_ : Int} (h : InvMatch l s r at_ i back from_) (ha : at_ < (s.size : Int)) (hb : ¬ back < 0) (hn : i < (l.length : Int) → ¬ rd l i = 257 ∧ ¬ (rd l i = 256 ∨ rd l i = bt s at_)) : InvMatch l s r (from_ + 1) back back (from_ + 1) := by
  have hm := h.no ha hn
  have ha0 := h.a0
  have hf0 := h.f0
  have hbk : mbk back = some back.toNat := by unfold mbk; rw [if_neg hb]
  have hok := h.ok
  have hcur := h.cur
  rw [hbk] at hok hcur
  obtain ⟨h3, h4⟩ := hok.back (by rw [dsize]; omega) hm
  exact ⟨by omega, by omega, h.b0, by omega, by rw [hbk, toNat_succ hf0]; exact h3, by rw [hbk, toNat_succ hf0, h4]; exact hcur⟩
theorem InvMatch.fail {l : List Int} {s : ByteArray} {r : Bool} {at_ i back from_ : Int} (h : InvMatch l s r at_ i back from_) (ha : at_ < (s.size : Int)) (hb : back < 0) (hn : i < (l.length : Int) → ¬ rd l i = 257 ∧ ¬ (rd l i = 256 ∨ rd l i = bt s at_)) : r = false := by
  have hm := h.no ha hn
  have hbk : mbk back = none := by unfold mbk; rw [if_pos hb]
  have hcur := h.cur
  rw [hbk, HopPure.Ok.fail hm] at hcur
  exact hcur.symm
theorem InvMatch.done {l : List Int} {s : ByteArray} {r : Bool} {at_ i back from_ : Int} (h : InvMatch l s r at_ i back from_) (ha : at_ = (s.size : Int)) (hn : i < (l.length : Int) → ¬ rd l i = 257) : r = decide (i = (l.length : Int)) := by
  have hi0 := h.i0
  rw [← h.cur, h.ok.done (by rw [dsize]; omega) (fun hi => by have := hn (by omega); rwa [rd_list l i hi] at this)]
  exact decide_eq_decide.2 (by omega)
theorem InvMatch.start (l : List Int) (s : ByteArray) : InvMatch l s (HopPure.lm l s.data.toList) 0 0 (-1) 0 := ⟨by omega, by omega, by omega, by omega, HopPure.Ok.start _ _, HopPure.cur_start _ _⟩
theorem wp_scope_jumps2 {P : Program} {a : Act} {w : World} {Q : Exit → Act → World → Prop} {c rest : Code} (l : Nat) (J : Act → World → Prop) (μ : Act → World → Nat) (hf : findLabel c l = some (Code.skip.seq rest))
    (pass : ∀ a w, J a w → rest.wp P (Exit.jump l (fun a' w' => J a' w' ∧ μ a' w' < μ a w) Q) a w)
    (first : (∀ a w, J a w → rest.wp P (Exit.jump l J Q) a w) → c.wp P (Exit.jump l J Q) a w) : (Code.scope c).wp P Q a w := by
  refine wp_scope_jumps l J μ hf (first fun a w h => wp_mono (pass a w h) fun e a' w' hq => ?_) (fun a w h => wp_seq (wp_skip (pass a w h)))
  cases e <;> first | exact ⟨hq.1, hq.2.1⟩ | exact hq
def frMatch (A : Option Addr) (n c : Nat) (s : ByteArray) (at_ i back from_ : Int) (a : Act) : Prop := ∃ u9 u10 u11 u12 u13 u14 u15 u16 u17 u18 u19 u20 u21 u22 u23 u24 u25 u26 u27 u28 u29 u30 u31 u32 u33 u34 u35 u36 u37 u38 u39 u40 u41 u42 u43 u44 u45 u46 u47 u48 u49 u50 u51 u52 u53 u54 u55 u56 u57 u58 u59 u60 u61 u62 u63 : Value, a = { tmps := #[.slice A n c, .string s, undef, undef, .bool false, .int .i64 at_, .int .i64 i, .int .i64 back, .int .i64 from_, u9, u10, u11, u12, u13, u14, u15, u16, u17, u18, u19, u20, u21, u22, u23, u24, u25, u26, u27, u28, u29, u30, u31, u32, u33, u34, u35, u36, u37, u38, u39, u40, u41, u42, u43, u44, u45, u46, u47, u48, u49, u50, u51, u52, u53, u54, u55, u56, u57, u58, u59, u60, u61, u62, u63], defers := [] }
def meMatch (l : List Int) (s : ByteArray) (a : Act) (_ : World) : Nat := (s.size - (intOf (a.tmps.getD 8 undef)).toNat) * (l.length + 1) + (l.length - (intOf (a.tmps.getD 6 undef)).toNat)

set_option maxHeartbeats 4000000 in
set_option maxRecDepth 100000 in
theorem like_Match.calls (A0 : Option Addr) (c0 : Nat) (l0 : List Int) (a1 : ByteArray) (r : Bool) (w : World) (hr0 : Kd.C (Kd.int .i64) w A0 l0.length l0) (hc0 : l0.length ≤ c0) (h : like_Match.f l0 a1 = some r) :
    Calls Try.prog 15 #[.slice A0 l0.length c0, .string a1] w fun e w' => e = .returned (.bool r) ∧ Drawn0 w w' := by
  have hl : l0.length ≤ 1152921504606846976 := by
    unfold like_Match.f at h
    by_cases hl : l0.length ≤ 1152921504606846976
    · exact hl
    · rw [if_neg hl] at h; cases h
  have hs : a1.size ≤ 1152921504606846976 := by
    unfold like_Match.f at h
    by_cases hs : a1.size ≤ 1152921504606846976
    · exact hs
    · rw [if_pos hl, if_neg hs] at h; cases h
  unfold like_Match.f at h
  rw [if_pos hl, if_pos hs] at h
  have H0 : Aside0 (HopPure.lm l0 a1.data.toList = r) := ⟨Option.some.inj h⟩
  clear h
  have HR0 := Aside0.mk hr0
  clear hr0
  go_enter Try.func15, Try.ntmps15
  go_wp2
  refine wp_scope_jumps2 0 (fun a' w' => Drawn0 w w' ∧ ∃ at_ i back from_ : Int, frMatch A0 l0.length c0 a1 at_ i back from_ a' ∧ InvMatch l0 a1 r at_ i back from_) (meMatch l0 a1) rfl ?pass ?first

  case pass =>
    rintro a' w' ⟨⟨m_, rfl⟩, at_, i, back, from_, ⟨u9, u10, u11, u12, u13, u14, u15, u16, u17, u18, u19, u20, u21, u22, u23, u24, u25, u26, u27, u28, u29, u30, u31, u32, u33, u34, u35, u36, u37, u38, u39, u40, u41, u42, u43, u44, u45, u46, u47, u48, u49, u50, u51, u52, u53, u54, u55, u56, u57, u58, u59, u60, u61, u62, u63, rfl⟩, hI⟩
    have hi0 := hI.i0
    have hi1 := hI.i1
    have ha0 := hI.a0
    have ha1 := hI.a1
    have hb0 := hI.b0
    have hf0 := hI.f0
    have hf1 := hI.f1
    have HI := Aside0.mk hI
    clear hI

    by_cases hi : i < (l0.length : Int)
    · obtain ⟨ad, e, hx⟩ := Kd.at_int HR0.out i hi0 hi
      cases e
      have h_lt : decide (i < (l0.length : Int)) = true := decide_eq_true hi
      by_cases c1 : rd l0 i = 257
      · have c1b : (rd l0 i == 257) = true := beq_iff_eq.mpr c1
        have HN := Aside0.mk (HI.out.star hi c1)
        clear c1
        go_wp2
        go_step3
        refine ⟨rfl, ⟨by first | exact ⟨_, rfl⟩ | exact ⟨_, (World.drewN_drewN ..)⟩, _, _, _, _, ⟨_, _, _, _, _, _, _, _, _, _, _, _, _, _, _, _, _, _, _, _, _, _, _, _, _, _, _, _, _, _, _, _, _, _, _, _, _, _, _, _, _, _, _, _, _, _, _, _, _, _, _, _, _, _, _, rfl⟩, HN.out⟩, ?_⟩
        refine HopPure.lexm ?_ ?_
        · first | omega | (simp only [intOf]; simp; omega) | (simp [intOf]; omega) | simp [intOf]
        · first | omega | (simp only [intOf]; simp; omega) | (simp [intOf]; omega)
      · have c1b : (rd l0 i == 257) = false := beq_eq_false_iff_ne.mpr c1
        by_cases ca : at_ = (a1.size : Int)
        · have ca1 : (at_ == (a1.size : Int)) = true := beq_iff_eq.mpr ca
          have HD := Aside0.mk (HI.out.done ca (fun _ => c1))
          have e2 : decide (i = (l0.length : Int)) = false := decide_eq_false (by omega)
          rw [e2] at HD
          have e3 : (i == (l0.length : Int)) = false := beq_eq_false_iff_ne.mpr (by omega)
          clear ca e2
          go_wp2
          simp only [Exit.jump]
          go_ret
          exact ⟨by rw [(HD.out)] <;> rfl, by first | exact ⟨_, rfl⟩ | exact ⟨_, (World.drewN_drewN ..)⟩⟩
        · have ca1 : (at_ == (a1.size : Int)) = false := beq_eq_false_iff_ne.mpr ca
          have ha2 : at_ < (a1.size : Int) := by omega
          have hx2 := bt_at a1 at_
          have hb1 := bt_range a1 at_
          by_cases c2 : rd l0 i = 256
          · have c2b : (rd l0 i == 256) = true := beq_iff_eq.mpr c2
            have HN := Aside0.mk (HI.out.step hi ha2 c1 (.inl c2))
            clear c2 c1
            go_wp2
            go_quiet (fail)
            go_wp2
            go_step3
            refine ⟨rfl, ⟨by first | exact ⟨_, rfl⟩ | exact ⟨_, (World.drewN_drewN ..)⟩, _, _, _, _, ⟨_, _, _, _, _, _, _, _, _, _, _, _, _, _, _, _, _, _, _, _, _, _, _, _, _, _, _, _, _, _, _, _, _, _, _, _, _, _, _, _, _, _, _, _, _, _, _, _, _, _, _, _, _, _, _, rfl⟩, HN.out⟩, ?_⟩
            refine HopPure.lexm ?_ ?_
            · first | omega | (simp only [intOf]; simp; omega) | (simp [intOf]; omega) | simp [intOf]
            · first | omega | (simp only [intOf]; simp; omega) | (simp [intOf]; omega)
          have c2b : (rd l0 i == 256) = false := beq_eq_false_iff_ne.mpr c2
          by_cases c3 : rd l0 i = bt a1 at_
          · have c3b : (rd l0 i == bt a1 at_) = true := beq_iff_eq.mpr c3
            have HN := Aside0.mk (HI.out.step hi ha2 c1 (.inr c3))
            clear c3 c2 c1
            go_wp2
            go_quiet (fail)
            go_wp2
            go_step3
            refine ⟨rfl, ⟨by first | exact ⟨_, rfl⟩ | exact ⟨_, (World.drewN_drewN ..)⟩, _, _, _, _, ⟨_, _, _, _, _, _, _, _, _, _, _, _, _, _, _, _, _, _, _, _, _, _, _, _, _, _, _, _, _, _, _, _, _, _, _, _, _, _, _, _, _, _, _, _, _, _, _, _, _, _, _, _, _, _, _, rfl⟩, HN.out⟩, ?_⟩
            refine HopPure.lexm ?_ ?_
            · first | omega | (simp only [intOf]; simp; omega) | (simp [intOf]; omega) | simp [intOf]
            · first | omega | (simp only [intOf]; simp; omega) | (simp [intOf]; omega)
          have c3b : (rd l0 i == bt a1 at_) = false := beq_eq_false_iff_ne.mpr c3
          by_cases c4 : back < 0
          · have c4b : decide (back < 0) = true := decide_eq_true c4
            have HD := Aside0.mk (HI.out.fail ha2 c4 (fun _ => ⟨c1, fun z => z.elim c2 c3⟩))
            go_wp2
            go_quiet (fail)
            go_wp2
            simp only [Exit.jump]
            go_ret
            exact ⟨by rw [(HD.out)] <;> rfl, by first | exact ⟨_, rfl⟩ | exact ⟨_, (World.drewN_drewN ..)⟩⟩
          · have c4b : decide (back < 0) = false := decide_eq_false c4
            have HN := Aside0.mk (HI.out.back ha2 c4 (fun _ => ⟨c1, fun z => z.elim c2 c3⟩))
            clear c1 c2 c3
            go_wp2
            go_quiet (fail)
            go_wp2
            go_step3
            refine ⟨rfl, ⟨by first | exact ⟨_, rfl⟩ | exact ⟨_, (World.drewN_drewN ..)⟩, _, _, _, _, ⟨_, _, _, _, _, _, _, _, _, _, _, _, _, _, _, _, _, _, _, _, _, _, _, _, _, _, _, _, _, _, _, _, _, _, _, _, _, _, _, _, _, _, _, _, _, _, _, _, _, _, _, _, _, _, _, rfl⟩, HN.out⟩, ?_⟩
            refine HopPure.lexm ?_ ?_
            · first | omega | (simp only [intOf]; simp; omega) | (simp [intOf]; omega) | simp [intOf]
            · first | omega | (simp only [intOf]; simp; omega) | (simp [intOf]; omega)
    · have h_lt : decide (i < (l0.length : Int)) = false := decide_eq_false hi
      by_cases ca : at_ = (a1.size : Int)
      · have ca1 : (at_ == (a1.size : Int)) = true := beq_iff_eq.mpr ca
        have HD := Aside0.mk (HI.out.done ca (fun z => absurd z hi))
        have ei : i = (l0.length : Int) := by omega
        have e2 : decide (i = (l0.length : Int)) = true := decide_eq_true ei
        rw [e2] at HD
        have e3 : (i == (l0.length : Int)) = true := beq_iff_eq.mpr ei
        clear ei
        clear ca e2
        go_wp2
        simp only [Exit.jump]
        go_ret
        exact ⟨by rw [(HD.out)] <;> rfl, by first | exact ⟨_, rfl⟩ | exact ⟨_, (World.drewN_drewN ..)⟩⟩
      · have ca1 : (at_ == (a1.size : Int)) = false := beq_eq_false_iff_ne.mpr ca
        have ha2 : at_ < (a1.size : Int) := by omega
        have hx2 := bt_at a1 at_
        have hb1 := bt_range a1 at_
        by_cases c4 : back < 0
        · have c4b : decide (back < 0) = true := decide_eq_true c4
          have HD := Aside0.mk (HI.out.fail ha2 c4 (fun z => absurd z hi))
          go_wp2
          go_quiet (fail)
          go_wp2
          simp only [Exit.jump]
          go_ret
          exact ⟨by rw [(HD.out)] <;> rfl, by first | exact ⟨_, rfl⟩ | exact ⟨_, (World.drewN_drewN ..)⟩⟩
        · have c4b : decide (back < 0) = false := decide_eq_false c4
          have HN := Aside0.mk (HI.out.back ha2 c4 (fun z => absurd z hi))
          go_wp2
          go_quiet (fail)
          go_wp2
          go_step3
          refine ⟨rfl, ⟨by first | exact ⟨_, rfl⟩ | exact ⟨_, (World.drewN_drewN ..)⟩, _, _, _, _, ⟨_, _, _, _, _, _, _, _, _, _, _, _, _, _, _, _, _, _, _, _, _, _, _, _, _, _, _, _, _, _, _, _, _, _, _, _, _, _, _, _, _, _, _, _, _, _, _, _, _, _, _, _, _, _, _, rfl⟩, HN.out⟩, ?_⟩
          refine HopPure.lexm ?_ ?_
          · first | omega | (simp only [intOf]; simp; omega) | (simp [intOf]; omega) | simp [intOf]
          · first | omega | (simp only [intOf]; simp; omega) | (simp [intOf]; omega)
  case first =>
    intro hp
    have HP := Aside0.mk hp
    clear hp
    go_wp2
    go_step3
    rename_i K_ hK_
    refine hK_ _ _ (HP.out _ _ ⟨Drawn0.refl _, 0, 0, -1, 0, ⟨_, _, _, _, _, _, _, _, _, _, _, _, _, _, _, _, _, _, _, _, _, _, _, _, _, _, _, _, _, _, _, _, _, _, _, _, _, _, _, _, _, _, _, _, _, _, _, _, _, _, _, _, _, _, _, rfl⟩, ?_⟩)
    have hI := InvMatch.start l0 a1
    rw [H0.out] at hI
    exact hI

end Go.Proofs.Ytmddkhoibahehaa.Q
