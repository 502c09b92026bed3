/- What like.Quote makes of a string is read as a pattern, matches that string, and no other. No condition. -/
import Derived.Test.YtmddkhoibahehaaHLikeEv
set_option linter.unusedVariables false
set_option linter.unusedSimpArgs false
namespace Go.Proofs.Ytmddkhoibahehaa.Pure
open Go.RowKit Go.Proofs.Ytmddkhoibahehaa.Q Go.Proofs.YtmddkhoibahehaaW.PrintWords Go.Proofs.YtmddkhoibahehaaW.PrintLast

/-- Bytes out of small numbers. -/
theorem strOf_list (l : List Int) : (strOfNums l).data.toList = l.map fun x => UInt8.ofNat x.toNat := by
  simp [strOfNums]
theorem quote_bytes (esc : Int) (he0 : 0 ≤ esc) (he1 : esc ≤ 255) (l : List UInt8) : (strOfNums (HopPure.quote esc l)).data.toList = l.flatMap fun c => if c.toNat = 37 ∨ c.toNat = 95 ∨ (c.toNat : Int) = esc then [UInt8.ofNat esc.toNat, c] else [c] := by
  rw [strOf_list]
  induction l with
  | nil => rfl
  | cons c l ih =>
    have e : HopPure.quote esc (c :: l) = HopPure.quote1 esc c ++ HopPure.quote esc l := rfl
    rw [e, List.map_append, ih, List.flatMap_cons]
    congr 1
    have hm : esc % 256 = esc := by omega
    unfold HopPure.quote1
    split <;> simp [hm]
/-- What was quoted is read as the bytes themselves. -/
theorem parse_quote (esc : Int) (he0 : 0 ≤ esc) (he1 : esc ≤ 255) : ∀ l : List UInt8, HopPure.parseL esc (l.flatMap fun c => if c.toNat = 37 ∨ c.toNat = 95 ∨ (c.toNat : Int) = esc then [UInt8.ofNat esc.toNat, c] else [c]) = some (l.map fun c => (c.toNat : Int))
  | [] => rfl
  | c :: l => by
    have hc := c.toNat_lt
    have hee : (((UInt8.ofNat esc.toNat).toNat : Nat) : Int) = esc := by simp [UInt8.toNat_ofNat']; omega
    rw [List.flatMap_cons]
    by_cases h : c.toNat = 37 ∨ c.toNat = 95 ∨ (c.toNat : Int) = esc
    · rw [if_pos h]
      simp only [List.cons_append, List.nil_append]
      rw [HopPure.parseL_esc _ _ _ _ hee, parse_quote esc he0 he1 l]
      rfl
    · rw [if_neg h]
      simp only [List.cons_append, List.nil_append]
      rw [HopPure.parseL_plain _ _ _ (by omega), parse_quote esc he0 he1 l]
      have : HopPure.sgn c = (c.toNat : Int) := by unfold HopPure.sgn; rw [if_neg (by omega), if_neg (by omega)]
      simp [this]
/-- Bytes as signs match themselves alone. -/
theorem lm_bytes : ∀ (l t : List UInt8), HopPure.lm (l.map fun c => (c.toNat : Int)) t = decide (l = t)
  | [], t => by rw [List.map_nil, HopPure.lm_nil]; cases t <;> simp
  | c :: l, [] => by
    have hc := c.toNat_lt
    rw [List.map_cons, HopPure.lm_one _ _ (by omega)]; simp
  | c :: l, d :: t => by
    have hc := c.toNat_lt
    rw [List.map_cons, HopPure.lm_one _ _ (by omega)]
    simp only [lm_bytes l t]
    have h1 : decide ((c.toNat : Int) = 256) = false := decide_eq_false (by omega)
    have h2 : decide ((c.toNat : Int) = (d.toNat : Int)) = decide (c = d) := decide_eq_decide.2 ⟨fun h => UInt8.toNat.inj (by omega), fun h => by rw [h]⟩
    rw [h1, h2, Bool.false_or]
    by_cases e : c = d <;> simp [e]

theorem LikeQuotes : hopperlaw09_LikeQuotes.Pure := by
  intro a0 a1 a2 h0 h1 h2
  have hw : 0 ≤ a2 ∧ a2 ≤ 255 := by
    have := h2
    unfold Lit.wf at this
    simp only [Bool.and_eq_true, decide_eq_true_eq] at this
    have e1 : IntKind.u8.min = 0 := by decide
    have e2 : IntKind.u8.max = 255 := by decide
    omega
  refine Ev.rounds ?_
  unfold hopperlaw09_LikeQuotes.f
  have bad : Ev (fun k => hopperlaw09_LikeQuotes.j0 k a0 a1 a2 true) true := Ev.step (fun k => by rw [hopperlaw09_LikeQuotes.j0]) (Ev.pos rfl (Ev.bind awake_ev (Ev.val rfl)))
  refine Ev.bind awake_ev (Ev.pos rfl ?_)
  by_cases c1 : (a0.size : Int) > 1000
  · exact Ev.pos c1 bad
  refine Ev.neg c1 ?_
  by_cases c2 : (a1.size : Int) > 1000
  · rw [decide_eq_true c2]; exact bad
  rw [decide_eq_false c2]
  refine Ev.step (fun k => by rw [hopperlaw09_LikeQuotes.j0]) (Ev.neg (by simp) ?_)
  have ew : wrap64 a2 = a2 := w64 (by omega) (by omega)
  rw [ew]
  have hq : like_Quote.f a0 a2 = some (strOfNums (HopPure.quote a2 a0.data.toList)) := by unfold like_Quote.f; rw [if_pos (by omega)]
  have hqs : (strOfNums (HopPure.quote a2 a0.data.toList)).size ≤ 2000 := by
    have h3 := congrArg List.length (strOf_list (HopPure.quote a2 a0.data.toList))
    rw [dsize, List.length_map] at h3
    have h4 := HopPure.quote_length a2 a0.data.toList
    rw [dsize] at h4
    omega
  have hp : presAll (strOfNums (HopPure.quote a2 a0.data.toList)) a2 = (a0.data.toList.map fun c => (c.toNat : Int), 0) := by
    unfold presAll
    rw [if_neg (by omega), quote_bytes a2 hw.1 hw.2, parse_quote a2 hw.1 hw.2]
    simp [pres]
  have hpe := parse_ev (strOfNums (HopPure.quote a2 a0.data.toList)) a2 (by omega)
  rw [hp] at hpe
  have hm : ∀ t : ByteArray, t.size ≤ 1000 → like_Match.f (a0.data.toList.map fun c => (c.toNat : Int)) t = some (decide (a0.data.toList = t.data.toList)) := by
    intro t ht
    unfold like_Match.f
    rw [if_pos (by rw [List.length_map, dsize]; omega), if_pos (by omega), lm_bytes]
  refine Ev.bind (Ev.c hq) (Ev.bind hpe (Ev.pos rfl (Ev.bind (Ev.c (hm a0 (by omega))) (Ev.pos (decide_eq_true rfl) (Ev.bind (Ev.c (hm a1 (by omega))) (Ev.val ?_))))))
  show (decide (a0.data.toList = a1.data.toList) == (a0.toList == a1.toList)) = true
  rw [ByteArray.toList_eq, ByteArray.toList_eq]
  by_cases e : a0.data.toList = a1.data.toList
  · rw [decide_eq_true e, beq_iff_eq.2 e]; rfl
  · rw [decide_eq_false e, beq_eq_false_iff_ne.2 e]; rfl

end Go.Proofs.Ytmddkhoibahehaa.Pure
