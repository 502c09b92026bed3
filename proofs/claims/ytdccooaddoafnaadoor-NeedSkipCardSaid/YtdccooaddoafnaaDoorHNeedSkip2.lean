/- Which rows a predicate skips: the program and the reference alike. -/
import Derived.Test.YtdccooaddoafnaaDoorHNeedLeaf
import Derived.Test.YtdccooaddoafnaaDoorHGramRef
import Derived.Test.YtdccooaddoafnaaDoorHLikeRef
import Derived.Test.YtdccooaddoafnaaDoorHPredSmall
set_option linter.unusedVariables false
set_option linter.unusedSimpArgs false
namespace Go.Proofs.YtdccooaddoafnaaDoor.Pure
open Go.RowKit Go.Proofs.YtdccooaddoafnaaDoor.Q Go.Proofs.YtdccooaddoafnaaDoorW.PrintWords Go.Proofs.YtdccooaddoafnaaDoorW.PrintLast Go.Proofs.YtdccooaddoafnaaDoorW.PrintMore
noncomputable def skipV (f : List S50) (p : S24) : Bool := ans (fun k => skipP k p f)
abbrev refSkip (f : List S50) (k : Nat) (p : S24) : Option Bool := hopperref16_Skip.f k p.f0 p.f1 p.f2 p.f3 p.f4 p.f5 f
/-- What the reference makes of how many kids skip. -/
def finB (p : S24) (c : Int) : Bool := if p.f0 = 12 then decide (c > 0) else if p.f0 = 13 then c == (p.f5.length : Int) else false
theorem rskip_l0 (p : S24) (h12 : 12 ≤ p.f0) (hl : p.f5.length ≤ 16) (f : List S50) (v : S24 → Bool) (h : ∀ q, q ∈ p.f5 → Ev (fun k => refSkip f k q) (v q)) :
    ∀ (n i c : Nat), p.f5.length - i = n → i ≤ p.f5.length → c ≤ i → Ev (fun k => hopperref16_Skip.l0 k f (c : Int) (i : Int) p.f0 p.f1 p.f2 p.f3 p.f4 p.f5) (finB p ((c + (p.f5.drop i).countP v : Nat) : Int)) := by
  intro n
  induction n with
  | zero =>
    intro i c hn hi hc
    rw [List.drop_of_length_le (by omega)]
    refine Ev.step (fun k => by rw [hopperref16_Skip.l0]) (Ev.neg (by omega) (Ev.pos h12 ?_))
    rw [List.countP_nil, Nat.add_zero]
    by_cases c12 : p.f0 = 12
    · by_cases c0 : (c : Int) > 0
      · have e : finB p (c : Int) = true := by unfold finB; rw [if_pos c12]; exact decide_eq_true c0
        rw [e]; exact Ev.pos c12 (Ev.pos c0 (Ev.val rfl))
      · have e : finB p (c : Int) = false := by unfold finB; rw [if_pos c12]; exact decide_eq_false c0
        rw [e]; exact Ev.pos c12 (Ev.neg c0 (Ev.neg (by omega) (Ev.val rfl)))
    · by_cases c13 : p.f0 = 13
      · have e : finB p (c : Int) = ((c : Int) == (p.f5.length : Int)) := by unfold finB; rw [if_neg c12, if_pos c13]
        rw [e]; exact Ev.neg c12 (Ev.pos c13 (Ev.val rfl))
      · have e : finB p (c : Int) = false := by unfold finB; rw [if_neg c12, if_neg c13]
        rw [e]; exact Ev.neg c12 (Ev.neg c13 (Ev.val rfl))
  | succ n ih =>
    intro i c hn hi hc
    have hil : i < p.f5.length := by omega
    refine Ev.step (fun k => by rw [hopperref16_Skip.l0]) (Ev.pos (by omega) (Ev.pos (by omega) ?_))
    rw [rdT24 p.f5 i hil]
    refine Ev.bind (h _ (List.getElem_mem hil)) ?_
    rw [List.drop_eq_getElem_cons hil, List.countP_cons, w64s hil (by omega), w64s (i := c) (n := c + 1) (by omega) (by omega)]
    cases hv : v p.f5[i] with
    | true =>
      have := ih (i + 1) (c + 1) (by omega) (by omega) (by omega)
      refine Ev.pos rfl (Ev.eq this ?_)
      simp only [if_true]
      congr 2
      omega
    | false =>
      have := ih (i + 1) c (by omega) (by omega) (by omega)
      exact Ev.neg (by decide) (Ev.eq this (by simp))
theorem rskip_l1 (p : S24) (f : List S50) (j : Nat) (ej : p.f1 = (j : Int)) (hj : j < f.length) (hG : GoodF f[j]) (rs : List ByteArray) (hl : rs.length ≤ 1000000) (hs : ∀ s, s ∈ rs → s.size ≤ 100000) :
    ∀ (n i : Nat), rs.length - i = n → Ev (fun k => hopperref16_Skip.l1 k f rs (i : Int) p.f0 p.f1 p.f2 p.f3 p.f4 p.f5) ((rs.drop i).any fun s => !mayB f[j] s) := by
  intro n
  induction n with
  | zero =>
    intro i hn
    rw [List.drop_of_length_le (by omega)]
    exact Ev.step (fun k => by rw [hopperref16_Skip.l1]) (Ev.neg (by omega) (Ev.val (show false = _ from rfl)))
  | succ n ih =>
    intro i hn
    have hi : i < rs.length := by omega
    refine Ev.step (fun k => by rw [hopperref16_Skip.l1]) (Ev.pos (by omega) (Ev.pos (by omega) (Ev.pos (by omega) (Ev.pos (by omega) ?_))))
    rw [rdOfn _ rs i hi, List.drop_eq_getElem_cons hi, List.any_cons, w64s hi (by omega)]
    have e : rd_T50 f p.f1 = f[j] := by rw [ej]; exact rdF f j hj
    rw [e]
    refine Ev.bind (rmay_ev f[j] hG rs[i] (hs _ (List.getElem_mem hi))) ?_
    cases mayB f[j] rs[i] with
    | true => exact Ev.pos rfl (by simpa using ih (i + 1) (by omega))
    | false => exact Ev.neg (by decide) (Ev.val (show true = _ from rfl))
theorem skip2_ev {cols : Int} {p : S24} (hR : Rt cols p) (f : List S50) (hl : (f.length : Int) = cols) (hG : ∀ x, x ∈ f → GoodF x) :
    ∃ b, Ev (fun k => skipP k p f) b ∧ Ev (fun k => refSkip f k p) b := by
  induction hR with
  | leaf p hk1 hk2 h5 h1 h2 hp h40 h42 h6 =>
    obtain ⟨j, ej⟩ : ∃ j : Nat, p.f1 = (j : Int) := ⟨p.f1.toNat, by omega⟩
    have hj : j < f.length := by omega
    have hGj := hG _ (List.getElem_mem hj)
    have hns := needs_size p hp
    have er : rd_T50 f p.f1 = f[j] := by rw [ej]; exact rdF f j hj
    refine ⟨(needs p).any fun s => !mayB f[j] s, ?_, ?_⟩
    · exact leafSkip_ev p hk2 h1 h2 hp f hl j ej hj hGj
    · have j1t : needs p = [p.f2] → Ev (fun k => hopperref16_Skip.j1 k f true p.f0 p.f1 p.f2 p.f3 p.f4 p.f5) ((needs p).any fun s => !mayB f[j] s) := fun hn => by
        refine Ev.step (fun k => by rw [hopperref16_Skip.j1]) (Ev.pos rfl (Ev.pos h1 (Ev.pos (by omega) ?_)))
        rw [er, hn]
        exact Ev.bind (rmay_ev f[j] hGj p.f2 (by omega)) (Ev.val (by simp))
      have j1f : (p.f0 ≠ 1 ∨ p.f4 ≠ 0) → ¬ (7 ≤ p.f0 ∧ p.f0 ≤ 9) → Ev (fun k => hopperref16_Skip.j1 k f false p.f0 p.f1 p.f2 p.f3 p.f4 p.f5) ((needs p).any fun s => !mayB f[j] s) := fun hn hn2 => by
        refine Ev.step (fun k => by rw [hopperref16_Skip.j1]) (Ev.neg (by decide) ?_)
        by_cases c10 : p.f0 = 10
        · have e : needs p = runsS (presAll p.f2 p.f3).1 := by unfold needs; rw [if_neg (by omega), if_neg (by omega), if_pos c10]
          have hlen := (signs_len p.f2 p.f3).1
          rw [e] at hns ⊢
          refine Ev.pos c10 (Ev.bind (rparse_ev p.f2 p.f3 (by omega)) (Ev.bind (rruns_ev _ (by omega)) ?_))
          have hrl := runsS_length (presAll p.f2 p.f3).1
          simpa using rskip_l1 p f j ej hj hGj (runsS (presAll p.f2 p.f3).1) (by omega) (fun s hs => by have := hns s hs; omega) _ 0 rfl
        · have e : needs p = [] := by
            unfold needs
            by_cases c1 : p.f0 = 1
            · rw [if_pos c1, if_neg (by omega)]
            · rw [if_neg c1, if_neg (by omega), if_neg c10]
          rw [e]
          exact Ev.neg c10 (Ev.val rfl)
      refine Ev.step (fun k => by rw [refSkip, hopperref16_Skip.f]) ?_
      rw [h5]
      refine Ev.step (fun k => by rw [hopperref16_Skip.l0]) (Ev.neg (by simp) (Ev.neg (by omega) ?_))
      rw [← h5]
      by_cases c1 : p.f0 = 1
      · refine Ev.pos c1 ?_
        by_cases c4 : p.f4 = 0
        · exact Ev.pos c4 (j1t (by unfold needs; rw [if_pos c1, if_pos c4]))
        · exact Ev.neg c4 (Ev.neg (by omega) (j1f (.inr c4) (by omega)))
      · refine Ev.neg c1 ?_
        by_cases c7 : p.f0 ≥ 7
        · refine Ev.pos c7 ?_
          by_cases c9 : p.f0 ≤ 9
          · rw [decide_eq_true c9]
            exact j1t (by unfold needs; rw [if_neg c1, if_pos (by omega)])
          · rw [decide_eq_false c9]
            exact j1f (.inl c1) (by omega)
        · exact Ev.neg c7 (j1f (.inl c1) (by omega))
  | node p hk1 hk2 hn1 hn2 hn3 hq ih =>
    have hv : ∀ q, q ∈ p.f5 → Ev (fun k => skipP k q f) (skipV f q) ∧ Ev (fun k => refSkip f k q) (skipV f q) := fun q h => by
      obtain ⟨b, a1, a2⟩ := ih q h
      have : skipV f q = b := ans_eq a1
      rw [this]; exact ⟨a1, a2⟩
    have href : ∀ b, finB p (((p.f5.countP (skipV f)) : Nat) : Int) = b → Ev (fun k => refSkip f k p) b := fun b e => by
      have := rskip_l0 p hk1 hn2 f (skipV f) (fun q h => (hv q h).2) _ 0 0 rfl (Nat.zero_le _) (Nat.le_refl _)
      rw [List.drop_zero, Nat.zero_add, e] at this
      have this2 : Ev (fun k => hopperref16_Skip.l0 k f 0 0 p.f0 p.f1 p.f2 p.f3 p.f4 p.f5) b := this
      exact Ev.step (fun k => by rw [refSkip, hopperref16_Skip.f]) this2
    by_cases c12 : p.f0 = 12
    · refine ⟨p.f5.any (skipV f), Ev.step (fun k => by rw [skipP]) (Ev.pos c12 (anyE_ev _ (skipV f) _ (fun q h => (hv q h).1))), href _ ?_⟩
      · unfold finB
        rw [if_pos c12, Bool.eq_iff_iff, decide_eq_true_eq, List.any_eq_true]
        have := List.countP_pos_iff (p := skipV f) (l := p.f5)
        constructor
        · intro h; exact this.1 (by omega)
        · intro h; have := this.2 h; omega
    by_cases c13 : p.f0 = 13
    · refine ⟨p.f5.all (skipV f), ?_, href _ ?_⟩
      · refine Ev.eq (Ev.step (fun k => by rw [skipP]) (Ev.neg c12 (Ev.pos c13 (Ev.map1 (!·) (anyE_ev (fun k q => (skipP k q f).map (!·)) (fun q => !skipV f q) _ (fun q h => Ev.map1 (!·) (hv q h).1)))))) ?_
        exact not_any (skipV f) p.f5
      · unfold finB
        rw [if_neg c12, if_pos c13, Bool.eq_iff_iff, beq_iff_eq, List.all_eq_true]
        have := List.countP_eq_length (p := skipV f) (l := p.f5)
        constructor
        · intro h; exact this.1 (by omega)
        · intro h; have := this.2 h; omega
    have c14 : p.f0 = 14 := by omega
    refine ⟨false, Ev.step (fun k => by rw [skipP]) (Ev.neg c12 (Ev.neg c13 (Ev.pos c14 (Ev.val rfl)))), href _ ?_⟩
    unfold finB
    rw [if_neg c12, if_neg c13]
end Go.Proofs.YtdccooaddoafnaaDoor.Pure
