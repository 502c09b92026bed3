/- Predicates: right ones; what a predicate's string needs. -/
import Derived.Test.YtdccooaddoafnaaGreatDoorHGramEv
import Derived.Test.YtdccooaddoafnaaGreatDoorHLikeCore
set_option linter.unusedVariables false
set_option linter.unusedSimpArgs false
namespace Go.Proofs.YtdccooaddoafnaaGreatDoor.Pure
open Go.RowKit Go.Proofs.YtdccooaddoafnaaGreatDoor.Q Go.Proofs.YtdccooaddoafnaaGreatDoorW.PrintWords Go.Proofs.YtdccooaddoafnaaGreatDoorW.PrintLast Go.Proofs.YtdccooaddoafnaaGreatDoorW.PrintMore
theorem Ev.uniq {α : Type} {g : Nat → Option α} {a b : α} (h1 : Ev g a) (h2 : Ev g b) : a = b := by
  obtain ⟨K, h1⟩ := h1
  obtain ⟨L, h2⟩ := h2
  have e1 := h1 (K + L) (by omega)
  have e2 := h2 (K + L) (by omega)
  rw [e1] at e2
  exact Option.some.inj e2
open Classical in
/-- What a function comes to. -/
noncomputable def ans {α : Type} [Inhabited α] (g : Nat → Option α) : α := if h : ∃ x, Ev g x then Classical.choose h else default
theorem ans_ev {α : Type} [Inhabited α] {g : Nat → Option α} (h : ∃ x, Ev g x) : Ev g (ans g) := by
  unfold ans
  rw [dif_pos h]
  exact Classical.choose_spec h
theorem ans_eq {α : Type} [Inhabited α] {g : Nat → Option α} {x : α} (h : Ev g x) : ans g = x := Ev.uniq (ans_ev ⟨x, h⟩) h
/-! ### right predicates -/
inductive Rt (cols : Int) : S24 → Prop
  | leaf (p : S24) : 1 ≤ p.f0 → p.f0 ≤ 11 → p.f5 = [] → 0 ≤ p.f1 → p.f1 < cols → p.f2.size ≤ 4096 → 0 ≤ p.f4 → p.f4 ≤ 2 → (6 < p.f0 → p.f4 = 0) → Rt cols p
  | node (p : S24) : 12 ≤ p.f0 → p.f0 ≤ 14 → 1 ≤ p.f5.length → p.f5.length ≤ 16 → (p.f0 = 14 → p.f5.length = 1) → (∀ q, q ∈ p.f5 → Rt cols q) → Rt cols p
/-! ### what a predicate's string needs -/
def needs (p : S24) : List ByteArray := if p.f0 = 1 then (if p.f4 = 0 then [p.f2] else []) else if p.f0 = 7 ∨ p.f0 = 8 ∨ p.f0 = 9 then [p.f2] else if p.f0 = 10 then runsS (presAll p.f2 p.f3).1 else []
theorem parse_len (esc : Int) : ∀ (n : Nat) (t : List UInt8), t.length ≤ n → ∀ m, HopPure.parseL esc t = some m → m.length ≤ t.length ∧ okSigns m = true
  | n, [], _, m, h => by
    obtain rfl : m = [] := by simpa [HopPure.parseL] using h.symm
    exact ⟨Nat.le_refl _, rfl⟩
  | 0, c :: t, hn, m, h => by simp at hn
  | n + 1, c :: t, hn, m, h => by
    by_cases e : (c.toNat : Int) = esc
    · cases t with
      | nil => rw [HopPure.parseL_end esc c e] at h; cases h
      | cons d t =>
        rw [HopPure.parseL_esc esc c d t e] at h
        obtain ⟨m2, h2, rfl⟩ := Option.map_eq_some_iff.1 h
        obtain ⟨a, b⟩ := parse_len esc n t (by simp at hn; omega) m2 h2
        refine ⟨by simp; omega, ?_⟩
        have := d.toNat_lt
        simp only [okSigns, List.all_cons, Bool.and_eq_true, decide_eq_true_eq] at b ⊢
        exact ⟨by omega, b⟩
    · rw [HopPure.parseL_plain esc c t e] at h
      obtain ⟨m2, h2, rfl⟩ := Option.map_eq_some_iff.1 h
      obtain ⟨a, b⟩ := parse_len esc n t (by simp at hn; omega) m2 h2
      refine ⟨by simp; omega, ?_⟩
      have := c.toNat_lt
      simp only [okSigns, List.all_cons, Bool.and_eq_true, decide_eq_true_eq] at b ⊢
      refine ⟨?_, b⟩
      unfold HopPure.sgn
      split
      · omega
      · split <;> omega
theorem signs_len (s : ByteArray) (esc : Int) : (presAll s esc).1.length ≤ s.size ∧ okSigns (presAll s esc).1 = true := by
  unfold presAll
  split
  · exact ⟨by simp, rfl⟩
  · cases h : HopPure.parseL esc s.data.toList with
    | none => exact ⟨by simp [pres], rfl⟩
    | some m =>
      have := parse_len esc _ _ (Nat.le_refl _) m h
      rw [dsz] at this
      simpa [pres] using this
theorem runs_total : ∀ (l run : List Int), ((HopPure.runsL run l).map List.length).sum ≤ run.length + l.length
  | [], run => by unfold HopPure.runsL; split <;> simp
  | x :: t, run => by
    unfold HopPure.runsL
    split
    · have := runs_total t (run ++ [x % 256]); simp at this ⊢; omega
    · split
      · have := runs_total t []; simp at this ⊢; omega
      · have := runs_total t []; simp at this ⊢; omega
theorem le_sum {l : List Nat} {x : Nat} (h : x ∈ l) : x ≤ l.sum := by
  induction l with
  | nil => cases h
  | cons a l ih =>
    rw [List.sum_cons]
    rcases List.mem_cons.1 h with rfl | h
    · omega
    · have := ih h; omega
theorem needs_size (p : S24) (hp : p.f2.size ≤ 4096) : ∀ s, s ∈ needs p → s.size ≤ 4096 := by
  intro s hs
  unfold needs at hs
  split at hs
  · split at hs
    · rw [List.mem_singleton.1 hs]; exact hp
    · cases hs
  · split at hs
    · rw [List.mem_singleton.1 hs]; exact hp
    · split at hs
      · unfold runsS at hs
        obtain ⟨r, hr, rfl⟩ := List.mem_map.1 hs
        have h1 := runs_total (presAll p.f2 p.f3).1 []
        have h2 := le_sum (List.mem_map_of_mem (f := List.length) hr)
        have h3 := (signs_len p.f2 p.f3).1
        have h4 : (strOfNums r).size = r.length := by rw [← dsz, strOfNums_data]; simp
        rw [h4]
        simp at h1
        omega
      · cases hs
theorem runsP_ev (p : S24) (hp : p.f2.size ≤ 4096) : Ev (fun k => runsP k p) (needs p) := by
  have hl := (signs_len p.f2 p.f3).1
  have j : ∀ (b : Bool), b = decide (p.f0 = 7 ∨ p.f0 = 8 ∨ p.f0 = 9) → p.f0 ≠ 1 → Ev (fun k => need_runs.j0 k p.f0 b p.f0 p.f1 p.f2 p.f3 p.f4 p.f5) (needs p) := by
    intro b hb h1
    refine Ev.step (fun k => by rw [need_runs.j0]) ?_
    unfold needs
    rw [if_neg h1]
    by_cases c : p.f0 = 7 ∨ p.f0 = 8 ∨ p.f0 = 9
    · rw [if_pos c, hb]
      exact Ev.pos (decide_eq_true c) (Ev.val rfl)
    · rw [if_neg c, hb]
      refine Ev.neg (by rw [decide_eq_false c]; decide) ?_
      by_cases c2 : p.f0 = 10
      · rw [if_pos c2]
        exact Ev.pos c2 (Ev.bind (parse_ev p.f2 p.f3 (by omega)) (Ev.bind (runs_ev _ (by omega)) (Ev.val rfl)))
      · rw [if_neg c2]
        exact Ev.neg c2 (Ev.val rfl)
  unfold runsP need_runs.f
  by_cases c1 : p.f0 = 1
  · refine Ev.pos c1 ?_
    by_cases c2 : p.f4 = 0
    · have e : needs p = [p.f2] := by unfold needs; rw [if_pos c1, if_pos c2]
      rw [e]; exact Ev.pos c2 (Ev.val rfl)
    · have e : needs p = [] := by unfold needs; rw [if_pos c1, if_neg c2]
      rw [e]; exact Ev.neg c2 (Ev.val rfl)
  refine Ev.neg c1 ?_
  by_cases c7 : p.f0 = 7
  · exact Ev.pos c7 (j _ (by rw [c7]; rfl) c1)
  by_cases c8 : p.f0 = 8
  · exact Ev.neg c7 (Ev.pos c8 (j _ (by rw [c8]; rfl) c1))
  · refine Ev.neg c7 (Ev.neg c8 (j _ ?_ c1))
    rw [Bool.eq_iff_iff, decide_eq_true_eq, beq_iff_eq]
    omega
end Go.Proofs.YtdccooaddoafnaaGreatDoor.Pure
