/- Few strings with few bytes. -/
import Derived.Test.YtjodnhlfodmpeaaHTrainRnd
import Derived.SizedLaws
set_option linter.unusedVariables false
set_option linter.unusedSimpArgs false
namespace Go.Proofs.Ytjodnhlfodmpeaa.Pure
open Go.RowKit Go.Proofs.Ytjodnhlfodmpeaa.Q Go.Proofs.YtjodnhlfodmpeaaW.PrintWords Go.Proofs.YtjodnhlfodmpeaaW.PrintLast Go.Proofs.YtjodnhlfodmpeaaW.PrintMore
theorem few12_l0 (l : List ByteArray) (hl : l.length ≤ maxLen) (hw : ∀ s ∈ l, s.size ≤ reachBytes) : ∀ (n i : Nat), l.length - i = n → i ≤ l.length → bytesN (l.take i) ≤ 600 → ∃ b : Bool, Ev (fun k => hopperref12_Few.l0 k l ((bytesN (l.take i) : Nat) : Int) (i : Int)) b ∧ (b = true → l.length ≤ 60 ∧ bytesN l ≤ 600) := by
  unfold maxLen at hl
  have hre : reachBytes = 140737488351232 := rfl
  intro n
  induction n with
  | zero =>
    intro i hn hi hb
    rw [List.take_of_length_le (by omega)] at hb ⊢
    exact ⟨decide ((l.length : Int) ≤ 60), Ev.step (fun k => by rw [hopperref12_Few.l0]) (Ev.neg (by omega) (Ev.step (fun k => by rw [hopperref12_Few.j1]) (Ev.neg (by simp) (Ev.val rfl)))), fun h => ⟨by have := of_decide_eq_true h; omega, hb⟩⟩
  | succ n ih =>
    intro i hn hi hb
    have hil : i < l.length := by omega
    by_cases c : i < 100
    · have hs := hw l[i] (List.getElem_mem hil)
      have e : bytesN (l.take (i + 1)) = bytesN (l.take i) + (l[i]).size := by rw [List.take_succ_eq_append_getElem hil, bytesN_append, bytesN_cons]; simp [bytesN, TL]
      have ew : wrap64 (((bytesN (l.take i) : Nat) : Int) + ((l[i]).size : Int)) = ((bytesN (l.take (i + 1)) : Nat) : Int) := by rw [e, w64 (by omega) (by omega)]; omega
      have ei : wrap64 ((i : Int) + 1) = ((i + 1 : Nat) : Int) := w64s (n := l.length) hil (by omega)
      have enter : ∀ b, Ev (fun k => if ((bytesN (l.take (i + 1)) : Nat) : Int) > 600 then (some false) else (hopperref12_Few.l0 k l ((bytesN (l.take (i + 1)) : Nat) : Int) ((i + 1 : Nat) : Int))) b → Ev (fun k => hopperref12_Few.l0 k l ((bytesN (l.take i) : Nat) : Int) (i : Int)) b := fun b hb2 => by
        refine Ev.step (fun k => by rw [hopperref12_Few.l0]) (Ev.pos (by clear ew ei; omega) ?_)
        rw [decide_eq_true (by clear ew ei; omega)]
        refine Ev.step (fun k => by rw [hopperref12_Few.j1]) (Ev.pos rfl (Ev.pos (by clear ew ei; omega) (Ev.pos (by clear ew ei; omega) ?_)))
        rw [rdOfn _ l i hil, ew, ei]
        exact hb2
      clear ew ei
      by_cases c2 : bytesN (l.take (i + 1)) > 600
      · exact ⟨false, enter _ (Ev.pos (by omega) (Ev.val rfl)), fun h => by cases h⟩
      · obtain ⟨b, h1, h2⟩ := ih (i + 1) (by omega) (by omega) (by omega)
        exact ⟨b, enter _ (Ev.neg (by omega) h1), h2⟩
    · refine ⟨decide ((l.length : Int) ≤ 60), Ev.step (fun k => by rw [hopperref12_Few.l0]) (Ev.pos (by omega) ?_), fun h => by have := of_decide_eq_true h; omega⟩
      rw [decide_eq_false (by omega)]
      exact Ev.step (fun k => by rw [hopperref12_Few.j1]) (Ev.neg (by simp) (Ev.val rfl))
theorem few12_ev (l : List ByteArray) (h : WfSl (fun x : ByteArray => x.size ≤ reachBytes) l) : ∃ b : Bool, Ev (fun k => hopperref12_Few.f k l) b ∧ (b = true → l.length ≤ 60 ∧ bytesN l ≤ 600) :=
  few12_l0 l h.1 h.2 _ 0 rfl (by omega) (by simp [bytesN, TL])
end Go.Proofs.Ytjodnhlfodmpeaa.Pure
