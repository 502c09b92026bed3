/- What a predicate says of a row: the program and the reference alike. -/
import Derived.Test.YtdccooaddoafnaaGreatDoorHNeedEv
import Derived.Test.YtdccooaddoafnaaGreatDoorHRefCmp
import Derived.Test.YtdccooaddoafnaaGreatDoorHLikeRef
import Derived.Test.YtdccooaddoafnaaGreatDoorHLikeTab
set_option linter.unusedVariables false
set_option linter.unusedSimpArgs false
namespace Go.Proofs.YtdccooaddoafnaaGreatDoor.Pure
open Go.RowKit Go.Proofs.YtdccooaddoafnaaGreatDoor.Q Go.Proofs.YtdccooaddoafnaaGreatDoorW.PrintWords Go.Proofs.YtdccooaddoafnaaGreatDoorW.PrintLast Go.Proofs.YtdccooaddoafnaaGreatDoorW.PrintMore
open TextPure (nth nums cmpZ)
open Go.Lib (index occAt)
/-! ### has -/
theorem index_ex (s x : List UInt8) : index s x ≥ 0 ↔ ∃ i, i ≤ s.length ∧ x <+: s.drop i := by
  rcases Lib.index_spec s x with ⟨h1, h2⟩ | ⟨i, h1, h2, h3, _⟩
  · rw [h1]
    refine ⟨fun h => absurd h (by decide), fun ⟨i, hi, hp⟩ => ?_⟩
    have := h2 i hi
    unfold occAt at this
    rw [List.isPrefixOf_iff_prefix.2 hp] at this
    cases this
  · rw [h1]
    exact ⟨fun _ => ⟨i, h2, by unfold occAt at h3; exact List.isPrefixOf_iff_prefix.1 h3⟩, fun _ => by omega⟩
theorem part_eq (s x : ByteArray) (i : Nat) (h : i + x.size ≤ s.size) : ((s.extract i (i + x.size)).toList = x.toList) ↔ x.data.toList <+: s.data.toList.drop i := by
  rw [tl, tl, Lib.extract_data, List.prefix_iff_eq_take]
  have hx := dsz x
  rw [hx]
  have e : (s.data.extract i (i + x.size)).toList = (s.data.toList.drop i).take x.size := by
    rw [Array.toList_extract]
    simp [List.extract]
  constructor
  · intro hh; rw [← hh]; first | exact e.symm ▸ rfl | simp [e]
  · intro hh; rw [hh]; first | exact e | simp [e]
theorem has_l0 (s x : ByteArray) (hs : s.size ≤ 5000) (hx : x.size ≤ 5000) : ∀ (n i : Nat), s.size + 1 - i = n → i ≤ s.size + 1 → (∀ j, j < i → ¬ x.data.toList <+: s.data.toList.drop j) →
    Ev (fun k => hopperref16_has.l0 k s x (i : Int)) (decide (index s.data.toList x.data.toList ≥ 0)) := by
  have hds := dsz s
  have hdx := dsz x
  intro n
  induction n with
  | zero =>
    intro i hn hi hb
    refine Ev.step (fun k => by rw [hopperref16_has.l0]) (Ev.neg (by rw [w64 (by omega) (by omega)]; omega) (Ev.val ?_))
    rw [eq_comm, decide_eq_false_iff_not, index_ex]
    rintro ⟨j, hj, hp⟩
    exact hb j (by omega) hp
  | succ n ih =>
    intro i hn hi hb
    have e1 : wrap64 ((i : Int) + (x.size : Int)) = ((i + x.size : Nat) : Int) := by rw [w64 (by omega) (by omega)]; omega
    refine Ev.step (fun k => by rw [hopperref16_has.l0, e1]) ?_
    by_cases c : i + x.size ≤ s.size
    · refine Ev.pos (by omega) (Ev.pos (by omega) (Ev.pos (by omega) ?_))
      rw [Int.toNat_natCast, Int.toNat_natCast]
      by_cases c2 : x.data.toList <+: s.data.toList.drop i
      · refine Ev.pos ((part_eq s x i c).2 c2) (Ev.val ?_)
        rw [eq_comm, decide_eq_true_iff, index_ex]
        exact ⟨i, by omega, c2⟩
      · refine Ev.neg (fun h => c2 ((part_eq s x i c).1 h)) ?_
        rw [w64s (n := i + 1) (by omega) (by omega)]
        exact ih (i + 1) (by omega) (by omega) (fun j hj => by
          by_cases e : j = i
          · subst e; exact c2
          · exact hb j (by omega))
    · refine Ev.neg (by omega) (Ev.val ?_)
      rw [eq_comm, decide_eq_false_iff_not, index_ex]
      rintro ⟨j, hj, hp⟩
      have h1 := hp.length_le
      rw [List.length_drop] at h1
      by_cases cj : j < i
      · exact hb j cj hp
      · omega
theorem has_ev' (s x : ByteArray) (hs : s.size ≤ 5000) (hx : x.size ≤ 5000) : Ev (fun k => hopperref16_has.f k s x) (decide (index s.data.toList x.data.toList ≥ 0)) := by
  unfold hopperref16_has.f
  exact has_l0 s x hs hx _ 0 rfl (by omega) (fun j hj => by omega)
/-! ### the leaves -/
theorem Ev.mapE {α β : Type} {g : Nat → Option α} {r : α} (f : α → β) (h : Ev g r) : Ev (fun k => (g k).map f) (f r) := Ev.map1 f h
/-! ### the kids counted -/
end Go.Proofs.YtdccooaddoafnaaGreatDoor.Pure
