/- What comes in and can be read as data is of the printed words' kinds: whole numbers, bools, strings, slices, structs, one kind after the other. -/
import Derived.Test.YtjodnhlfodmpeaaHWords
import Derived.ChangeArms
import Derived.DataReads
import Derived.ProofKit
set_option linter.unusedVariables false
set_option linter.unusedSimpArgs false
namespace Go.Proofs.YtjodnhlfodmpeaaW.PrintWords
open Go.RowKit
/-- Each element is so, and there are no more than may be. -/
def WfSl {α : Type} (p : α → Prop) (xs : List α) : Prop := xs.length ≤ maxLen ∧ ∀ x ∈ xs, p x
/-- Cells that read as data of type t, no deeper than n, are of kind d, and well formed. -/
def OpensF {α : Type} (P : Program) (t : TypeId) (d : Kd α) (wf : α → Prop) (n : Nat) : Prop :=
  ∀ {H : Type} (enc : TypeId × Value → H) (w : World) (base : Nat) (spare : Nat → Bool) (held : Bool) (fuel : Nat) (cs : List Value) (x : DataW H × List MemPlace), fuel ≤ n → DataW.trod enc P w base spare held fuel t cs = some x → ∃ a : α, d.K w a cs ∧ wf a
section
variable {P : Program} {t e : TypeId} {n : Nat}
theorem OpensF.int {k : IntKind} (ht : P.underlying t = some (.int k)) (n : Nat) : OpensF P t (Kd.int k) (fun x => (Lit.int k x).wf = true) n := by
  intro H enc w base spare held fuel cs x _ h
  obtain ⟨m, rfl, _, hw⟩ := DataW.trod_int ht h
  exact ⟨m, rfl, hw⟩
theorem OpensF.bool (ht : P.underlying t = some .bool) (n : Nat) : OpensF P t Kd.bool (fun _ => True) n := by
  intro H enc w base spare held fuel cs x _ h
  obtain ⟨b, rfl, _⟩ := DataW.trod_bool ht h
  exact ⟨b, rfl, trivial⟩
theorem OpensF.string (ht : P.underlying t = some .string) (n : Nat) : OpensF P t Kd.string (fun s => s.size ≤ maxLen) n := by
  intro H enc w base spare held fuel cs x _ h
  obtain ⟨s, rfl, _, hs⟩ := DataW.trod_string ht h
  exact ⟨s, rfl, hs⟩
theorem choose_list {α : Type} {Q : Nat → α → Prop} : ∀ (m : Nat), (∀ i, i < m → ∃ a, Q i a) → ∃ xs : List α, xs.length = m ∧ ∀ i p, xs[i]? = some p → Q i p
  | 0, _ => ⟨[], rfl, fun i p h => by simp at h⟩
  | m + 1, h => by
    obtain ⟨xs, hl, hx⟩ := choose_list m (fun i hi => h i (by omega))
    obtain ⟨a, ha⟩ := h m (by omega)
    refine ⟨xs ++ [a], by simp [hl], fun i p hp => ?_⟩
    by_cases hi : i < xs.length
    · rw [List.getElem?_append_left hi] at hp
      exact hx i p hp
    · rw [List.getElem?_append_right (by omega)] at hp
      have hlt := (List.getElem?_eq_some_iff.1 hp).1
      simp at hlt
      have e : i = m := by omega
      subst e
      rw [show i - xs.length = 0 by omega] at hp
      simp at hp
      subst hp
      exact ha
theorem OpensF.slice {α : Type} {d : Kd α} {wf : α → Prop} (ht : P.underlying t = some (.slice e)) (hsz : P.cellsOf e = d.sz) (h : OpensF P e d wf n) : OpensF P t (Kd.slice e d) (WfSl wf) (n + 1) := by
  intro H enc w base spare held fuel cs x hf hx
  rcases DataW.trod_slice ht hx with ⟨rfl, _⟩ | ⟨a, len, cap, elems, rest, m, rfl, rfl, _, _, hlc, hcm, hel, hcells, _, _⟩
  · exact ⟨[], ⟨none, 0, rfl, Nat.le_refl _, Kd.C_nil d w⟩, by simp [WfSl]⟩
  · obtain ⟨xs, hxl, hxs⟩ := choose_list (Q := fun i p => ∃ c, w.cells? base (a.add (i * P.cellsOf e)) (P.cellsOf e) = some c ∧ d.K w p c ∧ wf p) len (fun i hi => by
      have hc := hcells i hi
      rw [List.getElem?_eq_getElem (by omega)] at hc
      obtain ⟨c, hc1, hc2⟩ := Option.bind_eq_some_iff.1 hc
      obtain ⟨p, hp, hw⟩ := h enc w base spare held m c _ (by omega) hc2
      exact ⟨p, c, hc1, hp, hw⟩)
    subst hxl
    refine ⟨xs, ⟨some a, cap, rfl, hlc, rfl, ?_, fun _ => ⟨a, rfl, fun j p hp => ?_⟩⟩, ?_, fun p hp => ?_⟩
    · unfold maxLen at hcm; omega
    · obtain ⟨c, hc1, hp1, _⟩ := hxs j p hp
      obtain ⟨_, hcl, hcell⟩ := World.cells?_some hc1
      refine ⟨c, by rw [hcl, hsz], hp1, fun i u hu => ?_⟩
      have hi : i < c.length := (List.getElem?_eq_some_iff.1 hu).1
      have := hcell i (by omega)
      rw [hu] at this
      rw [← this, hsz]
      congr 1
      by_cases e1 : j * d.sz = 0 <;> by_cases e2 : i = 0 <;> simp [Addr.add, e1, e2, Nat.add_assoc]
    · omega
    · obtain ⟨j, hj⟩ := List.getElem?_of_mem hp
      obtain ⟨_, _, _, hw⟩ := hxs j p hj
      exact hw
/-- Whatever reads as data of type t is of kind d, and well formed. -/
def Opens {α : Type} (P : Program) (t : TypeId) (d : Kd α) (wf : α → Prop) : Prop := ∀ n, OpensF P t d wf n
theorem OpensF.zero {α : Type} {d : Kd α} {wf : α → Prop} : OpensF P t d wf 0 := by
  intro H enc w base spare held fuel cs x hf h
  obtain rfl : fuel = 0 := by omega
  simp [DataW.trod] at h
theorem Opens.int {k : IntKind} (ht : P.underlying t = some (.int k)) : Opens P t (Kd.int k) (fun x => (Lit.int k x).wf = true) := fun n => OpensF.int ht n
theorem Opens.bool (ht : P.underlying t = some .bool) : Opens P t Kd.bool (fun _ => True) := fun n => OpensF.bool ht n
theorem Opens.string (ht : P.underlying t = some .string) : Opens P t Kd.string (fun s => s.size ≤ maxLen) := fun n => OpensF.string ht n
theorem Opens.slice {α : Type} {d : Kd α} {wf : α → Prop} (ht : P.underlying t = some (.slice e)) (hsz : P.cellsOf e = d.sz) (h : Opens P e d wf) : Opens P t (Kd.slice e d) (WfSl wf)
  | 0 => OpensF.zero
  | n + 1 => OpensF.slice ht hsz (h n)
/-- A slice that came in as an argument. -/
theorem Opens.slice_arg {α : Type} {d : Kd α} {wf : α → Prop} (h : Opens P t (Kd.slice e d) (WfSl wf)) {H : Type} {enc : TypeId × Value → H} {w : World} {base : Nat} {spare : Nat → Bool} {held : Bool} {a : Option Addr} {len cap : Nat} {x : DataW H} {ps : List MemPlace}
    (hx : DataW.Trod enc P w base spare held t (.slice a len cap) x ps) : ∃ xs : List α, xs.length = len ∧ d.C w a xs.length xs ∧ xs.length ≤ cap ∧ WfSl wf xs := by
  obtain ⟨fuel, hf⟩ := hx
  obtain ⟨xs, ⟨A, c, he, hl, hc⟩, hw⟩ := h fuel enc w base spare held fuel _ _ (Nat.le_refl _) hf
  simp [Value.cells] at he
  obtain ⟨rfl, rfl, rfl⟩ := he
  exact ⟨xs, rfl, hc, hl, hw⟩
end
end Go.Proofs.YtjodnhlfodmpeaaW.PrintWords
