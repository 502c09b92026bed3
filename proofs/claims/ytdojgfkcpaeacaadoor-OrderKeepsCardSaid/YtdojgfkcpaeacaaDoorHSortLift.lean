/- A made row of rows, put into another order: at first its raw values by their places, then the rows again. -/
import Derived.Test.YtdojgfkcpaeacaaDoorHSortRow
import Derived.Test.YtdojgfkcpaeacaaDoorHWords
set_option linter.unusedVariables false
set_option linter.unusedSimpArgs false
namespace Go.Proofs.YtdojgfkcpaeacaaDoorW.PrintWords
open Go.RowKit Go.Sort
def rawOf (inner : List Value) (i : Nat) : Value := inner.getD i (.slice none 0 0)
theorem getB_range (n i : Nat) (h : i < n) : (Array.range n)[i]! = i := by
  rw [getElem!_pos _ i (by simpa using h)]; simp
theorem holds_raw {w : World} {base : Nat} {e : TypeId} {g cap n : Nat} {inner : List Value} (h : w.ownsRow base e 1 (.slice (some ⟨g, 0, none⟩) n cap) n inner) : Holds (rawOf inner) w g 0 (Array.range n) := by
  obtain ⟨hl, h⟩ := h
  rcases h with ⟨h, _⟩ | ⟨g', cap', cur, he, hb, hh, hn, hm, hs, ht⟩
  · cases h
  obtain ⟨rfl, rfl⟩ : g' = g ∧ cap' = cap := by
    injection he with h1 _ h2
    injection h1 with h1
    injection h1 with h1 _ _
    exact ⟨h1.symm, h2.symm⟩
  intro j hj
  have hj2 : j < n := by simpa using hj
  have hjc : j < cur.size := by rw [hs]; omega
  rw [getB_range n j hj2, Nat.zero_add]
  constructor
  · have e1 : inner[j]? = some cur[j] := by
      rw [← ht, List.getElem?_take, if_pos (by omega)]
      simp [hjc]
    unfold World.cell? rawOf
    rw [List.getD_eq_getElem?_getD, e1]
    simp [hh, hjc]
  · unfold World.frozen?
    simp [hh]
/-- The block behind a sort. -/
theorem St.cur {α : Type} [Inhabited α] {enc : α → Value} {w1 wr : World} {g : Nat} {d0 d : Array α} (h : St enc w1 g d0 wr d) (hg : g < w1.heap.size) {cur : Array Value} {e : TypeId} (hh : w1.heap[g]? = some (.cells cur e (0, 0))) :
    ∃ cur2, wr.heap[g]? = some (.cells cur2 e (0, 0)) ∧ cur2.size = cur.size ∧ ∀ j, j < d.size → cur2[j]? = some (enc d[j]!) := by
  have hb := h.under.block g hg
  rw [hh] at hb
  simp only [putRow, mapBlock, Array.getElem?_modify, if_true] at hb
  cases hw : wr.heap[g]? with
  | none => rw [hw] at hb; cases hb
  | some o =>
    rw [hw] at hb
    cases o with
    | cells c e2 fr =>
      simp only [Option.map_some, onCells, Option.some.injEq, Obj.cells.injEq] at hb
      obtain ⟨hc, rfl, rfl⟩ := hb
      refine ⟨c, rfl, by rw [← hc]; simp [putCells], fun j hj => ?_⟩
      have := (h.holds j hj).1
      rw [Nat.zero_add] at this
      unfold World.cell? at this
      simpa [hw] using this
    | _ => simp [onCells] at hb
theorem S_sorted {α : Type} {d : Kd α} {e' e : Nat} {w1 wr : World} {base : Nat} {g n cap : Nat} {xs : List (List α)} {inner : List Value} {dd : Array Nat} {f : Nat → Nat}
    (h0 : w1.ownsRow base e 1 (.slice (some ⟨g, 0, none⟩) n cap) n inner) (hr : Reps ((Kd.tag f (Kd.slice e' d)).M w1 base (fun k => True ∧ some k ≠ (Value.slice (some ⟨g, 0, none⟩) n cap).ownBlock)) 1 xs.zipIdx inner) (hn : xs.length = n)
    (hg : g < w1.heap.size) (hS : St (rawOf inner) w1 g (Array.range n) wr dd) :
    Kd.S (Kd.slice e' d) e wr base (fun _ => True) (.slice (some ⟨g, 0, none⟩) n cap) (dd.toList.map fun i => xs.getD i []) := by
  have hd : dd.toList.Perm (List.range n) := by simpa using hS.perm
  obtain ⟨hl, ho⟩ := h0
  rcases ho with ⟨ho, _⟩ | ⟨g', cap', cur, he, hb, hh, hnc, hm, hs, ht⟩
  · cases ho
  obtain ⟨rfl, rfl⟩ : g' = g ∧ cap' = cap := by
    injection he with h1 _ h2
    injection h1 with h1
    injection h1 with h1 _ _
    exact ⟨h1.symm, h2.symm⟩
  obtain ⟨cur2, hc2, hs2, hj2⟩ := hS.cur hg hh
  have hds : dd.size = n := by rw [hS.size]; simp
  have hlen : (dd.toList.map fun i => xs.getD i []).length = n := by simp [hds]
  have hin : (dd.toList.map (rawOf inner)).length = n := by simp [hds]
  have hnd : dd.toList.Nodup := hd.nodup_iff.mpr List.nodup_range
  refine ⟨fun k => dd.toList.idxOf (f k), fun _ _ => trivial, dd.toList.map (rawOf inner), ?_, ?_⟩
  · rw [List.length_zipIdx, hlen, show (Kd.tag (fun k => dd.toList.idxOf (f k)) (Kd.slice e' d)).sz = 1 from rfl]
    refine ⟨by rw [hin, Nat.mul_one], .inr ⟨g', cap', cur2, rfl, hb, hc2, hnc, hm, by rw [hs2, hs], ?_⟩⟩
    apply List.ext_getElem?
    intro j
    rw [List.getElem?_take, Nat.mul_one]
    by_cases hj : j < n
    · rw [if_pos hj]
      have hjd : j < dd.size := by omega
      have h1 := hj2 j hjd
      rw [getElem!_pos dd j hjd] at h1
      rw [← Array.getElem?_toList] at h1
      rw [h1, List.getElem?_map]
      simp [hjd]
    · rw [if_neg hj, List.getElem?_eq_none (by omega)]
  · refine ⟨by rw [hin, List.length_zipIdx, hlen]; exact (Nat.mul_one n).symm, fun j p hj => ?_⟩
    rw [List.getElem?_zipIdx, List.getElem?_map, Nat.zero_add] at hj
    cases hdj : dd.toList[j]? with
    | none => rw [hdj] at hj; cases hj
    | some i =>
      rw [hdj] at hj
      simp only [Option.map_some, Option.some.injEq] at hj
      have hjd : j < dd.size := by
        have := (List.getElem?_eq_some_iff.1 hdj).1
        simpa using this
      have hi : i < n := by
        have : i ∈ dd.toList := List.mem_of_getElem? hdj
        have := hd.mem_iff.1 this
        simpa using this
      have hxi : xs[i]? = some (xs.getD i []) := by
        rw [List.getD_eq_getElem?_getD, List.getElem?_eq_getElem (by omega)]; rfl
      have hM := hr.2 i _ (Kd.zip_at hxi)
      have e1 : (inner.drop (i * 1)).take 1 = [rawOf inner i] := by
        have hil : i < inner.length := by omega
        rw [Nat.mul_one, List.drop_eq_getElem_cons hil]
        unfold rawOf
        rw [List.getD_eq_getElem?_getD, List.getElem?_eq_getElem hil]
        rfl
      have e2 : ((dd.toList.map (rawOf inner)).drop (j * 1)).take 1 = [rawOf inner i] := by
        have hil : j < (dd.toList.map (rawOf inner)).length := by omega
        rw [Nat.mul_one, List.drop_eq_getElem_cons hil]
        have : (dd.toList.map (rawOf inner))[j]? = some (rawOf inner i) := by rw [List.getElem?_map, hdj]; rfl
        rw [List.getElem?_eq_getElem hil, Option.some.injEq] at this
        rw [this]
        rfl
      rw [e1] at hM
      have hsz : (Kd.tag (fun k => dd.toList.idxOf (f k)) (Kd.slice e' d)).sz = 1 := rfl
      rw [hsz, e2, ← hj]
      have hM2 := Kd.M_step (d := Kd.slice e' d) (w1 := wr) (show (Kd.slice e' d).M w1 base _ (xs.getD i []) [rawOf inner i] from hM) (fun k hk hlt => hS.block k hlt (fun he => hk.1.2 (by rw [he]; rfl)))
      have hpos : dd.toList.idxOf i = j := by
        obtain ⟨hjl, hje⟩ := List.getElem?_eq_some_iff.1 hdj
        rw [← hje]
        exact hnd.idxOf_getElem j hjl
      exact (Kd.slice e' d).M_mono (fun k hk => ⟨⟨trivial, hk.1.2⟩, by show dd.toList.idxOf (f k) = j; rw [hk.2]; exact hpos⟩) hM2
/-- What an element's raw value leads to, in a world of the sort. -/
theorem raw_reads {α : Type} {d : Kd α} {e' : Nat} {w1 wr : World} {base : Nat} {g n cap : Nat} {xs : List (List α)} {inner : List Value} {dd : Array Nat} {f : Nat → Nat}
    (hl : inner.length = n) (hr : Reps ((Kd.tag f (Kd.slice e' d)).M w1 base (fun k => True ∧ some k ≠ (Value.slice (some ⟨g, 0, none⟩) n cap).ownBlock)) 1 xs.zipIdx inner) (hn : xs.length = n)
    (hS : St (rawOf inner) w1 g (Array.range n) wr dd) (i : Nat) (hi : i < n) :
    ∃ A c, rawOf inner i = .slice A (xs.getD i []).length c ∧ (xs.getD i []).length ≤ c ∧ d.C wr A (xs.getD i []).length (xs.getD i []) := by
  have hxi : xs[i]? = some (xs.getD i []) := by rw [List.getD_eq_getElem?_getD, List.getElem?_eq_getElem (by omega)]; rfl
  have hM := hr.2 i _ (Kd.zip_at hxi)
  have e1 : (inner.drop (i * 1)).take 1 = [rawOf inner i] := by
    have hil : i < inner.length := by omega
    rw [Nat.mul_one, List.drop_eq_getElem_cons hil]
    unfold rawOf
    rw [List.getD_eq_getElem?_getD, List.getElem?_eq_getElem hil]
    rfl
  rw [e1] at hM
  have hM2 := Kd.M_step (d := Kd.slice e' d) (w1 := wr) (show (Kd.slice e' d).M w1 base _ (xs.getD i []) [rawOf inner i] from hM) (fun k hk hlt => hS.block k hlt (fun he => hk.1.2 (by rw [he]; rfl)))
  obtain ⟨A, c, he, h1, h2⟩ := (Kd.slice e' d).K_of_M hM2
  exact ⟨A, c, by simpa using he, h1, h2⟩
/-- Nothing elder than the row is turned. -/
theorem St.old {α : Type} [Inhabited α] {enc : α → Value} {w0 w1 wr : World} {g : Nat} {d0 d : Array α} (h : St enc w1 g d0 wr d) (hb : Below w0.heap.size w0 w1) (hg : w0.heap.size ≤ g) : Below w0.heap.size w0 wr := by
  have u := h.under
  have hs := h.heap_size
  refine ⟨u.os.trans hb.os, u.tape.trans hb.tape, u.output.trans hb.output, Nat.le_trans hb.size hs, fun k hk => ?_⟩
  rw [h.block k (Nat.lt_of_lt_of_le hk hb.size) (by omega)]
  exact hb.block k hk
end Go.Proofs.YtdojgfkcpaeacaaDoorW.PrintWords
