/- Rows of strings that the library sorts in place: out of the printed kinds and back. -/
import Derived.Test.YtjodnhlfodmpeaaHRows2
import Derived.Test.YtjodnhlfodmpeaaShelf
import Derived.Test.YtjodnhlfodmpeaaHWords
import Derived.Sort.EncStr
import Derived.Sort.Grow
set_option linter.unusedVariables false
set_option linter.unusedSimpArgs false
namespace Go.Proofs.YtjodnhlfodmpeaaW.PrintWords
open Go.RowKit Go.Sort
def toB (s : ByteArray) : List UInt8 := s.data.toList
def ofB (l : List UInt8) : ByteArray := ⟨l.toArray⟩
theorem ofB_toB (s : ByteArray) : ofB (toB s) = s := by cases s; simp [ofB, toB]
theorem encStr_ofB (l : List UInt8) : encStr l = .string (ofB l) := rfl
theorem encStr_toB (s : ByteArray) : encStr (toB s) = .string s := by rw [encStr_ofB, ofB_toB]
theorem reps_strs (w : World) (base : Nat) (ok : Nat → Prop) (ps : List ByteArray) : Reps (Kd.string.M w base ok) 1 ps (ps.map Value.string) := ⟨by simp, fun j p hj => by
  have e : ((ps.map Value.string).drop (j * 1)).take 1 = [Value.string p] := by
    obtain ⟨h1, h2⟩ := List.getElem?_eq_some_iff.1 hj
    rw [Nat.mul_one, List.drop_eq_getElem_cons (by simpa using h1)]
    simp [h2]
  rw [e]
  rfl⟩
theorem holds_strs {w : World} {base e g n cap : Nat} {ok : Nat → Prop} {l : List ByteArray} (hn : l.length = n) (h : Kd.R Kd.string e w base ok (.slice (some ⟨g, 0, none⟩) n cap) l) : Holds encStr w g 0 (l.map toB).toArray := by
  subst hn
  obtain ⟨_, inner, ⟨hl, ho⟩, hr⟩ := h
  rcases ho with ⟨ho, _⟩ | ⟨g', cap', cur, he, hb, hh, hnc, hm, hs, ht⟩
  · cases ho
  obtain ⟨rfl, rfl⟩ : g' = g ∧ cap' = cap := by
    injection he with h1 _ h2
    injection h1 with h1
    injection h1 with h1 _ _
    exact ⟨h1.symm, h2.symm⟩
  have hsz : Kd.string.sz = 1 := rfl
  rw [hsz] at hs ht hl
  intro j hj
  have hj2 : j < l.length := by simpa using hj
  have hjc : j < cur.size := by rw [hs]; omega
  have hM := hr.2 j _ (List.getElem?_eq_getElem hj2)
  rw [hsz] at hM
  have hM2 : (inner.drop (j * 1)).take 1 = [Value.string l[j]] := hM
  have e1 : cur[j]? = some (Value.string l[j]) := by
    have h3 : inner[j]? = some (Value.string l[j]) := by
      have := congrArg (fun z : List Value => z[0]?) hM2
      simpa using this
    rw [← ht, List.getElem?_take, if_pos (by omega)] at h3
    simpa using h3
  have ed : (l.map toB).toArray[j]! = toB l[j] := by
    rw [getElem!_pos _ j hj]; simp
  rw [Nat.zero_add, ed, encStr_toB]
  constructor
  · unfold World.cell?
    simpa [hh] using e1
  · unfold World.frozen?
    simp [hh]
theorem R_putStr {w w' : World} {base e g n cap : Nat} {ok ok' : Nat → Prop} {l : List ByteArray} (hn : l.length = n) (h : Kd.R Kd.string e w base ok (.slice (some ⟨g, 0, none⟩) n cap) l) (hok : ok' g) (d : List (List UInt8)) (hd : d.length = n) (m : Nat) (hmn : m ≤ n)
    (hw : w'.heap[g]? = (putRow encStr w g 0 d.toArray).heap[g]?) : Kd.R Kd.string e w' base ok' (.slice (some ⟨g, 0, none⟩) m cap) ((d.take m).map ofB) := by
  subst hn
  obtain ⟨_, inner, ⟨hl, ho⟩, hr⟩ := h
  rcases ho with ⟨ho, _⟩ | ⟨g', cap', cur, he, hb, hh, hnc, hm, hs, ht⟩
  · cases ho
  obtain ⟨rfl, rfl⟩ : g' = g ∧ cap' = cap := by
    injection he with h1 _ h2
    injection h1 with h1
    injection h1 with h1 _ _
    exact ⟨h1.symm, h2.symm⟩
  have hsz : Kd.string.sz = 1 := rfl
  rw [hsz] at hs
  have hw2 : w'.heap[g']? = some (.cells (putCells encStr 0 d.toArray cur) e (0, 0)) := by
    rw [hw]
    simp only [putRow, mapBlock, Array.getElem?_modify, if_true, hh, Option.map_some, onCells]
  have hlen : ((d.take m).map ofB).length = m := by simp; omega
  refine ⟨fun k hk => ?_, ((d.take m).map ofB).map Value.string, ?_, by rw [hsz]; exact reps_strs _ _ _ _⟩
  · have : g' = k := by simpa [Value.ownBlock] using hk
    rw [← this]; exact hok
  · rw [hlen, hsz]
    refine ⟨by simp; omega, .inr ⟨g', cap', putCells encStr 0 d.toArray cur, rfl, hb, hw2, by omega, hm, by simp [putCells]; omega, ?_⟩⟩
    apply List.ext_getElem?
    intro j
    rw [List.getElem?_take, Nat.mul_one]
    by_cases hj : j < m
    · rw [if_pos hj]
      have hjc : j < cur.size := by rw [hs]; omega
      have hjd : j < d.length := by omega
      simp only [putCells, Array.getElem?_toList, Array.getElem?_mapIdx, Array.getElem?_eq_getElem hjc, Option.map_some, List.getElem?_map, List.getElem?_take, if_pos hj, List.getElem?_eq_getElem hjd]
      rw [if_pos ⟨Nat.zero_le _, by simpa using hjd⟩, Nat.sub_zero, getElem!_pos d.toArray j (by simpa using hjd)]
      simp [encStr_ofB]
    · rw [if_neg hj, List.getElem?_eq_none (by simp; omega)]
end Go.Proofs.YtjodnhlfodmpeaaW.PrintWords
