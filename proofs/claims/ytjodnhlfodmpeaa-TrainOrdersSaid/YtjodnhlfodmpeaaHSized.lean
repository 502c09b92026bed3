/- Strings that came in within a slice are no longer than a memory's reach. -/
import Derived.Test.YtjodnhlfodmpeaaHOpens
import Derived.SizedLaws
set_option linter.unusedVariables false
set_option linter.unusedSimpArgs false
namespace Go.Proofs.YtjodnhlfodmpeaaW.PrintWords
open Go.RowKit
theorem weightsAll_mem {H : Type} {P : Program} {e : TypeId} : ∀ {ds : List (DataW H)} {d : DataW H}, d ∈ ds → ∀ n ∈ d.weights P e, n ∈ DataW.weightsAll P e ds
  | d0 :: ds, d, hd, n, hn => by
    unfold DataW.weightsAll
    rcases List.mem_cons.1 hd with rfl | hd
    · exact List.mem_append_left _ hn
    · exact List.mem_append_right _ (weightsAll_mem hd n hn)
theorem strs_sized {P : Program} {t e : TypeId} (ht : P.underlying t = some (.slice e)) (he : P.underlying e = some .string) (hsz : P.cellsOf e = 1) {H : Type} {enc : TypeId × Value → H} {w : World} {base : Nat} {spare : Nat → Bool} {held : Bool} {a : Option Addr} {cap : Nat} {x : DataW H} {ps : List MemPlace} {l : List ByteArray}
    (hx : DataW.Trod enc P w base spare held t (.slice a l.length cap) x ps) (hc : Kd.C Kd.string w a l.length l) (hw : ∀ n ∈ x.weights P t, n ≤ reachBytes) : WfSl (fun s : ByteArray => s.size ≤ reachBytes) l := by
  obtain ⟨fuel, hf⟩ := hx
  refine ⟨hc.2.1, fun s hs => ?_⟩
  obtain ⟨j, hj, rfl⟩ := List.getElem_of_mem hs
  rcases DataW.trod_slice ht hf with ⟨h1, _⟩ | ⟨a', len, cap', elems, rest, m, _, h1, e0, _, _, _, hel, hcells, _, _⟩
  · simp [Value.cells] at h1
    obtain ⟨_, rfl, _⟩ := h1
    simp at hj
  · injection e0 with ex _
    subst ex
    simp [Value.cells] at h1
    obtain ⟨rfl, rfl, rfl⟩ := h1
    have h2 := hcells j hj
    rw [List.getElem?_eq_getElem (by omega)] at h2
    obtain ⟨c, hc1, hc2⟩ := Option.bind_eq_some_iff.1 h2
    obtain ⟨s, rfl, hy, _⟩ := DataW.trod_string he hc2
    obtain ⟨_, _, hcell⟩ := World.cells?_some hc1
    have h3 := hcell 0 (by rw [hsz]; omega)
    obtain ⟨ad, e1, h4⟩ := Kd.at_string hc (j : Int) (by omega) (by omega)
    obtain rfl := Option.some.inj e1
    have e2 : s = l[j] := by
      rw [hsz] at h3
      have e3 : ((a'.add (j * 1)).add 0) = a'.add j := by rw [Nat.mul_one]; rfl
      rw [e3] at h3
      rw [Int.toNat_natCast] at h4
      have h5 := h3.symm.trans h4
      simpa [rdOf, List.getD, hj] using h5
    have h6 : (elems[j]).1 ∈ elems.map (·.1) := List.mem_map.2 ⟨elems[j], List.getElem_mem _, rfl⟩
    have h7 := hw (l[j]).data.toList.length (by
      unfold DataW.weights
      rw [ht]
      refine List.mem_cons_of_mem _ (List.mem_append_left _ (weightsAll_mem h6 _ ?_))
      rw [hy, ← e2]
      simp [DataW.weights])
    simpa using h7
end Go.Proofs.YtjodnhlfodmpeaaW.PrintWords
