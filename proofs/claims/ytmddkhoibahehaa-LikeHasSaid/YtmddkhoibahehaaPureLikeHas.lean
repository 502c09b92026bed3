/- A string that matches has all runs, in order, apart. No condition. -/
import Derived.Test.YtmddkhoibahehaaHLikeIx
set_option linter.unusedVariables false
set_option linter.unusedSimpArgs false
namespace Go.Proofs.Ytmddkhoibahehaa.Pure
open Go.RowKit Go.Proofs.Ytmddkhoibahehaa.Q Go.Proofs.YtmddkhoibahehaaW.PrintWords Go.Proofs.YtmddkhoibahehaaW.PrintLast
open HopPure (lm alt)
open Go.Lib (index occAt NoOcc)
theorem index_f (s x : ByteArray) (hs : s.size ≤ 1000000) : strings_Index.f s x = some (index s.data.toList x.data.toList) := by
  unfold strings_Index.f
  rw [if_pos (by omega)]
theorem strOf_bytes (l : List Int) : (strOfNums l).data.toList = nb l := strOfNums_data l
theorem has_l0 (L : List ByteArray) (hL : L.length ≤ 1000000) : ∀ (n i : Nat) (rest : ByteArray), L.length - i = n → i ≤ L.length → rest.size ≤ 1000000 →
    Ev (fun k => hopperlaw09_LikeHas.l0 k L rest (i : Int)) (got ((L.drop i).map fun x => x.data.toList) rest.data.toList) := by
  intro n
  induction n with
  | zero =>
    intro i rest hn hi hr
    refine Ev.step (fun k => by rw [hopperlaw09_LikeHas.l0]) ?_
    refine Ev.neg (by omega) ?_
    refine Ev.val ?_
    rw [List.drop_eq_nil_of_le (by omega)]; rfl
  | succ n ih =>
    intro i rest hn hi hr
    have hil : i < L.length := by omega
    have hd : rest.data.toList.length = rest.size := by simp
    have hdx : (L[i]).data.toList.length = (L[i]).size := by simp
    have er : rdOf ByteArray.empty L (i : Int) = L[i] := by simp [rdOf, List.getD, hil]
    refine Ev.step (fun k => by rw [hopperlaw09_LikeHas.l0]) ?_
    refine Ev.pos (by omega) ?_
    refine Ev.pos (by omega) ?_
    rw [er, List.drop_eq_getElem_cons hil, List.map_cons, got]
    refine Ev.bind (Ev.c (index_f rest L[i] hr)) ?_
    have hge := Lib.index_ge rest.data.toList (L[i]).data.toList
    by_cases c : index rest.data.toList (L[i]).data.toList < 0
    · rw [if_pos c]
      refine Ev.pos c ?_
      exact Ev.val rfl
    · rw [if_neg c]
      have hroom := Lib.index_room rest.data.toList (L[i]).data.toList (by omega)
      refine Ev.neg c ?_
      rw [w64 (x := index rest.data.toList (L[i]).data.toList + ((L[i]).size : Int)) (by omega) (by omega), w64s (n := L.length) hil (by omega)]
      refine Ev.pos (by omega) ?_
      refine Ev.pos (by omega) ?_
      have e : (rest.extract (index rest.data.toList (L[i]).data.toList + ((L[i]).size : Int)).toNat rest.size).data.toList = rest.data.toList.drop ((index rest.data.toList (L[i]).data.toList).toNat + (L[i]).data.toList.length) := by
        rw [Lib.extract_to_end, hdx]
        congr 1
        omega
      have h2 := ih (i + 1) (rest.extract (index rest.data.toList (L[i]).data.toList + ((L[i]).size : Int)).toNat rest.size) (by omega) (by omega) (by rw [ByteArray.size_extract]; omega)
      rw [e] at h2
      exact h2
theorem LikeHas : hopperlaw09_LikeHas.Pure := by
  intro l0 a1 h0 h1
  refine Ev.rounds ?_
  unfold hopperlaw09_LikeHas.f
  have bad : Ev (fun k => hopperlaw09_LikeHas.j0 k l0 a1 true) true := Ev.step (fun k => by rw [hopperlaw09_LikeHas.j0]) (Ev.pos rfl (Ev.bind awake_ev (Ev.val rfl)))
  refine Ev.bind awake_ev ?_
  refine Ev.pos rfl ?_
  by_cases c1 : (l0.length : Int) > 60
  · exact Ev.pos c1 bad
  refine Ev.neg c1 ?_
  by_cases c2 : (a1.size : Int) > 200
  · exact Ev.pos c2 bad
  refine Ev.neg c2 ?_
  refine Ev.bind (right_ev l0 (by omega)) ?_
  cases hr : okSigns l0 with
  | false => exact Ev.neg (by simp) bad
  | true =>
  refine Ev.pos rfl ?_
  have hm : like_Match.f l0 a1 = some (lm l0 a1.data.toList) := by
    unfold like_Match.f
    rw [if_pos (by omega), if_pos (by omega)]
  refine Ev.bind (Ev.c hm) ?_
  cases hm2 : lm l0 a1.data.toList with
  | false => exact bad
  | true =>
  refine Ev.step (fun k => by rw [hopperlaw09_LikeHas.j0]) ?_
  refine Ev.neg (by simp) ?_
  refine Ev.bind (runs_ev l0 (by omega)) ?_
  have hlen := runsS_length l0
  have fin := has_l0 (runsS l0) (by omega) (runsS l0).length 0 a1 rfl (by omega) (by omega)
  suffices all : got (((runsS l0).drop 0).map fun x => x.data.toList) a1.data.toList = true by rw [all] at fin; exact fin
  rw [got_iff, List.drop_zero]
  have h3 := runs_ord l0 [] a1.data.toList hr hm2
  unfold runsS
  rw [List.map_map]
  have e : ((fun x : ByteArray => x.data.toList) ∘ strOfNums) = nb := funext fun l => strOf_bytes l
  rw [e]
  exact h3
end Go.Proofs.Ytmddkhoibahehaa.Pure
