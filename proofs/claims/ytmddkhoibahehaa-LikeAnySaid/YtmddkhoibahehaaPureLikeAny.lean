/- A pattern of literals, with the sign for any bytes between and around, matches just what has these literals in order, apart. No condition. -/
import Derived.Test.YtmddkhoibahehaaHLikeIx
set_option linter.unusedVariables false
set_option linter.unusedSimpArgs false
namespace Go.Proofs.Ytmddkhoibahehaa.Pure
open Go.RowKit Go.Proofs.Ytmddkhoibahehaa.Q Go.Proofs.YtmddkhoibahehaaW.PrintWords Go.Proofs.YtmddkhoibahehaaW.PrintLast
open HopPure (lm alt)
open Go.Lib (index occAt NoOcc)
theorem index_f (s x : ByteArray) (hs : s.size ≤ 1000000) : strings_Index.f s x = some (index s.data.toList x.data.toList) := by
  unfold strings_Index.f
  rw [if_pos (by omega)]
theorem match_f (l : List Int) (s : ByteArray) (hl : l.length ≤ 1000000) (hs : s.size ≤ 1000000) : like_Match.f l s = some (lm l s.data.toList) := by
  unfold like_Match.f
  rw [if_pos (by omega), if_pos (by omega)]
theorem any_l2 (s : ByteArray) (sg : List Int) (flag : Bool) (hs : s.size ≤ 300) (hl : sg.length ≤ 100000) (h : lm sg s.data.toList = flag) : ∀ (n i : Nat), s.size - i = n → i ≤ s.size → Ev (fun k => hopperlaw09_LikeAny.l2 k s sg flag (List.replicate i 256) (i : Int)) true := by
  have hd : s.data.toList.length = s.size := by simp
  intro n
  induction n with
  | zero =>
    intro i hn hi
    have e : i = s.size := by omega
    subst e
    refine Ev.step (fun k => by rw [hopperlaw09_LikeAny.l2]) ?_
    refine Ev.neg (by omega) ?_
    refine Ev.bind (Ev.c (match_f sg s (by omega) (by omega))) ?_
    refine Ev.pos (by rw [h]; simp) ?_
    have d0 := HopPure.lm_nil []
    have d1 := dots_more s.size [] s.data.toList hd
    have d2 := dots_more s.size [256] s.data.toList hd
    have d3 := dots_more s.size [257, 257] s.data.toList hd
    rw [List.append_nil, HopPure.lm_nil] at d1
    rw [HopPure.lm_one _ _ (by decide)] at d2
    rw [HopPure.lm_star, HopPure.lm_star, HopPure.lm_nil] at d3
    refine Ev.bind (Ev.c (match_f _ s (by rw [List.length_replicate]; omega) (by omega))) ?_
    rw [d1]
    refine Ev.pos rfl ?_
    refine Ev.bind (Ev.now _) ?_
    try dsimp only
    refine Ev.pos (by simp <;> omega) ?_
    refine Ev.bind (Ev.now _) ?_
    try dsimp only
    rw [List.nil_append]
    refine Ev.pos (by simp <;> omega) ?_
    refine Ev.bind (Ev.c (match_f _ s (by simp <;> omega) (by omega))) ?_
    rw [d2]
    refine Ev.neg (by simp) ?_
    refine Ev.bind (Ev.now _) ?_
    try dsimp only
    refine Ev.pos (by simp <;> omega) ?_
    refine Ev.bind (Ev.now _) ?_
    try dsimp only
    refine Ev.bind (Ev.now _) ?_
    try dsimp only
    refine Ev.pos (by simp <;> omega) ?_
    refine Ev.bind (Ev.c (match_f _ s (by simp <;> omega) (by omega))) ?_
    rw [List.nil_append, d3]
    exact Ev.val rfl
  | succ n ih =>
    intro i hn hi
    refine Ev.step (fun k => by rw [hopperlaw09_LikeAny.l2]) ?_
    refine Ev.pos (by omega) ?_
    refine Ev.pos (by rw [List.length_replicate]; omega) ?_
    rw [w64s (n := s.size) (by omega) (by omega), ← List.replicate_succ']
    exact ih (i + 1) (by omega) (by omega)
theorem any_l1 (L : List ByteArray) (s rest : ByteArray) (flag : Bool) (r : Bool) (i : Nat) (hi : i < L.length) (hL : L.length ≤ 20) (hx : (L[i]).size ≤ 50) (hr : rest.size ≤ 300) (sg : List Int) (hsg : sg.length ≤ 10000)
    (miss : index rest.data.toList (L[i]).data.toList < 0 → Ev (fun k => hopperlaw09_LikeAny.l0 k L s (sg ++ lit (L[i]).data.toList ++ [257]) rest false ((i + 1 : Nat) : Int)) r)
    (hit : ∀ rest2 : ByteArray, 0 ≤ index rest.data.toList (L[i]).data.toList → rest2.data.toList = rest.data.toList.drop ((index rest.data.toList (L[i]).data.toList).toNat + (L[i]).data.toList.length) → rest2.size ≤ 300 → Ev (fun k => hopperlaw09_LikeAny.l0 k L s (sg ++ lit (L[i]).data.toList ++ [257]) rest2 flag ((i + 1 : Nat) : Int)) r) :
    ∀ (n j : Nat), (L[i]).size - j = n → j ≤ (L[i]).size → Ev (fun k => hopperlaw09_LikeAny.l1 k L s (sg ++ (lit (L[i]).data.toList).take j) rest flag (i : Int) (j : Int)) r := by
  have er : rdOf ByteArray.empty L (i : Int) = L[i] := by simp [rdOf, List.getD, hi]
  have hdx : (L[i]).data.toList.length = (L[i]).size := by simp
  have hd : rest.data.toList.length = rest.size := by simp
  have ll : (lit (L[i]).data.toList).length = (L[i]).size := by unfold lit; rw [List.length_map, hdx]
  intro n
  induction n with
  | zero =>
    intro j hn hj
    refine Ev.step (fun k => by rw [hopperlaw09_LikeAny.l1]) ?_
    refine Ev.pos (by omega) ?_
    refine Ev.pos (by omega) ?_
    rw [er, List.take_of_length_le (by omega)]
    refine Ev.neg (by omega) ?_
    refine Ev.pos (by rw [List.length_append]; omega) ?_
    refine Ev.bind (Ev.now _) ?_
    try dsimp only
    refine Ev.bind (Ev.c (index_f rest L[i] (by omega))) ?_
    have hge := Lib.index_ge rest.data.toList (L[i]).data.toList
    by_cases c : index rest.data.toList (L[i]).data.toList < 0
    · refine Ev.pos c ?_
      rw [w64s (n := L.length) hi (by omega)]
      exact miss c
    · have hroom := Lib.index_room rest.data.toList (L[i]).data.toList (by omega)
      refine Ev.neg c ?_
      rw [w64 (x := index rest.data.toList (L[i]).data.toList + ((L[i]).size : Int)) (by omega) (by omega), w64s (n := L.length) hi (by omega)]
      refine Ev.pos (by omega) ?_
      refine Ev.pos (by omega) ?_
      refine hit _ (by omega) ?_ (by rw [ByteArray.size_extract]; omega)
      rw [Lib.extract_to_end, hdx]
      congr 1
      omega
  | succ n ih =>
    intro j hn hj
    have h1 : j < (L[i]).data.toList.length := by omega
    have hb := bt_range L[i] (j : Int)
    refine Ev.step (fun k => by rw [hopperlaw09_LikeAny.l1]) ?_
    refine Ev.pos (by omega) ?_
    refine Ev.pos (by omega) ?_
    rw [er]
    refine Ev.pos (by omega) ?_
    refine Ev.pos (by omega) ?_
    refine Ev.pos (by rw [List.length_append, List.length_take]; omega) ?_
    rw [w64s (n := (L[i]).size) (by omega) (by omega), wbt]
    have e : sg ++ (lit (L[i]).data.toList).take j ++ [bt L[i] (j : Int)] = sg ++ (lit (L[i]).data.toList).take (j + 1) := by
      rw [List.take_succ_eq_append_getElem (by omega), List.append_assoc, btn _ j h1]
      simp [lit]
    rw [e]
    exact ih (j + 1) (by omega) (by omega)
theorem any_l0 (L : List ByteArray) (s : ByteArray) (hL : L.length ≤ 20) (hs : s.size ≤ 300) : ∀ (n i : Nat) (sg : List Int) (rest : ByteArray) (flag : Bool), L.length - i = n → i ≤ L.length → sg.length ≤ 60 * i + 1 → rest.size ≤ 300 →
    lm (sg ++ signs ((L.drop i).map fun x => x.data.toList)) s.data.toList = (flag && got ((L.drop i).map fun x => x.data.toList) rest.data.toList) → Ev (fun k => hopperlaw09_LikeAny.l0 k L s sg rest flag (i : Int)) true := by
  intro n
  induction n with
  | zero =>
    intro i sg rest flag hn hi hsg hr h
    rw [List.drop_eq_nil_of_le (by omega)] at h
    refine Ev.step (fun k => by rw [hopperlaw09_LikeAny.l0]) ?_
    refine Ev.neg (by omega) ?_
    have e := any_l2 s sg flag hs (by omega) (by simpa [signs, got] using h) s.size 0 rfl (by omega)
    exact e
  | succ n ih =>
    intro i sg rest flag hn hi hsg hr h
    have hil : i < L.length := by omega
    have er : rdOf ByteArray.empty L (i : Int) = L[i] := by simp [rdOf, List.getD, hil]
    have hdx : (L[i]).data.toList.length = (L[i]).size := by simp
    rw [List.drop_eq_getElem_cons hil, List.map_cons, signs, got] at h
    refine Ev.step (fun k => by rw [hopperlaw09_LikeAny.l0]) ?_
    refine Ev.pos (by omega) ?_
    refine Ev.pos (by omega) ?_
    rw [er]
    by_cases c : ((L[i]).size : Int) > 50
    · refine Ev.pos c ?_
      exact Ev.val rfl
    · refine Ev.neg c ?_
      have ll : (lit (L[i]).data.toList).length = (L[i]).size := by unfold lit; rw [List.length_map, hdx]
      have es : sg ++ lit (L[i]).data.toList ++ [257] ++ signs ((L.drop (i + 1)).map fun x => x.data.toList) = sg ++ (lit (L[i]).data.toList ++ 257 :: signs ((L.drop (i + 1)).map fun x => x.data.toList)) := by simp
      have hlen : (sg ++ lit (L[i]).data.toList ++ [257]).length ≤ 60 * (i + 1) + 1 := by simp only [List.length_append, List.length_singleton]; omega
      have step := any_l1 L s rest flag true i hil hL (by omega) hr sg (by omega)
        (fun hc => ih (i + 1) _ rest false (by omega) (by omega) hlen hr (by rw [es, h, if_pos hc]; simp))
        (fun rest2 hc hrest hsz => ih (i + 1) _ rest2 flag (by omega) (by omega) hlen hsz (by rw [es, h, if_neg (by omega), hrest]))
        (L[i]).size 0 rfl (by omega)
      rw [List.take_zero, List.append_nil] at step
      exact step
theorem LikeAny : hopperlaw09_LikeAny.Pure := by
  intro l0 a1 h0 h1
  refine Ev.rounds ?_
  unfold hopperlaw09_LikeAny.f
  have bad : Ev (fun k => hopperlaw09_LikeAny.j0 k l0 a1 true) true := Ev.step (fun k => by rw [hopperlaw09_LikeAny.j0]) (Ev.pos rfl (Ev.bind awake_ev (Ev.val rfl)))
  refine Ev.bind awake_ev ?_
  refine Ev.pos rfl ?_
  by_cases c1 : (l0.length : Int) > 20
  · exact Ev.pos c1 bad
  refine Ev.neg c1 ?_
  by_cases c2 : (a1.size : Int) > 300
  · rw [decide_eq_true c2]; exact bad
  rw [decide_eq_false c2]
  refine Ev.step (fun k => by rw [hopperlaw09_LikeAny.j0]) ?_
  refine Ev.neg (by simp) ?_
  refine any_l0 l0 a1 (by omega) (by omega) l0.length 0 [257] a1 true rfl (by omega) (by simp) (by omega) ?_
  rw [List.drop_zero, Bool.true_and]
  exact any_got _ _
end Go.Proofs.Ytmddkhoibahehaa.Pure
