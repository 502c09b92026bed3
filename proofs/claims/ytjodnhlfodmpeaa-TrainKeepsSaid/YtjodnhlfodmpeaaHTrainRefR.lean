/- The reference's round: names and counts, the best one by one: the same table. -/
import Derived.Test.YtjodnhlfodmpeaaHTrainRnd
import Derived.Test.YtjodnhlfodmpeaaHTrainRefO
set_option linter.unusedVariables false
set_option linter.unusedSimpArgs false
set_option maxHeartbeats 2000000
namespace Go.Proofs.Ytjodnhlfodmpeaa.Pure
open Go.RowKit Go.Proofs.Ytjodnhlfodmpeaa.Q Go.Proofs.YtjodnhlfodmpeaaW.PrintWords Go.Proofs.YtjodnhlfodmpeaaW.PrintLast Go.Proofs.YtjodnhlfodmpeaaW.PrintMore
open HopPure (bl cmpL Rising Table IsLongest lon lon_of lon_le8 stp stp_pos stp_le stp_le8 piecesL piecesL_nil piecesL_cons cutL_size cutL_len spellP countL countL_cons countL_size countL_len)

/-- Names, each once, and how often each is counted. -/
structure Cnt (names : List ByteArray) (counts : List Int) (M : List (List UInt8)) : Prop where
  len : counts.length = names.length
  small : names.length ≤ M.length
  nodup : (TL names).Nodup
  mem : ∀ x, x ∈ TL names ↔ x ∈ M
  cnt : ∀ (i : Nat) (h : i < names.length), rd counts (i : Int) = ((M.count (names[i]).data.toList : Nat) : Int)
theorem cnt_eq {names : List ByteArray} {counts : List Int} {M N : List (List UInt8)} (h : Cnt names counts M) (e : M = N) : Cnt names counts N := e ▸ h
theorem Cnt.start : Cnt [] [] [] := ⟨rfl, Nat.le_refl _, by simp [TL], fun x => by simp [TL], fun i h => by simp at h⟩
theorem mem_TL {l : List ByteArray} {i : Nat} (h : i < l.length) : (l[i]).data.toList ∈ TL l := List.mem_map.2 ⟨l[i], List.getElem_mem h, rfl⟩
theorem rd_set_same (l : List Int) (i : Nat) (v : Int) (h : i < l.length) : rd (l.set i v) (i : Int) = v := by
  rw [rdn _ i (by simpa using h)]; simp
theorem rd_set_other (l : List Int) (i j : Nat) (v : Int) (h : j < l.length) (hne : i ≠ j) : rd (l.set i v) (j : Int) = rd l (j : Int) := by
  rw [rdn _ j (by simpa using h), rdn _ j h]; simp [hne]
theorem Cnt.hit {names : List ByteArray} {counts : List Int} {M : List (List UInt8)} (h : Cnt names counts M) (hM : M.length ≤ 1000000) (i : Nat) (hi : i < names.length) : Cnt names (counts.set i (wrap64 (rd counts (i : Int) + 1))) (M ++ [(names[i]).data.toList]) := by
  refine ⟨by rw [List.length_set]; exact h.len, by rw [List.length_append]; exact Nat.le_trans h.small (Nat.le_add_right _ _), h.nodup, fun x => ?_, fun j hj => ?_⟩
  · rw [List.mem_append, h.mem x, List.mem_singleton]
    refine ⟨.inl, fun h2 => h2.elim id fun e => ?_⟩
    subst e
    exact (h.mem _).1 (mem_TL hi)
  · rw [List.count_append]
    by_cases e : i = j
    · subst e
      rw [rd_set_same _ _ _ (by rw [h.len]; exact hi), h.cnt i hi, List.count_cons_self]
      have := List.count_le_length (a := (names[i]).data.toList) (l := M)
      rw [w64 (by omega) (by omega)]
      simp
    · rw [rd_set_other _ _ _ _ (by rw [h.len]; exact hj) e, h.cnt j hj, List.count_cons_of_ne]
      · simp
      · intro e2
        refine e ?_
        have h3 := h.nodup
        rw [List.nodup_iff_pairwise_ne, List.pairwise_iff_getElem] at h3
        rcases Nat.lt_trichotomy i j with h4 | h4 | h4
        · exact absurd (by rw [TL_get names i hi, TL_get names j hj]; exact e2) (h3 i j (by rw [TL_length]; exact hi) (by rw [TL_length]; exact hj) h4)
        · exact h4
        · exact absurd (by rw [TL_get names i hi, TL_get names j hj]; exact e2.symm) (h3 j i (by rw [TL_length]; exact hj) (by rw [TL_length]; exact hi) h4)
theorem Cnt.new {names : List ByteArray} {counts : List Int} {M : List (List UInt8)} (h : Cnt names counts M) (s : ByteArray) (hs : s.data.toList ∉ TL names) : Cnt (names ++ [s]) (counts ++ [1]) (M ++ [s.data.toList]) := by
  have hsM : s.data.toList ∉ M := fun h2 => hs ((h.mem _).2 h2)
  refine ⟨by simp [h.len], by simp [h.small], ?_, fun x => ?_, fun j hj => ?_⟩
  · rw [TL_append]
    refine List.nodup_append.2 ⟨h.nodup, by simp [TL], fun a ha b hb e => ?_⟩
    have : b = s.data.toList := by simpa [TL] using hb
    subst this
    exact hs (e ▸ ha)
  · rw [TL_append, List.mem_append, List.mem_append, h.mem x]; simp [TL]
  · rw [List.count_append]
    have hj2 : j < names.length + 1 := by simpa using hj
    by_cases e : j = names.length
    · subst e
      rw [rdn _ _ (by simp [h.len])]
      have e1 : (names ++ [s])[names.length]'hj = s := by simp
      rw [e1, List.count_cons_self, List.count_eq_zero.2 hsM]
      simp [← h.len]
    · have hj3 : j < names.length := by omega
      rw [rdn _ _ (by simp [h.len]; omega), List.getElem_append_left (by rw [h.len]; exact hj3), ← rdn counts j (by rw [h.len]; exact hj3), h.cnt j hj3, List.getElem_append_left hj3, List.count_cons_of_ne]
      · simp
      · intro e2
        exact hs (e2 ▸ mem_TL hj3)
theorem add_l0 {names : List ByteArray} {counts : List Int} {M : List (List UInt8)} (h : Cnt names counts M) (hM : M.length ≤ 1000000) (s : ByteArray) : ∀ (n i : Nat), names.length - i = n → i ≤ names.length → (∀ (j : Nat) (hj : j < names.length), j < i → (names[j]).data.toList ≠ s.data.toList) →
    ∃ names' counts', Ev (fun k => hopperref12_add.l0 k names counts s (i : Int)) (names', counts') ∧ Cnt names' counts' (M ++ [s.data.toList]) := by
  have hs := h.small
  have hl := h.len
  intro n
  induction n with
  | zero =>
    intro i hn hi hx
    refine ⟨names ++ [s], counts ++ [1], Ev.step (fun k => by rw [hopperref12_add.l0]) (Ev.neg (by omega) (Ev.pos (by omega) (Ev.pos (by omega) (Ev.val rfl)))), h.new s fun hm => ?_⟩
    obtain ⟨j, hj, e⟩ := List.getElem_of_mem hm
    have hj2 : j < names.length := by rw [TL_length] at hj; exact hj
    rw [TL_get names j hj2] at e
    exact hx j hj2 (by omega) e
  | succ n ih =>
    intro i hn hi hx
    have hil : i < names.length := by omega
    by_cases c : (names[i]).data.toList = s.data.toList
    · refine ⟨names, counts.set i (wrap64 (rd counts (i : Int) + 1)), Ev.step (fun k => by rw [hopperref12_add.l0]) (Ev.pos (by omega) (Ev.pos (by omega) ?_)), c ▸ h.hit hM i hil⟩
      rw [rdOfn _ names i hil]
      exact Ev.pos (by rw [tl, tl]; exact c) (Ev.pos (by omega) (Ev.val (by rw [Int.toNat_natCast])))
    · obtain ⟨n', c', h1, h2⟩ := ih (i + 1) (by omega) (by omega) (fun j hj hji => by
        by_cases e : j = i
        · subst e; exact c
        · exact hx j hj (by omega))
      refine ⟨n', c', Ev.step (fun k => by rw [hopperref12_add.l0]) (Ev.pos (by omega) (Ev.pos (by omega) ?_)), h2⟩
      rw [rdOfn _ names i hil, w64s (n := names.length) hil (by omega)]
      exact Ev.neg (by rw [tl, tl]; exact c) h1
theorem add_ev {names : List ByteArray} {counts : List Int} {M : List (List UInt8)} (h : Cnt names counts M) (hM : M.length ≤ 1000000) (s : ByteArray) : ∃ names' counts', Ev (fun k => hopperref12_add.f k names counts s) (names', counts') ∧ Cnt names' counts' (M ++ [s.data.toList]) :=
  add_l0 h hM s _ 0 rfl (by omega) (fun j _ h => by omega)
/-! ### the walk through a string -/
theorem str_l1 (t : List ByteArray) (ht : Table (TL t)) (ss : List ByteArray) (x7 : Int) : ∀ (n : Nat) (rest last : ByteArray) (names : List ByteArray) (counts : List Int) (M : List (List UInt8)), rest.size = n → Cnt names counts M → M.length + 2 * n ≤ 1000000 → last.size ≤ 8 →
    ∃ names' counts', Cnt names' counts' (M ++ spellP (piecesL (TL t) rest.data.toList) last.data.toList (decide (last.data.toList ≠ []))) ∧ ∀ r, Ev (fun k => hopperref12_Round.l0 k t ss names' counts' (wrap64 (x7 + 1))) r → Ev (fun k => hopperref12_Round.l1 k t ss names counts x7 rest last) r := by
  intro n
  induction n using Nat.strongRecOn with
  | _ n ih =>
  intro rest last names counts M hn h hM h8
  have hd := dsz rest
  by_cases c : rest.size = 0
  · refine ⟨names, counts, ?_, fun r hr => Ev.step (fun k => by rw [hopperref12_Round.l1]) (Ev.neg (by omega) hr)⟩
    rw [List.eq_nil_of_length_eq_zero (hd.trans c), piecesL_nil]
    simpa [spellP] using h
  · have hne : rest.data.toList ≠ [] := fun e => c (by rw [← hd, e]; rfl)
    obtain ⟨cd, m, h1, h2⟩ := rlongest_ev t rest ht
    obtain rfl := lon_of h2
    have h3 := stp_le (T := TL t) hne
    have h4 := stp_pos (TL t) rest.data.toList
    have h5 := stp_le8 (table8 ht) rest.data.toList
    rw [hd] at h3
    have hs : (rest.extract (stp (TL t) rest.data.toList) rest.size).size = rest.size - stp (TL t) rest.data.toList := by rw [← dsz, cut_from, List.length_drop, hd]
    have hp : (rest.extract 0 (stp (TL t) rest.data.toList)).size = stp (TL t) rest.data.toList := by rw [← dsz, cut_to, List.length_take, hd]; omega
    have enter : ∀ r, Ev (fun k => hopperref12_Round.j2 k t ss names counts x7 rest last ((stp (TL t) rest.data.toList : Nat) : Int)) r → Ev (fun k => hopperref12_Round.l1 k t ss names counts x7 rest last) r := by
      intro r hr
      refine Ev.step (fun k => by rw [hopperref12_Round.l1]) (Ev.pos (by omega) (Ev.bind h1 ?_))
      dsimp only
      by_cases c0 : lon (TL t) rest.data.toList = 0
      · refine Ev.pos (by omega) ?_
        have : stp (TL t) rest.data.toList = 1 := by unfold stp; omega
        rw [this] at hr
        exact hr
      · refine Ev.neg (by omega) ?_
        have : stp (TL t) rest.data.toList = lon (TL t) rest.data.toList := by unfold stp; omega
        rw [this] at hr
        exact hr
    have hrest : piecesL (TL t) rest.data.toList = (rest.extract 0 (stp (TL t) rest.data.toList)).data.toList :: piecesL (TL t) (rest.extract (stp (TL t) rest.data.toList) rest.size).data.toList := by
      rw [cut_to, cut_from]; exact piecesL_cons (TL t) hne
    generalize hq : stp (TL t) rest.data.toList = q at *
    have step : ∀ (nx : List ByteArray) (cx : List Int) r, Ev (fun k => hopperref12_Round.l1 k t ss nx cx x7 (rest.extract q rest.size) (rest.extract 0 q)) r → Ev (fun k => hopperref12_Round.l1 k t ss nx cx x7 (rest.extract ((q : Nat) : Int).toNat rest.size) (rest.extract 0 ((q : Nat) : Int).toNat)) r := fun nx cx r hr => by rw [Int.toNat_natCast]; exact hr
    generalize hpe : rest.extract 0 q = p at *
    generalize hre : rest.extract q rest.size = rest2 at *
    have hpl := dsz p
    have hll := dsz last
    have hpne : p.data.toList ≠ [] := fun e => by rw [e] at hpl; simp at hpl; omega
    obtain ⟨n1, c1, a1, b1⟩ := add_ev h (by omega) p
    have enter2 : ∀ r, Ev (fun k => if last.toList = ([] : List UInt8) then (hopperref12_Round.l1 k t ss n1 c1 x7 rest2 p) else (if (wrap64 ((last.size : Int) + (q : Int))) ≤ 8 then (if last.size + p.size ≤ 9223372036854775807 then ((hopperref12_add.f k n1 c1 (last ++ p)).bind fun bt181 => (hopperref12_Round.l1 k t ss bt181.1 bt181.2 x7 rest2 p)) else (none)) else (hopperref12_Round.l1 k t ss n1 c1 x7 rest2 p))) r → Ev (fun k => hopperref12_Round.l1 k t ss names counts x7 rest last) r := by
      intro r hr
      refine enter r (Ev.step (fun k => by rw [hopperref12_Round.j2]) (Ev.pos (by omega) (Ev.pos (by omega) ?_)))
      rw [Int.toNat_natCast, hpe, hre]
      exact Ev.bind a1 hr
    have hw : wrap64 ((last.size : Int) + (q : Int)) = ((last.size + q : Nat) : Int) := by rw [w64 (by omega) (by omega)]; omega
    rw [hw] at enter2
    clear hw step enter
    by_cases cl : last.data.toList = []
    · obtain ⟨n2, c2, b2, k2⟩ := ih (n - q) (by omega) rest2 p n1 c1 _ (by omega) b1 (by rw [List.length_append]; simp; omega) (by omega)
      refine ⟨n2, c2, ?_, fun r hr => enter2 r (Ev.pos (by rw [tl]; exact cl) (k2 r hr))⟩
      rw [decide_eq_true hpne] at b2
      rw [hrest, cl]
      simpa [spellP, List.append_assoc] using b2
    · by_cases c8 : last.size + q ≤ 8
      · obtain ⟨n2, c2, a2, b2⟩ := add_ev b1 (by rw [List.length_append]; simp; omega) (last ++ p)
        obtain ⟨n3, c3, b3, k3⟩ := ih (n - q) (by omega) rest2 p n2 c2 _ (by omega) b2 (by rw [List.length_append, List.length_append]; simp; omega) (by omega)
        refine ⟨n3, c3, ?_, fun r hr => enter2 r (Ev.neg (by rw [tl]; exact cl) (Ev.pos (by omega) (Ev.pos (by omega) (Ev.bind a2 (k3 r hr)))))⟩
        rw [decide_eq_true hpne] at b3
        have hc : decide (last.data.toList ≠ []) = true ∧ last.data.toList.length + p.data.toList.length ≤ 8 := ⟨decide_eq_true cl, by omega⟩
        have e3 : spellP (p.data.toList :: piecesL (TL t) rest2.data.toList) last.data.toList (decide (last.data.toList ≠ [])) = p.data.toList :: (last.data.toList ++ p.data.toList) :: spellP (piecesL (TL t) rest2.data.toList) p.data.toList true := by rw [spellP, if_pos hc]
        rw [ba_append_list] at b3
        rw [hrest, e3]
        exact cnt_eq b3 (by rw [List.append_assoc, List.append_assoc]; rfl)
      · obtain ⟨n2, c2, b2, k2⟩ := ih (n - q) (by omega) rest2 p n1 c1 _ (by omega) b1 (by rw [List.length_append]; simp; omega) (by omega)
        refine ⟨n2, c2, ?_, fun r hr => enter2 r (Ev.neg (by rw [tl]; exact cl) (Ev.neg (by omega) (k2 r hr)))⟩
        rw [decide_eq_true hpne] at b2
        have hc : ¬ (decide (last.data.toList ≠ []) = true ∧ last.data.toList.length + p.data.toList.length ≤ 8) := fun x => c8 (by have := x.2; omega)
        have e3 : spellP (p.data.toList :: piecesL (TL t) rest2.data.toList) last.data.toList (decide (last.data.toList ≠ [])) = p.data.toList :: spellP (piecesL (TL t) rest2.data.toList) p.data.toList true := by rw [spellP, if_neg hc]
        rw [hrest, e3]
        exact cnt_eq b2 (by rw [List.append_assoc]; rfl)
theorem all_l0 (t : List ByteArray) (ht : Table (TL t)) (ss : List ByteArray) (hss : ss.length ≤ 1000000) : ∀ (n i : Nat) (names : List ByteArray) (counts : List Int) (M : List (List UInt8)), ss.length - i = n → i ≤ ss.length → Cnt names counts M → M.length + 2 * bytesN (ss.drop i) ≤ 1000000 →
    ∃ names' counts', Cnt names' counts' (M ++ countL (TL t) (TL (ss.drop i))) ∧ ∀ r, Ev (fun k => hopperref12_Round.l2 k names' counts' ([] : List ByteArray) (List.replicate names'.length false)) r → Ev (fun k => hopperref12_Round.l0 k t ss names counts (i : Int)) r := by
  intro n
  induction n with
  | zero =>
    intro i names counts M hn hi h hM
    have hs := h.small
    refine ⟨names, counts, by rw [List.drop_eq_nil_of_le (by omega)]; simpa [TL, countL] using h, fun r hr => Ev.step (fun k => by rw [hopperref12_Round.l0]) (Ev.neg (by omega) (Ev.pos (by omega) (Ev.pos (by omega) ?_)))⟩
    rw [Int.toNat_natCast]
    exact hr
  | succ n ih =>
    intro i names counts M hn hi h hM
    have hil : i < ss.length := by omega
    rw [drop_at ss i hil, bytesN_cons] at hM
    obtain ⟨n1, c1, b1, k1⟩ := str_l1 t ht ss (i : Int) _ (ss[i]) ⟨#[]⟩ names counts M rfl h (by omega) (by simp [ByteArray.size])
    have e0 : (decide ((⟨#[]⟩ : ByteArray).data.toList ≠ [])) = false := rfl
    rw [e0] at b1
    have hl : (spellP (piecesL (TL t) (ss[i]).data.toList) (⟨#[]⟩ : ByteArray).data.toList false).length ≤ 2 * (ss[i]).size := by
      have h1 := HopPure.spellP_len (piecesL (TL t) (ss[i]).data.toList) (⟨#[]⟩ : ByteArray).data.toList false
      have h2 := cutL_len (TL t) (ss[i]).data.toList.length (ss[i]).data.toList
      have h3 := dsz ss[i]
      unfold piecesL at *
      omega
    obtain ⟨n2, c2, b2, k2⟩ := ih (i + 1) n1 c1 _ (by omega) (by omega) b1 (by rw [List.length_append]; omega)
    refine ⟨n2, c2, ?_, fun r hr => Ev.step (fun k => by rw [hopperref12_Round.l0]) (Ev.pos (by omega) (Ev.pos (by omega) ?_))⟩
    · rw [drop_at ss i hil, show TL (ss[i] :: ss.drop (i + 1)) = (ss[i]).data.toList :: TL (ss.drop (i + 1)) from rfl, countL_cons, ← List.append_assoc]
      exact b2
    · rw [rdOfn _ ss i hil]
      refine k1 r ?_
      rw [w64s (n := ss.length) hil (by omega)]
      exact k2 r hr
/-! ### the best one by one -/
/-- What of the names is taken: the first m of them in their order. -/
structure Taken (names : List ByteArray) (M : List (List UInt8)) (used : List Bool) (m : Nat) : Prop where
  len : used.length = names.length
  iff : ∀ (i : Nat) (h : i < names.length), rdOf false used (i : Int) = true ↔ (names[i]).data.toList ∈ (topL M).take m
/-- The best of the first i names that are not taken. -/
def BestOf (names : List ByteArray) (M : List (List UInt8)) (m i : Nat) (q : Int) : Prop :=
  (q = -1 ∧ ∀ (j : Nat) (h : j < names.length), j < i → (names[j]).data.toList ∈ (topL M).take m) ∨
  ∃ (p : Nat) (h : p < names.length), q = (p : Int) ∧ (names[p]).data.toList ∉ (topL M).take m ∧ ∀ (j : Nat) (h2 : j < names.length), j < i → (names[j]).data.toList ∉ (topL M).take m → ¬ cfL M (names[j]).data.toList (names[p]).data.toList < 0
theorem not_take {M : List (List UInt8)} {m : Nat} (h : m < (topL M).length) : (topL M)[m] ∉ (topL M).take m := by
  intro hm
  obtain ⟨j, hj, e⟩ := List.getElem_of_mem hm
  rw [List.getElem_take] at e
  have hj2 : j < m := by rw [List.length_take] at hj; omega
  have hn := topL_nodup M
  rw [List.nodup_iff_pairwise_ne, List.pairwise_iff_getElem] at hn
  exact hn j m (by omega) h hj2 e
theorem best_at {names : List ByteArray} {counts : List Int} {M : List (List UInt8)} (h : Cnt names counts M) {m : Nat} {p : Nat} (hp : p < names.length) (hu : (names[p]).data.toList ∉ (topL M).take m)
    (hb : ∀ (j : Nat) (h2 : j < names.length), (names[j]).data.toList ∉ (topL M).take m → ¬ cfL M (names[j]).data.toList (names[p]).data.toList < 0) : ∃ hm : m < (topL M).length, (topL M)[m] = (names[p]).data.toList := by
  have hx : (names[p]).data.toList ∈ topL M := (topL_mem M _).2 ((h.mem _).1 (mem_TL hp))
  have hd : (names[p]).data.toList ∈ (topL M).drop m := by
    have := List.take_append_drop m (topL M)
    rw [← this] at hx
    rcases List.mem_append.1 hx with h1 | h1
    · exact absurd h1 hu
    · exact h1
  have hm : m < (topL M).length := by
    rcases Nat.lt_or_ge m (topL M).length with h1 | h1
    · exact h1
    · rw [List.drop_eq_nil_of_le h1] at hd; simp at hd
  refine ⟨hm, ?_⟩
  have hy : (topL M)[m] ∈ TL names := (h.mem _).2 ((topL_mem M _).1 (List.getElem_mem hm))
  obtain ⟨j, hj, e⟩ := List.getElem_of_mem hy
  have hj2 : j < names.length := by rw [TL_length] at hj; exact hj
  rw [TL_get names j hj2] at e
  have h1 := hb j hj2 (by rw [e]; exact not_take hm)
  rw [e] at h1
  have h2 : leG M (topL M)[m] (names[p]).data.toList = true := by
    rw [drop_at _ m hm] at hd
    rcases List.mem_cons.1 hd with h3 | h3
    · rw [← h3]
      have := leG_total M (names[p]).data.toList (names[p]).data.toList
      simpa using this
    · obtain ⟨q, hq, e2⟩ := List.getElem_of_mem h3
      rw [List.getElem_drop] at e2
      rw [← e2]
      rw [List.length_drop] at hq
      exact List.pairwise_iff_getElem.1 (topL_sorted M) m (m + 1 + q) hm (by omega) (by omega)
  refine leG_anti M _ _ h2 ?_
  unfold leG
  rw [decide_eq_false h1]; rfl
theorem pick_l3 {names : List ByteArray} {counts : List Int} {M : List (List UInt8)} (h : Cnt names counts M) (hM : M.length ≤ 1000000) (h8 : ∀ x ∈ M, x.length ≤ 8) (m : Nat) (used : List Bool) (hu : Taken names M used m) (best : List ByteArray) (r : List ByteArray)
    (fin : ∀ q, BestOf names M m names.length q → Ev (fun k => if q < 0 then ((hopperref10_Order.f k best).bind fun t193 => (some t193)) else (if 0 ≤ q then (if q < (used.length : Int) then (if q < (names.length : Int) then (if best.length < 8796093022208 then (hopperref12_Round.l2 k names counts (best ++ [rdOf ByteArray.empty names q]) (used.set (q : Int).toNat true)) else (none)) else (none)) else (none)) else (none))) r) :
    ∀ (n i : Nat) (q : Int), names.length - i = n → i ≤ names.length → BestOf names M m i q → Ev (fun k => hopperref12_Round.l3 k names counts best used q (i : Int)) r := by
  have hsm := h.small
  have hl := h.len
  have hul := hu.len
  intro n
  induction n with
  | zero =>
    intro i q hn hi hb
    have e : i = names.length := by omega
    subst e
    exact Ev.step (fun k => by rw [hopperref12_Round.l3]) (Ev.neg (by omega) (fin q hb))
  | succ n ih =>
    intro i q hn hi hb
    have hil : i < names.length := by omega
    have size8 : ∀ (j : Nat) (hj : j < names.length), (names[j]).size ≤ 8 := fun j hj => by rw [← dsz]; exact h8 _ ((h.mem _).1 (mem_TL hj))
    have nx : ∀ q, BestOf names M m (i + 1) q → Ev (fun k => hopperref12_Round.l3 k names counts best used q (wrap64 ((i : Int) + 1))) r := fun q hb => by
      rw [w64s (n := names.length) hil (by omega)]
      exact ih (i + 1) q (by omega) (by omega) hb
    have gn : ∀ (j : Nat) (hj : j < names.length), wrap64 (rd counts (j : Int) * ((rdOf ByteArray.empty names (j : Int)).size : Int)) = gainL M (names[j]).data.toList := fun j hj => by
      rw [rdOfn _ names j hj, h.cnt j hj, ← dsz]; rfl
    refine Ev.step (fun k => by rw [hopperref12_Round.l3]) (Ev.pos (by omega) (Ev.pos (by omega) (Ev.pos (by omega) ?_)))
    by_cases cu : rdOf false used (i : Int) = true
    · refine Ev.pos cu (nx q ?_)
      have hiu := (hu.iff i hil).1 cu
      rcases hb with ⟨h1, h2⟩ | ⟨p, hp, h1, h2, h3⟩
      · refine .inl ⟨h1, fun j hj hji => ?_⟩
        by_cases e : j = i
        · subst e; exact hiu
        · exact h2 j hj (by omega)
      · refine .inr ⟨p, hp, h1, h2, fun j hj hji hnj => ?_⟩
        by_cases e : j = i
        · subst e; exact absurd hiu hnj
        · exact h3 j hj (by omega) hnj
    · have hiu : (names[i]).data.toList ∉ (topL M).take m := fun x => cu ((hu.iff i hil).2 x)
      refine Ev.neg cu (Ev.pos (by omega) ?_)
      rcases hb with ⟨rfl, h2⟩ | ⟨p, hp, rfl, h2, h3⟩
      · refine Ev.pos (by omega) (nx _ (.inr ⟨i, hil, rfl, hiu, fun j hj hji hn => ?_⟩))
        by_cases e : j = i
        · subst e; rw [cfL_self]; omega
        · exact absurd (h2 j hj (by omega)) hn
      · rw [gn i hil, gn p hp, rdOfn _ names i hil, rdOfn _ names p hp]
        have take_ : cfL M (names[i]).data.toList (names[p]).data.toList < 0 → Ev (fun k => hopperref12_Round.l3 k names counts best used (i : Int) (wrap64 ((i : Int) + 1))) r := fun hc => nx _ (.inr ⟨i, hil, rfl, hiu, fun j hj hji hn => by
          by_cases e : j = i
          · subst e; rw [cfL_self]; omega
          · exact fun hc2 => h3 j hj (by omega) hn (cfL_trans M _ _ _ hc2 hc)⟩)
        have keep_ : ¬ cfL M (names[i]).data.toList (names[p]).data.toList < 0 → Ev (fun k => hopperref12_Round.l3 k names counts best used (p : Int) (wrap64 ((i : Int) + 1))) r := fun hc => nx _ (.inr ⟨p, hp, rfl, h2, fun j hj hji hn => by
          by_cases e : j = i
          · subst e; exact hc
          · exact h3 j hj (by omega) hn⟩)
        rw [cfL_neg] at take_ keep_
        refine Ev.neg (by omega) (Ev.pos (by omega) (Ev.pos (by omega) (Ev.pos (by omega) ?_)))
        by_cases c1 : gainL M (names[i]).data.toList > gainL M (names[p]).data.toList
        · exact Ev.pos c1 (take_ (.inl c1))
        · refine Ev.neg c1 ?_
          by_cases c2 : gainL M (names[i]).data.toList = gainL M (names[p]).data.toList
          · refine Ev.pos c2 (Ev.bind (compare_ev _ _ (by have := size8 i hil; unfold maxLen; omega)) ?_)
            by_cases c3 : (names[i]).data.toList < (names[p]).data.toList
            · exact Ev.pos (HopPure.cmpL_lt.2 ((bl_lt _ _).2 c3)) (take_ (.inr ⟨c2, c3⟩))
            · exact Ev.neg (fun x => c3 ((bl_lt _ _).1 (HopPure.cmpL_lt.1 x))) (keep_ (fun x => x.elim c1 fun y => c3 y.2))
          · exact Ev.neg c2 (keep_ (fun x => x.elim c1 fun y => c2 y.1))
theorem pick_l2 {names : List ByteArray} {counts : List Int} {M : List (List UInt8)} (h : Cnt names counts M) (hM : M.length ≤ 1000000) (h8 : ∀ x ∈ M, x.length ≤ 8) (r : List ByteArray) (hr : Ev (fun k => hopperref10_Order.f k (bestB M)) r) :
    ∀ (d m : Nat) (used : List Bool), 255 - m = d → m ≤ 255 → m ≤ (topL M).length → Taken names M used m → Ev (fun k => hopperref12_Round.l2 k names counts (((topL M).take m).map ofB) used) r := by
  have hsm := h.small
  have done : ∀ m, (topL M).take m = (topL M).take 255 → Ev (fun k => (hopperref10_Order.f k (((topL M).take m).map ofB)).bind fun t193 => (some t193)) r := fun m e => by
    rw [e]; exact Ev.bind hr (Ev.val rfl)
  intro d
  induction d with
  | zero =>
    intro m used hd hm hml hu
    have e : m = 255 := by omega
    subst e
    refine Ev.step (fun k => by rw [hopperref12_Round.l2]) (Ev.neg ?_ (done 255 rfl))
    rw [List.length_map, List.length_take]; omega
  | succ d ih =>
    intro m used hd hm hml hu
    have hbl : (((topL M).take m).map ofB).length = m := by rw [List.length_map, List.length_take]; omega
    refine Ev.step (fun k => by rw [hopperref12_Round.l2]) (Ev.pos (by rw [hbl]; omega) ?_)
    refine pick_l3 h hM h8 m used hu _ r (fun q hb => ?_) _ 0 (-1) rfl (by omega) (.inl ⟨rfl, fun j _ h => by omega⟩)
    rcases hb with ⟨rfl, h2⟩ | ⟨p, hp, rfl, h2, h3⟩
    · refine Ev.pos (by omega) (done m ?_)
      have hle : (topL M).length ≤ m := by
        rcases Nat.lt_or_ge m (topL M).length with h4 | h4
        · exfalso
          have hy : (topL M)[m] ∈ TL names := (h.mem _).2 ((topL_mem M _).1 (List.getElem_mem h4))
          obtain ⟨j, hj, e⟩ := List.getElem_of_mem hy
          have hj2 : j < names.length := by rw [TL_length] at hj; exact hj
          rw [TL_get names j hj2] at e
          have h5 := h2 j hj2 hj2
          rw [e] at h5
          exact not_take h4 h5
        · exact h4
      rw [List.take_of_length_le hle, List.take_of_length_le (by omega)]
    · obtain ⟨hm2, e⟩ := best_at h hp h2 (fun j hj hn => h3 j hj hj hn)
      have hul := hu.len
      refine Ev.neg (by omega) (Ev.pos (by omega) (Ev.pos (by omega) (Ev.pos (by omega) (Ev.pos (by omega) ?_))))
      rw [rdOfn _ names p hp, Int.toNat_natCast]
      have e2 : ((topL M).take m).map ofB ++ [names[p]] = ((topL M).take (m + 1)).map ofB := by
        rw [List.take_succ_eq_append_getElem hm2, List.map_append, List.map_singleton, e]
        congr 2
      rw [e2]
      refine ih (m + 1) (used.set p true) (by omega) (by omega) (by omega) ⟨by rw [List.length_set]; exact hul, fun i hi => ?_⟩
      rw [rdOfn _ _ i (by rw [List.length_set]; omega), List.take_succ_eq_append_getElem hm2, List.mem_append, List.mem_singleton]
      by_cases ei : i = p
      · subst ei
        rw [e]
        try simp
      · rw [List.getElem_set_ne (fun x => ei x.symm), ← rdOfn false used i (by omega), hu.iff i hi, e]
        refine ⟨.inl, fun x => x.elim id fun y => absurd ?_ ei⟩
        have h4 := h.nodup
        rw [List.nodup_iff_pairwise_ne, List.pairwise_iff_getElem] at h4
        rcases Nat.lt_trichotomy i p with h5 | h5 | h5
        · exact absurd (by rw [TL_get names i hi, TL_get names p hp]; exact y) (h4 i p (by rw [TL_length]; exact hi) (by rw [TL_length]; exact hp) h5)
        · exact h5
        · exact absurd (by rw [TL_get names i hi, TL_get names p hp]; exact y.symm) (h4 p i (by rw [TL_length]; exact hp) (by rw [TL_length]; exact hi) h5)
/-- The reference's order of at most 255 different symbols is ours. -/
theorem rorder_ord (l : List ByteArray) (hl : l.length ≤ 255) (hm : ∀ s ∈ l, may s) (hn : (TL l).Nodup) : Ev (fun k => hopperref10_Order.f k l) (ordS l) := by
  obtain ⟨t, ht, hmade, hall⟩ := order_ev l (by unfold maxLen; omega) (fun s hs => by have := (hm s hs).2; unfold maxLen; omega)
  have hf : l.filter mayB = l := List.filter_eq_self.2 fun s hs => (mayB_iff s).2 (hm s hs)
  have h1 := ordS_set l hl
  rw [hf] at h1
  have hmem : ∀ s, s ∈ t ↔ s ∈ l := fun s => by
    refine ⟨hmade.from_ s, fun hs => ?_⟩
    by_cases c : t.length < 255
    · exact hall c s hs (hm s hs)
    · have h2 := HopPure.nodup_all (a := TL t) (b := TL l) hmade.rising.nodup (fun x hx => by
        obtain ⟨y, hy, rfl⟩ := List.mem_map.1 hx
        exact List.mem_map.2 ⟨y, hmade.from_ y hy, rfl⟩) (by rw [TL_length, TL_length]; omega) s.data.toList (List.mem_map.2 ⟨s, hs, rfl⟩)
      obtain ⟨y, hy, e⟩ := List.mem_map.1 h2
      rw [← ba_ext e]; exact hy
  have h3 : SetOf t l := ⟨List.pairwise_iff_getElem.2 fun i j hi hj hij => by
    have := hmade.rising i j (by rw [TL_length]; exact hi) (by rw [TL_length]; exact hj) hij
    rw [TL_get t i hi, TL_get t j hj] at this
    exact (bl_lt _ _).1 this, hmem⟩
  rw [h1.uniq h3 (fun x => Iff.rfl)]
  exact ht
theorem rround_ev (t : List ByteArray) (ht : Table (TL t)) (ss : List ByteArray) (hss : ss.length ≤ 1000000) (hb : bytesN ss ≤ 100000) : Ev (fun k => hopperref12_Round.f k t ss) (roundB t ss) := by
  obtain ⟨names, counts, h1, h2⟩ := all_l0 t ht ss hss _ 0 [] [] [] rfl (by omega) Cnt.start (by simp; omega)
  rw [List.nil_append, List.drop_zero] at h1
  have hs := countL_size (table8 ht) (TL ss)
  have hl := countL_len (TL t) (TL ss)
  have hbe : Ev (fun k => hopperref10_Order.f k (bestB (countL (TL t) (TL ss)))) (roundB t ss) := by
    refine rorder_ord _ (bestB_len _) (fun s hs2 => ?_) ?_
    · obtain ⟨x, hx, rfl⟩ := List.mem_map.1 hs2
      have := hs x ((topL_mem _ x).1 (List.mem_of_mem_take hx))
      unfold may
      rw [ofB_size]; exact this
    · unfold bestB
      rw [TL_ofB]
      exact (topL_nodup _).sublist (List.take_sublist _ _)
  unfold hopperref12_Round.f
  refine h2 _ ?_
  have := pick_l2 h1 (by unfold bytesN at hb; omega) (fun x hx => (hs x hx).2) (roundB t ss) hbe 255 0 (List.replicate names.length false) rfl (by omega) (by omega) ⟨by simp, fun i hi => by rw [rdOfn _ _ i (by simpa using hi)]; simp⟩
  simpa using this
end Go.Proofs.Ytjodnhlfodmpeaa.Pure
