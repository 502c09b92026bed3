/- What is ordered has the same rows, rising by their keys; like ones as they stood; ordered twice is as once. No condition. -/
import Derived.Test.YtdojgfkcpaeacaaDoorHOrderOne
set_option linter.unusedVariables false
set_option linter.unusedSimpArgs false
namespace Go.Proofs.YtdojgfkcpaeacaaDoor.Pure
open Go.Sort Go.RowKit Go.Proofs.YtdojgfkcpaeacaaDoor.Q Go.Proofs.YtdojgfkcpaeacaaDoorW.PrintWords Go.Proofs.YtdojgfkcpaeacaaDoorW.PrintLast Go.Proofs.YtdojgfkcpaeacaaDoorW.PrintMore
theorem right_fit (keys : List S39) (a : Int) (h : (decide ((keys.length : Int) ≤ 8) && !(keys.any (keyWrong a))) = true) : keys.length ≤ 8 ∧ ∀ x ∈ keys, 0 ≤ x.f0 ∧ x.f0 < a := by
  rw [Bool.and_eq_true] at h
  obtain ⟨h1, h2⟩ := h
  have h1 := of_decide_eq_true h1
  refine ⟨by omega, fun x hx => ?_⟩
  simp only [Bool.not_eq_true', List.any_eq_false] at h2
  have := h2 x hx
  unfold keyWrong at this
  simp only [Bool.or_eq_true, decide_eq_true_eq, not_or] at this
  omega
theorem inOrder_perm (l : List (List S36)) (keys : List S39) : (inOrder l keys).Perm (List.range l.length) := List.mergeSort_perm _ _
theorem inOrder_pair (l : List (List S36)) (keys : List S39) : (inOrder l keys).Pairwise (fun x y => byPlace (ltOf (cfZ l keys)) l.length y x = false) := by
  have hT := byPlace_swo (weak l keys)
  have := List.pairwise_mergeSort (le := fun x y => !byPlace (ltOf (cfZ l keys)) l.length y x) (fun x y z h1 h2 => by
    simp only [Bool.not_eq_true'] at h1 h2 ⊢
    exact hT.ntrans z y x h2 h1) (fun x y => by
    cases h : byPlace (ltOf (cfZ l keys)) l.length y x with
    | false => simp
    | true => simp [hT.asymmA h]) (List.range l.length)
  exact this.imp fun h => by simpa using h
theorem inOrder_id (l : List (List S36)) (keys : List S39) (h : ∀ i j, i < j → j < l.length → cmpK keys (l.getD i []) (l.getD j []) ≤ 0) : inOrder l keys = List.range l.length := by
  unfold inOrder
  refine List.mergeSort_of_pairwise ?_
  rw [List.pairwise_iff_getElem]
  intro i j hi hj hij
  rw [List.length_range] at hi hj
  simp only [List.getElem_range]
  rw [byPlace_later hj hij]
  unfold ltOf cfZ
  rw [if_pos ⟨hj, hi⟩]
  have := h i j hij hj
  have t := cmpK_turn keys (l.getD i []) (l.getD j [])
  rw [decide_eq_false (by omega)]
  rfl
theorem map_range_getD (l : List (List S36)) : ((List.range l.length).map fun i => l.getD i []) = l := by
  apply List.ext_getElem
  · simp
  · intro i h1 h2
    simp only [List.getElem_map, List.getElem_range]
    rw [List.getD_eq_getElem?_getD, List.getElem?_eq_getElem h2]; rfl
def pv (i : Nat) : S36 := ⟨false, strOfNums [((i : Int)) % 256]⟩
def ext (l : List (List S36)) (i : Nat) : List S36 := l.getD i [] ++ [pv i]
def exts (l : List (List S36)) (n : Nat) : List (List S36) := (List.range n).map (ext l)
theorem pv_data (i : Nat) (h : i < 256) : (pv i).f1.data.toList = [UInt8.ofNat i] := by
  unfold pv
  rw [strOf_list]
  simp only [List.map_cons, List.map_nil]
  congr 2
  omega
theorem pv_size (i : Nat) (h : i < 256) : (pv i).f1.size = 1 := by rw [← dsz, pv_data i h]; rfl
theorem pv_bt (i : Nat) (h : i < 256) : bt (pv i).f1 0 = (i : Int) := by
  have := btn (pv i).f1 0 (by rw [pv_data i h]; exact Nat.one_pos)
  rw [show ((0 : Nat) : Int) = 0 from rfl] at this
  rw [this]
  simp only [pv_data i h, List.getElem_cons_zero]
  rw [UInt8.toNat_ofNat_of_lt' (by show i < 256; exact h)]
theorem pv_less (i j : Nat) (hj : j < 256) (h : i < j) : Op.bytesLess (pv i).f1.toList (pv j).f1.toList = true := by
  rw [tl, tl, pv_data i (by omega), pv_data j hj, less_cmp]
  refine decide_eq_true ?_
  simp only [TextPure.nums, List.map_cons, List.map_nil, TextPure.cmpZ]
  rw [UInt8.toNat_ofNat_of_lt' (by show i < 256; omega), UInt8.toNat_ofNat_of_lt' (by show j < 256; exact hj), if_pos (by omega)]
theorem exts_get (l : List (List S36)) (n i : Nat) (h : i < n) : (exts l n).getD i [] = ext l i := by
  unfold exts
  rw [List.getD_eq_getElem?_getD, List.getElem?_map, List.getElem?_range h]; rfl
theorem exts_len (l : List (List S36)) (n : Nat) : (exts l n).length = n := by unfold exts; simp
section
variable {l : List (List S36)} {keys : List S39} {a : Int}
theorem ext_len (h : Small l a) (i : Nat) (hi : i < l.length) : ((ext l i).length : Int) = a + 1 ∧ ∀ v ∈ ext l i, SmallV v := by
  obtain ⟨h1, h2⟩ := h.row _ (List.getElem_mem hi)
  have e : l.getD i [] = l[i] := by rw [List.getD_eq_getElem?_getD, List.getElem?_eq_getElem hi]; rfl
  unfold ext
  rw [e]
  refine ⟨by rw [List.length_append]; simp; omega, fun v hv => ?_⟩
  rcases List.mem_append.1 hv with hv | hv
  · exact h2 v hv
  · rw [List.mem_singleton.1 hv]
    have := h.len
    exact ⟨by rw [pv_size i (by omega)]; decide, fun h => by cases h⟩
theorem exts_rowsy (h : Rowsy l keys a) (ha : a ≤ 7) : Rowsy (exts l l.length) keys (a + 1) := by
  have hs := h.small
  have h1 := hs.a1
  refine ⟨⟨by omega, by omega, by rw [exts_len]; exact hs.len, fun r hr => ?_⟩, h.fit.1, fun x hx => ?_⟩
  · obtain ⟨i, hi, rfl⟩ := List.mem_map.1 hr
    exact ext_len hs i (List.mem_range.1 hi)
  · have := h.fit.2 x hx; omega
theorem ext_last (h : Small l a) (i : Nat) (hi : i < l.length) : ∃ m : Nat, a = (m : Int) ∧ ∃ hm : m < (ext l i).length, (ext l i)[m] = pv i := by
  have h1 := h.a1
  obtain ⟨m, hm⟩ : ∃ m : Nat, a = (m : Int) := ⟨a.toNat, by omega⟩
  have e := (ext_len h i hi).1
  refine ⟨m, hm, by omega, ?_⟩
  have e2 : (l.getD i []).length = m := by unfold ext at e; rw [List.length_append, show [pv i].length = 1 from rfl] at e; omega
  unfold ext
  rw [List.getElem_append_right (by omega)]
  simp only [e2, Nat.sub_self, List.getElem_cons_zero]
end
theorem nodup_inj {l : List Nat} (h : l.Nodup) {i j : Nat} (hi : i < l.length) (hj : j < l.length) (e : l[i] = l[j]) : i = j := by
  have a := h.idxOf_getElem i hi
  have b := h.idxOf_getElem j hj
  rw [e] at a
  omega
theorem set_mem (b : List Bool) (is : List Nat) (i n : Nat) (hb : b.length = n) (hi : i < is.length) (hn : is[i] < n) (h : ∀ j (hj : j < b.length), b[j] = true ↔ j ∈ is.take i) : ∀ j (hj : j < (b.set is[i] true).length), (b.set is[i] true)[j] = true ↔ j ∈ is.take (i + 1) := by
  intro j hj
  rw [List.take_succ_eq_append_getElem hi, List.mem_append, List.mem_singleton, List.getElem_set]
  have hj' : j < b.length := by simpa using hj
  by_cases c : is[i] = j
  · rw [if_pos c]; simp [c]
  · rw [if_neg c, h j hj']
    constructor
    · exact fun h => .inl h
    · rintro (h | h)
      · exact h
      · exact absurd h.symm c
theorem OrderStable : hopperlaw24_OrderStable.Pure := by
  intro l a keys hl ha hk
  refine Ev.rounds ?_
  unfold hopperlaw24_OrderStable.f
  have bad : Ev (fun k => hopperlaw24_OrderStable.j0 k l a keys true) true := Ev.step (fun k => by rw [hopperlaw24_OrderStable.j0]) (Ev.pos rfl (Ev.bind awake_ev (Ev.val rfl)))
  refine Ev.bind awake_ev ?_
  try dsimp only
  refine Ev.pos rfl ?_
  obtain ⟨b, hb, hS⟩ := rows_ev l a
  refine Ev.bind hb ?_
  cases b with
  | false => exact Ev.neg (by decide) bad
  | true =>
  refine Ev.pos rfl ?_
  have hS := hS rfl
  by_cases h7 : a > 7
  · exact Ev.pos h7 bad
  refine Ev.neg h7 ?_
  have hR : Ev (fun k => hopperref24_Right.f k keys a) (decide ((keys.length : Int) ≤ 8) && !(keys.any (keyWrong a))) := right_l0 keys a (Nat.le_trans hk.1 (by decide)) _ 0 rfl (Nat.zero_le _)
  refine Ev.bind hR ?_
  cases hc : (decide ((keys.length : Int) ≤ 8) && !(keys.any (keyWrong a))) with
  | false => exact bad
  | true =>
  have H : Rowsy l keys a := ⟨hS, right_fit keys a hc⟩
  have H2 : Rowsy (exts l l.length) keys (a + 1) := exts_rowsy H (by omega)
  have hn := hS.len
  have h8 := hS.a8
  refine Ev.step (fun k => by rw [hopperlaw24_OrderStable.j0]) ?_
  refine Ev.neg (by decide) ?_
  obtain ⟨is, his⟩ : ∃ is, inOrder (exts l l.length) keys = is := ⟨_, rfl⟩
  have hp : is.Perm (List.range l.length) := by rw [← his]; have := inOrder_perm (exts l l.length) keys; rw [exts_len] at this; exact this
  have hpw : is.Pairwise (fun x y => byPlace (ltOf (cfZ (exts l l.length) keys)) l.length y x = false) := by rw [← his]; have := inOrder_pair (exts l l.length) keys; rw [exts_len] at this; exact this
  have hil : is.length = l.length := by rw [hp.length_eq, List.length_range]
  have hlt : ∀ i (hi : i < is.length), is[i] < l.length := fun i hi => List.mem_range.1 (hp.mem_iff.1 (List.getElem_mem hi))
  have hnd : is.Nodup := hp.nodup_iff.mpr List.nodup_range
  obtain ⟨x, hx⟩ : ∃ x, is.map (fun i => (exts l l.length).getD i []) = x := ⟨_, rfl⟩
  have hxl : x.length = l.length := by rw [← hx, List.length_map, hil]
  have hxi : ∀ i (hi : i < x.length), x[i] = ext l (is[i]'(by omega)) := fun i hi => by
    subst hx
    rw [List.getElem_map, exts_get l l.length _ (hlt i (by omega))]
  have hord : ∀ i j (hi : i < is.length) (hj : j < is.length), i < j → cmpK keys (ext l is[i]) (ext l is[j]) ≤ 0 ∧ (cmpK keys (ext l is[i]) (ext l is[j]) = 0 → is[i] < is[j]) := fun i j hi hj hij => by
    have t := List.pairwise_iff_getElem.1 hpw i j hi hj hij
    have q1 := hlt i hi
    have q2 := hlt j hj
    have ne : is[i] ≠ is[j] := fun e => by have := nodup_inj hnd (by omega) (by omega) e; omega
    unfold byPlace at t
    rw [if_pos ⟨q2, q1⟩] at t
    unfold ltOf cfZ at t
    rw [exts_len, if_pos ⟨q2, q1⟩, if_pos ⟨q1, q2⟩, exts_get l l.length _ q1, exts_get l l.length _ q2] at t
    have u := cmpK_turn keys (ext l is[i]) (ext l is[j])
    simp only [Bool.or_eq_false_iff, decide_eq_false_iff_not, Bool.and_eq_false_iff, Bool.not_eq_false', decide_eq_true_eq] at t
    refine ⟨by omega, fun z => ?_⟩
    rcases t.2 with t2 | t2
    · omega
    · omega
  have hxg : ∀ i, i < l.length → x.getD i [] = ext l (is.getD i 0) := fun i hi => by
    rw [List.getD_eq_getElem?_getD, List.getElem?_eq_getElem (by omega), List.getD_eq_getElem?_getD, List.getElem?_eq_getElem (by omega)]
    exact hxi i (by omega)
  have Hx : Rowsy x keys (a + 1) := by
    refine ⟨⟨H2.small.a1, H2.small.a8, by rw [hxl]; exact hn, fun r hr => ?_⟩, H2.fit⟩
    rw [← hx] at hr
    obtain ⟨i, hi, rfl⟩ := List.mem_map.1 hr
    have : i < l.length := List.mem_range.1 (hp.mem_iff.1 hi)
    rw [exts_get l l.length _ this]
    exact ext_len hS i this
  have H0 : Rowsy l [] a := ⟨hS, by simp, fun x hx => by cases hx⟩
  have e1 : inOrder x keys = List.range x.length := inOrder_id x keys fun i j hij hj => by
    rw [hxl] at hj
    rw [hxg i (by omega), hxg j hj, List.getD_eq_getElem?_getD, List.getElem?_eq_getElem (by omega), List.getD_eq_getElem?_getD, List.getElem?_eq_getElem (by omega)]
    exact (hord i j (by omega) (by omega) hij).1
  have e2 : inOrder l [] = List.range l.length := inOrder_id l [] fun i j hij hj => Int.le_refl _
  have last : Ev (fun k => (order_Rows.f k x keys).bind fun t261 => ((hopperref18_Same.f k t261 x).bind fun t264 => (if t264 = true then ((order_Rows.f k l ([] : List (S39))).bind fun t265 => ((hopperref18_Same.f k t265 l).bind fun t268 => (some t268))) else (none)))) true := by
    have r1 := rows_z Hx
    have r2 := rows_z H0
    rw [e1, map_range_getD] at r1
    rw [e2, map_range_getD] at r2
    have s1 := same18_ev x (by omega) (fun r hr => by have := (Hx.small.row r hr).1; omega)
    have s2 := same18_ev l (by omega) (fun r hr => by have := (hS.row r hr).1; omega)
    refine Ev.bind r1 ?_
    try dsimp only
    refine Ev.bind s1 ?_
    try dsimp only
    refine Ev.pos rfl ?_
    refine Ev.bind r2 ?_
    try dsimp only
    refine Ev.bind s2 ?_
    try dsimp only
    exact Ev.val rfl
  have loop1 : ∀ (d i : Nat) (bs : List Bool), l.length - i = d → bs.length = l.length → (∀ j (hj : j < bs.length), bs[j] = true ↔ j ∈ is.take i) → Ev (fun k => hopperlaw24_OrderStable.l1 k l a keys (exts l l.length) x bs (i : Int)) true := by
    intro d
    induction d with
    | zero =>
      intro i bs hd hbl hbs
      refine Ev.step (fun k => by rw [hopperlaw24_OrderStable.l1]) ?_
      exact Ev.neg (by omega) last
    | succ d ih =>
      intro i bs hd hbl hbs
      have hi : i < l.length := by omega
      have hii : i < is.length := by omega
      have hk1 := hlt i hii
      obtain ⟨m, hm, hml, hmp⟩ := ext_last hS is[i] hk1
      have hrx := rdL x i (by omega)
      rw [hxi i (by omega)] at hrx
      have hbt := pv_bt is[i] (by omega)
      have hsz := pv_size is[i] (by omega)
      have nx := ih (i + 1) (bs.set is[i] true) (by omega) (by rw [List.length_set]; exact hbl) (set_mem bs is i _ rfl hii (by omega) hbs)
      rw [← w64s hi (by omega)] at nx
      have hw : Unit → wrap64 (bt (pv is[i]).f1 0) = (is[i] : Int) := fun _ => by rw [wbt, hbt]
      have hw1 : Unit → wrap64 ((is[i] : Int) + 1) = ((is[i] + 1 : Nat) : Int) := fun _ => w64s hk1 (by omega)
      have hseen : rdOf false bs (is[i] : Int) = false := by
        rw [rdOfn false bs is[i] (by omega)]
        cases hb2 : bs[is[i]] with
        | false => rfl
        | true =>
          have := (hbs is[i] (by omega)).1 hb2
          obtain ⟨q, hq, e⟩ := List.getElem_of_mem this
          rw [List.length_take] at hq
          rw [List.getElem_take] at e
          have := nodup_inj hnd (by omega) (by omega) e
          omega
      have hcut : ((exts l l.length).take (is[i] + 1)).drop is[i] = [ext l is[i]] := by
        have hlen : is[i] < (exts l l.length).length := by rw [exts_len]; exact hk1
        rw [List.take_succ_eq_append_getElem hlen, List.drop_append_of_le_length (by rw [List.length_take]; omega), List.drop_of_length_le (by rw [List.length_take]; omega), List.nil_append]
        have := exts_get l l.length is[i] hk1
        rw [List.getD_eq_getElem?_getD, List.getElem?_eq_getElem hlen] at this
        rw [show (exts l l.length)[is[i]] = ext l is[i] from this]
      refine Ev.step (fun k => by rw [hopperlaw24_OrderStable.l1]) ?_
      rw [hm] at nx
      rw [hrx, hm, rd36 _ m hml, hmp, hw (), hw1 ()]
      rw [show ((is[i] + 1 : Nat) : Int).toNat = is[i] + 1 from Int.toNat_natCast _, show ((is[i] : Nat) : Int).toNat = is[i] from Int.toNat_natCast _, hcut]
      refine Ev.pos (by omega) ?_
      refine Ev.pos (by omega) ?_
      refine Ev.pos (by omega) ?_
      refine Ev.pos (by omega) ?_
      refine Ev.pos (by omega) ?_
      refine Ev.neg (by rw [exts_len]; omega) ?_
      refine Ev.pos (by omega) ?_
      refine Ev.pos (by omega) ?_
      refine Ev.neg (by rw [hseen]; decide) ?_
      refine Ev.pos (by omega) ?_
      refine Ev.pos (by rw [exts_len]; omega) ?_
      refine Ev.bind (same18_ev [ext l is[i]] (by simp) (fun r hr => by
        rw [List.mem_singleton.1 hr]
        have := (ext_len hS is[i] hk1).1
        omega)) ?_
      refine Ev.step (fun k => by rw [hopperlaw24_OrderStable.j3]) ?_
      refine Ev.neg (by decide) ?_
      refine Ev.pos (by omega) ?_
      refine Ev.pos (by omega) ?_
      simp only [Option.bind_some, Int.toNat_natCast]
      by_cases c0 : i = 0
      · subst c0
        exact Ev.pos rfl nx
      · refine Ev.neg (by omega) ?_
        have hwp : Unit → wrap64 ((i : Int) - 1) = ((i - 1 : Nat) : Int) := fun _ => w64p (k := i) (by omega) (by omega)
        have hrp := rdL x (i - 1) (by omega)
        rw [hxi (i - 1) (by omega)] at hrp
        obtain ⟨m', hm', hml', hmp'⟩ := ext_last hS (is[i - 1]'(by omega)) (hlt (i - 1) (by omega))
        obtain rfl : m = m' := by omega
        obtain ⟨o1, o2⟩ := hord (i - 1) i (by omega) hii (by omega)
        have hcmp : Ev (fun k => order_Compare.f k (ext l (is[i - 1]'(by omega))) (ext l is[i]) keys) (cmpK keys (ext l (is[i - 1]'(by omega))) (ext l is[i])) := by
          have := (H2.cmp (is[i - 1]'(by omega)) is[i] (by rw [exts_len]; exact hlt (i - 1) (by omega)) (by rw [exts_len]; exact hk1)).1
          rw [exts_get l l.length _ (hlt (i - 1) (by omega)), exts_get l l.length _ hk1] at this
          exact this
        rw [hwp (), hrp, hrx, hm, rd36 _ m hml, hmp, rd36 _ m hml', hmp']
        refine Ev.pos (by omega) ?_
        refine Ev.pos (by omega) ?_
        refine Ev.pos (by omega) ?_
        refine Ev.pos (by omega) ?_
        refine Ev.bind hcmp ?_
        try dsimp only
        refine Ev.neg (by omega) ?_
        by_cases cz : cmpK keys (ext l (is[i - 1]'(by omega))) (ext l is[i]) = 0
        · refine Ev.pos cz ?_
          refine Ev.pos (by omega) ?_
          refine Ev.pos (by omega) ?_
          refine Ev.pos (by omega) ?_
          refine Ev.pos ?_ nx
          exact pv_less _ _ (by omega) (o2 cz)
        · exact Ev.neg cz nx
  have loop0 : ∀ (d i : Nat), l.length - i = d → i ≤ l.length → Ev (fun k => hopperlaw24_OrderStable.l0 k l a keys (exts l i) (i : Int)) true := by
    intro d
    induction d with
    | zero =>
      intro i hd hi
      obtain rfl : i = l.length := by omega
      refine Ev.step (fun k => by rw [hopperlaw24_OrderStable.l0]) ?_
      refine Ev.neg (by omega) ?_
      have r := rows_z H2
      rw [his, hx] at r
      refine Ev.bind r ?_
      try dsimp only
      refine Ev.pos (by rw [exts_len, hxl]) ?_
      refine Ev.pos (by omega) ?_
      refine Ev.pos (by rw [exts_len]; omega) ?_
      rw [exts_len, Int.toNat_natCast]
      exact loop1 _ 0 _ rfl (by simp) (fun j hj => by simp)
    | succ d ih =>
      intro i hd hi
      have hlt : i < l.length := by omega
      have nx := ih (i + 1) (by omega) (by omega)
      rw [← w64s hlt (by omega)] at nx
      have hre := rdL l i hlt
      have hrow := (hS.row _ (List.getElem_mem hlt)).1
      have e : exts l (i + 1) = exts l i ++ [l[i] ++ [pv i]] := by
        unfold exts
        rw [List.range_succ, List.map_append, List.map_singleton]
        unfold ext
        rw [List.getD_eq_getElem?_getD, List.getElem?_eq_getElem hlt]
        rfl
      rw [e] at nx
      refine Ev.step (fun k => by rw [hopperlaw24_OrderStable.l0]) ?_
      refine Ev.pos (by omega) ?_
      rw [hre]
      simp only [Option.bind_some, List.nil_append]
      have hel := exts_len l i
      refine Ev.pos (by omega) ?_
      refine Ev.pos (by simp; omega) ?_
      refine Ev.pos (by simp; omega) ?_
      exact Ev.pos (by simp; omega) nx
  exact loop0 _ 0 rfl (Nat.zero_le _)
end Go.Proofs.YtdojgfkcpaeacaaDoor.Pure
