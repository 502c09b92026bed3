/- The plain laws of codes: encoding, decoding, counting, tables made. -/
import Derived.Test.YtpgdgofmoelgbaaHFsstEv2
set_option linter.unusedVariables false
set_option linter.unusedSimpArgs false
set_option maxHeartbeats 2000000
namespace Go.Proofs.Ytpgdgofmoelgbaa.Pure
open Go.RowKit Go.Proofs.Ytpgdgofmoelgbaa.Q Go.Proofs.YtpgdgofmoelgbaaW.PrintWords Go.Proofs.YtpgdgofmoelgbaaW.PrintLast Go.Proofs.YtpgdgofmoelgbaaW.PrintMore
open HopPure (bl cmpL Rising Table IsLongest Enc decL cntL)

theorem count_l0 (t : List ByteArray) (ht : Table (TL t)) : ∀ (n : Nat) (l : List Int) (q : Nat), l.length = n → Bytes l → q + n ≤ 1000000000 →
    Ev (fun k => fsst_Count.l0 k t l (q : Int)) ((q : Int) + cntL (TL t) l) := by
  have hfew := ht.few
  rw [TL_length] at hfew
  intro n
  induction n using Nat.strongRecOn with
  | _ n ih =>
  intro l q hn hb ha
  have eq1 : wrap64 ((q : Int) + 1) = ((q + 1 : Nat) : Int) := w64s (n := q + 1) (by omega) (by omega)
  match l, hn, hb with
  | [], _, _ => exact Ev.step (fun k => by rw [fsst_Count.l0]) (Ev.neg (by simp) (Ev.val (by rw [cntL]; simp)))
  | c :: b, hn, hb =>
    have hc := hb c (by simp)
    simp only [List.length_cons] at hn
    by_cases c1 : c = 255
    · subst c1
      match b, hn, hb with
      | [], _, _ =>
        refine Ev.step (fun k => by rw [fsst_Count.l0]) ?_
        refine Ev.pos (by simp) ?_
        refine Ev.bind (next_cut t) ?_
        refine Ev.neg (by simp) ?_
        refine Ev.val ?_
        rw [HopPure.cntL_cut]; simp
      | x :: b, hn, hb =>
        simp only [List.length_cons] at hn
        refine Ev.step (fun k => by rw [fsst_Count.l0]) ?_
        refine Ev.pos (by simp <;> omega) ?_
        refine Ev.bind (next_esc t x b) ?_
        try dsimp only
        refine Ev.pos rfl ?_
        refine Ev.pos (by simp) ?_
        refine Ev.pos (by simp <;> omega) ?_
        rw [eq1, HopPure.cntL_esc]
        exact Ev.eq (ih b.length (by omega) b (q + 1) rfl (fun y hy => hb y (by simp [hy])) (by omega)) (by omega)
    · by_cases c2 : c ≥ (t.length : Int)
      · refine Ev.step (fun k => by rw [fsst_Count.l0]) ?_
        refine Ev.pos (by simp <;> omega) ?_
        refine Ev.bind (next_form t c b hc.1 hc.2 c1 c2) ?_
        try dsimp only
        refine Ev.neg (by simp) ?_
        exact Ev.val (by rw [HopPure.cntL_form _ _ _ c1 (by rw [TL_length]; exact c2)]; simp)
      · obtain ⟨i, rfl⟩ := Int.eq_ofNat_of_zero_le hc.1
        have hi : i < t.length := by omega
        refine Ev.step (fun k => by rw [fsst_Count.l0]) ?_
        refine Ev.pos (by simp <;> omega) ?_
        refine Ev.bind (next_sym t i b hi (by omega)) ?_
        try dsimp only
        refine Ev.pos rfl ?_
        refine Ev.pos (by simp) ?_
        refine Ev.pos (by simp <;> omega) ?_
        rw [eq1, HopPure.cntL_sym _ _ _ c1 (by rw [TL_length]; exact c2)]
        exact Ev.eq (ih b.length (by omega) b (q + 1) rfl (fun y hy => hb y (by simp [hy])) (by omega)) (by omega)
theorem count_ev (t : List ByteArray) (ht : Table (TL t)) (l : List Int) (hb : Bytes l) (hl : l.length ≤ 100000) : Ev (fun k => fsst_Count.f k t l) (cntL (TL t) l) := by
  have h := count_l0 t ht l.length l 0 rfl hb (by omega)
  exact Ev.eq h (by simp)
/-- With room enough all codes are counted. -/
theorem decL_count {T : List (List UInt8)} (hT : Table T) : ∀ (n : Nat) (l : List Int) (most : Int) (acc : List UInt8) (q : Int), l.length = n → Bytes l → (acc.length : Int) + 8 * n ≤ most → (decL T most acc q l).2.2 = q + cntL T l := by
  have hfew := hT.few
  intro n
  induction n using Nat.strongRecOn with
  | _ n ih =>
  intro l most acc q hn hb hr
  match l, hn, hb with
  | [], _, _ => rw [HopPure.decL_nil, cntL]; simp
  | c :: b, hn, hb =>
    have hc := hb c (by simp)
    simp only [List.length_cons] at hn
    by_cases c1 : c = 255
    · subst c1
      match b, hn, hb with
      | [], _, _ => rw [HopPure.decL_cut, HopPure.cntL_cut]; simp
      | x :: b, hn, hb =>
        simp only [List.length_cons] at hn
        rw [HopPure.decL_esc, if_neg (by omega), HopPure.cntL_esc, ih b.length (by omega) b most _ _ rfl (fun y hy => hb y (by simp [hy])) (by simp; omega)]
        omega
    · by_cases c2 : c ≥ (T.length : Int)
      · rw [HopPure.decL_form _ _ _ _ _ _ c1 c2, HopPure.cntL_form _ _ _ c1 c2]; simp
      · obtain ⟨i, rfl⟩ := Int.eq_ofNat_of_zero_le hc.1
        have hi : i < T.length := by omega
        have hsz := (hT.sizes _ (List.getElem_mem hi)).2
        rw [HopPure.decL_sym _ _ _ _ i b hi (by omega), if_neg (by omega), HopPure.cntL_sym _ _ _ c1 c2, ih b.length (by omega) b most _ _ rfl (fun y hy => hb y (by simp [hy])) (by rw [List.length_append]; omega)]
        omega
/-! ### few, the same -/
theorem few_l0 (l : List ByteArray) (hl : l.length ≤ maxLen) : ∀ (n i : Nat), l.length - i = n → i ≤ l.length → ∃ b : Bool, Ev (fun k => hopperref10_Few.l0 k l (i : Int)) b ∧ (b = true → l.length ≤ 300) := by
  unfold maxLen at hl
  have last : ∀ i : Int, ∃ b : Bool, Ev (fun k => hopperref10_Few.j1 k l i false) b ∧ (b = true → l.length ≤ 300) := fun i => ⟨decide ((l.length : Int) ≤ 300), Ev.step (fun k => by rw [hopperref10_Few.j1]) (Ev.neg (by simp) (Ev.val rfl)), fun h => by have := of_decide_eq_true h; omega⟩
  intro n
  induction n with
  | zero =>
    intro i hn hi
    obtain ⟨b, h1, h2⟩ := last i
    exact ⟨b, Ev.step (fun k => by rw [hopperref10_Few.l0]) (Ev.neg (by omega) h1), h2⟩
  | succ n ih =>
    intro i hn hi
    have hil : i < l.length := by omega
    by_cases c : i < 400
    · by_cases c2 : ((l[i]).size : Int) > 1000
      · refine ⟨false, Ev.step (fun k => by rw [hopperref10_Few.l0]) (Ev.pos (by omega) ?_), fun h => by cases h⟩
        rw [decide_eq_true (by omega)]
        refine Ev.step (fun k => by rw [hopperref10_Few.j1]) ?_
        refine Ev.pos rfl ?_
        refine Ev.pos (by omega) ?_
        refine Ev.pos (by omega) ?_
        rw [rdOfn _ l i hil]
        refine Ev.pos c2 ?_
        exact Ev.val rfl
      · obtain ⟨b, h1, h2⟩ := ih (i + 1) (by omega) (by omega)
        refine ⟨b, Ev.step (fun k => by rw [hopperref10_Few.l0]) (Ev.pos (by omega) ?_), h2⟩
        rw [decide_eq_true (by omega)]
        refine Ev.step (fun k => by rw [hopperref10_Few.j1]) ?_
        refine Ev.pos rfl ?_
        refine Ev.pos (by omega) ?_
        refine Ev.pos (by omega) ?_
        rw [rdOfn _ l i hil, w64s (n := l.length) hil (by omega)]
        exact Ev.neg c2 h1
    · obtain ⟨b, h1, h2⟩ := last i
      refine ⟨b, Ev.step (fun k => by rw [hopperref10_Few.l0]) (Ev.pos (by omega) ?_), h2⟩
      rw [decide_eq_false (by omega)]
      exact h1
theorem few_ev (l : List ByteArray) (hl : l.length ≤ maxLen) : ∃ b : Bool, Ev (fun k => hopperref10_Few.f k l) b ∧ (b = true → l.length ≤ 300) := few_l0 l hl _ 0 rfl (by omega)
theorem same_f (a b : List Int) : hopperref01_Same.f a b = some (decide (nb a = nb b)) := by
  unfold hopperref01_Same.f
  rw [tl, tl, strOf_list, strOf_list]
  congr 1
  unfold nb
  rw [Bool.eq_iff_iff]
  simp only [beq_iff_eq, decide_eq_true_eq]
theorem nb_inj {a b : List Int} (ha : Bytes a) (hb : Bytes b) (h : nb a = nb b) : a = b := by
  induction a generalizing b with
  | nil => cases b with
    | nil => rfl
    | cons y b => simp [nb] at h
  | cons x a ih =>
    cases b with
    | nil => simp [nb] at h
    | cons y b =>
      simp only [nb, List.map_cons, List.cons.injEq] at h
      have hx := ha x (by simp)
      have hy := hb y (by simp)
      have e := congrArg UInt8.toNat h.1
      simp only [UInt8.toNat_ofNat'] at e
      rw [ih (fun z hz => ha z (by simp [hz])) (fun z hz => hb z (by simp [hz])) h.2]
      congr 1
      omega
/-! ### tables made -/
/-- May a string be a symbol. -/
def may (s : ByteArray) : Prop := 1 ≤ s.size ∧ s.size ≤ 8
/-- A table made of strings, up to now. -/
structure Made (l out : List ByteArray) : Prop where
  rising : Rising (TL out)
  may : ∀ s ∈ out, may s
  from_ : ∀ s ∈ out, s ∈ l
  few : out.length ≤ 255
  all : ∀ s ∈ l, Pure.may s → s ∈ out ∨ ∀ x ∈ out, bl x.data.toList s.data.toList = true
theorem Made.table {l out : List ByteArray} (h : Made l out) : Table (TL out) := ⟨h.rising, fun s hs => by
  obtain ⟨x, hx, rfl⟩ := List.mem_map.1 hs
  have := h.may x hx
  unfold Pure.may at this
  rw [dsz]; exact this, by rw [TL_length]; exact h.few⟩
/-- May a string be next: it is greater than all up to now. -/
def Next (out : List ByteArray) (s : ByteArray) : Prop := may s ∧ ∀ x ∈ out, bl x.data.toList s.data.toList = true
/-- The least of the first i strings that may be next. -/
def Least (l out : List ByteArray) (i : Nat) (best : ByteArray) : Prop :=
  (best.data.toList = [] ∧ ∀ (j : Nat) (h : j < l.length), j < i → ¬ Next out l[j]) ∨
  (best ∈ l ∧ Next out best ∧ ∀ (j : Nat) (h : j < l.length), j < i → Next out l[j] → bl (l[j]).data.toList best.data.toList = false)
theorem last_next {l out : List ByteArray} (h : Made l out) (hne : 0 < out.length) (s : ByteArray) (hs : may s) : Next out s ↔ bl (out[out.length - 1]'(by omega)).data.toList s.data.toList = true := by
  constructor
  · intro hn; exact hn.2 _ (List.getElem_mem _)
  · intro hb
    refine ⟨hs, fun x hx => ?_⟩
    obtain ⟨j, hj, rfl⟩ := List.getElem_of_mem hx
    by_cases e : j = out.length - 1
    · subst e; exact hb
    · have := h.rising j (out.length - 1) (by rw [TL_length]; exact hj) (by rw [TL_length]; omega) (by omega)
      rw [TL_get out j hj, TL_get out _ (by omega)] at this
      exact HopPure.bl_trans this hb
theorem Least.step_no {l out : List ByteArray} {i : Nat} {best : ByteArray} (h : Least l out i best) (hi : i < l.length) (hn : ¬ Next out l[i]) : Least l out (i + 1) best := by
  rcases h with ⟨h1, h2⟩ | ⟨h1, h2, h3⟩
  · refine .inl ⟨h1, fun j hj hji => ?_⟩
    by_cases e : j = i
    · subst e; exact hn
    · exact h2 j hj (by omega)
  · refine .inr ⟨h1, h2, fun j hj hji hnj => ?_⟩
    by_cases e : j = i
    · subst e; exact absurd hnj hn
    · exact h3 j hj (by omega) hnj
theorem Least.step_keep {l out : List ByteArray} {i : Nat} {best : ByteArray} (h : Least l out i best) (hi : i < l.length) (hne : best.data.toList ≠ []) (hn : bl (l[i]).data.toList best.data.toList = false) : Least l out (i + 1) best := by
  rcases h with ⟨h1, _⟩ | ⟨h1, h2, h3⟩
  · exact absurd h1 hne
  · refine .inr ⟨h1, h2, fun j hj hji hnj => ?_⟩
    by_cases e : j = i
    · subst e; exact hn
    · exact h3 j hj (by omega) hnj
theorem Least.step_take {l out : List ByteArray} {i : Nat} {best : ByteArray} (h : Least l out i best) (hi : i < l.length) (hn : Next out l[i]) (hb : best.data.toList = [] ∨ bl (l[i]).data.toList best.data.toList = true) : Least l out (i + 1) l[i] := by
  refine .inr ⟨List.getElem_mem hi, hn, fun j hj hji hnj => ?_⟩
  by_cases e : j = i
  · subst e; exact HopPure.bl_irrefl _
  · rcases h with ⟨h1, h2⟩ | ⟨h1, h2, h3⟩
    · exact absurd hnj (h2 j hj (by omega))
    · rcases hb with hb | hb
      · have h4 := h2.1.1
        have h5 := dsz best
        rw [hb] at h5
        simp at h5
        omega
      · cases hc : bl (l[j]).data.toList (l[i]).data.toList with
        | false => rfl
        | true => have := h3 j hj (by omega) hnj; rw [HopPure.bl_trans hc hb] at this; cases this
theorem Made.push {l out : List ByteArray} (h : Made l out) (hf : out.length < 255) {best : ByteArray} (hb : Least l out l.length best) (hne : best.data.toList ≠ []) : Made l (out ++ [best]) := by
  rcases hb with ⟨h1, _⟩ | ⟨h1, h2, h3⟩
  · exact absurd h1 hne
  · refine ⟨?_, ?_, ?_, by simp; omega, ?_⟩
    · intro i j hi hj hij
      have hj2 : j < out.length + 1 := by rw [TL_length] at hj; simpa using hj
      rw [TL_get _ i (by simp; omega), TL_get _ j (by simp; omega)]
      by_cases e : j = out.length
      · subst e
        have : (out ++ [best])[out.length]'(by simp) = best := by simp
        rw [this, List.getElem_append_left (by omega)]
        exact h2.2 _ (List.getElem_mem _)
      · rw [List.getElem_append_left (by omega), List.getElem_append_left (by omega)]
        have := h.rising i j (by rw [TL_length]; omega) (by rw [TL_length]; omega) hij
        rwa [TL_get out i (by omega), TL_get out j (by omega)] at this
    · intro s hs
      rcases List.mem_append.1 hs with hs | hs
      · exact h.may s hs
      · rw [List.mem_singleton.1 hs]; exact h2.1
    · intro s hs
      rcases List.mem_append.1 hs with hs | hs
      · exact h.from_ s hs
      · rw [List.mem_singleton.1 hs]; exact h1
    · intro s hs hm
      rcases h.all s hs hm with ha | ha
      · exact .inl (List.mem_append_left _ ha)
      · obtain ⟨j, hj, rfl⟩ := List.getElem_of_mem hs
        have h4 := h3 j hj hj ⟨hm, ha⟩
        rcases HopPure.bl_tri (l[j]).data.toList best.data.toList with h5 | h5 | h5
        · rw [h5] at h4; cases h4
        · left; rw [ba_ext h5]; simp
        · right
          intro x hx
          rcases List.mem_append.1 hx with hx | hx
          · exact ha x hx
          · rw [List.mem_singleton.1 hx]; exact h5
theorem order_l1 (l : List ByteArray) (hl : l.length ≤ maxLen) (hw : ∀ s ∈ l, s.size ≤ maxLen) (out : List ByteArray) (ho : Made l out) (hf : out.length < 255) (r : List ByteArray)
    (stop : ∀ best, Least l out l.length best → best.data.toList = [] → out = r) (next : ∀ best, Least l out l.length best → best.data.toList ≠ [] → Ev (fun k => hopperref10_Order.l0 k l (out ++ [best])) r) :
    ∀ (n i : Nat) (best : ByteArray), l.length - i = n → i ≤ l.length → Least l out i best → Ev (fun k => hopperref10_Order.l1 k l out best (i : Int)) r := by
  unfold maxLen at hl
  intro n
  induction n with
  | zero =>
    intro i best hn hi hb
    have e : i = l.length := by omega
    subst e
    by_cases c : best.data.toList = []
    · refine Ev.step (fun k => by rw [hopperref10_Order.l1]) ?_
      refine Ev.neg (by omega) ?_
      refine Ev.pos (by rw [tl]; exact c) ?_
      exact Ev.val (stop best hb c)
    · refine Ev.step (fun k => by rw [hopperref10_Order.l1]) ?_
      refine Ev.neg (by omega) ?_
      refine Ev.neg (by rw [tl]; exact c) ?_
      exact Ev.pos (by omega) (next best hb c)
  | succ n ih =>
    intro i best hn hi hb
    have hil : i < l.length := by omega
    have hsm := hw _ (List.getElem_mem hil)
    have ei : wrap64 ((i : Int) + 1) = ((i + 1 : Nat) : Int) := w64s (n := l.length) hil (by omega)
    refine Ev.step (fun k => by rw [hopperref10_Order.l1]) ?_
    refine Ev.pos (by omega) ?_
    refine Ev.pos (by omega) ?_
    rw [rdOfn _ l i hil, ei]
    have no : ¬ Next out l[i] → Ev (fun k => hopperref10_Order.l1 k l out best ((i + 1 : Nat) : Int)) r := fun h => ih (i + 1) best (by omega) (by omega) (hb.step_no hil h)
    have take_ : Next out l[i] → (best.data.toList = [] ∨ bl (l[i]).data.toList best.data.toList = true) → Ev (fun k => hopperref10_Order.l1 k l out l[i] ((i + 1 : Nat) : Int)) r := fun h h2 => ih (i + 1) l[i] (by omega) (by omega) (hb.step_take hil h h2)
    have keep : best.data.toList ≠ [] → bl (l[i]).data.toList best.data.toList = false → Ev (fun k => hopperref10_Order.l1 k l out best ((i + 1 : Nat) : Int)) r := fun h h2 => ih (i + 1) best (by omega) (by omega) (hb.step_keep hil h h2)
    have rest : Next out l[i] → Ev (fun k => if best.toList = ([] : List UInt8) then (hopperref10_Order.l1 k l out l[i] ((i + 1 : Nat) : Int)) else ((hopperref07_Compare.f k l[i] best).bind fun t173 => (if t173 < 0 then (hopperref10_Order.l1 k l out l[i] ((i + 1 : Nat) : Int)) else (hopperref10_Order.l1 k l out best ((i + 1 : Nat) : Int))))) r := by
      intro h
      by_cases c4 : best.data.toList = []
      · exact Ev.pos (by rw [tl]; exact c4) (take_ h (.inl c4))
      · refine Ev.neg (by rw [tl]; exact c4) ?_
        refine Ev.bind (compare_ev _ _ hsm) ?_
        cases hb2 : bl (l[i]).data.toList best.data.toList with
        | true => exact Ev.pos (HopPure.cmpL_lt.2 hb2) (take_ h (.inr hb2))
        | false => exact Ev.neg (fun h3 => by rw [HopPure.cmpL_lt.1 h3] at hb2; cases hb2) (keep c4 hb2)
    by_cases c1 : ((l[i]).size : Int) ≥ 1
    · refine Ev.pos c1 ?_
      by_cases c2 : ((l[i]).size : Int) ≤ 8
      · refine Ev.pos c2 ?_
        have hm : may l[i] := ⟨by omega, by omega⟩
        by_cases c3 : out.length = 0
        · exact Ev.pos (by omega) (rest ⟨hm, fun x hx => by rw [List.eq_nil_of_length_eq_zero c3] at hx; cases hx⟩)
        · refine Ev.neg (by omega) ?_
          have hlast : out.length - 1 < out.length := by omega
          rw [w64p (k := out.length) (by omega) (by omega), rdOfn _ out _ hlast]
          refine Ev.pos (by omega) ?_
          refine Ev.pos (by omega) ?_
          refine Ev.bind (compare_ev _ _ hsm) ?_
          have hiff := last_next ho (by omega) l[i] hm
          cases hb2 : bl (out[out.length - 1]).data.toList (l[i]).data.toList with
          | true => exact Ev.pos (HopPure.cmpL_gt.2 hb2) (rest (hiff.2 hb2))
          | false => exact Ev.neg (fun h3 => by rw [HopPure.cmpL_gt.1 h3] at hb2; cases hb2) (no fun h => by rw [hiff.1 h] at hb2; cases hb2)
      · exact Ev.neg c2 (no fun h => by have := h.1.2; omega)
    · exact Ev.neg c1 (no fun h => by have := h.1.1; omega)
theorem order_l0 (l : List ByteArray) (hl : l.length ≤ maxLen) (hw : ∀ s ∈ l, s.size ≤ maxLen) : ∀ (n : Nat) (out : List ByteArray), 255 - out.length = n → Made l out →
    ∃ t, Ev (fun k => hopperref10_Order.l0 k l out) t ∧ Made l t ∧ (t.length < 255 → ∀ s ∈ l, may s → s ∈ t) := by
  intro n
  induction n with
  | zero =>
    intro out hn ho
    have := ho.few
    exact ⟨out, Ev.step (fun k => by rw [hopperref10_Order.l0]) (Ev.neg (by omega) (Ev.val rfl)), ho, fun h => by omega⟩
  | succ n ih =>
    intro out hn ho
    have hf : out.length < 255 := by omega
    have start : Least l out 0 (⟨#[]⟩ : ByteArray) := .inl ⟨rfl, fun j _ h => by omega⟩
    -- the least one of all is one thing, whatever the way
    have one : ∃ best, Least l out l.length best := by
      have : ∀ i, i ≤ l.length → ∃ best, Least l out i best := by
        intro i
        induction i with
        | zero => intro _; exact ⟨_, start⟩
        | succ i ih2 =>
          intro hi
          obtain ⟨best, hb⟩ := ih2 (by omega)
          by_cases h : Next out l[i]
          · by_cases h2 : best.data.toList = []
            · exact ⟨_, hb.step_take (by omega) h (.inl h2)⟩
            · cases h3 : bl (l[i]).data.toList best.data.toList with
              | true => exact ⟨_, hb.step_take (by omega) h (.inr h3)⟩
              | false => exact ⟨_, hb.step_keep (by omega) h2 h3⟩
          · exact ⟨_, hb.step_no (by omega) h⟩
      exact this _ (Nat.le_refl _)
    have uniq : ∀ b b', Least l out l.length b → Least l out l.length b' → b.data.toList = b'.data.toList := by
      intro b b' h h'
      rcases h with ⟨h1, h2⟩ | ⟨h1, h2, h3⟩ <;> rcases h' with ⟨h1', h2'⟩ | ⟨h1', h2', h3'⟩
      · rw [h1, h1']
      · obtain ⟨j, hj, rfl⟩ := List.getElem_of_mem h1'
        exact absurd h2' (h2 j hj hj)
      · obtain ⟨j, hj, rfl⟩ := List.getElem_of_mem h1
        exact absurd h2 (h2' j hj hj)
      · obtain ⟨j, hj, rfl⟩ := List.getElem_of_mem h1
        obtain ⟨j', hj', rfl⟩ := List.getElem_of_mem h1'
        have a1 := h3 j' hj' hj' h2'
        have a2 := h3' j hj hj h2
        rcases HopPure.bl_tri (l[j]).data.toList (l[j']).data.toList with h5 | h5 | h5
        · rw [h5] at a2; cases a2
        · exact h5
        · rw [h5] at a1; cases a1
    obtain ⟨best, hb⟩ := one
    by_cases c : best.data.toList = []
    · refine ⟨out, Ev.step (fun k => by rw [hopperref10_Order.l0]) (Ev.pos (by omega) ?_), ho, fun _ s hs hm => ?_⟩
      · exact order_l1 l hl hw out ho hf out (fun _ _ _ => rfl) (fun b hb' hne => absurd ((uniq b best hb' hb).trans c) hne) _ 0 _ rfl (by omega) start
      · rcases ho.all s hs hm with h | h
        · exact h
        · exfalso
          obtain ⟨j, hj, rfl⟩ := List.getElem_of_mem hs
          rcases hb with ⟨_, h2⟩ | ⟨_, h2, _⟩
          · exact h2 j hj hj ⟨hm, h⟩
          · have h4 := h2.1.1
            have h5 := dsz best
            rw [c] at h5; simp at h5; omega
    · obtain ⟨t, h1, h2, h3⟩ := ih (out ++ [best]) (by simp; omega) (ho.push hf hb c)
      refine ⟨t, Ev.step (fun k => by rw [hopperref10_Order.l0]) (Ev.pos (by omega) ?_), h2, h3⟩
      exact order_l1 l hl hw out ho hf t (fun b hb' he => absurd ((uniq best b hb hb').trans he) c) (fun b hb' _ => by rw [ba_ext (uniq b best hb' hb)]; exact h1) _ 0 _ rfl (by omega) start
theorem order_ev (l : List ByteArray) (hl : l.length ≤ maxLen) (hw : ∀ s ∈ l, s.size ≤ maxLen) : ∃ t, Ev (fun k => hopperref10_Order.f k l) t ∧ Made l t ∧ (t.length < 255 → ∀ s ∈ l, may s → s ∈ t) :=
  order_l0 l hl hw _ [] rfl ⟨fun i j hi => by simp [TL] at hi, by simp, by simp, by simp, fun s _ _ => .inr (by simp)⟩
end Go.Proofs.Ytpgdgofmoelgbaa.Pure
