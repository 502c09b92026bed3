/- Whatever sample: the table is right; each symbol stands in a string of the sample; with one round nothing is escaped if there are few pieces. No condition. -/
import Derived.Test.YtjodnhlfodmpeaaHTrainFew12
import Derived.Test.YtjodnhlfodmpeaaHTrainAwk
import Derived.Test.YtjodnhlfodmpeaaHTrainCmp
import Derived.Test.YtjodnhlfodmpeaaHTrainEnc
import Derived.Test.YtjodnhlfodmpeaaQx
import Derived.Lib.IndexMore
set_option linter.unusedVariables false
set_option linter.unusedSimpArgs false
namespace Go.Proofs.Ytjodnhlfodmpeaa.Pure
open Go.RowKit Go.Proofs.Ytjodnhlfodmpeaa.Q Go.Proofs.YtjodnhlfodmpeaaW.PrintWords Go.Proofs.YtjodnhlfodmpeaaW.PrintLast Go.Proofs.YtjodnhlfodmpeaaW.PrintMore
open HopPure (bl cmpL Rising Table Enc countL countL_size countL_infix countL_byte)
theorem le_sum : ∀ {l : List Nat} {x : Nat}, x ∈ l → x ≤ l.sum
  | y :: l, x, h => by
    rw [List.sum_cons]
    rcases List.mem_cons.1 h with rfl | h
    · omega
    · have := le_sum h; omega
/-! ### the table is right -/
theorem right_l0 (t : List ByteArray) (ht : Table (TL t)) : ∀ (n i : Nat), t.length - i = n → i ≤ t.length → Ev (fun k => hopperref10_Right.l0 k t (i : Int)) true := by
  have hfew := ht.few
  rw [TL_length] at hfew
  intro n
  induction n with
  | zero => intro i hn hi; exact Ev.step (fun k => by rw [hopperref10_Right.l0]) (Ev.neg (by omega) (Ev.val rfl))
  | succ n ih =>
    intro i hn hi
    have hil : i < t.length := by omega
    have sz : ∀ (j : Nat) (hj : j < t.length), 1 ≤ (t[j]).size ∧ (t[j]).size ≤ 8 := fun j hj => by
      have := ht.sizes _ (List.getElem_mem (by rw [TL_length]; exact hj : j < (TL t).length))
      rw [TL_get t j hj, dsz] at this
      exact this
    have s1 := sz i hil
    refine Ev.step (fun k => by rw [hopperref10_Right.l0]) (Ev.pos (by omega) (Ev.pos (by omega) ?_))
    have ei : wrap64 ((i : Int) + 1) = ((i + 1 : Nat) : Int) := w64s (n := t.length) hil (by omega)
    rw [ei, rdOfn _ t i hil]
    clear ei
    have nx := ih (i + 1) (by omega) (by omega)
    refine Ev.neg (by omega) (Ev.neg (by omega) ?_)
    by_cases c : i = 0
    · exact Ev.neg (by omega) nx
    · have ep : wrap64 ((i : Int) - 1) = ((i - 1 : Nat) : Int) := w64p (by omega) (by omega)
      rw [ep, rdOfn _ t (i - 1) (by omega)]
      clear ep
      have s2 := sz (i - 1) (by omega)
      have hr := ht.rising (i - 1) i (by rw [TL_length]; omega) (by rw [TL_length]; exact hil) (by omega)
      rw [TL_get t (i - 1) (by omega), TL_get t i hil] at hr
      have hc := HopPure.cmpL_lt.2 hr
      exact Ev.pos (by omega) (Ev.pos (by omega) (Ev.pos (by omega) (Ev.bind (compare_ev _ _ (by unfold maxLen; omega)) (Ev.neg (by omega) nx))))
theorem right_ev (t : List ByteArray) (ht : Table (TL t)) : Ev (fun k => hopperref10_Right.f k t) true := by
  have hfew := ht.few
  rw [TL_length] at hfew
  unfold hopperref10_Right.f
  exact Ev.neg (by omega) (right_l0 t ht _ 0 rfl (by omega))
/-! ### symbols stand in the sample -/
theorem contains_f (s x : ByteArray) (hs : s.size ≤ 1000000) : strings_Contains.f s x = some (decide (Lib.index s.data.toList x.data.toList ≥ 0)) := by
  unfold strings_Contains.f strings_Index.f
  rw [if_pos (by omega)]; rfl
theorem index_in {s x : List UInt8} (h : x <:+: s) : Lib.index s x ≥ 0 := by
  rcases Lib.index_spec s x with ⟨_, h2⟩ | ⟨i, h1, _⟩
  · obtain ⟨a, b, e⟩ := h
    have h3 := h2 a.length (by rw [← e]; simp)
    unfold Lib.occAt at h3
    have h4 : x.isPrefixOf (s.drop a.length) = true := List.isPrefixOf_iff_prefix.2 (by
      rw [← e, List.append_assoc, List.drop_left]; exact List.prefix_append _ _)
    rw [h4] at h3
    cases h3
  · omega
theorem roundB_mem {t ss : List ByteArray} {x : ByteArray} (h : x ∈ roundB t ss) : x.data.toList ∈ countL (TL t) (TL ss) := by
  have h1 := (ordS_set _ (bestB_len (countL (TL t) (TL ss)))).2 x |>.1 h
  obtain ⟨y, hy, rfl⟩ := List.mem_map.1 (List.mem_filter.1 h1).1
  rw [ofB_list]
  exact (topL_mem _ y).1 (List.mem_of_mem_take hy)
theorem trainB_in (ss : List ByteArray) : ∀ (n : Nat) (x : ByteArray), x ∈ trainB ss n → ∃ (j : Nat) (h : j < ss.length), x.data.toList <:+: (ss[j]).data.toList
  | 0, x, h => by simp [trainB] at h
  | n + 1, x, h => by
    obtain ⟨s, hs, hi⟩ := countL_infix (roundB_mem h)
    obtain ⟨j, hj, e⟩ := List.getElem_of_mem hs
    have hj2 : j < ss.length := by rw [TL_length] at hj; exact hj
    rw [TL_get ss j hj2] at e
    exact ⟨j, hj2, by rw [e]; exact hi⟩
theorem find_l1 (ss t : List ByteArray) (hss : ss.length ≤ 60) (hsz : ∀ s ∈ ss, s.size ≤ 1000000) (p : Nat) (hp : p < t.length) (ht : t.length ≤ 255) (nx : Ev (fun k => hopperlaw12_TrainRight.l0 k ss t ((p + 1 : Nat) : Int)) true) : ∀ (n i : Nat) (b : Bool), ss.length - i = n → i ≤ ss.length → (b = true ∨ ∃ (j : Nat) (h : j < ss.length), i ≤ j ∧ (t[p]).data.toList <:+: (ss[j]).data.toList) →
    Ev (fun k => hopperlaw12_TrainRight.l1 k ss t (p : Int) b (i : Int)) true := by
  intro n
  induction n with
  | zero =>
    intro i b hn hi hb
    have hb2 : b = true := by
      rcases hb with h | ⟨j, hj, h, _⟩
      · exact h
      · omega
    refine Ev.step (fun k => by rw [hopperlaw12_TrainRight.l1]) (Ev.neg (by omega) (Ev.pos hb2 ?_))
    rw [w64s (n := t.length) hp (by omega)]
    exact nx
  | succ n ih =>
    intro i b hn hi hb
    have hil : i < ss.length := by omega
    refine Ev.step (fun k => by rw [hopperlaw12_TrainRight.l1]) (Ev.pos (by omega) ?_)
    have ei : wrap64 ((i : Int) + 1) = ((i + 1 : Nat) : Int) := w64s (n := ss.length) hil (by omega)
    rw [ei, rdOfn _ ss i hil, rdOfn _ t p hp]
    clear ei
    cases b with
    | true => exact Ev.pos rfl (ih (i + 1) true (by omega) (by omega) (.inl rfl))
    | false =>
      refine Ev.neg (by simp) (Ev.pos (by omega) (Ev.pos (by omega) (Ev.pos (by omega) (Ev.bind (Ev.c (contains_f _ _ (hsz _ (List.getElem_mem hil)))) ?_))))
      refine ih (i + 1) _ (by omega) (by omega) ?_
      rcases hb with h | ⟨j, hj, h, hin⟩
      · cases h
      · by_cases e : j = i
        · subst e
          exact .inl (decide_eq_true (index_in hin))
        · exact .inr ⟨j, hj, by omega, hin⟩
/-! ### nothing is escaped -/
theorem roundB_all {ss : List ByteArray} (h : (roundB [] ss).length < 255) {x : List UInt8} (hx : x ∈ countL [] (TL ss)) : x ∈ TL (roundB [] ss) := by
  have hM := countL_size (T := []) (by simp) (TL ss)
  have hset := ordS_set _ (bestB_len (countL (TL []) (TL ss)))
  have hmem : ∀ y, y ∈ (topL (countL [] (TL ss))).take 255 → y ∈ TL (roundB [] ss) := fun y hy => by
    have h1 := hM y ((topL_mem _ y).1 (List.mem_of_mem_take hy))
    refine List.mem_map.2 ⟨ofB y, (hset.2 _).2 (List.mem_filter.2 ⟨List.mem_map.2 ⟨y, hy, rfl⟩, (mayB_iff _).2 (by rw [ofB_size]; exact h1)⟩), ofB_list y⟩
  have hn : ((topL (countL [] (TL ss))).take 255).Nodup := (topL_nodup _).sublist (List.take_sublist _ _)
  have hl := HopPure.nodup_len hn hmem
  rw [TL_length, List.length_take] at hl
  refine hmem x ?_
  rw [List.take_of_length_le (by omega)]
  exact (topL_mem _ x).2 hx
theorem few_j4 (ss : List ByteArray) (hss : ss.length ≤ 60) (hsz : ∀ s ∈ ss, s.size ≤ 100000) : ∀ (n i : Nat), ss.length - i = n → i ≤ ss.length → Ev (fun k => hopperlaw12_TrainRight.l2 k ss (trainB ss 1) (i : Int)) true := by
  have ht := trainB_table ss 1
  have done : ∀ i : Int, Ev (fun k => hopperlaw12_TrainRight.j4 k ss (trainB ss 1) i false) true := fun i => Ev.step (fun k => by rw [hopperlaw12_TrainRight.j4]) (Ev.neg (by simp) (Ev.val rfl))
  intro n
  induction n with
  | zero => intro i hn hi; exact Ev.step (fun k => by rw [hopperlaw12_TrainRight.l2]) (Ev.neg (by omega) (done i))
  | succ n ih =>
    intro i hn hi
    have hil : i < ss.length := by omega
    refine Ev.step (fun k => by rw [hopperlaw12_TrainRight.l2]) (Ev.pos (by omega) ?_)
    by_cases c : (trainB ss 1).length < 255
    · rw [decide_eq_true (show ((trainB ss 1).length : Int) < 255 by omega)]
      refine Ev.step (fun k => by rw [hopperlaw12_TrainRight.j4]) (Ev.pos rfl (Ev.pos (by omega) (Ev.pos (by omega) ?_)))
      rw [rdOfn _ ss i hil, w64s (n := ss.length) hil (by omega)]
      obtain ⟨b, hb, he⟩ := encode_ev (trainB ss 1) ht ss[i] (hsz _ (List.getElem_mem hil))
      have hle := he.noesc ht (fun c0 hc0 => roundB_all (ss := ss) c (countL_byte (ss := TL ss) (List.mem_map.2 ⟨ss[i], List.getElem_mem hil, rfl⟩) hc0))
      rw [dsz] at hle
      exact Ev.bind hb (Ev.neg (by omega) (ih (i + 1) (by omega) (by omega)))
    · rw [decide_eq_false (show ¬ ((trainB ss 1).length : Int) < 255 by omega)]
      exact done i
theorem u8_wf {x : Int} (h : (Lit.int .u8 x).wf = true) : 0 ≤ x ∧ x ≤ 255 := by
  unfold Lit.wf at h
  simp only [Bool.and_eq_true, decide_eq_true_eq] at h
  exact h
theorem TrainRight : hopperlaw12_TrainRight.Pure := by
  intro l0 a1 h0 h1
  refine Ev.rounds ?_
  unfold hopperlaw12_TrainRight.f
  refine Ev.bind awake_ev (Ev.pos rfl ?_)
  obtain ⟨g, hg, hg2⟩ := few12_ev l0 h0
  refine Ev.bind hg ?_
  cases g with
  | false =>
    show Ev (fun k => hopperlaw12_TrainRight.j0 k l0 a1 true) true
    exact Ev.step (fun k => by rw [hopperlaw12_TrainRight.j0]) (Ev.pos rfl (Ev.bind awake_ev (Ev.val rfl)))
  | true =>
  obtain ⟨hn, hb⟩ := hg2 rfl
  have hsz : ∀ s ∈ l0, s.size ≤ 600 := fun s hs => by
    have : s.data.toList.length ≤ ((TL l0).map List.length).sum := le_sum (List.mem_map.2 ⟨s.data.toList, List.mem_map.2 ⟨s, hs, rfl⟩, rfl⟩)
    rw [dsz] at this
    unfold bytesN at hb
    omega
  show Ev (fun k => hopperlaw12_TrainRight.j0 k l0 a1 false) true
  generalize hq : wrap64 (Int.tmod a1 10) = q
  have hle := trainB_len l0 (rnds q)
  refine Ev.step (fun k => by rw [hopperlaw12_TrainRight.j0]) ?_
  refine Ev.neg (by simp) ?_
  rw [hq]
  refine Ev.bind (train_ev l0 (by omega) q) ?_
  refine Ev.bind (right_ev _ (trainB_table l0 _)) ?_
  refine Ev.pos rfl ?_
  have h2 : Ev (fun k => hopperlaw12_TrainRight.l2 k l0 (trainB l0 1) 0) true := few_j4 l0 hn (fun s hs => by have := hsz s hs; omega) _ 0 rfl (by omega)
  have h3 : ∀ (n i : Nat), (trainB l0 (rnds q)).length - i = n → i ≤ (trainB l0 (rnds q)).length → Ev (fun k => hopperlaw12_TrainRight.l0 k l0 (trainB l0 (rnds q)) (i : Int)) true := by
    intro n
    induction n with
    | zero => intro i hn hi; exact Ev.step (fun k => by rw [hopperlaw12_TrainRight.l0]) (Ev.neg (by omega) (Ev.bind (train_ev l0 (by omega) 1) h2))
    | succ n ih =>
      intro i hni hi
      have hil : i < (trainB l0 (rnds q)).length := by omega
      refine Ev.step (fun k => by rw [hopperlaw12_TrainRight.l0]) (Ev.pos (by omega) ?_)
      obtain ⟨j, hj, hin⟩ := trainB_in l0 (rnds q) _ (List.getElem_mem hil)
      exact find_l1 l0 _ hn (fun s hs => by have := hsz s hs; omega) i hil hle (ih (i + 1) (by omega) (by omega)) _ 0 false rfl (by omega) (.inr ⟨j, hj, by omega, hin⟩)
  exact h3 _ 0 rfl (by omega)
end Go.Proofs.Ytjodnhlfodmpeaa.Pure
