/- train.Sample draws as the reference does. No condition. -/
import Derived.Test.YtjodnhlfodmpeaaHTrainAwk
import Derived.Test.YtjodnhlfodmpeaaHTrainFew
import Derived.Test.YtjodnhlfodmpeaaQx
set_option linter.unusedVariables false
set_option linter.unusedSimpArgs false
namespace Go.Proofs.Ytjodnhlfodmpeaa.Pure
open Go.RowKit Go.Proofs.Ytjodnhlfodmpeaa.Q Go.Proofs.YtjodnhlfodmpeaaW.PrintWords Go.Proofs.YtjodnhlfodmpeaaW.PrintLast Go.Proofs.YtjodnhlfodmpeaaW.PrintMore
theorem rsample_l0 (l : List ByteArray) (hl : l.length ≤ 9223372036854775807) (ds : List Int) (hd : ds.length ≤ 1000000) (hw : ∀ d ∈ ds, -9223372036854775808 ≤ d ∧ d ≤ 9223372036854775807) : ∀ (n i : Nat) (acc : List ByteArray), ds.length - i = n → i ≤ ds.length → acc.length ≤ i →
    Ev (fun k => hopperref12_Sample.l0 k l ds acc (i : Int)) (acc ++ sampB l (ds.drop i)) := by
  have stop : ∀ (i : Nat) (acc : List ByteArray) (b : Bool), b = false → Ev (fun k => hopperref12_Sample.j1 k l ds acc (i : Int) b) acc := fun i acc b hb => Ev.step (fun k => by rw [hopperref12_Sample.j1]) (Ev.neg (by rw [hb]; simp) (Ev.val rfl))
  intro n
  induction n with
  | zero =>
    intro i acc hn hi ha
    rw [List.drop_eq_nil_of_le (by omega)]
    refine Ev.step (fun k => by rw [hopperref12_Sample.l0]) (Ev.neg (by omega) (Ev.eq (stop i acc false rfl) (by unfold sampB; split <;> simp)))
  | succ n ih =>
    intro i acc hn hi ha
    have hil : i < ds.length := by omega
    refine Ev.step (fun k => by rw [hopperref12_Sample.l0]) (Ev.pos (by omega) ?_)
    by_cases c : l.length = 0
    · refine Ev.eq (stop i acc _ (decide_eq_false (by omega))) ?_
      unfold sampB
      rw [if_pos c, List.append_nil]
    · have hw2 := hw ds[i] (List.getElem_mem hil)
      rw [decide_eq_true (show (l.length : Int) > 0 by omega)]
      refine Ev.step (fun k => by rw [hopperref12_Sample.j1]) (Ev.pos rfl (Ev.pos (by omega) (Ev.pos (by omega) (Ev.neg (by omega) ?_))))
      rw [rdn _ i hil, w64s (n := ds.length) hil (by omega), drop_at ds i hil]
      have e3 : drawn l.length ds[i] < l.length := Nat.mod_lt _ (by omega)
      have e4 : (Int.tmod ds[i] (l.length : Int)).natAbs = drawn l.length ds[i] := by rw [Int.natAbs_tmod]; simp [drawn]
      have go : ∀ x : Int, x = ((drawn l.length ds[i] : Nat) : Int) → Ev (fun k => hopperref12_Sample.l0 k l ds (acc ++ [rdOf ByteArray.empty l x]) ((i + 1 : Nat) : Int)) (acc ++ sampB l (ds[i] :: ds.drop (i + 1))) := fun x hx => by
        subst hx
        refine Ev.eq (ih (i + 1) _ (by omega) (by omega) (by simp; omega)) ?_
        unfold sampB
        rw [if_neg c, if_neg c, List.map_cons, List.append_assoc]; rfl
      by_cases c2 : Int.tmod ds[i] (l.length : Int) < 0
      · have e5 : wrap64 (-(Int.tmod ds[i] (l.length : Int))) = ((drawn l.length ds[i] : Nat) : Int) := by rw [w64 (by omega) (by omega)]; omega
        rw [e5]
        exact Ev.pos c2 (Ev.pos (by omega) (Ev.pos (by omega) (Ev.pos (by omega) (go _ rfl))))
      · have e5 : Int.tmod ds[i] (l.length : Int) = ((drawn l.length ds[i] : Nat) : Int) := by omega
        rw [e5]
        exact Ev.neg (by omega) (Ev.pos (by omega) (Ev.pos (by omega) (Ev.pos (by omega) (go _ rfl))))
theorem rsample_ev (l : List ByteArray) (hl : l.length ≤ 9223372036854775807) (ds : List Int) (hd : ds.length ≤ 1000000) (hw : ∀ d ∈ ds, -9223372036854775808 ≤ d ∧ d ≤ 9223372036854775807) : Ev (fun k => hopperref12_Sample.f k l ds) (sampB l ds) := by
  unfold hopperref12_Sample.f
  exact Ev.eq (rsample_l0 l hl ds hd hw _ 0 [] rfl (by omega) (by simp)) (by simp)
theorem i64_wf {x : Int} (h : (Lit.int .i64 x).wf = true) : -9223372036854775808 ≤ x ∧ x ≤ 9223372036854775807 := by
  unfold Lit.wf at h
  simp only [Bool.and_eq_true, decide_eq_true_eq] at h
  exact h
theorem TrainSamples : hopperlaw12_TrainSamples.Pure := by
  intro l0 l1 h0 h1
  refine Ev.rounds ?_
  unfold hopperlaw12_TrainSamples.f
  have bad : Ev (fun k => hopperlaw12_TrainSamples.j0 k l0 l1 true) true := Ev.step (fun k => by rw [hopperlaw12_TrainSamples.j0]) (Ev.pos rfl (Ev.bind awake_ev (Ev.val rfl)))
  refine Ev.bind awake_ev (Ev.pos rfl ?_)
  obtain ⟨f, hf, _⟩ := few_ev l0 h0.1
  refine Ev.bind hf ?_
  cases f with
  | false => exact Ev.neg (by simp) bad
  | true =>
    refine Ev.pos rfl ?_
    by_cases c : (l1.length : Int) > 300
    · rw [decide_eq_true c]; exact bad
    · rw [decide_eq_false c]
      have hl := h0.1
      unfold maxLen at hl
      have hs := sample_ev l0 (by omega) l1 (by omega) (fun d hd => i64_wf (h1.2 d hd))
      have hr := rsample_ev l0 (by omega) l1 (by omega) (fun d hd => i64_wf (h1.2 d hd))
      have hle := sampB_len l0 l1
      exact Ev.step (fun k => by rw [hopperlaw12_TrainSamples.j0]) (Ev.neg (by simp) (Ev.bind hs (Ev.bind hr (Ev.bind (same_ev (sampB l0 l1) (by omega)) (Ev.val rfl)))))
end Go.Proofs.Ytjodnhlfodmpeaa.Pure
