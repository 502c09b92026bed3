/- What train.Train counts hangs on no order of the sample's strings; twice the sample is as once. No condition. -/
import Derived.Test.YtjodnhlfodmpeaaHTrainFew12
import Derived.Test.YtjodnhlfodmpeaaHTrainAwk
import Derived.Test.YtjodnhlfodmpeaaQx
set_option linter.unusedVariables false
set_option linter.unusedSimpArgs false
namespace Go.Proofs.Ytjodnhlfodmpeaa.Pure
open Go.RowKit Go.Proofs.Ytjodnhlfodmpeaa.Q Go.Proofs.YtjodnhlfodmpeaaW.PrintWords Go.Proofs.YtjodnhlfodmpeaaW.PrintLast Go.Proofs.YtjodnhlfodmpeaaW.PrintMore
open HopPure (countL countL_append countL_size countL_len)
theorem cfL_congr {M M' : List (List UInt8)} (e : gainL M = gainL M') : cfL M = cfL M' := by funext x y; unfold cfL; rw [e]
theorem leG_congr {M M' : List (List UInt8)} (e : gainL M = gainL M') : leG M = leG M' := by funext x y; unfold leG; rw [cfL_congr e]
theorem topL_perm {M M' : List (List UInt8)} (h : M.Perm M') : topL M = topL M' := by
  have e : gainL M = gainL M' := funext fun s => by unfold gainL; rw [h.count_eq]
  rw [← topL_of M' (nodup_dedupL M) (fun x => (mem_dedupL x M).trans h.mem_iff), ← leG_congr e]
  rfl
theorem gain_twice {M : List (List UInt8)} (h8 : ∀ x ∈ M, 1 ≤ x.length ∧ x.length ≤ 8) (hl : M.length ≤ 1000000) (s : List UInt8) : gainL (M ++ M) s = 2 * gainL M s := by
  unfold gainL
  rw [List.count_append]
  by_cases hs : s ∈ M
  · have h1 := h8 s hs
    have h2 := List.count_le_length (a := s) (l := M)
    have h3 : ((M.count s : Nat) : Int) * (s.length : Int) = ((M.count s * s.length : Nat) : Int) := by simp
    have h4 : M.count s * s.length ≤ 1000000 * 8 := Nat.mul_le_mul (by omega) h1.2
    have h5 : ((M.count s + M.count s : Nat) : Int) * (s.length : Int) = ((2 * (M.count s * s.length) : Nat) : Int) := by rw [← Int.natCast_mul]; congr 1; rw [← Nat.two_mul, Nat.mul_assoc]
    rw [h5, h3, w64 (by omega) (by omega), w64 (by omega) (by omega)]
    simp
  · rw [List.count_eq_zero.2 hs]
    simp [wrap64]
theorem topL_twice {M : List (List UInt8)} (h8 : ∀ x ∈ M, 1 ≤ x.length ∧ x.length ≤ 8) (hl : M.length ≤ 1000000) : topL (M ++ M) = topL M := by
  have e : leG (M ++ M) = leG M := by
    funext a b
    rw [Bool.eq_iff_iff, leG_iff, leG_iff, gain_twice h8 hl, gain_twice h8 hl]
    refine not_congr (or_congr (by omega) (and_congr_left fun _ => by omega))
  rw [← topL_of M (nodup_dedupL (M ++ M)) (fun x => by rw [mem_dedupL]; simp), ← e]
  rfl
theorem TL_app (a b : List ByteArray) : TL (a ++ b) = TL a ++ TL b := by simp [TL]
theorem train_turn (a b : List ByteArray) : ∀ n, trainB (b ++ a) n = trainB (a ++ b) n
  | 0 => rfl
  | n + 1 => by
    unfold trainB roundB bestB
    rw [train_turn a b n, TL_app, TL_app, countL_append, countL_append, topL_perm (List.perm_append_comm)]
theorem train_twice (l : List ByteArray) (h : bytesN l ≤ 100000) : ∀ n, trainB (l ++ l) n = trainB l n
  | 0 => rfl
  | n + 1 => by
    unfold trainB roundB bestB
    have h1 := countL_len (TL (trainB l n)) (TL l)
    unfold bytesN at h
    rw [train_twice l h n, TL_app, countL_append, topL_twice (countL_size (table8 (trainB_table l n)) (TL l)) (by omega)]
theorem u8_wf {x : Int} (h : (Lit.int .u8 x).wf = true) : 0 ≤ x ∧ x ≤ 255 := by
  unfold Lit.wf at h
  simp only [Bool.and_eq_true, decide_eq_true_eq] at h
  exact h
theorem TrainOrders : hopperlaw12_TrainOrders.Pure := by
  intro l0 a1 a2 h0 h1 h2
  have w1 := u8_wf h1
  have w2 := u8_wf h2
  refine Ev.rounds ?_
  unfold hopperlaw12_TrainOrders.f
  have bad : Ev (fun k => hopperlaw12_TrainOrders.j0 k l0 a1 a2 true) true := Ev.step (fun k => by rw [hopperlaw12_TrainOrders.j0]) (Ev.pos rfl (Ev.bind awake_ev (Ev.val rfl)))
  refine Ev.bind awake_ev (Ev.pos rfl ?_)
  obtain ⟨g, hg, hg2⟩ := few12_ev l0 h0
  refine Ev.bind hg ?_
  cases g with
  | false => exact Ev.neg (by simp) bad
  | true =>
  refine Ev.pos rfl ?_
  obtain ⟨hn, hb⟩ := hg2 rfl
  by_cases c : l0.length = 0
  · rw [show ((l0.length : Int) == 0) = true from by rw [c]; rfl]; exact bad
  rw [show ((l0.length : Int) == 0) = false from beq_eq_false_iff_ne.2 (by omega)]
  obtain ⟨m, hm, hml⟩ : ∃ m : Nat, Int.tmod (wrap64 a1) (l0.length : Int) = (m : Int) ∧ m ≤ l0.length := by
    rw [w64 (by omega) (by omega)]
    have e : Int.tmod a1 (l0.length : Int) = a1 % (l0.length : Int) := Int.tmod_eq_emod_of_nonneg w1.1
    have p1 := Int.emod_nonneg a1 (show (l0.length : Int) ≠ 0 by omega)
    have p2 := Int.emod_lt_of_pos a1 (show (0 : Int) < (l0.length : Int) by omega)
    exact ⟨(a1 % (l0.length : Int)).toNat, by omega, by omega⟩
  refine Ev.step (fun k => by rw [hopperlaw12_TrainOrders.j0]) ?_
  refine Ev.neg (by simp) ?_
  refine Ev.neg (by omega) ?_
  refine Ev.bind (Ev.now _) ?_
  rw [hm]
  refine Ev.pos (by omega) ?_
  refine Ev.pos (by omega) ?_
  refine Ev.pos (by simp; omega) ?_
  refine Ev.bind (Ev.now _) ?_
  refine Ev.pos (by simp; omega) ?_
  rw [Int.toNat_natCast, List.nil_append]
  have hb2 : bytesN (l0.drop m ++ l0.take m) ≤ 100000 := by
    have h3 := bytesN_append (l0.take m) (l0.drop m)
    rw [List.take_append_drop] at h3
    rw [bytesN_append]; omega
  have hle := fun n => trainB_len l0 n
  generalize wrap64 (Int.tmod a2 6) = q
  have t1 := train_ev l0 (by omega) q
  have t2 := train_ev (l0.drop m ++ l0.take m) hb2 q
  have t3 := train_ev (l0 ++ l0) (by rw [bytesN_append]; omega) q
  rw [train_turn (l0.take m) (l0.drop m), List.take_append_drop] at t2
  rw [train_twice l0 (by omega)] at t3
  have hs := same_ev (trainB l0 (rnds q)) (by have := hle (rnds q); omega)
  refine Ev.bind t1 ?_
  refine Ev.bind t2 ?_
  refine Ev.bind hs ?_
  refine Ev.pos rfl ?_
  refine Ev.bind (Ev.now _) ?_
  refine Ev.pos (by simp; omega) ?_
  refine Ev.bind (Ev.now _) ?_
  refine Ev.pos (by simp; omega) ?_
  rw [List.nil_append]
  refine Ev.bind t3 ?_
  exact Ev.bind hs (Ev.val rfl)
end Go.Proofs.Ytjodnhlfodmpeaa.Pure
