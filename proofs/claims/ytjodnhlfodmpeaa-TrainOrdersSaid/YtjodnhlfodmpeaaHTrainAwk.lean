/- train.Train, train.Sample, and what holds awake. -/
import Derived.Test.YtjodnhlfodmpeaaHTrainRnd
set_option linter.unusedVariables false
set_option linter.unusedSimpArgs false
set_option maxHeartbeats 2000000
namespace Go.Proofs.Ytjodnhlfodmpeaa.Pure
open Go.RowKit Go.Proofs.Ytjodnhlfodmpeaa.Q Go.Proofs.YtjodnhlfodmpeaaW.PrintWords Go.Proofs.YtjodnhlfodmpeaaW.PrintLast Go.Proofs.YtjodnhlfodmpeaaW.PrintMore
open HopPure (bl Rising Table countL countL_size)

theorem same_l0 (l : List ByteArray) (hl : l.length ≤ 1152921504606846976) : ∀ (n i : Nat), l.length - i = n → Ev (fun k => hopperref07_Same.l0 k l l (i : Int)) true := by
  intro n
  induction n with
  | zero => intro i hn; exact Ev.step (fun k => by rw [hopperref07_Same.l0]) (Ev.neg (by omega) (Ev.val rfl))
  | succ n ih =>
    intro i hn
    refine Ev.step (fun k => by rw [hopperref07_Same.l0]) (Ev.pos (by omega) (Ev.pos (by omega) (Ev.pos (by omega) (Ev.pos rfl ?_))))
    rw [w64s (n := l.length) (by omega) (by omega)]
    exact ih (i + 1) (by omega)
theorem same_ev (l : List ByteArray) (hl : l.length ≤ 1152921504606846976) : Ev (fun k => hopperref07_Same.f k l l) true := by
  unfold hopperref07_Same.f
  exact Ev.pos rfl (by simpa using same_l0 l hl _ 0 rfl)
/-! ### train.Train -/
theorem train_l0 (ss : List ByteArray) (h : bytesN ss ≤ 100000) (N : Nat) (hN : N ≤ 8) : ∀ (n i : Nat), N - i = n → i ≤ N → Ev (fun k => train_Train.l0 k ss (trainB ss i) (N : Int) (i : Int)) (trainB ss N) := by
  intro n
  induction n with
  | zero =>
    intro i hn hi
    obtain rfl : i = N := by omega
    exact Ev.step (fun k => by rw [train_Train.l0]) (Ev.neg (by omega) (Ev.val rfl))
  | succ n ih =>
    intro i hn hi
    refine Ev.step (fun k => by rw [train_Train.l0]) (Ev.pos (by omega) (Ev.bind (round_ev _ (trainB_table ss i) ss h) ?_))
    rw [w64s (n := N) (by omega) (by omega)]
    exact ih (i + 1) (by omega) (by omega)
/-- How many rounds are run. -/
def rnds (a : Int) : Nat := (min (max a 0) 8).toNat
theorem rnds_le (a : Int) : rnds a ≤ 8 := by unfold rnds; omega
theorem rnds_eq (a : Int) : mn (mx a 0) 8 = ((rnds a : Nat) : Int) := by unfold mn mx rnds; split <;> split <;> omega
theorem train_ev (ss : List ByteArray) (h : bytesN ss ≤ 100000) (a : Int) : Ev (fun k => train_Train.f k ss a) (trainB ss (rnds a)) := by
  unfold train_Train.f
  rw [rnds_eq]
  exact train_l0 ss h _ (rnds_le a) _ 0 rfl (by omega)
theorem trainB_len (ss : List ByteArray) (n : Nat) : (trainB ss n).length ≤ 255 := by have := (trainB_table ss n).few; rwa [TL_length] at this
/-! ### train.Sample -/
/-- The number that a draw takes. -/
def drawn (n : Nat) (d : Int) : Nat := d.natAbs % n
def sampB (l : List ByteArray) (ds : List Int) : List ByteArray := if l.length = 0 then [] else ds.map fun d => rdOf ByteArray.empty l ((drawn l.length d : Nat) : Int)
theorem u64w (x : Int) : IntKind.u64.wrap x = x % 18446744073709551616 := by rfl
theorem distance_f (d : Int) (h0 : -9223372036854775808 ≤ d) (h1 : d ≤ 9223372036854775807) : train_distance.f d = some ((d.natAbs : Nat) : Int) := by
  unfold train_distance.f
  rw [u64w, u64w]
  by_cases c : d < 0
  · rw [if_pos c]; congr 1; omega
  · rw [if_neg c]; congr 1; omega
theorem sample_l0 (l : List ByteArray) (hl : l.length ≤ 9223372036854775807) (ds : List Int) (hd : ds.length ≤ 1000000) (hw : ∀ d ∈ ds, -9223372036854775808 ≤ d ∧ d ≤ 9223372036854775807) : ∀ (n i : Nat) (acc : List ByteArray), ds.length - i = n → i ≤ ds.length → acc.length ≤ i →
    Ev (fun k => train_Sample.l0 k l acc ds (ds.length : Int) (i : Int)) (acc ++ sampB l (ds.drop i)) := by
  intro n
  induction n with
  | zero =>
    intro i acc hn hi ha
    rw [List.drop_eq_nil_of_le (by omega)]
    exact Ev.step (fun k => by rw [train_Sample.l0]) (Ev.neg (by omega) (Ev.val (by unfold sampB; split <;> simp)))
  | succ n ih =>
    intro i acc hn hi ha
    have hil : i < ds.length := by omega
    refine Ev.step (fun k => by rw [train_Sample.l0]) (Ev.pos (by omega) (Ev.pos (by omega) (Ev.pos (by omega) ?_)))
    rw [rdn _ i hil, w64s (n := ds.length) hil (by omega), drop_at ds i hil]
    by_cases c : l.length = 0
    · refine Ev.neg (by omega) (Ev.eq (ih (i + 1) acc (by omega) (by omega) (by omega)) ?_)
      unfold sampB
      rw [if_pos c, if_pos c]
    · have hw2 := hw ds[i] (List.getElem_mem hil)
      have e1 : IntKind.u64.wrap (l.length : Int) = (l.length : Int) := by rw [u64w]; omega
      have e2 : Int.tmod ((ds[i].natAbs : Nat) : Int) (l.length : Int) = ((drawn l.length ds[i] : Nat) : Int) := by
        rw [Int.tmod_eq_emod_of_nonneg (by omega)]; unfold drawn; omega
      have e3 : drawn l.length ds[i] < l.length := Nat.mod_lt _ (by omega)
      refine Ev.pos (by omega) (Ev.bind (Ev.c (distance_f _ hw2.1 hw2.2)) ?_)
      rw [e1, e2]
      refine Ev.neg (by omega) (Ev.pos (by omega) (Ev.pos (by omega) (Ev.pos (by omega) ?_)))
      refine Ev.eq (ih (i + 1) _ (by omega) (by omega) (by simp; omega)) ?_
      unfold sampB
      rw [if_neg c, if_neg c, List.map_cons, List.append_assoc]; rfl
theorem sample_ev (l : List ByteArray) (hl : l.length ≤ 9223372036854775807) (ds : List Int) (hd : ds.length ≤ 1000000) (hw : ∀ d ∈ ds, -9223372036854775808 ≤ d ∧ d ≤ 9223372036854775807) : Ev (fun k => train_Sample.f k l ds) (sampB l ds) := by
  unfold train_Sample.f
  exact Ev.eq (sample_l0 l hl ds hd hw _ 0 [] rfl (by omega) (by simp)) (by simp)
/-! ### awake -/
theorem leG_iff (M : List (List UInt8)) (a b : List UInt8) : leG M a b = true ↔ ¬ (gainL M a < gainL M b ∨ gainL M b = gainL M a ∧ b < a) := by
  unfold leG
  rw [Bool.not_eq_true', decide_eq_false_iff_not, cfL_neg]
theorem top_abab : topL (countL [] [[97, 98, 97, 98]]) = [[97, 98], [97], [98], [98, 97]] := by
  have e : countL [] [[97, 98, 97, 98]] = [[97], [98], [97, 98], [97], [98, 97], [98], [97, 98]] := by decide
  rw [e]
  refine (topL_of _ (ss := [[97, 98], [97], [98], [98, 97]]) (by decide) (fun x => ?_)).symm.trans (List.mergeSort_of_pairwise ?_)
  · simp only [List.mem_cons, List.not_mem_nil, or_false]
    constructor
    · rintro (h | h | h | h) <;> simp [h]
    · rintro (h | h | h | h | h | h | h) <;> simp [h]
  · refine List.Pairwise.imp (R := fun a b => ¬ (gainL [[97], [98], [97, 98], [97], [98, 97], [98], [97, 98]] a < gainL [[97], [98], [97, 98], [97], [98, 97], [98], [97, 98]] b ∨ gainL [[97], [98], [97, 98], [97], [98, 97], [98], [97, 98]] b = gainL [[97], [98], [97, 98], [97], [98, 97], [98], [97, 98]] a ∧ b < a)) (fun h => (leG_iff _ _ _).2 h) ?_
    decide +kernel
theorem round_abab : roundB [] [⟨#[97, 98, 97, 98]⟩] = [⟨#[97]⟩, ⟨#[97, 98]⟩, ⟨#[98]⟩, ⟨#[98, 97]⟩] := by
  have e : bestB (countL (TL []) (TL [⟨#[97, 98, 97, 98]⟩])) = [⟨#[97, 98]⟩, ⟨#[97]⟩, ⟨#[98]⟩, ⟨#[98, 97]⟩] := by
    unfold bestB
    rw [show TL [] = [] from rfl, show TL [(⟨#[97, 98, 97, 98]⟩ : ByteArray)] = [[97, 98, 97, 98]] from rfl, top_abab]
    rfl
  unfold roundB
  rw [e]
  have h := ordS_set [⟨#[97, 98]⟩, ⟨#[97]⟩, ⟨#[98]⟩, ⟨#[98, 97]⟩] (by simp)
  have h2 : SetOf [⟨#[97]⟩, ⟨#[97, 98]⟩, ⟨#[98]⟩, ⟨#[98, 97]⟩] ([⟨#[97, 98]⟩, ⟨#[97]⟩, ⟨#[98]⟩, ⟨#[98, 97]⟩].filter mayB) := by
    refine ⟨?_, fun x => ?_⟩
    · have : ([[97], [97, 98], [98], [98, 97]] : List (List UInt8)).Pairwise (· < ·) := by decide
      have h3 : (([⟨#[97]⟩, ⟨#[97, 98]⟩, ⟨#[98]⟩, ⟨#[98, 97]⟩] : List ByteArray).map toB).Pairwise (· < ·) := this
      exact List.pairwise_map.1 h3
    · rw [show [(⟨#[97, 98]⟩ : ByteArray), ⟨#[97]⟩, ⟨#[98]⟩, ⟨#[98, 97]⟩].filter mayB = [⟨#[97, 98]⟩, ⟨#[97]⟩, ⟨#[98]⟩, ⟨#[98, 97]⟩] from rfl]
      simp only [List.mem_cons, List.not_mem_nil, or_false]
      constructor
      · rintro (h | h | h | h) <;> simp [h]
      · rintro (h | h | h | h) <;> simp [h]
  exact h.uniq h2 (fun x => Iff.rfl)
theorem awake_ev : Ev (fun k => hopperlaw12_awake.f k) true := by
  have h1 := round_ev [] table_nil [⟨#[97, 98, 97, 98]⟩] (by decide)
  rw [round_abab] at h1
  have h2 : Ev (fun k => train_Sample.f k [⟨#[120]⟩, ⟨#[121]⟩] [3, -2]) [⟨#[121]⟩, ⟨#[120]⟩] :=
    Ev.eq (sample_ev [⟨#[120]⟩, ⟨#[121]⟩] (by decide) [3, -2] (by decide) (by decide)) rfl
  have h3 := train_ev [⟨#[97, 98]⟩] (by decide) 0
  unfold hopperlaw12_awake.f
  exact Ev.bind h1 (Ev.bind (same_ev _ (by decide)) (Ev.pos rfl (Ev.bind h2 (Ev.bind (same_ev _ (by decide)) (Ev.pos rfl (Ev.bind h3 (Ev.val rfl)))))))
end Go.Proofs.Ytjodnhlfodmpeaa.Pure
