/- The longest symbol at a string's begin: what the printed functions come to. -/
import Derived.Test.YtjodnhlfodmpeaaQx
import Derived.Test.YtjodnhlfodmpeaaHEvBase
import Derived.Test.YtjodnhlfodmpeaaHTrainPure
set_option linter.unusedVariables false
set_option linter.unusedSimpArgs false
set_option maxHeartbeats 2000000
namespace Go.Proofs.Ytjodnhlfodmpeaa.Pure
open Go.RowKit Go.Proofs.Ytjodnhlfodmpeaa.Q Go.Proofs.YtjodnhlfodmpeaaW.PrintWords Go.Proofs.YtjodnhlfodmpeaaW.PrintLast Go.Proofs.YtjodnhlfodmpeaaW.PrintMore
open HopPure (bl cmpL Rising Table IsLongest Enc)

/-- The strings of a table, as lists of bytes. -/
def TL (t : List ByteArray) : List (List UInt8) := t.map fun s => s.data.toList
theorem TL_length (t : List ByteArray) : (TL t).length = t.length := by simp [TL]
theorem TL_get (t : List ByteArray) (i : Nat) (h : i < t.length) (h2 : i < (TL t).length) : (TL t)[i] = (t[i]).data.toList := by simp [TL]
theorem less_bl : ∀ x y : List UInt8, Op.bytesLess x y = bl x y
  | _, [] => by simp [Op.bytesLess, bl]
  | [], _ :: _ => by simp [Op.bytesLess, bl]
  | a :: x, b :: y => by
    rw [Op.bytesLess, bl, less_bl x y]
    congr 1
    congr 1
    rw [Bool.eq_iff_iff]
    simp only [beq_iff_eq, decide_eq_true_eq]
    exact ⟨fun h => by rw [h], fun h => UInt8.toNat.inj h⟩
theorem nan_f (a : ByteArray) : slices_isNaN_string.f a = some false := by simp [slices_isNaN_string.f]
theorem less_f (a b : ByteArray) : cmp_Less_string.f a b = some (bl a.data.toList b.data.toList) := by
  simp [cmp_Less_string.f, cmp_isNaN_string.f, less_bl, tl]

theorem half {i j : Nat} (h : i + j ≤ 9223372036854775807) : wrap64 ((IntKind.u64.wrap (wrap64 ((i : Int) + (j : Int)))) / 2) = (((i + j) / 2 : Nat) : Int) := by
  rw [w64 (x := (i : Int) + j) (by omega) (by omega), IntWalk.u64_in _ (by omega), w64 (by omega) (by omega)]
  omega
theorem bsearch_l0 (t : List ByteArray) (x : ByteArray) (hr : Rising (TL t)) (hl : t.length ≤ 1000000) : ∀ (n i j : Nat), j - i = n → i ≤ j → j ≤ t.length →
    (∀ (k : Nat) (h : k < t.length), k < i → bl (t[k]).data.toList x.data.toList = true) → (∀ (k : Nat) (h : k < t.length), j ≤ k → bl (t[k]).data.toList x.data.toList = false) →
    ∃ (p : Nat) (ok : Bool), Ev (fun q => slices_BinarySearch_string_string.l0 q t x (t.length : Int) (i : Int) (j : Int)) ((p : Int), ok) ∧
      (ok = true → ∃ h : p < t.length, (t[p]).data.toList = x.data.toList) ∧ (ok = false → ∀ (k : Nat) (h : k < t.length), (t[k]).data.toList ≠ x.data.toList) := by
  intro n
  induction n using Nat.strongRecOn with
  | _ n ih =>
  intro i j hn hij hj hlo hhi
  by_cases c : i < j
  · have hm : (i + j) / 2 < t.length := by omega
    have e := half (i := i) (j := j) (by omega)
    cases hb : bl (t[(i + j) / 2]).data.toList x.data.toList with
    | true =>
      obtain ⟨p, ok, h1, h2, h3⟩ := ih (j - ((i + j) / 2 + 1)) (by omega) ((i + j) / 2 + 1) j rfl (by omega) hj (fun k hk hlt => by
        by_cases e2 : k = (i + j) / 2
        · subst e2; exact hb
        · have := hr k ((i + j) / 2) (by rw [TL_length]; exact hk) (by rw [TL_length]; exact hm) (by omega)
          rw [TL_get t k hk, TL_get t _ hm] at this
          exact HopPure.bl_trans this hb) hhi
      refine ⟨p, ok, Ev.step (fun k => by rw [slices_BinarySearch_string_string.l0]) (Ev.pos (by omega) ?_), h2, h3⟩
      rw [e, rdOfn _ t _ hm]
      refine Ev.pos (by omega) (Ev.pos (by omega) (Ev.bind (Ev.c (less_f _ _)) (Ev.pos hb ?_)))
      rw [w64s (n := t.length) (by omega) (by omega)]
      exact h1
    | false =>
      obtain ⟨p, ok, h1, h2, h3⟩ := ih ((i + j) / 2 - i) (by omega) i ((i + j) / 2) rfl (by omega) (by omega) hlo (fun k hk hle => by
        by_cases e2 : k = (i + j) / 2
        · subst e2; exact hb
        · have h4 := hr ((i + j) / 2) k (by rw [TL_length]; exact hm) (by rw [TL_length]; exact hk) (by omega)
          rw [TL_get t k hk, TL_get t _ hm] at h4
          cases h5 : bl (t[k]).data.toList x.data.toList with
          | false => rfl
          | true => have := HopPure.bl_trans h4 h5; rw [hb] at this; cases this)
      refine ⟨p, ok, Ev.step (fun k => by rw [slices_BinarySearch_string_string.l0]) (Ev.pos (by omega) ?_), h2, h3⟩
      rw [e, rdOfn _ t _ hm]
      exact Ev.pos (by omega) (Ev.pos (by omega) (Ev.bind (Ev.c (less_f _ _)) (Ev.neg (by rw [hb]; simp) h1)))
  · have e : i = j := by omega
    subst e
    by_cases ci : i < t.length
    · by_cases ce : (t[i]).data.toList = x.data.toList
      · refine ⟨i, true, Ev.step (fun k => by rw [slices_BinarySearch_string_string.l0]) (Ev.neg (by omega) (Ev.pos (by omega) (Ev.pos (by omega) (Ev.pos (by omega) (Ev.pos ?_ (Ev.val rfl)))))), fun _ => ⟨ci, ce⟩, (fun h => by cases h)⟩
        rw [rdOfn _ t _ ci, tl, tl]; exact ce
      · refine ⟨i, false, Ev.step (fun k => by rw [slices_BinarySearch_string_string.l0]) (Ev.neg (by omega) (Ev.pos (by omega) (Ev.pos (by omega) (Ev.pos (by omega) (Ev.neg ?_ (Ev.bind (Ev.c (nan_f _)) (Ev.neg Bool.false_ne_true (Ev.val rfl)))))))), (fun h => by cases h), fun _ k hk hc => ?_⟩
        · rw [rdOfn _ t _ ci, tl, tl]; exact ce
        · rcases Nat.lt_trichotomy k i with h | h | h
          · have := hlo k hk h; rw [hc, HopPure.bl_irrefl] at this; cases this
          · subst h; exact ce hc
          · have h4 := hr i k (by rw [TL_length]; exact ci) (by rw [TL_length]; exact hk) h
            rw [TL_get t k hk, TL_get t _ ci, hc] at h4
            rw [hhi i ci (Nat.le_refl _)] at h4; cases h4
    · refine ⟨i, false, Ev.step (fun k => by rw [slices_BinarySearch_string_string.l0]) (Ev.neg (by omega) (Ev.neg (by omega) (Ev.val rfl))), (fun h => by cases h), fun _ k hk hc => ?_⟩
      have := hlo k hk (by omega); rw [hc, HopPure.bl_irrefl] at this; cases this
theorem bsearch_ev (t : List ByteArray) (x : ByteArray) (hr : Rising (TL t)) (hl : t.length ≤ 1000000) :
    ∃ (p : Nat) (ok : Bool), Ev (fun q => slices_BinarySearch_string_string.f q t x) ((p : Int), ok) ∧
      (ok = true → ∃ h : p < t.length, (t[p]).data.toList = x.data.toList) ∧ (ok = false → ∀ (k : Nat) (h : k < t.length), (t[k]).data.toList ≠ x.data.toList) :=
  bsearch_l0 t x hr hl _ 0 t.length rfl (by omega) (by omega) (fun k _ h => by omega) (fun k h1 h2 => by omega)
theorem longest_l0 (t : List ByteArray) (s : ByteArray) (ht : Table (TL t)) : ∀ (n : Nat), n ≤ 8 → n ≤ s.size → (∀ x ∈ TL t, x <+: s.data.toList → x.length ≤ n) →
    ∃ c m : Int, Ev (fun k => symbol_Longest.l0 k t s (n : Int)) (c, m) ∧ IsLongest (TL t) s.data.toList c m := by
  have hfew := ht.few
  rw [TL_length] at hfew
  intro n
  induction n with
  | zero =>
    intro _ _ hx
    refine ⟨-1, 0, Ev.step (fun k => by rw [symbol_Longest.l0]) (Ev.neg (by omega) (Ev.val rfl)), .inl ⟨rfl, rfl, fun x hm hp => ?_⟩⟩
    have := hx x hm hp
    have := (ht.sizes x hm).1
    omega
  | succ n ih =>
    intro h8 hs hx
    have hd := dsz s
    have e1 : (((n + 1 : Nat) : Int)).toNat = n + 1 := by omega
    obtain ⟨p, ok, h1, h2, h3⟩ := bsearch_ev t (s.extract 0 (n + 1)) ht.rising (by omega)
    rw [cut_to] at h2 h3
    cases ok with
    | true =>
      obtain ⟨hp, he⟩ := h2 rfl
      have hlen : (t[p]).data.toList.length = n + 1 := by rw [he, List.length_take]; omega
      refine ⟨(p : Int), ((n + 1 : Nat) : Int), Ev.step (fun k => by rw [symbol_Longest.l0]) (Ev.pos (by omega) (Ev.pos (by omega) (Ev.pos (by omega) ?_))), .inr ⟨p, by rw [TL_length]; exact hp, rfl, ?_, ?_, fun x hm hpx => ?_⟩⟩
      · rw [e1]; exact Ev.bind h1 (Ev.pos rfl (Ev.val rfl))
      · rw [TL_get t p hp, hlen]
      · rw [TL_get t p hp, he]; exact List.take_prefix _ _
      · rw [TL_get t p hp, hlen]; exact hx x hm hpx
    | false =>
      obtain ⟨c, m, h4, h5⟩ := ih (by omega) (by omega) (fun x hm hpx => by
        have h6 := hx x hm hpx
        by_cases e : x.length = n + 1
        · exfalso
          obtain ⟨k, hk, hek⟩ := List.getElem_of_mem hm
          have hk2 : k < t.length := by rw [TL_length] at hk; exact hk
          rw [TL_get t k hk2] at hek
          refine h3 rfl k hk2 ?_
          rw [hek, HopPure.prefix_take hpx, e]
        · omega)
      refine ⟨c, m, Ev.step (fun k => by rw [symbol_Longest.l0]) (Ev.pos (by omega) (Ev.pos (by omega) (Ev.pos (by omega) ?_))), h5⟩
      rw [e1]
      refine Ev.bind h1 (Ev.neg (by simp) ?_)
      rw [w64p (k := n + 1) (by omega) (by omega)]
      exact h4
theorem longest_ev (t : List ByteArray) (s : ByteArray) (ht : Table (TL t)) : ∃ c m : Int, Ev (fun k => symbol_Longest.f k t s) (c, m) ∧ IsLongest (TL t) s.data.toList c m := by
  have hd := dsz s
  have e : mn 8 (s.size : Int) = ((min 8 s.size : Nat) : Int) := by unfold mn; split <;> omega
  unfold symbol_Longest.f
  rw [e]
  exact longest_l0 t s ht _ (by omega) (by omega) (fun x hm hp => by have := (ht.sizes x hm).2; have := hp.length_le; omega)
end Go.Proofs.Ytjodnhlfodmpeaa.Pure
