/- Grams and filters: what the program's and the reference's functions come to. -/
import Derived.Test.YtdccooaddoafnaaDoorHEvBase
import Derived.Test.YtdccooaddoafnaaDoorQx
set_option linter.unusedVariables false
set_option linter.unusedSimpArgs false
namespace Go.Proofs.YtdccooaddoafnaaDoor.Pure
open Go.RowKit Go.Proofs.YtdccooaddoafnaaDoor.Q Go.Proofs.YtdccooaddoafnaaDoorW.PrintWords Go.Proofs.YtdccooaddoafnaaDoorW.PrintLast Go.Proofs.YtdccooaddoafnaaDoorW.PrintMore
/-! ### numbers put together -/
theorem wrapN (n : Nat) (h : n < 9223372036854775808) : IntKind.i64.wrap (n : Int) = (n : Int) := by
  have e : (n : Int) % 2 ^ 64 = n := Int.emod_eq_of_lt (by omega) (by omega)
  simp only [IntKind.wrap, IntKind.bits, IntKind.signed, e]
  rw [if_neg]
  simp
  omega
theorem or_i64 (a b p : Nat) (hb : b < 2 ^ p) (ha : 2 ^ p * a + b < 9223372036854775808) : Go.bits .or .i64 ((2 ^ p * a : Nat) : Int) (b : Int) = ((2 ^ p * a + b : Nat) : Int) := by
  have h1 : (BitVec.ofInt 64 ((2 ^ p * a : Nat) : Int)).toNat = 2 ^ p * a := by
    rw [BitVec.ofInt_natCast, BitVec.toNat_ofNat]; exact Nat.mod_eq_of_lt (by omega)
  have h2 : (BitVec.ofInt 64 (b : Int)).toNat = b := by
    rw [BitVec.ofInt_natCast, BitVec.toNat_ofNat]; exact Nat.mod_eq_of_lt (by omega)
  show IntKind.i64.wrap ((BitVec.ofInt 64 ((2 ^ p * a : Nat) : Int) ||| BitVec.ofInt 64 (b : Int)).toNat : Int) = _
  rw [BitVec.toNat_or, h1, h2, ← Nat.two_pow_add_eq_or_of_lt hb a]
  exact wrapN _ ha
theorem or3 (a b c : Int) (ha : 0 ≤ a ∧ a ≤ 255) (hb : 0 ≤ b ∧ b ≤ 255) (hc : 0 ≤ c ∧ c ≤ 255) :
    Go.bits .or .i64 (Go.bits .or .i64 (wrap64 (wrap64 a * 65536)) (wrap64 (wrap64 b * 256))) (wrap64 c) = 65536 * a + 256 * b + c := by
  obtain ⟨x, rfl⟩ : ∃ x : Nat, a = x := ⟨a.toNat, by omega⟩
  obtain ⟨y, rfl⟩ : ∃ y : Nat, b = y := ⟨b.toNat, by omega⟩
  obtain ⟨z, rfl⟩ : ∃ z : Nat, c = z := ⟨c.toNat, by omega⟩
  rw [w64 (x := (x : Int)) (by omega) (by omega), w64 (x := (y : Int)) (by omega) (by omega), w64 (x := (z : Int)) (by omega) (by omega), w64 (x := (x : Int) * 65536) (by omega) (by omega), w64 (x := (y : Int) * 256) (by omega) (by omega)]
  have e1 := or_i64 x (y * 256) 16 (by omega) (by omega)
  have e2 := or_i64 (256 * x + y) z 8 (by omega) (by omega)
  rw [show ((x : Int) * 65536) = ((2 ^ 16 * x : Nat) : Int) by omega, show ((y : Int) * 256) = ((y * 256 : Nat) : Int) by omega, e1, show ((2 ^ 16 * x + y * 256 : Nat) : Int) = ((2 ^ 8 * (256 * x + y) : Nat) : Int) by omega, e2]
  omega
/-! ### a string's grams -/
/-- The gram at a place. -/
def gr (s : ByteArray) (i : Nat) : Int := 65536 * bt s (i : Int) + 256 * bt s ((i + 1 : Nat) : Int) + bt s ((i + 2 : Nat) : Int)
def rawG (s : ByteArray) : List Int := (List.range (s.size - 2)).map (gr s)
theorem w2 {j n : Nat} (h : j < n) (hn : n ≤ 1000000) : wrap64 ((j : Int) + 2) = ((j + 2 : Nat) : Int) := by rw [w64 (by omega) (by omega)]; omega
theorem gr_range (s : ByteArray) (i : Nat) : 0 ≤ gr s i ∧ gr s i ≤ 16777215 := by
  have h1 := bt_range s (i : Int)
  have h2 := bt_range s ((i + 1 : Nat) : Int)
  have h3 := bt_range s ((i + 2 : Nat) : Int)
  unfold gr
  omega
theorem rawG_range {s : ByteArray} {g : Int} (h : g ∈ rawG s) : 0 ≤ g ∧ g ≤ 16777215 := by
  obtain ⟨i, _, rfl⟩ := List.mem_map.1 h
  exact gr_range s i
theorem rawG_len (s : ByteArray) : (rawG s).length = s.size - 2 := by simp [rawG]
theorem rawG_drop (s : ByteArray) (i : Nat) (h : i + 3 ≤ s.size) : (rawG s).drop i = gr s i :: (rawG s).drop (i + 1) := by
  rw [List.drop_eq_getElem_cons (by rw [rawG_len]; omega)]
  simp [rawG]
theorem grams_l0 (s : ByteArray) (hs : s.size ≤ 1000000) : ∀ (n i : Nat) (acc : List Int), s.size - i = n → acc.length ≤ i → i ≤ s.size → Ev (fun k => gram_Grams.l0 k s acc (i : Int)) (compI (sortI (acc ++ (rawG s).drop i))) := by
  intro n
  induction n with
  | zero =>
    intro i acc hn ha hi
    refine Ev.step (fun k => by rw [gram_Grams.l0]) ?_
    rw [List.drop_of_length_le (by rw [rawG_len]; omega), List.append_nil]
    have e1 : slices_Sort_int_int.f acc = some (sortI acc) := by unfold slices_Sort_int_int.f; rw [if_pos (by omega)]
    have e2 : slices_Compact_int_int.f (sortI acc) = some (compI (sortI acc)) := by unfold slices_Compact_int_int.f; rw [if_pos (by simp [sortI]; omega)]
    exact Ev.neg (by rw [w64 (by omega) (by omega)]; omega) (Ev.bind (Ev.c e1) (Ev.bind (Ev.c e2) (Ev.val rfl)))
  | succ n ih =>
    intro i acc hn ha hi
    refine Ev.step (fun k => by rw [gram_Grams.l0]) ?_
    have e3 : wrap64 ((i : Int) + 3) = (i : Int) + 3 := w64 (by omega) (by omega)
    have e2 : wrap64 ((i : Int) + 2) = ((i + 2 : Nat) : Int) := by rw [w64 (by omega) (by omega)]; omega
    have e1 : wrap64 ((i : Int) + 1) = ((i + 1 : Nat) : Int) := by rw [w64 (by omega) (by omega)]; omega
    rw [e3, e2, e1, or3 _ _ _ (bt_range _ _) (bt_range _ _) (bt_range _ _)]
    clear e3 e2 e1
    by_cases c : i + 3 ≤ s.size
    · rw [rawG_drop s i c]
      have next := ih (i + 1) (acc ++ [gr s i]) (by omega) (by simp; omega) (by omega)
      rw [List.append_assoc] at next
      exact Ev.pos (by omega) (Ev.pos (by omega) (Ev.pos (by omega) (Ev.pos (by omega) (Ev.pos (by omega) (Ev.pos (by omega) (Ev.pos (by omega) (Ev.pos (by omega) next)))))))
    · rw [List.drop_of_length_le (by rw [rawG_len]; omega), List.append_nil]
      have e1 : slices_Sort_int_int.f acc = some (sortI acc) := by unfold slices_Sort_int_int.f; rw [if_pos (by omega)]
      have e2 : slices_Compact_int_int.f (sortI acc) = some (compI (sortI acc)) := by unfold slices_Compact_int_int.f; rw [if_pos (by simp [sortI]; omega)]
      exact Ev.neg (by omega) (Ev.bind (Ev.c e1) (Ev.bind (Ev.c e2) (Ev.val rfl)))
theorem grams_ev (s : ByteArray) (hs : s.size ≤ 1000000) : Ev (fun k => gram_Grams.f k s) (compI (sortI (rawG s))) := by
  unfold gram_Grams.f
  have := grams_l0 s hs _ 0 [] rfl (by simp) (by omega)
  simpa using this
/-! ### sorted, each once -/
theorem compactI (d : Array Int) : ∀ m, m ≤ d.size → ∀ x, x ∈ Lib.compactUpTo d m ↔ ∃ j, j < m ∧ d[j]! = x
  | 0, _ => by simp [Lib.compactUpTo]
  | m + 1, hm => by
    have h2 := compactI d m (by omega)
    rw [Lib.compactUpTo_succ]
    cases hk : Lib.keeps d m with
    | true =>
      rw [if_pos rfl]
      intro x
      rw [List.mem_append, h2 x]
      constructor
      · rintro (⟨j, hj, e⟩ | e)
        · exact ⟨j, by omega, e⟩
        · exact ⟨m, by omega, (List.mem_singleton.1 e).symm⟩
      · rintro ⟨j, hj, e⟩
        by_cases hjm : j = m
        · subst hjm; exact .inr (by simp [e])
        · exact .inl ⟨j, by omega, e⟩
    | false =>
      rw [if_neg (by decide), List.append_nil]
      refine fun x => (h2 x).trans ?_
      have hm0 : 0 < m := by
        rcases Nat.eq_zero_or_pos m with e | e
        · subst e
          rw [Lib.keeps_lt_one d 0 (by omega)] at hk; cases hk
        · exact e
      have e0 : d[m]! = d[m - 1]! := by
        by_cases e : d[m]! = d[m - 1]!
        · exact e
        · rw [Lib.keeps_pos e] at hk; cases hk
      constructor
      · rintro ⟨j, hj, e⟩; exact ⟨j, by omega, e⟩
      · rintro ⟨j, hj, e⟩
        by_cases hjm : j = m
        · subst hjm; exact ⟨j - 1, by omega, by rw [← e0]; exact e⟩
        · exact ⟨j, by omega, e⟩
theorem mem_comp (l : List Int) (x : Int) : x ∈ compI (sortI l) ↔ x ∈ l := by
  have hp := List.mergeSort_perm l (fun x y => decide (x ≤ y))
  unfold compI sortI Lib.compact
  rw [← hp.mem_iff]
  generalize (l.mergeSort fun x y => decide (x ≤ y)) = s
  rw [compactI s.toArray s.length (by simp) x]
  constructor
  · rintro ⟨j, hj, e⟩
    have : s.toArray[j]! = s[j] := by simp [hj]
    rw [this] at e
    exact e ▸ List.getElem_mem hj
  · intro h
    obtain ⟨j, hj, e⟩ := List.getElem_of_mem h
    exact ⟨j, hj, by simp [hj, e]⟩
/-! ### whether one, whether all -/
theorem anyE_ev {α : Type} (f : Nat → α → Option Bool) (q : α → Bool) : ∀ l : List α, (∀ x, x ∈ l → Ev (fun k => f k x) (q x)) → Ev (fun k => anyE (f k) l) (l.any q)
  | [], _ => Ev.val rfl
  | x :: xs, h => by
    have h1 := h x (List.mem_cons_self ..)
    have h2 := anyE_ev f q xs fun y hy => h y (List.mem_cons_of_mem _ hy)
    refine Ev.congr (fun k => by rw [anyE]) (Ev.bind h1 ?_)
    rw [List.any_cons]
    cases hq : q x with
    | true => exact Ev.pos rfl (Ev.val (by simp))
    | false => exact Ev.neg (by decide) (by simpa using h2)
theorem Ev.map1 {α β : Type} {g : Nat → Option α} {r : α} (f : α → β) (h : Ev g r) : Ev (fun k => (g k).map f) (f r) := by
  obtain ⟨K, h⟩ := h
  exact ⟨K, fun k hk => by show (g k).map f = _; rw [h k hk]; rfl⟩
theorem any_mem {α : Type} {l m : List α} (q : α → Bool) (h : ∀ x, x ∈ l ↔ x ∈ m) : l.any q = m.any q := by
  rw [Bool.eq_iff_iff, List.any_eq_true, List.any_eq_true]
  exact ⟨fun ⟨x, hx, e⟩ => ⟨x, (h x).1 hx, e⟩, fun ⟨x, hx, e⟩ => ⟨x, (h x).2 hx, e⟩⟩
/-! ### a filter's grams -/
/-- A gram's bit. -/
def plc (g bits : Int) : Int := Int.tmod (Int.tmod (g * 40503) 65521) bits
theorem plc_range (g bits : Int) (hg : 0 ≤ g) (hb : 0 < bits) : 0 ≤ plc g bits ∧ plc g bits < bits := by
  unfold plc
  exact ⟨Int.tmod_nonneg _ (Int.tmod_nonneg _ (by omega)), Int.tmod_lt_of_pos _ hb⟩
/-- Has a filter a gram? -/
def hasB (f : S50) (g : Int) : Bool := if f.f0 > 0 then rdOf false f.f2 (plc g f.f0) else decide (g ∈ f.f1)
/-- A filter as it is made: bits, or a list that rises. -/
def GoodF (f : S50) : Prop := (f.f0 > 0 → (f.f2.length : Int) = f.f0) ∧ (f.f1.Pairwise (· < ·)) ∧ f.f1.length ≤ 1000000
theorem bs_l0 (l : List Int) (x : Int) (hl : l.length ≤ 1000000) (hs : l.Pairwise (· < ·)) : ∀ (n i j : Nat), j - i = n → i ≤ j → j ≤ l.length → (∀ a (h : a < l.length), a < i → l[a] < x) → (∀ a (h : a < l.length), j ≤ a → x ≤ l[a]) →
    ∃ z, Ev (fun k => slices_BinarySearch_int_int.l0 k l x (l.length : Int) (i : Int) (j : Int)) (z, decide (x ∈ l)) := by
  intro n
  induction n using Nat.strongRecOn with
  | _ n ih =>
  intro i j hn hij hj hlo hhi
  have less : ∀ a b : Int, cmp_Less_int.f a b = some (decide (a < b)) := fun a b => by
    unfold cmp_Less_int.f cmp_isNaN_int.f
    by_cases c : a < b <;> simp [c]
  have nan : ∀ a : Int, slices_isNaN_int.f a = some false := fun a => by unfold slices_isNaN_int.f; simp
  by_cases c : i < j
  · have hm : i ≤ (i + j) / 2 ∧ (i + j) / 2 < j := by omega
    have hml : (i + j) / 2 < l.length := by omega
    have ew : wrap64 ((IntKind.u64.wrap (wrap64 ((i : Int) + (j : Int)))) / 2) = (((i + j) / 2 : Nat) : Int) := by
      rw [w64 (x := (i : Int) + (j : Int)) (by omega) (by omega), IntKind.wrap_u64, w64 (by omega) (by omega)]
      omega
    by_cases c2 : l[(i + j) / 2] < x
    · obtain ⟨z, next⟩ := ih (j - ((i + j) / 2 + 1)) (by omega) ((i + j) / 2 + 1) j rfl (by omega) hj (fun a h ha => by
        by_cases e : a = (i + j) / 2
        · subst e; exact c2
        · exact Int.lt_trans (List.pairwise_iff_getElem.1 hs a ((i + j) / 2) h hml (by omega)) c2) hhi
      refine ⟨z, Ev.step (fun k => by rw [slices_BinarySearch_int_int.l0, ew]) (Ev.pos (by omega) (Ev.pos (by omega) (Ev.pos (by omega) (Ev.bind (Ev.c (less _ _)) ?_))))⟩
      rw [rdn l _ hml]
      refine Ev.pos (decide_eq_true c2) ?_
      rw [w64s hml (by omega)]
      exact next
    · obtain ⟨z, next⟩ := ih ((i + j) / 2 - i) (by omega) i ((i + j) / 2) rfl (by omega) (by omega) hlo (fun a h ha => by
        by_cases e : a = (i + j) / 2
        · subst e; omega
        · have := List.pairwise_iff_getElem.1 hs ((i + j) / 2) a hml h (by omega)
          omega)
      refine ⟨z, Ev.step (fun k => by rw [slices_BinarySearch_int_int.l0, ew]) (Ev.pos (by omega) (Ev.pos (by omega) (Ev.pos (by omega) (Ev.bind (Ev.c (less _ _)) ?_))))⟩
      rw [rdn l _ hml]
      exact Ev.neg (by rw [decide_eq_false c2]; decide) next
  · obtain rfl : i = j := by omega
    by_cases c3 : i < l.length
    · by_cases c4 : l[i] = x
      · refine ⟨(i : Int), Ev.step (fun k => by rw [slices_BinarySearch_int_int.l0]) (Ev.neg (by omega) (Ev.pos (by omega) (Ev.pos (by omega) (Ev.pos (by omega) (Ev.pos (by rw [rdn l i c3]; exact c4) (Ev.val ?_))))))⟩
        rw [decide_eq_true (c4 ▸ List.getElem_mem c3)]
      · refine ⟨(i : Int), Ev.step (fun k => by rw [slices_BinarySearch_int_int.l0]) (Ev.neg (by omega) (Ev.pos (by omega) (Ev.pos (by omega) (Ev.pos (by omega) (Ev.neg (by rw [rdn l i c3]; exact c4) (Ev.bind (Ev.c (nan _)) (Ev.neg Bool.false_ne_true (Ev.val ?_))))))))⟩
        rw [decide_eq_false]
        intro hx
        obtain ⟨a, ha, e⟩ := List.getElem_of_mem hx
        have hii := hhi i c3 (Nat.le_refl _)
        rcases Nat.lt_trichotomy a i with e2 | e2 | e2
        · have := hlo a ha e2; omega
        · subst e2; exact c4 e
        · have := List.pairwise_iff_getElem.1 hs i a c3 ha e2; omega
    · refine ⟨(i : Int), Ev.step (fun k => by rw [slices_BinarySearch_int_int.l0]) (Ev.neg (by omega) (Ev.neg (by omega) (Ev.val ?_)))⟩
      rw [decide_eq_false]
      intro hx
      obtain ⟨a, ha, e⟩ := List.getElem_of_mem hx
      have := hlo a ha (by omega)
      omega
theorem has_ev (f : S50) (hf : GoodF f) (g : Int) (hg : 0 ≤ g ∧ g ≤ 16777215) : Ev (fun k => gram_Has.f k f.f0 f.f1 f.f2 g) (hasB f g) := by
  unfold gram_Has.f hasB
  by_cases c : f.f0 > 0
  · have hp := plc_range g f.f0 hg.1 c
    have hl := hf.1 c
    have e : gram_place.f g f.f0 = some (plc g f.f0) := by
      unfold gram_place.f plc
      rw [if_neg (by omega), w64 (x := g * 40503) (by omega) (by omega)]
    rw [if_pos c]
    refine Ev.pos c (Ev.bind (Ev.c e) (Ev.pos hp.1 (Ev.pos (by omega) (Ev.val rfl))))
  · rw [if_neg c]
    obtain ⟨z, h⟩ := bs_l0 f.f1 g hf.2.2 hf.2.1 _ 0 f.f1.length rfl (Nat.zero_le _) (Nat.le_refl _) (fun a _ h => by omega) (fun a h h2 => by omega)
    exact Ev.neg c (Ev.bind (by unfold slices_BinarySearch_int_int.f; exact h) (Ev.val rfl))
/-- May a filter bear a string? -/
def mayB (f : S50) (s : ByteArray) : Bool := (rawG s).all (hasB f)
theorem not_any {α : Type} (q : α → Bool) (l : List α) : (!l.any fun x => !q x) = l.all q := by
  induction l with
  | nil => rfl
  | cons x xs ih => simp only [List.any_cons, List.all_cons, ← ih, Bool.not_or, Bool.not_not]
theorem may_ev (f : S50) (hf : GoodF f) (s : ByteArray) (hs : s.size ≤ 1000000) : Ev (fun k => mayP k f s) (mayB f s) := by
  unfold mayP
  refine Ev.bind (grams_ev s hs) ?_
  have h := anyE_ev (fun k g => (gram_Has.f k f.f0 f.f1 f.f2 g).map (!·)) (fun g => !hasB f g) (compI (sortI (rawG s))) (fun g hg => Ev.map1 (!·) (has_ev f hf g (rawG_range ((mem_comp _ _).1 hg))))
  refine Ev.eq (Ev.map1 (!·) h) ?_
  rw [any_mem _ (mem_comp (rawG s)), not_any]
  rfl
/-! ### the reference's list of grams -/
/-! ### filters, made -/
end Go.Proofs.YtdccooaddoafnaaDoor.Pure
