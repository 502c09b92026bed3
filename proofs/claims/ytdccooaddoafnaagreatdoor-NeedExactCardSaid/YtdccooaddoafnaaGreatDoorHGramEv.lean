/- Grams and filters: what the program's and the reference's functions come to. -/
import Derived.Test.YtdccooaddoafnaaGreatDoorHEvBase
import Derived.Test.YtdccooaddoafnaaGreatDoorQx
set_option linter.unusedVariables false
set_option linter.unusedSimpArgs false
namespace Go.Proofs.YtdccooaddoafnaaGreatDoor.Pure
open Go.RowKit Go.Proofs.YtdccooaddoafnaaGreatDoor.Q Go.Proofs.YtdccooaddoafnaaGreatDoorW.PrintWords Go.Proofs.YtdccooaddoafnaaGreatDoorW.PrintLast Go.Proofs.YtdccooaddoafnaaGreatDoorW.PrintMore
/-! ### numbers put together -/
theorem wrapN (n : Nat) (h : n < 9223372036854775808) : IntKind.i64.wrap (n : Int) = (n : Int) := by
  have e : (n : Int) % 2 ^ 64 = n := Int.emod_eq_of_lt (by omega) (by omega)
  simp only [IntKind.wrap, IntKind.bits, IntKind.signed, e]
  rw [if_neg]
  simp
  omega
theorem or_i64 (a b p : Nat) (hb : b < 2 ^ p) (ha : 2 ^ p * a + b < 9223372036854775808) : Go.bits .or .i64 ((2 ^ p * a : Nat) : Int) (b : Int) = ((2 ^ p * a + b : Nat) : Int) := by
  have h1 : (BitVec.ofInt 64 ((2 ^ p * a : Nat) : Int)).toNat = 2 ^ p * a := by
    rw [BitVec.ofInt_natCast, BitVec.toNat_ofNat]; exact Nat.mod_eq_of_lt (by omega)
  have h2 : (BitVec.ofInt 64 (b : Int)).toNat = b := by
    rw [BitVec.ofInt_natCast, BitVec.toNat_ofNat]; exact Nat.mod_eq_of_lt (by omega)
  show IntKind.i64.wrap ((BitVec.ofInt 64 ((2 ^ p * a : Nat) : Int) ||| BitVec.ofInt 64 (b : Int)).toNat : Int) = _
  rw [BitVec.toNat_or, h1, h2, ← Nat.two_pow_add_eq_or_of_lt hb a]
  exact wrapN _ ha
theorem or3 (a b c : Int) (ha : 0 ≤ a ∧ a ≤ 255) (hb : 0 ≤ b ∧ b ≤ 255) (hc : 0 ≤ c ∧ c ≤ 255) :
    Go.bits .or .i64 (Go.bits .or .i64 (wrap64 (wrap64 a * 65536)) (wrap64 (wrap64 b * 256))) (wrap64 c) = 65536 * a + 256 * b + c := by
  obtain ⟨x, rfl⟩ : ∃ x : Nat, a = x := ⟨a.toNat, by omega⟩
  obtain ⟨y, rfl⟩ : ∃ y : Nat, b = y := ⟨b.toNat, by omega⟩
  obtain ⟨z, rfl⟩ : ∃ z : Nat, c = z := ⟨c.toNat, by omega⟩
  rw [w64 (x := (x : Int)) (by omega) (by omega), w64 (x := (y : Int)) (by omega) (by omega), w64 (x := (z : Int)) (by omega) (by omega), w64 (x := (x : Int) * 65536) (by omega) (by omega), w64 (x := (y : Int) * 256) (by omega) (by omega)]
  have e1 := or_i64 x (y * 256) 16 (by omega) (by omega)
  have e2 := or_i64 (256 * x + y) z 8 (by omega) (by omega)
  rw [show ((x : Int) * 65536) = ((2 ^ 16 * x : Nat) : Int) by omega, show ((y : Int) * 256) = ((y * 256 : Nat) : Int) by omega, e1, show ((2 ^ 16 * x + y * 256 : Nat) : Int) = ((2 ^ 8 * (256 * x + y) : Nat) : Int) by omega, e2]
  omega
/-! ### a string's grams -/
/-- The gram at a place. -/
def gr (s : ByteArray) (i : Nat) : Int := 65536 * bt s (i : Int) + 256 * bt s ((i + 1 : Nat) : Int) + bt s ((i + 2 : Nat) : Int)
def rawG (s : ByteArray) : List Int := (List.range (s.size - 2)).map (gr s)
theorem gr_eq (s : ByteArray) (j : Nat) : (wrap64 ((wrap64 ((wrap64 (65536 * (wrap64 (bt s (j : Int))))) + (wrap64 (256 * (wrap64 (bt s ((j + 1 : Nat) : Int))))))) + (wrap64 (bt s ((j + 2 : Nat) : Int))))) = gr s j := by
  have b1 := bt_range s (j : Int)
  have b2 := bt_range s ((j + 1 : Nat) : Int)
  have b3 := bt_range s ((j + 2 : Nat) : Int)
  unfold gr
  generalize bt s (j : Int) = x at *
  generalize bt s ((j + 1 : Nat) : Int) = y at *
  generalize bt s ((j + 2 : Nat) : Int) = z at *
  rw [w64 (x := x) (by omega) (by omega), w64 (x := y) (by omega) (by omega), w64 (x := z) (by omega) (by omega), w64 (x := 65536 * x) (by omega) (by omega), w64 (x := 256 * y) (by omega) (by omega), w64 (x := 65536 * x + 256 * y) (by omega) (by omega)]
  exact w64 (by omega) (by omega)
theorem w2 {j n : Nat} (h : j < n) (hn : n ≤ 1000000) : wrap64 ((j : Int) + 2) = ((j + 2 : Nat) : Int) := by rw [w64 (by omega) (by omega)]; omega
theorem gr_range (s : ByteArray) (i : Nat) : 0 ≤ gr s i ∧ gr s i ≤ 16777215 := by
  have h1 := bt_range s (i : Int)
  have h2 := bt_range s ((i + 1 : Nat) : Int)
  have h3 := bt_range s ((i + 2 : Nat) : Int)
  unfold gr
  omega
theorem rawG_range {s : ByteArray} {g : Int} (h : g ∈ rawG s) : 0 ≤ g ∧ g ≤ 16777215 := by
  obtain ⟨i, _, rfl⟩ := List.mem_map.1 h
  exact gr_range s i
theorem rawG_len (s : ByteArray) : (rawG s).length = s.size - 2 := by simp [rawG]
theorem rawG_drop (s : ByteArray) (i : Nat) (h : i + 3 ≤ s.size) : (rawG s).drop i = gr s i :: (rawG s).drop (i + 1) := by
  rw [List.drop_eq_getElem_cons (by rw [rawG_len]; omega)]
  simp [rawG]
theorem mem_rawG {s : ByteArray} {g : Int} : g ∈ rawG s ↔ ∃ i, i + 3 ≤ s.size ∧ g = gr s i := by
  unfold rawG
  rw [List.mem_map]
  constructor
  · rintro ⟨i, h, rfl⟩
    have := List.mem_range.1 h
    exact ⟨i, by omega, rfl⟩
  · rintro ⟨i, h, rfl⟩
    exact ⟨i, List.mem_range.2 (by omega), rfl⟩
theorem grams_l0 (s : ByteArray) (hs : s.size ≤ 1000000) : ∀ (n i : Nat) (acc : List Int), s.size - i = n → acc.length ≤ i → i ≤ s.size → Ev (fun k => gram_Grams.l0 k s acc (i : Int)) (compI (sortI (acc ++ (rawG s).drop i))) := by
  intro n
  induction n with
  | zero =>
    intro i acc hn ha hi
    refine Ev.step (fun k => by rw [gram_Grams.l0]) ?_
    rw [List.drop_of_length_le (by rw [rawG_len]; omega), List.append_nil]
    have e1 : slices_Sort_int_int.f acc = some (sortI acc) := by unfold slices_Sort_int_int.f; rw [if_pos (by omega)]
    have e2 : slices_Compact_int_int.f (sortI acc) = some (compI (sortI acc)) := by unfold slices_Compact_int_int.f; rw [if_pos (by simp [sortI]; omega)]
    exact Ev.neg (by rw [w64 (by omega) (by omega)]; omega) (Ev.bind (Ev.c e1) (Ev.bind (Ev.c e2) (Ev.val rfl)))
  | succ n ih =>
    intro i acc hn ha hi
    refine Ev.step (fun k => by rw [gram_Grams.l0]) ?_
    have e3 : wrap64 ((i : Int) + 3) = (i : Int) + 3 := w64 (by omega) (by omega)
    have e2 : wrap64 ((i : Int) + 2) = ((i + 2 : Nat) : Int) := by rw [w64 (by omega) (by omega)]; omega
    have e1 : wrap64 ((i : Int) + 1) = ((i + 1 : Nat) : Int) := by rw [w64 (by omega) (by omega)]; omega
    rw [e3, e2, e1, or3 _ _ _ (bt_range _ _) (bt_range _ _) (bt_range _ _)]
    clear e3 e2 e1
    by_cases c : i + 3 ≤ s.size
    · rw [rawG_drop s i c]
      have next := ih (i + 1) (acc ++ [gr s i]) (by omega) (by simp; omega) (by omega)
      rw [List.append_assoc] at next
      exact Ev.pos (by omega) (Ev.pos (by omega) (Ev.pos (by omega) (Ev.pos (by omega) (Ev.pos (by omega) (Ev.pos (by omega) (Ev.pos (by omega) (Ev.pos (by omega) next)))))))
    · rw [List.drop_of_length_le (by rw [rawG_len]; omega), List.append_nil]
      have e1 : slices_Sort_int_int.f acc = some (sortI acc) := by unfold slices_Sort_int_int.f; rw [if_pos (by omega)]
      have e2 : slices_Compact_int_int.f (sortI acc) = some (compI (sortI acc)) := by unfold slices_Compact_int_int.f; rw [if_pos (by simp [sortI]; omega)]
      exact Ev.neg (by omega) (Ev.bind (Ev.c e1) (Ev.bind (Ev.c e2) (Ev.val rfl)))
theorem grams_ev (s : ByteArray) (hs : s.size ≤ 1000000) : Ev (fun k => gram_Grams.f k s) (compI (sortI (rawG s))) := by
  unfold gram_Grams.f
  have := grams_l0 s hs _ 0 [] rfl (by simp) (by omega)
  simpa using this
/-! ### sorted, each once -/
theorem compactI (d : Array Int) : ∀ m, m ≤ d.size → ∀ x, x ∈ Lib.compactUpTo d m ↔ ∃ j, j < m ∧ d[j]! = x
  | 0, _ => by simp [Lib.compactUpTo]
  | m + 1, hm => by
    have h2 := compactI d m (by omega)
    rw [Lib.compactUpTo_succ]
    cases hk : Lib.keeps d m with
    | true =>
      rw [if_pos rfl]
      intro x
      rw [List.mem_append, h2 x]
      constructor
      · rintro (⟨j, hj, e⟩ | e)
        · exact ⟨j, by omega, e⟩
        · exact ⟨m, by omega, (List.mem_singleton.1 e).symm⟩
      · rintro ⟨j, hj, e⟩
        by_cases hjm : j = m
        · subst hjm; exact .inr (by simp [e])
        · exact .inl ⟨j, by omega, e⟩
    | false =>
      rw [if_neg (by decide), List.append_nil]
      refine fun x => (h2 x).trans ?_
      have hm0 : 0 < m := by
        rcases Nat.eq_zero_or_pos m with e | e
        · subst e
          rw [Lib.keeps_lt_one d 0 (by omega)] at hk; cases hk
        · exact e
      have e0 : d[m]! = d[m - 1]! := by
        by_cases e : d[m]! = d[m - 1]!
        · exact e
        · rw [Lib.keeps_pos e] at hk; cases hk
      constructor
      · rintro ⟨j, hj, e⟩; exact ⟨j, by omega, e⟩
      · rintro ⟨j, hj, e⟩
        by_cases hjm : j = m
        · subst hjm; exact ⟨j - 1, by omega, by rw [← e0]; exact e⟩
        · exact ⟨j, by omega, e⟩
theorem mem_comp (l : List Int) (x : Int) : x ∈ compI (sortI l) ↔ x ∈ l := by
  have hp := List.mergeSort_perm l (fun x y => decide (x ≤ y))
  unfold compI sortI Lib.compact
  rw [← hp.mem_iff]
  generalize (l.mergeSort fun x y => decide (x ≤ y)) = s
  rw [compactI s.toArray s.length (by simp) x]
  constructor
  · rintro ⟨j, hj, e⟩
    have : s.toArray[j]! = s[j] := by simp [hj]
    rw [this] at e
    exact e ▸ List.getElem_mem hj
  · intro h
    obtain ⟨j, hj, e⟩ := List.getElem_of_mem h
    exact ⟨j, hj, by simp [hj, e]⟩
/-! ### whether one, whether all -/
theorem anyE_ev {α : Type} (f : Nat → α → Option Bool) (q : α → Bool) : ∀ l : List α, (∀ x, x ∈ l → Ev (fun k => f k x) (q x)) → Ev (fun k => anyE (f k) l) (l.any q)
  | [], _ => Ev.val rfl
  | x :: xs, h => by
    have h1 := h x (List.mem_cons_self ..)
    have h2 := anyE_ev f q xs fun y hy => h y (List.mem_cons_of_mem _ hy)
    refine Ev.congr (fun k => by rw [anyE]) (Ev.bind h1 ?_)
    rw [List.any_cons]
    cases hq : q x with
    | true => exact Ev.pos rfl (Ev.val (by simp))
    | false => exact Ev.neg (by decide) (by simpa using h2)
theorem Ev.map1 {α β : Type} {g : Nat → Option α} {r : α} (f : α → β) (h : Ev g r) : Ev (fun k => (g k).map f) (f r) := by
  obtain ⟨K, h⟩ := h
  exact ⟨K, fun k hk => by show (g k).map f = _; rw [h k hk]; rfl⟩
theorem any_mem {α : Type} {l m : List α} (q : α → Bool) (h : ∀ x, x ∈ l ↔ x ∈ m) : l.any q = m.any q := by
  rw [Bool.eq_iff_iff, List.any_eq_true, List.any_eq_true]
  exact ⟨fun ⟨x, hx, e⟩ => ⟨x, (h x).1 hx, e⟩, fun ⟨x, hx, e⟩ => ⟨x, (h x).2 hx, e⟩⟩
/-! ### a filter's grams -/
/-- A gram's bit. -/
def plc (g bits : Int) : Int := Int.tmod (Int.tmod (g * 40503) 65521) bits
theorem plc_range (g bits : Int) (hg : 0 ≤ g) (hb : 0 < bits) : 0 ≤ plc g bits ∧ plc g bits < bits := by
  unfold plc
  exact ⟨Int.tmod_nonneg _ (Int.tmod_nonneg _ (by omega)), Int.tmod_lt_of_pos _ hb⟩
/-- Has a filter a gram? -/
def hasB (f : S53) (g : Int) : Bool := if f.f0 > 0 then rdOf false f.f2 (plc g f.f0) else decide (g ∈ f.f1)
/-- A filter as it is made: bits, or a list that rises. -/
def GoodF (f : S53) : Prop := (f.f0 > 0 → (f.f2.length : Int) = f.f0) ∧ (f.f1.Pairwise (· < ·)) ∧ f.f1.length ≤ 1000000
theorem bs_l0 (l : List Int) (x : Int) (hl : l.length ≤ 1000000) (hs : l.Pairwise (· < ·)) : ∀ (n i j : Nat), j - i = n → i ≤ j → j ≤ l.length → (∀ a (h : a < l.length), a < i → l[a] < x) → (∀ a (h : a < l.length), j ≤ a → x ≤ l[a]) →
    ∃ z, Ev (fun k => slices_BinarySearch_int_int.l0 k l x (l.length : Int) (i : Int) (j : Int)) (z, decide (x ∈ l)) := by
  intro n
  induction n using Nat.strongRecOn with
  | _ n ih =>
  intro i j hn hij hj hlo hhi
  have less : ∀ a b : Int, cmp_Less_int.f a b = some (decide (a < b)) := fun a b => by
    unfold cmp_Less_int.f cmp_isNaN_int.f
    by_cases c : a < b <;> simp [c]
  have nan : ∀ a : Int, slices_isNaN_int.f a = some false := fun a => by unfold slices_isNaN_int.f; simp
  by_cases c : i < j
  · have hm : i ≤ (i + j) / 2 ∧ (i + j) / 2 < j := by omega
    have hml : (i + j) / 2 < l.length := by omega
    have ew : wrap64 ((IntKind.u64.wrap (wrap64 ((i : Int) + (j : Int)))) / 2) = (((i + j) / 2 : Nat) : Int) := by
      rw [w64 (x := (i : Int) + (j : Int)) (by omega) (by omega), IntKind.wrap_u64, w64 (by omega) (by omega)]
      omega
    by_cases c2 : l[(i + j) / 2] < x
    · obtain ⟨z, next⟩ := ih (j - ((i + j) / 2 + 1)) (by omega) ((i + j) / 2 + 1) j rfl (by omega) hj (fun a h ha => by
        by_cases e : a = (i + j) / 2
        · subst e; exact c2
        · exact Int.lt_trans (List.pairwise_iff_getElem.1 hs a ((i + j) / 2) h hml (by omega)) c2) hhi
      refine ⟨z, Ev.step (fun k => by rw [slices_BinarySearch_int_int.l0, ew]) (Ev.pos (by omega) (Ev.pos (by omega) (Ev.pos (by omega) (Ev.bind (Ev.c (less _ _)) ?_))))⟩
      rw [rdn l _ hml]
      refine Ev.pos (decide_eq_true c2) ?_
      rw [w64s hml (by omega)]
      exact next
    · obtain ⟨z, next⟩ := ih ((i + j) / 2 - i) (by omega) i ((i + j) / 2) rfl (by omega) (by omega) hlo (fun a h ha => by
        by_cases e : a = (i + j) / 2
        · subst e; omega
        · have := List.pairwise_iff_getElem.1 hs ((i + j) / 2) a hml h (by omega)
          omega)
      refine ⟨z, Ev.step (fun k => by rw [slices_BinarySearch_int_int.l0, ew]) (Ev.pos (by omega) (Ev.pos (by omega) (Ev.pos (by omega) (Ev.bind (Ev.c (less _ _)) ?_))))⟩
      rw [rdn l _ hml]
      exact Ev.neg (by rw [decide_eq_false c2]; decide) next
  · obtain rfl : i = j := by omega
    by_cases c3 : i < l.length
    · by_cases c4 : l[i] = x
      · refine ⟨(i : Int), Ev.step (fun k => by rw [slices_BinarySearch_int_int.l0]) (Ev.neg (by omega) (Ev.pos (by omega) (Ev.pos (by omega) (Ev.pos (by omega) (Ev.pos (by rw [rdn l i c3]; exact c4) (Ev.val ?_))))))⟩
        rw [decide_eq_true (c4 ▸ List.getElem_mem c3)]
      · refine ⟨(i : Int), Ev.step (fun k => by rw [slices_BinarySearch_int_int.l0]) (Ev.neg (by omega) (Ev.pos (by omega) (Ev.pos (by omega) (Ev.pos (by omega) (Ev.neg (by rw [rdn l i c3]; exact c4) (Ev.bind (Ev.c (nan _)) (Ev.neg Bool.false_ne_true (Ev.val ?_))))))))⟩
        rw [decide_eq_false]
        intro hx
        obtain ⟨a, ha, e⟩ := List.getElem_of_mem hx
        have hii := hhi i c3 (Nat.le_refl _)
        rcases Nat.lt_trichotomy a i with e2 | e2 | e2
        · have := hlo a ha e2; omega
        · subst e2; exact c4 e
        · have := List.pairwise_iff_getElem.1 hs i a c3 ha e2; omega
    · refine ⟨(i : Int), Ev.step (fun k => by rw [slices_BinarySearch_int_int.l0]) (Ev.neg (by omega) (Ev.neg (by omega) (Ev.val ?_)))⟩
      rw [decide_eq_false]
      intro hx
      obtain ⟨a, ha, e⟩ := List.getElem_of_mem hx
      have := hlo a ha (by omega)
      omega
theorem has_ev (f : S53) (hf : GoodF f) (g : Int) (hg : 0 ≤ g ∧ g ≤ 16777215) : Ev (fun k => gram_Has.f k f.f0 f.f1 f.f2 g) (hasB f g) := by
  unfold gram_Has.f hasB
  by_cases c : f.f0 > 0
  · have hp := plc_range g f.f0 hg.1 c
    have hl := hf.1 c
    have e : gram_place.f g f.f0 = some (plc g f.f0) := by
      unfold gram_place.f plc
      rw [if_neg (by omega), w64 (x := g * 40503) (by omega) (by omega)]
    rw [if_pos c]
    refine Ev.pos c (Ev.bind (Ev.c e) (Ev.pos hp.1 (Ev.pos (by omega) (Ev.val rfl))))
  · rw [if_neg c]
    obtain ⟨z, h⟩ := bs_l0 f.f1 g hf.2.2 hf.2.1 _ 0 f.f1.length rfl (Nat.zero_le _) (Nat.le_refl _) (fun a _ h => by omega) (fun a h h2 => by omega)
    exact Ev.neg c (Ev.bind (by unfold slices_BinarySearch_int_int.f; exact h) (Ev.val rfl))
/-- May a filter bear a string? -/
def mayB (f : S53) (s : ByteArray) : Bool := (rawG s).all (hasB f)
theorem not_any {α : Type} (q : α → Bool) (l : List α) : (!l.any fun x => !q x) = l.all q := by
  induction l with
  | nil => rfl
  | cons x xs ih => simp only [List.any_cons, List.all_cons, ← ih, Bool.not_or, Bool.not_not]
theorem may_ev (f : S53) (hf : GoodF f) (s : ByteArray) (hs : s.size ≤ 1000000) : Ev (fun k => mayP k f s) (mayB f s) := by
  unfold mayP
  refine Ev.bind (grams_ev s hs) ?_
  have h := anyE_ev (fun k g => (gram_Has.f k f.f0 f.f1 f.f2 g).map (!·)) (fun g => !hasB f g) (compI (sortI (rawG s))) (fun g hg => Ev.map1 (!·) (has_ev f hf g (rawG_range ((mem_comp _ _).1 hg))))
  refine Ev.eq (Ev.map1 (!·) h) ?_
  rw [any_mem _ (mem_comp (rawG s)), not_any]
  rfl
/-! ### the reference's list of grams -/
/-- A number put where it belongs. -/
theorem ins_ok (l : List Int) (x : Int) (hs : l.Pairwise (· < ·)) : ∀ i, i ≤ l.length → (∀ a (h : a < l.length), a < i → l[a] < x) → (∀ a (h : a < l.length), i ≤ a → x < l[a]) → (l.take i ++ [x] ++ l.drop i).Pairwise (· < ·) ∧ (∀ y, y ∈ l.take i ++ [x] ++ l.drop i ↔ y ∈ l ∨ y = x) ∧ (l.take i ++ [x] ++ l.drop i).length ≤ l.length + 1 := by
  intro i hi hlo hhi
  refine ⟨?_, fun y => ?_, by simp; omega⟩
  · rw [List.append_assoc, List.singleton_append]
    refine List.pairwise_append.2 ⟨hs.sublist (List.take_sublist _ _), ?_, fun a ha b hb => ?_⟩
    · refine List.pairwise_cons.2 ⟨fun b hb => ?_, hs.sublist (List.drop_sublist _ _)⟩
      obtain ⟨j, hj, rfl⟩ := List.getElem_of_mem hb
      rw [List.getElem_drop]
      exact hhi _ _ (by omega)
    · obtain ⟨j, hj, rfl⟩ := List.getElem_of_mem ha
      rw [List.length_take] at hj
      rw [List.getElem_take]
      have h1 := hlo j (by omega) (by omega)
      rcases List.mem_cons.1 hb with rfl | hb
      · exact h1
      · obtain ⟨t, ht, rfl⟩ := List.getElem_of_mem hb
        rw [List.getElem_drop]
        exact Int.lt_trans h1 (hhi _ _ (by omega))
  · rw [List.mem_append, List.mem_append, List.mem_singleton]
    conv => rhs; rw [← List.take_append_drop i l]
    rw [List.mem_append]
    constructor
    · rintro ((h | h) | h)
      · exact .inl (.inl h)
      · exact .inr h
      · exact .inl (.inr h)
    · rintro ((h | h) | h)
      · exact .inl (.inl h)
      · exact .inr h
      · exact .inl (.inr h)
theorem putAt_spec (x : Int) : ∀ l : List Int, putAt l x ≤ l.length ∧ (∀ j (h : j < l.length), j < putAt l x → l[j] < x) ∧ ∀ h : putAt l x < l.length, ¬ l[putAt l x] < x
  | [] => ⟨Nat.le_refl _, fun j h => by simp at h, fun h => by simp at h⟩
  | y :: ys => by
    obtain ⟨h1, h2, h3⟩ := putAt_spec x ys
    by_cases c : y < x
    · have e : putAt (y :: ys) x = putAt ys x + 1 := by unfold putAt; rw [List.takeWhile_cons, if_pos (by simpa using c)]; rfl
      rw [e]
      refine ⟨by simpa using h1, fun j h hj => ?_, fun h => ?_⟩
      · cases j with
        | zero => exact c
        | succ j => exact h2 j (by simpa using h) (by omega)
      · exact h3 (by simpa using h)
    · have e : putAt (y :: ys) x = 0 := by unfold putAt; rw [List.takeWhile_cons, if_neg (by simpa using c)]; rfl
      rw [e]
      exact ⟨Nat.zero_le _, fun j h hj => by omega, fun h => c⟩
theorem put_ev (l : List Int) (x : Int) (hl : l.length ≤ 1000000) (hs : l.Pairwise (· < ·)) : ∃ r, hopperref15_put.f l x = some r ∧ r.Pairwise (· < ·) ∧ (∀ y, y ∈ r ↔ y ∈ l ∨ y = x) ∧ r.length ≤ l.length + 1 := by
  unfold hopperref15_put.f
  rw [if_pos (by omega)]
  obtain ⟨h1, h2, h3⟩ := putAt_spec x l
  unfold putI
  by_cases c : putAt l x < l.length ∧ rd l (putAt l x : Int) = x
  · rw [if_pos c]
    refine ⟨l, rfl, hs, fun y => ⟨.inl, fun h => ?_⟩, by omega⟩
    rcases h with h | rfl
    · exact h
    · have e := c.2
      rw [rdn l _ c.1] at e
      have hm := List.getElem_mem c.1
      rw [e] at hm
      exact hm
  · rw [if_neg c]
    refine ⟨_, rfl, ins_ok l x hs _ h1 h2 (fun a h ha => ?_)⟩
    have hi : putAt l x < l.length := by omega
    have h4 := h3 hi
    have h5 : l[putAt l x] ≠ x := fun e => c ⟨hi, by rw [rdn l _ hi]; exact e⟩
    by_cases e : a = putAt l x
    · subst e; omega
    · have := List.pairwise_iff_getElem.1 hs (putAt l x) a hi h (by omega); omega
/-- How many bytes strings have. -/
def sumSz (l : List ByteArray) : Nat := (l.map (·.size)).sum
theorem all_l1 (l : List ByteArray) (i : Nat) (hi : i < l.length) (hs : (l[i]).size ≤ 100000) : ∀ (n j : Nat) (acc : List Int), (l[i]).size - j = n → j ≤ (l[i]).size → acc.Pairwise (· < ·) → acc.length + (l[i]).size ≤ 1000000 + j →
    ∃ r, (∀ R, Ev (fun k => hopperref15_All.l0 k l r (wrap64 ((i : Int) + 1))) R → Ev (fun k => hopperref15_All.l1 k l acc (i : Int) (j : Int)) R) ∧ r.Pairwise (· < ·) ∧ (∀ y, y ∈ r ↔ y ∈ acc ∨ y ∈ (rawG l[i]).drop j) ∧ r.length ≤ acc.length + ((l[i]).size - j) := by
  intro n
  induction n with
  | zero =>
    intro j acc hn hj ha hb
    refine ⟨acc, fun R hR => Ev.step (fun k => by rw [hopperref15_All.l1]) (Ev.pos (by omega) (Ev.pos (by omega) ?_)), ha, fun y => ?_, by omega⟩
    · rw [rdOfn _ l i hi]
      exact Ev.neg (by unfold wrap64; omega) hR
    · rw [List.drop_of_length_le (by rw [rawG_len]; omega)]; simp
  | succ n ih =>
    intro j acc hn hj ha hb
    by_cases c : j + 3 ≤ (l[i]).size
    · obtain ⟨a2, h1, h2, h3, h4⟩ := put_ev acc (gr l[i] j) (by omega) ha
      obtain ⟨r, g1, g2, g3, g4⟩ := ih (j + 1) a2 (by omega) (by omega) h2 (by omega)
      refine ⟨r, fun R hR => Ev.step (fun k => by rw [hopperref15_All.l1]) (Ev.pos (by omega) (Ev.pos (by omega) ?_)), g2, fun y => ?_, by omega⟩
      · rw [rdOfn _ l i hi, w2 (j := j) (n := (l[i]).size) (by omega) (by omega), w64s (i := j) (n := (l[i]).size) (by omega) (by omega)]
        refine Ev.pos (by omega) (Ev.pos (by omega) (Ev.pos (by omega) (Ev.pos (by omega) (Ev.pos (by omega) (Ev.pos (by omega) (Ev.bind (Ev.c (r := a2) ?_) (g1 R hR)))))))
        rw [gr_eq]
        exact h1
      · rw [g3, h3, rawG_drop _ j c, List.mem_cons]
        constructor
        · rintro ((h | h) | h)
          · exact .inl h
          · exact .inr (.inl h)
          · exact .inr (.inr h)
        · rintro (h | h | h)
          · exact .inl (.inl h)
          · exact .inl (.inr h)
          · exact .inr h
    · refine ⟨acc, fun R hR => Ev.step (fun k => by rw [hopperref15_All.l1]) (Ev.pos (by omega) (Ev.pos (by omega) ?_)), ha, fun y => ?_, by omega⟩
      · rw [rdOfn _ l i hi]
        exact Ev.neg (by rw [w64 (by omega) (by omega)]; omega) hR
      · rw [List.drop_of_length_le (by rw [rawG_len]; omega)]; simp
theorem all_l0 (l : List ByteArray) (hl : l.length ≤ 1000000) (hsz : ∀ s, s ∈ l → s.size ≤ 100000) : ∀ (n i : Nat) (acc : List Int), l.length - i = n → i ≤ l.length → acc.Pairwise (· < ·) → acc.length + sumSz (l.drop i) ≤ 900000 →
    ∃ r, Ev (fun k => hopperref15_All.l0 k l acc (i : Int)) r ∧ r.Pairwise (· < ·) ∧ (∀ y, y ∈ r ↔ y ∈ acc ∨ ∃ s, s ∈ l.drop i ∧ y ∈ rawG s) ∧ r.length ≤ acc.length + sumSz (l.drop i) := by
  intro n
  induction n with
  | zero =>
    intro i acc hn hi ha hb
    rw [List.drop_of_length_le (by omega)]
    exact ⟨acc, Ev.step (fun k => by rw [hopperref15_All.l0]) (Ev.neg (by omega) (Ev.val rfl)), ha, fun y => by simp, by omega⟩
  | succ n ih =>
    intro i acc hn hi ha hb
    have hil : i < l.length := by omega
    rw [List.drop_eq_getElem_cons hil] at hb ⊢
    have hbb : sumSz (l[i] :: l.drop (i + 1)) = (l[i]).size + sumSz (l.drop (i + 1)) := by unfold sumSz; rw [List.map_cons, List.sum_cons]
    rw [hbb] at hb ⊢
    have h100 := hsz l[i] (List.getElem_mem hil)
    obtain ⟨a2, h1, h2, h3, h4⟩ := all_l1 l i hil h100 _ 0 acc rfl (Nat.zero_le _) ha (by omega)
    obtain ⟨r, g1, g2, g3, g4⟩ := ih (i + 1) a2 (by omega) (by omega) h2 (by omega)
    have h1' : ∀ R, Ev (fun k => hopperref15_All.l0 k l a2 (wrap64 ((i : Int) + 1))) R → Ev (fun k => hopperref15_All.l1 k l acc (i : Int) 0) R := h1
    refine ⟨r, Ev.step (fun k => by rw [hopperref15_All.l0]) (Ev.pos (by omega) (h1' r ?_)), g2, fun y => ?_, by omega⟩
    · rw [w64s hil (by omega)]; exact g1
    · rw [g3, h3, List.drop_zero]
      constructor
      · rintro ((h | h) | ⟨s, hs, h⟩)
        · exact .inl h
        · exact .inr ⟨_, List.mem_cons_self .., h⟩
        · exact .inr ⟨s, List.mem_cons_of_mem _ hs, h⟩
      · rintro (h | ⟨s, hs, h⟩)
        · exact .inl (.inl h)
        · rcases List.mem_cons.1 hs with rfl | hs
          · exact .inl (.inr h)
          · exact .inr ⟨s, hs, h⟩
theorem all_ev (l : List ByteArray) (hl : l.length ≤ 1000000) (hsz : ∀ s, s ∈ l → s.size ≤ 100000) (hb : sumSz l ≤ 900000) :
    ∃ r, Ev (fun k => hopperref15_All.f k l) r ∧ r.Pairwise (· < ·) ∧ (∀ y, y ∈ r ↔ ∃ s, s ∈ l ∧ y ∈ rawG s) ∧ r.length ≤ sumSz l := by
  obtain ⟨r, h1, h2, h3, h4⟩ := all_l0 l hl hsz _ 0 [] rfl (Nat.zero_le _) List.Pairwise.nil (by simpa using hb)
  exact ⟨r, h1, h2, fun y => by rw [h3]; simp, by simpa using h4⟩
/-! ### filters, made -/
/-- A filter made of strings. -/
def MkF (l : List ByteArray) (bits : Int) (f : S53) : Prop := GoodF f ∧ (∀ s, s ∈ l → ∀ g, g ∈ rawG s → hasB f g = true) ∧ (bits = 0 → ∀ g, hasB f g = true → ∃ s, s ∈ l ∧ g ∈ rawG s)
theorem make_l0 (g : List Int) (bits : Int) (hb : 0 < bits) (hb2 : bits ≤ 65536) (hl : g.length ≤ 1000000) (hg : ∀ x, x ∈ g → 0 ≤ x ∧ x ≤ 16777215) : ∀ (n i : Nat) (set : List Bool), g.length - i = n → i ≤ g.length → (set.length : Int) = bits →
    (∀ x, x ∈ g.take i → rdOf false set (plc x bits) = true) →
    ∃ r, Ev (fun k => hopperref15_Make.l0 k bits g (i : Int) bits set) (bits, [], r) ∧ (r.length : Int) = bits ∧ ∀ x, x ∈ g → rdOf false r (plc x bits) = true := by
  intro n
  induction n with
  | zero =>
    intro i set hn hi hset hx
    rw [List.take_of_length_le (by omega)] at hx
    exact ⟨set, Ev.step (fun k => by rw [hopperref15_Make.l0]) (Ev.neg (by omega) (Ev.val rfl)), hset, hx⟩
  | succ n ih =>
    intro i set hn hi hset hx
    have hil : i < g.length := by omega
    have hgi := hg g[i] (List.getElem_mem hil)
    have hp := plc_range g[i] bits hgi.1 hb
    obtain ⟨r, h1, h2⟩ := ih (i + 1) (set.set (plc g[i] bits).toNat true) (by omega) (by omega) (by simpa using hset) (fun x hxx => by
      rw [List.take_succ_eq_append_getElem hil] at hxx
      have hlen : (plc g[i] bits).toNat < set.length := by omega
      rcases List.mem_append.1 hxx with h | h
      · have := hx x h
        unfold rdOf at this ⊢
        rw [List.getD_eq_getElem?_getD] at this ⊢
        rw [List.getElem?_set]
        by_cases e : (plc g[i] bits).toNat = (plc x bits).toNat
        · rw [if_pos e, if_pos hlen]; rfl
        · rw [if_neg e]; exact this
      · rw [List.mem_singleton.1 h]
        unfold rdOf
        rw [List.getD_eq_getElem?_getD, List.getElem?_set, if_pos rfl, if_pos hlen]
        rfl)
    refine ⟨r, Ev.step (fun k => by rw [hopperref15_Make.l0]) (Ev.pos (by omega) (Ev.pos (by omega) (Ev.neg (by omega) ?_))), h2⟩
    rw [rdn g i hil, w64s hil (by omega), w64 (x := g[i] * 40503) (by omega) (by omega)]
    refine Ev.pos hp.1 (Ev.pos ?_ h1)
    rw [hset]; exact hp.2
theorem make_ev (l : List ByteArray) (bits : Int) (h0 : 0 ≤ bits) (h1 : bits ≤ 65536) (hl : l.length ≤ 1000000) (hsz : ∀ s, s ∈ l → s.size ≤ 100000) (hb : sumSz l ≤ 900000) :
    ∃ f : S53, Ev (fun k => hopperref15_Make.f k l bits) (f.f0, f.f1, f.f2) ∧ MkF l bits f := by
  obtain ⟨g, g1, g2, g3, g4⟩ := all_ev l hl hsz hb
  unfold hopperref15_Make.f
  by_cases c : bits = 0
  · refine ⟨⟨0, g, []⟩, Ev.bind g1 (Ev.pos c (Ev.val rfl)), ⟨fun h => absurd h (show ¬ (0 : Int) > 0 by decide), g2, by show g.length ≤ _; omega⟩, fun s hs x hx => ?_, fun _ x hx => ?_⟩
    · unfold hasB
      rw [if_neg (show ¬ (0 : Int) > 0 by decide)]
      exact decide_eq_true ((g3 x).2 ⟨s, hs, hx⟩)
    · unfold hasB at hx
      rw [if_neg (show ¬ (0 : Int) > 0 by decide)] at hx
      exact (g3 x).1 (of_decide_eq_true hx)
  · have hg : ∀ x, x ∈ g → 0 ≤ x ∧ x ≤ 16777215 := fun x hx => by obtain ⟨s, _, h⟩ := (g3 x).1 hx; exact rawG_range h
    obtain ⟨r, r1, r2, r3⟩ := make_l0 g bits (by omega) h1 (by omega) hg _ 0 (List.replicate bits.toNat false) rfl (Nat.zero_le _) (by simp; omega) (fun x hx => by simp at hx)
    refine ⟨⟨bits, [], r⟩, Ev.bind g1 (Ev.neg c (Ev.pos h0 (Ev.pos (by omega) r1))), ⟨fun _ => r2, List.Pairwise.nil, by simp⟩, fun s hs x hx => ?_, fun h => absurd h c⟩
    unfold hasB
    rw [if_pos (by show bits > 0; omega)]
    exact r3 x ((g3 x).2 ⟨s, hs, hx⟩)
end Go.Proofs.YtdccooaddoafnaaGreatDoor.Pure
