/- A made row of strings, sorted by a closure that compares (and may lay blocks). -/
import Derived.Test.YtjodnhlfodmpeaaHStrRow
import Derived.Test.YtjodnhlfodmpeaaSortf
import Derived.Shelf.SlSortCmp.NoneTotal
import Derived.Laws.Cover1
set_option linter.unusedVariables false
set_option linter.unusedSimpArgs false
namespace Go.Proofs.YtjodnhlfodmpeaaW.PrintWords
open Go.RowKit Go.Sort Go.Shelf
/-- Nothing is done but draws, and new blocks laid behind the others. -/
def Grows (W w' : World) : Prop := ∃ (q : Nat) (os : Array Obj), w' = Go.Sort.grow (W.drewN q) os
/-- Two strings, compared. -/
def cmpS (x y : ByteArray) : Int := if Op.bytesLess x.toList y.toList = true then -1 else if (!(Op.bytesLess x.toList y.toList || x.toList == y.toList)) = true then 1 else 0
set_option maxRecDepth 100000 in
theorem isNaN_str (x : ByteArray) (W : World) :
    Calls Try.prog 41 #[.string x] W fun e w' => e = .returned (.bool false) ∧ w' = W := by
  go_enter Try.func41, Try.ntmps41
  go_wp2
  go_ret
  exact ⟨by simp, rfl⟩
set_option maxRecDepth 100000 in
theorem cmpS_calls (x y : ByteArray) (W : World) :
    Calls Try.prog 31 #[.string x, .string y] W fun e w' => e = .returned (.int .i64 (cmpS x y)) ∧ w' = W := by
  unfold cmpS
  go_enter Try.func31, Try.ntmps31
  go_wp2_with (first | (go_at_call 41; refine (isNaN_str _ _).mono ?_; rintro e w' ⟨rfl, rfl⟩))
  all_goals go_ret
  all_goals exact ⟨by simp_all, rfl⟩
/-- Strings of at most 1000 bytes. -/
abbrev S1 := {s : List UInt8 // s.length ≤ 1000}
instance : Inhabited S1 := ⟨⟨[], by simp⟩⟩
def enc1 (x : S1) : Value := .string ⟨x.1.toArray⟩
theorem sw_heap {α : Type} [Inhabited α] (enc : α → Value) (w : World) (g n : Nat) (d : Array α) (os : Array Obj) (i : Nat) (hi : i < w.heap.size) : (sortWorld enc w g 0 n d os).heap[i]? = (putRow enc w g 0 d).heap[i]? := by
  have hs : (putRow enc (Go.Sort.ahead w n) g 0 d).heap.size = w.heap.size := by simp [putRow, mapBlock, Go.Sort.ahead]
  unfold sortWorld grow
  simp only
  rw [Array.getElem?_append_left (by rw [hs]; exact hi)]
  rfl
theorem sw_ne {α : Type} [Inhabited α] (enc : α → Value) (w : World) (g n : Nat) (d : Array α) (os : Array Obj) (i : Nat) (hi : i < w.heap.size) (hne : i ≠ g) : (sortWorld enc w g 0 n d os).heap[i]? = w.heap[i]? := by
  rw [sw_heap enc w g n d os i hi]
  simp only [putRow, mapBlock, Array.getElem?_modify]
  rw [if_neg (fun z => hne z.symm)]
theorem put_enc1 (w : World) (g : Nat) (l : List S1) : putRow enc1 w g 0 l.toArray = putRow encStr w g 0 (l.map (·.1)).toArray := by
  unfold putRow
  refine mapBlock_congr w g _ _ (fun c e fr _ => ?_)
  unfold putCells
  congr 1
  funext k x
  have hsz : l.toArray.size = (l.map (·.1)).toArray.size := by simp
  by_cases hk : 0 ≤ k ∧ k < 0 + l.toArray.size
  · rw [if_pos hk, if_pos (by rw [← hsz]; exact hk)]
    have h1 : k < l.length := by have := hk.2; simpa using this
    rw [Nat.sub_zero, getElem!_pos _ k (by simpa using h1), getElem!_pos _ k (by simpa using h1)]
    simp [enc1]
  · rw [if_neg hk, if_neg (by rw [← hsz]; exact hk)]
/-- A row of strings sorted by a closure. -/
theorem sortF_calls (f : Nat) (cb : Array Value) (cf : List UInt8 → List UInt8 → Int) (hO : SWO (ltOf fun x y : S1 => cf x.1 y.1)) (hT : ∀ x y : S1, cf x.1 y.1 = 0 → x = y) (hA : ∀ x y : S1, 0 < cf x.1 y.1 → cf y.1 x.1 < 0)
    (ss : List (List UInt8)) (hss : ∀ s ∈ ss, s.length ≤ 1000) (hlen : ss.length < 4611686018427387904) (Al : Option Addr) (cl : Nat) (w : World) (base : Nat) (ok : Nat → Prop) (hR : Kd.R Kd.string 9 w base ok (.slice Al ss.length cl) (ss.map ofB))
    (eg : ∀ args w, (callFunc f args).run Try.prog w = .ok (.enter f args) w)
    (hcmp : ∀ x y : S1, ∀ W, (∀ k, k < w.heap.size → some k ≠ (Value.slice Al ss.length cl).ownBlock → W.heap[k]? = w.heap[k]?) → Calls Try.prog f (#[enc1 x, enc1 y] ++ cb) W fun e w' => e = .returned (.int .i64 (cf x.1 y.1)) ∧ Grows W w') :
    Calls Try.prog 27 #[.slice Al ss.length cl, .func (.func f) #[] cb] w fun e w' => e = .returned (.tuple #[]) ∧ Kd.R Kd.string 9 w' base ok (.slice Al ss.length cl) ((ss.mergeSort fun x y => !decide (cf y x < 0)).map ofB) ∧
      (∀ w0 : World, Below w0.heap.size w0 w → w0.heap.size ≤ base → Below w0.heap.size w0 w') := by
  by_cases hn : ss = []
  · subst hn
    refine (AnyF.slices_SortFunc_none (P := Try.prog) (ρ := Try.sortf_ren) { Try.sortf with } Al cl (.func (.func f) #[] cb) w).mono ?_
    rintro e w' ⟨rfl, rfl⟩
    exact ⟨rfl, by simpa using hR, fun w0 h _ => h⟩
  · have hpos : 0 < ss.length := by cases ss with | nil => exact absurd rfl hn | cons _ _ => simp
    have hml : (ss.map ofB).length = ss.length := by simp
    obtain ⟨g, rfl⟩ : ∃ g, Al = some ⟨g, 0, none⟩ := by
      obtain ⟨_, inner, hown, _⟩ := hR
      rcases hown.2 with ⟨_, h⟩ | ⟨g, _, _, h, _⟩
      · rw [hml] at h; have : Kd.string.sz = 1 := rfl; omega
      · injection h with h _ _
        exact ⟨g, h⟩
    have hg : g < w.heap.size := Kd.R_lt hR g rfl
    have hgb : base ≤ g := Kd.R_base hR g rfl
    have hP : ok g := hR.1 g rfl
    obtain ⟨l, hl⟩ : ∃ l : List S1, l.map (·.1) = ss := ⟨ss.attach.map fun x => ⟨x.1, hss x.1 x.2⟩, by simp⟩
    have hll : l.length = ss.length := by rw [← hl]; simp
    have hH0 := holds_strs hml hR
    have hH : Holds enc1 w g 0 l.toArray := by
      intro j hj
      have hj2 : j < l.length := by simpa using hj
      have hj3 : j < ((ss.map ofB).map toB).toArray.size := by simp; omega
      have h := hH0 j hj3
      have e1 : ((ss.map ofB).map toB).toArray[j]! = l.toArray[j]!.1 := by
        rw [getElem!_pos _ j hj3, getElem!_pos _ j hj]
        have : ss[j]'(by omega) = l[j].1 := by
          have h5 := congrArg (fun z : List (List UInt8) => z[j]?) hl
          simp only [List.getElem?_map] at h5
          rw [List.getElem?_eq_getElem hj2, List.getElem?_eq_getElem (by omega)] at h5
          simpa using h5.symm
        simp [this, toB, ofB]
      rw [e1] at h
      exact h
    have hc := Any.slices_SortFunc_total (P := Try.prog) (ρ := Try.sortf_ren) Try.sortf enc1 (fun _ => rfl) (fun x y => cf x.1 y.1) hO f cb g 0 cl l.toArray w eg
      (fun m os dk hd x y => (hcmp x y _ (fun k hk hne => sw_ne enc1 w g m dk os k hk (fun e => hne (by rw [e]; rfl)))).mono (fun e w' h => h)) hH hg (by simp; omega)
      (fun x y h1 h2 => by
        simp only [ltOf, decide_eq_false_iff_not, Int.not_lt] at h1 h2
        refine hT x y ?_
        by_cases h0 : cf x.1 y.1 = 0
        · exact h0
        · have := hA x y (by omega); omega)
    have e2 : l.toArray.size = ss.length := by simp [hll]
    rw [e2] at hc
    refine hc.mono ?_
    rintro e w' ⟨rfl, n, os, rfl⟩
    have e3 : ((l.toArray.toList.mergeSort fun x y => !(ltOf fun x y : S1 => cf x.1 y.1) y x).map (·.1)) = ss.mergeSort fun x y => !decide (cf y x < 0) := by
      rw [← hl]
      exact List.map_mergeSort (fun a _ b _ => rfl)
    have hl2 : (ss.mergeSort fun x y => !decide (cf y x < 0)).length = ss.length := by rw [List.length_mergeSort]
    have hR2 := R_putStr (ok' := ok) hml hR hP (ss.mergeSort fun x y => !decide (cf y x < 0)) hl2 ss.length (Nat.le_refl _) (by rw [sw_heap enc1 w g n _ os g hg, put_enc1, e3])
    rw [List.take_of_length_le (by omega)] at hR2
    refine ⟨rfl, hR2, fun w0 hB hb0 => ?_⟩
    have hsz : w.heap.size ≤ (sortWorld enc1 w g 0 n (l.toArray.toList.mergeSort fun x y => !(ltOf fun x y : S1 => cf x.1 y.1) y x).toArray os).heap.size := by
      simp [sortWorld, grow, putRow, mapBlock, Go.Sort.ahead]
    refine ⟨hB.os, hB.tape, hB.output, Nat.le_trans hB.size hsz, fun k hk => ?_⟩
    rw [sw_ne enc1 w g n _ os k (Nat.lt_of_lt_of_le hk hB.size) (by omega)]
    exact hB.block k hk
/-- A string's gain: how often it is counted, times its length. -/
def gainL (M : List (List UInt8)) (s : List UInt8) : Int := wrap64 ((M.count s : Nat) * (s.length : Int))
/-- The greater gain first, then the lesser string. -/
def cfL (M : List (List UInt8)) (x y : List UInt8) : Int := if Lib.compareInt (gainL M y) (gainL M x) = 0 then cmpS (ofB x) (ofB y) else Lib.compareInt (gainL M y) (gainL M x)
/-- Each once. -/
def dedupL : List (List UInt8) → List (List UInt8)
  | [] => []
  | s :: l => if s ∈ l then dedupL l else s :: dedupL l
def leG (M : List (List UInt8)) (x y : List UInt8) : Bool := !decide (cfL M y x < 0)
/-- What is counted, each once, in the order of the gains. -/
def topL (M : List (List UInt8)) : List (List UInt8) := (dedupL M).mergeSort (leG M)
theorem mem_dedupL (s : List UInt8) : ∀ l : List (List UInt8), s ∈ dedupL l ↔ s ∈ l
  | [] => by simp [dedupL]
  | x :: l => by
    unfold dedupL
    split
    · rename_i h
      rw [mem_dedupL s l, List.mem_cons]
      exact ⟨.inr, fun h2 => h2.elim (fun e => e ▸ h) id⟩
    · rw [List.mem_cons, List.mem_cons, mem_dedupL s l]
theorem nodup_dedupL : ∀ l : List (List UInt8), (dedupL l).Nodup
  | [] => by simp [dedupL]
  | x :: l => by
    unfold dedupL
    split
    · exact nodup_dedupL l
    · rename_i h
      exact List.nodup_cons.2 ⟨fun h2 => h ((mem_dedupL x l).1 h2), nodup_dedupL l⟩
theorem cmpS_cases (x y : List UInt8) : cmpS (ofB x) (ofB y) = if x < y then -1 else if x = y then 0 else 1 := by
  have e : ∀ z : List UInt8, (ofB z).toList = z := fun z => by rw [Lib.toList_data]; rfl
  unfold cmpS
  rw [e, e, Go.Proofs.bytesLess_eq]
  by_cases h : x < y
  · simp [h]
  · by_cases h2 : x = y
    · subst h2; simp [h]
    · simp [h, h2]
theorem cfL_neg (M : List (List UInt8)) (x y : List UInt8) : cfL M x y < 0 ↔ gainL M y < gainL M x ∨ (gainL M x = gainL M y ∧ x < y) := by
  unfold cfL Lib.compareInt
  rw [cmpS_cases]
  by_cases h1 : gainL M y < gainL M x
  · simp [h1]
  · by_cases h2 : gainL M y > gainL M x
    · have : gainL M x ≠ gainL M y := by omega
      simp [h1, h2, this]
    · have : gainL M x = gainL M y := by omega
      rw [if_neg h1, if_neg h2, if_pos rfl]
      by_cases h3 : x < y
      · simp [h3, this]
      · by_cases h4 : x = y
        · subst h4; simp [h3]
        · simp [h3, h4, this]
theorem cfL_zero (M : List (List UInt8)) (x y : List UInt8) (h : cfL M x y = 0) : x = y := by
  unfold cfL at h
  split at h
  · rw [cmpS_cases] at h
    by_cases h3 : x < y
    · simp [h3] at h
    · by_cases h4 : x = y
      · exact h4
      · simp [h3, h4] at h
  · exact absurd h (by assumption)
theorem cfL_self (M : List (List UInt8)) (x : List UInt8) : cfL M x x = 0 := by
  unfold cfL Lib.compareInt
  rw [cmpS_cases]
  simp [List.lt_irrefl]
theorem cfL_anti (M : List (List UInt8)) (x y : List UInt8) (h : ¬ cfL M x y < 0) (h2 : ¬ cfL M y x < 0) : x = y := by
  rw [cfL_neg] at h h2
  have hg : gainL M x = gainL M y := by
    have a : ¬ gainL M y < gainL M x := fun z => h (.inl z)
    have b : ¬ gainL M x < gainL M y := fun z => h2 (.inl z)
    omega
  exact List.le_antisymm (List.not_lt.1 fun z => h2 (.inr ⟨hg.symm, z⟩)) (List.not_lt.1 fun z => h (.inr ⟨hg, z⟩))
theorem cfL_trans (M : List (List UInt8)) (x y z : List UInt8) (h : cfL M x y < 0) (h2 : cfL M y z < 0) : cfL M x z < 0 := by
  rw [cfL_neg] at h h2 ⊢
  rcases h with h | ⟨h, h'⟩ <;> rcases h2 with h2 | ⟨h2, h2'⟩
  · exact .inl (by omega)
  · exact .inl (by omega)
  · exact .inl (by omega)
  · exact .inr ⟨by omega, List.lt_trans h' h2'⟩
theorem cfL_ntrans (M : List (List UInt8)) (x y z : List UInt8) (h : ¬ cfL M x y < 0) (h2 : ¬ cfL M y z < 0) : ¬ cfL M x z < 0 := by
  intro h3
  by_cases h4 : cfL M y x < 0
  · exact h2 (cfL_trans M y x z h4 h3)
  · have e := cfL_anti M x y h h4
    subst e
    exact h2 h3
theorem swo_cfL (M : List (List UInt8)) : SWO (ltOf fun x y : S1 => cfL M x.1 y.1) where
  irrefl x := by simp only [ltOf, cfL_self]; rfl
  trans x y z h1 h2 := by simp only [ltOf, decide_eq_true_eq] at *; exact cfL_trans M _ _ _ h1 h2
  ntrans x y z h1 h2 := by simp only [ltOf, decide_eq_false_iff_not] at *; exact cfL_ntrans M _ _ _ h1 h2
theorem leG_trans (M : List (List UInt8)) (a b c : List UInt8) (h1 : leG M a b = true) (h2 : leG M b c = true) : leG M a c = true := by
  simp only [leG, Bool.not_eq_true', decide_eq_false_iff_not] at *
  exact cfL_ntrans M c b a h2 h1
theorem leG_total (M : List (List UInt8)) (a b : List UInt8) : (leG M a b || leG M b a) = true := by
  simp only [leG, Bool.or_eq_true, Bool.not_eq_true', decide_eq_false_iff_not]
  by_cases h : cfL M b a < 0
  · refine .inr fun h2 => ?_
    have := cfL_trans M b a b h h2
    rw [cfL_self] at this
    omega
  · exact .inl h
theorem leG_anti (M : List (List UInt8)) (a b : List UInt8) (h1 : leG M a b = true) (h2 : leG M b a = true) : a = b := by
  simp only [leG, Bool.not_eq_true', decide_eq_false_iff_not] at *
  exact cfL_anti M a b h2 h1
theorem sortG_perm (M : List (List UInt8)) {l l' : List (List UInt8)} (h : l.Perm l') : l.mergeSort (leG M) = l'.mergeSort (leG M) :=
  List.Perm.eq_of_pairwise (le := fun a b => leG M a b = true) (fun a b _ _ h1 h2 => leG_anti M a b h1 h2) (List.pairwise_mergeSort (leG_trans M) (leG_total M) l) (List.pairwise_mergeSort (leG_trans M) (leG_total M) l') (((List.mergeSort_perm l _).trans h).trans (List.mergeSort_perm l' _).symm)
theorem topL_of (M : List (List UInt8)) {ss : List (List UInt8)} (hn : ss.Nodup) (hm : ∀ x, x ∈ ss ↔ x ∈ M) : ss.mergeSort (leG M) = topL M :=
  sortG_perm M ((List.perm_ext_iff_of_nodup hn (nodup_dedupL M)).2 fun x => by rw [hm, mem_dedupL])
end Go.Proofs.YtjodnhlfodmpeaaW.PrintWords
