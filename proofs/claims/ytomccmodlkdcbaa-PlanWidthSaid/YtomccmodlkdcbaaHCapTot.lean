/- Plans looked at, without the references: every small plan comes to a number of columns; it hangs on the tables' columns alone; sets of names. -/
import Derived.Test.YtomccmodlkdcbaaHEvBase
import Derived.Test.YtomccmodlkdcbaaHPlanSm
set_option linter.unusedVariables false
set_option linter.unusedSimpArgs false
namespace Go.Proofs.Ytomccmodlkdcbaa.Pure
open Go.RowKit Go.Proofs.Ytomccmodlkdcbaa.Q Go.Proofs.YtomccmodlkdcbaaW.PrintWords Go.Proofs.YtomccmodlkdcbaaW.PrintLast Go.Proofs.YtomccmodlkdcbaaW.PrintMore
theorem ls_irrefl (a : List UInt8) : ¬ a < a := List.lt_irrefl a
theorem ls_trans {a b c : List UInt8} (h1 : a < b) (h2 : b < c) : a < c := List.lt_trans h1 h2
/-- A list's strings, rising, each once. -/
def SetOf (r l : List ByteArray) : Prop := (r.Pairwise fun a b => toB a < toB b) ∧ ∀ x, x ∈ r ↔ x ∈ l
theorem rise_uniq : ∀ {r s : List ByteArray}, (r.Pairwise fun a b => toB a < toB b) → (s.Pairwise fun a b => toB a < toB b) → (∀ x, x ∈ r ↔ x ∈ s) → r = s
  | [], [], _, _, _ => rfl
  | [], y :: ys, _, _, h => absurd ((h y).2 (by simp)) (by simp)
  | x :: xs, [], _, _, h => absurd ((h x).1 (by simp)) (by simp)
  | x :: xs, y :: ys, h1, h2, h => by
    obtain ⟨a1, b1⟩ := List.pairwise_cons.1 h1
    obtain ⟨a2, b2⟩ := List.pairwise_cons.1 h2
    have e : x = y := by
      rcases List.mem_cons.1 ((h x).1 (by simp)) with e | e
      · exact e
      · rcases List.mem_cons.1 ((h y).2 (by simp)) with e2 | e2
        · exact e2.symm
        · exact absurd (ls_trans (a1 y e2) (a2 x e)) (ls_irrefl _)
    subst e
    rw [rise_uniq b1 b2 fun z => ?_]
    constructor
    · intro hz
      rcases List.mem_cons.1 ((h z).1 (List.mem_cons_of_mem _ hz)) with e | e
      · subst e; exact absurd (a1 z hz) (ls_irrefl _)
      · exact e
    · intro hz
      rcases List.mem_cons.1 ((h z).2 (List.mem_cons_of_mem _ hz)) with e | e
      · subst e; exact absurd (a2 z hz) (ls_irrefl _)
      · exact e
theorem SetOf.uniq {r s l m : List ByteArray} (h1 : SetOf r l) (h2 : SetOf s m) (h : ∀ x, x ∈ l ↔ x ∈ m) : r = s := rise_uniq h1.1 h2.1 fun x => (h1.2 x).trans ((h x).trans (h2.2 x).symm)
/-! ### sorted, each once -/
def Tot {α : Type} (f : Nat → Option α) : Prop := ∃ r, Ev f r
theorem Tot.val {α : Type} {x : α} : Tot (fun _ => some x) := ⟨x, Ev.val rfl⟩
theorem Tot.of {α : Type} {x : Option α} {y : α} (h : x = some y) : Tot (fun _ => x) := ⟨y, Ev.c h⟩
theorem Tot.ite {α : Type} {c : Prop} [Decidable c] {g h : Nat → Option α} (h1 : c → Tot g) (h2 : ¬ c → Tot h) : Tot (fun k => if c then g k else h k) := by
  by_cases hc : c
  · obtain ⟨r, hr⟩ := h1 hc; exact ⟨r, Ev.pos hc hr⟩
  · obtain ⟨r, hr⟩ := h2 hc; exact ⟨r, Ev.neg hc hr⟩
theorem Tot.bind {α β : Type} {f : Nat → Option α} {g : Nat → α → Option β} (h : Tot f) (h2 : ∀ r, Tot (fun k => g k r)) : Tot (fun k => (f k).bind fun r => g k r) := by
  obtain ⟨r, hr⟩ := h
  obtain ⟨q, hq⟩ := h2 r
  exact ⟨q, Ev.bind hr hq⟩
theorem Tot.step {α : Type} {f g : Nat → Option α} (h : ∀ k, f (k + 1) = g k) (hg : Tot g) : Tot f := by
  obtain ⟨r, hr⟩ := hg
  exact ⟨r, Ev.step h hr⟩
theorem Tot.map {α β : Type} {f : Nat → Option α} (h : Tot f) (g : α → β) : Tot (fun k => (f k).map g) := by
  obtain ⟨r, K, hr⟩ := h
  exact ⟨g r, K, fun k hk => by show (f k).map g = _; rw [hr k hk]; rfl⟩
theorem Tot.any {α : Type} (g : Nat → α → Option Bool) : ∀ l : List α, (∀ q, q ∈ l → Tot (fun k => g k q)) → Tot (fun k => anyE (g k) l)
  | [], _ => ⟨false, 0, fun _ _ => rfl⟩
  | x :: xs, h => by
    obtain ⟨b, K1, h1⟩ := h x (List.mem_cons_self ..)
    obtain ⟨c, K2, h2⟩ := Tot.any g xs fun q hq => h q (List.mem_cons_of_mem _ hq)
    cases b with
    | true => exact ⟨true, K1, fun k hk => by simp only [anyE, h1 k hk]; rfl⟩
    | false =>
      refine ⟨c, K1 + K2, fun k hk => ?_⟩
      simp only [anyE, h1 k (by omega), Option.bind_some, Bool.false_eq_true, if_false]
      exact h2 k (by omega)
theorem tindP {P : S24 → Prop} (h : ∀ p, (∀ q, q ∈ p.f5 → P q) → P p) : ∀ p, P p := fun p => h p fun q hq => tindP h q
termination_by p => SizeOf.sizeOf p
decreasing_by
  have h1 := List.sizeOf_lt_of_mem hq
  have h2 : SizeOf.sizeOf p.f5 < SizeOf.sizeOf p := by cases p; simp; omega
  omega
theorem tindS {P : S50 → Prop} (h : ∀ p, (∀ q, q ∈ p.f5 → P q) → P p) : ∀ p, P p := fun p => h p fun q hq => tindS h q
termination_by p => SizeOf.sizeOf p
decreasing_by
  have h1 := List.sizeOf_lt_of_mem hq
  have h2 : SizeOf.sizeOf p.f5 < SizeOf.sizeOf p := by cases p; simp; omega
  omega
theorem tindC {P : S31 → Prop} (h : ∀ p, (∀ q, q ∈ p.f12 → P q) → P p) : ∀ p, P p := fun p => h p fun q hq => tindC h q
termination_by p => SizeOf.sizeOf p
decreasing_by
  have h1 := List.sizeOf_lt_of_mem hq
  have h2 : SizeOf.sizeOf p.f12 < SizeOf.sizeOf p := by cases p; simp; omega
  omega
theorem tsign (x : Int) (h0 : 0 ≤ x) (h1 : x ≤ 255) : like_sign.f x = some (if wrap64 x = 37 then 257 else if wrap64 x = 95 then 256 else wrap64 x) := by
  unfold like_sign.f
  rw [w64 (x := x) (by omega) (by omega)]
  split
  · rfl
  · split <;> rfl
theorem parse_tot (s : ByteArray) (esc : Int) : Tot (fun k => like_Parse.f k s esc) := by
  have loop : s.size ≤ 5000 → ∀ (n i : Nat) (acc : List Int), s.size - i ≤ n → acc.length ≤ i → i ≤ s.size → Tot (fun k => like_Parse.l0 k s esc acc (i : Int)) := by
    intro hs n
    induction n with
    | zero =>
      intro i acc hn ha hi
      exact Tot.step (fun k => by rw [like_Parse.l0]) (Tot.ite (fun c => by omega) (fun _ => Tot.val))
    | succ n ih =>
      intro i acc hn ha hi
      refine Tot.step (fun k => by rw [like_Parse.l0]) ?_
      refine Tot.ite (fun c => ?_) (fun _ => Tot.val)
      refine Tot.ite (fun _ => ?_) (fun c => by omega)
      have hb := bt_range s (i : Int)
      have w1 : wrap64 ((i : Int) + 1) = ((i + 1 : Nat) : Int) := by rw [w64 (by omega) (by omega)]; omega
      rw [w1]
      refine Tot.ite (fun _ => ?_) (fun _ => ?_)
      · refine Tot.ite (fun _ => Tot.val) (fun c2 => ?_)
        refine Tot.ite (fun _ => ?_) (fun c => by omega)
        refine Tot.ite (fun c3 => ?_) (fun c => by omega)
        refine Tot.ite (fun _ => ?_) (fun c => by omega)
        have w2 : wrap64 (((i + 1 : Nat) : Int) + 1) = ((i + 2 : Nat) : Int) := by rw [w64 (by omega) (by omega)]; omega
        rw [w2]
        exact ih (i + 2) _ (by omega) (by simp; omega) (by omega)
      · refine Tot.bind (Tot.of (tsign _ hb.1 hb.2)) (fun r => ?_)
        refine Tot.ite (fun _ => ?_) (fun c => by omega)
        exact ih (i + 1) _ (by omega) (by simp; omega) (by omega)
  have j0 : ∀ b, (b = false → s.size ≤ 5000) → Tot (fun k => like_Parse.j0 k s esc b) := fun b h => by
    refine Tot.step (fun k => by rw [like_Parse.j0]) ?_
    cases b with
    | true => exact Tot.ite (fun _ => Tot.val) (fun c => absurd rfl c)
    | false => exact Tot.ite (fun c => by cases c) (fun _ => loop (h rfl) s.size 0 [] (by omega) (by simp) (by omega))
  unfold like_Parse.f
  refine Tot.ite (fun _ => j0 true (fun h => by cases h)) (fun _ => ?_)
  refine Tot.ite (fun _ => j0 true (fun h => by cases h)) (fun _ => ?_)
  exact j0 _ (fun h => by have := of_decide_eq_false h; omega)
theorem leaf_tot (p : S24) (cols : Int) : Tot (fun k => leafP k p cols) := by
  have j0 : ∀ b, Tot (fun k => need_leaf.j0 k b p.f0 p.f1 p.f2 p.f3 p.f4 p.f5) := fun b => by
    refine Tot.step (fun k => by rw [need_leaf.j0]) ?_
    have hc : Tot (fun _ => need_compares.f p.f0) := by unfold need_compares.f; exact Tot.ite (fun _ => Tot.val) (fun _ => Tot.val)
    refine Tot.ite (fun _ => Tot.val) (fun _ => Tot.ite (fun _ => Tot.bind (parse_tot _ _) (fun _ => Tot.ite (fun _ => Tot.val) (fun _ => Tot.val))) (fun _ => ?_))
    refine Tot.ite (fun _ => Tot.ite (fun _ => Tot.val) (fun _ => Tot.ite (fun _ => Tot.val) (fun _ => ?_))) (fun _ => Tot.val)
    exact Tot.ite (fun _ => Tot.bind hc (fun _ => Tot.ite (fun _ => Tot.ite (fun _ => Tot.val) (fun _ => Tot.val)) (fun _ => Tot.val))) (fun _ => Tot.ite (fun _ => Tot.val) (fun _ => Tot.val))
  unfold leafP need_leaf.f
  exact Tot.ite (fun _ => j0 _) (fun _ => Tot.ite (fun _ => j0 _) (fun _ => Tot.ite (fun _ => j0 _) (fun _ => Tot.ite (fun _ => j0 _) (fun _ => Tot.ite (fun _ => j0 _) (fun _ => j0 _)))))
theorem joins_tot (x : Int) : Tot (fun _ => need_joins.f x) := by unfold need_joins.f; exact Tot.ite (fun _ => Tot.val) (fun _ => Tot.val)
theorem right_tot : ∀ (p : S24) (cols deep : Int), Tot (fun k => rightP k p cols deep) := by
  refine tindP fun p ih cols deep => ?_
  refine Tot.step (fun k => by rw [rightP]) ?_
  refine Tot.bind (joins_tot p.f0) (fun j => ?_)
  refine Tot.ite (fun _ => Tot.ite (fun _ => leaf_tot p cols) (fun _ => Tot.val)) (fun _ => ?_)
  refine Tot.ite (fun _ => Tot.val) (fun _ => Tot.ite (fun _ => Tot.val) (fun _ => Tot.ite (fun _ => Tot.val) (fun _ => Tot.ite (fun _ => Tot.val) (fun _ => Tot.ite (fun _ => Tot.val) (fun _ => Tot.ite (fun _ => Tot.val) (fun _ => Tot.ite (fun _ => Tot.val) (fun _ => Tot.ite (fun _ => Tot.val) (fun _ => ?_))))))))
  exact Tot.map (Tot.any (fun k q => (rightP k q cols (wrap64 (deep - 1))).map (!·)) p.f5 (fun q hq => Tot.map (ih q hq cols _) _)) (!·)
theorem need_tot (p : S24) (n : Int) : Tot (fun k => needRP k p n) := by
  unfold needRP need_Right.f
  exact Tot.bind (right_tot ⟨p.f0, p.f1, p.f2, p.f3, p.f4, p.f5⟩ n 12) (fun _ => Tot.val)
theorem shape_tot (p : S50) (cols : Int) : Tot (fun k => shapeS k p cols) := by
  have j1 : ∀ a b c, Tot (fun k => scalar_shape.j1 k a b c) := fun a b c => by
    refine Tot.step (fun k => by rw [scalar_shape.j1]) ?_
    exact Tot.ite (fun _ => Tot.val) (fun _ => Tot.ite (fun _ => Tot.ite (fun _ => Tot.val) (fun _ => Tot.val)) (fun _ => Tot.ite (fun _ => Tot.ite (fun _ => Tot.val) (fun _ => Tot.val)) (fun _ => Tot.val)))
  have j0 : ∀ b, Tot (fun k => scalar_shape.j0 k cols (p.f5.length : Int) b p.f0 p.f1 p.f2 p.f3 p.f4 p.f5) := fun b => by
    refine Tot.step (fun k => by rw [scalar_shape.j0]) ?_
    refine Tot.ite (fun _ => Tot.val) (fun _ => Tot.ite (fun _ => Tot.ite (fun _ => Tot.ite (fun _ => Tot.val) (fun _ => Tot.val)) (fun _ => Tot.val)) (fun _ => Tot.ite (fun _ => Tot.ite (fun _ => Tot.val) (fun _ => Tot.val)) (fun _ => Tot.ite (fun _ => Tot.val) (fun _ => ?_))))
    exact Tot.ite (fun _ => Tot.ite (fun _ => Tot.ite (fun _ => Tot.val) (fun _ => Tot.val)) (fun _ => Tot.val)) (fun _ => Tot.ite (fun _ => j1 _ _ _) (fun _ => j1 _ _ _))
  unfold shapeS scalar_shape.f
  repeat' first
    | exact j0 _
    | exact Tot.val
    | refine Tot.ite (fun _ => ?_) (fun _ => ?_)
theorem scalar_tot : ∀ (p : S50) (cols deep : Int), Tot (fun k => rightS k p cols deep) := by
  refine tindS fun p ih cols deep => ?_
  refine Tot.step (fun k => by rw [rightS]) ?_
  refine Tot.ite (fun _ => Tot.val) (fun _ => Tot.bind (shape_tot p cols) (fun j => Tot.ite (fun _ => Tot.val) (fun _ => ?_)))
  exact Tot.map (Tot.any (fun k q => (rightS k q cols (wrap64 (deep - 1))).map (!·)) p.f5 (fun q hq => Tot.map (ih q hq cols _) _)) (!·)
theorem exprs_tot (l : List S50) (n : Int) : Tot (fun k => plan_exprs.f k l n) := by
  unfold plan_exprs.f
  refine Tot.ite (fun _ => Tot.val) (fun _ => Tot.ite (fun _ => Tot.val) (fun _ => ?_))
  refine Tot.map (Tot.any (fun k p => exprW k n p) l (fun q _ => ?_)) (!·)
  unfold exprW scalar_Right.f
  exact Tot.map (Tot.bind (scalar_tot ⟨q.f0, q.f1, q.f2, q.f3, q.f4, q.f5⟩ n 12) (fun _ => Tot.val)) (!·)
theorem group_tot (l : List Int) (m : List S72) (n : Int) : Tot (fun _ => group_Right.f l m n) := by
  unfold group_Right.f
  refine Tot.ite (fun _ => Tot.val) (fun _ => Tot.ite (fun _ => Tot.val) (fun _ => Tot.ite (fun _ => Tot.val) (fun _ => ?_)))
  refine Tot.bind (Tot.any (fun _ c => some (!colB n c)) l (fun _ _ => Tot.val)) (fun _ => Tot.ite (fun _ => Tot.val) (fun _ => ?_))
  exact Tot.map (Tot.any (fun _ a => some (aggBad n a)) m (fun _ _ => Tot.val)) (!·)
theorem join_tot (a : Int) (x1 x2 : List Int) (x3 x4 : Int) : Tot (fun _ => join_Right.f a x1 x2 x3 x4) := by
  have c : ∀ l m, Tot (fun _ => join_columns.f l m) := fun l m => by unfold join_columns.f; exact Tot.val
  unfold join_Right.f
  exact Tot.ite (fun _ => Tot.ite (fun _ => Tot.ite (fun _ => Tot.ite (fun _ => Tot.ite (fun _ => Tot.bind (c _ _) (fun _ => Tot.ite (fun _ => Tot.bind (c _ _) (fun _ => Tot.val)) (fun _ => Tot.val))) (fun _ => Tot.val)) (fun _ => Tot.val)) (fun _ => Tot.val)) (fun _ => Tot.val)) (fun _ => Tot.val)
theorem when_tot (b : Bool) (n : Int) : Tot (fun _ => plan_when.f b n) := by unfold plan_when.f; exact Tot.ite (fun _ => Tot.ite (fun _ => Tot.val) (fun _ => Tot.val)) (fun _ => Tot.val)
theorem order_tot (l : List S52) (n : Int) : Tot (fun _ => order_Right.f l n) := by unfold order_Right.f; exact Tot.val
theorem own_tot (p : S31) (ks : List Int) (l : List S46) (h : p.f0 = 1 ∨ (0 < ks.length ∧ (p.f0 = 5 → 1 < ks.length))) : Tot (fun k => ownP k p ks l) := by
  unfold ownP
  refine Tot.ite (fun _ => by unfold plan_scan.f; exact Tot.val) (fun c1 => ?_)
  have h := h.resolve_left c1
  refine Tot.ite (fun _ => Tot.ite (fun _ => Tot.bind (need_tot _ _) (fun _ => when_tot _ _)) (fun c => absurd h.1 c)) (fun _ => ?_)
  refine Tot.ite (fun _ => Tot.ite (fun _ => Tot.bind (exprs_tot _ _) (fun _ => when_tot _ _)) (fun c => absurd h.1 c)) (fun _ => ?_)
  refine Tot.ite (fun _ => Tot.ite (fun _ => Tot.bind (group_tot _ _ _) (fun _ => when_tot _ _)) (fun c => absurd h.1 c)) (fun _ => ?_)
  refine Tot.ite (fun c5 => Tot.ite (fun _ => Tot.bind (join_tot _ _ _ _ _) (fun _ => when_tot _ _)) (fun c => absurd (h.2 c5) c)) (fun _ => ?_)
  refine Tot.ite (fun _ => Tot.ite (fun _ => Tot.ite (fun _ => Tot.bind (order_tot _ _) (fun _ => when_tot _ _)) (fun _ => when_tot _ _)) (fun c => absurd h.1 c)) (fun _ => ?_)
  exact Tot.ite (fun _ => when_tot _ _) (fun c => absurd h.1 c)
theorem kids_tot (g : Nat → S31 → Option Int) : ∀ (l : List S31) (ks : List Int), (∀ q, q ∈ l → Tot (fun k => g k q)) → ∃ o, Ev (fun k => kidsL (g k) l ks) o ∧ ∀ xs, o = some xs → xs.length = ks.length + l.length
  | [], ks, _ => ⟨some ks, ⟨0, fun _ _ => rfl⟩, fun xs h => by obtain rfl := Option.some.inj h; simp⟩
  | q :: qs, ks, h => by
    obtain ⟨n, K1, h1⟩ := h q (List.mem_cons_self ..)
    obtain ⟨o, ⟨K2, h2⟩, h3⟩ := kids_tot g qs (ks ++ [n]) fun q hq => h q (List.mem_cons_of_mem _ hq)
    by_cases z : n = 0
    · exact ⟨none, ⟨K1, fun k hk => by show kidsL (g k) (q :: qs) ks = _; simp only [kidsL, h1 k hk, Option.bind_some, if_pos z]⟩, fun xs h => by cases h⟩
    · exact ⟨o, ⟨K1 + K2, fun k hk => by show kidsL (g k) (q :: qs) ks = _; simp only [kidsL, h1 k (by omega), Option.bind_some, if_neg z]; exact h2 k (by omega)⟩, fun xs h => by rw [h3 xs h]; simp; omega⟩
inductive FewM : S31 → Prop
  | mk (p : S31) : p.f12.length ≤ 1000000 → (∀ q, q ∈ p.f12 → FewM q) → FewM p
theorem shaped_kids (p : S31) (h : shapedB p = true) : 1 ≤ p.f0 ∧ p.f0 ≤ 7 ∧ (p.f12.length : Int) = kidsN p.f0 := by
  unfold shapedB at h
  by_cases c1 : p.f0 < 1
  · rw [if_pos c1] at h; cases h
  rw [if_neg c1] at h
  by_cases c2 : 7 < p.f0
  · rw [if_pos c2] at h; cases h
  rw [if_neg c2] at h
  split at h
  · cases h
  · exact ⟨by omega, by omega, of_decide_eq_true h⟩
theorem colsP_at (k : Nat) (p : S31) (l : List S46) (d : Int) (h : p.f12.length ≤ 1000000) : colsP (k + 1) p l d = if d = 0 then some 0 else if shapedB p = true then (kidsL (fun q => colsP k q l (wrap64 (d - 1))) p.f12 []).bind (fun o => match o with | none => some 0 | some ks => ownP k p ks l) else some 0 := by
  rw [colsP, if_pos h]
  rfl
theorem cols_tot (l : List S46) : ∀ (p : S31), FewM p → ∀ d : Int, Tot (fun k => colsP k p l d) := by
  refine tindC fun p ih hf d => ?_
  obtain ⟨_, h12, hq⟩ := hf
  refine Tot.step (fun k => colsP_at k p l d h12) ?_
  refine Tot.ite (fun _ => Tot.val) (fun _ => Tot.ite (fun hs => ?_) (fun _ => Tot.val))
  obtain ⟨s1, s2, s3⟩ := shaped_kids p hs
  obtain ⟨o, ho, hl⟩ := kids_tot (fun k q => colsP k q l (wrap64 (d - 1))) p.f12 [] (fun q hm => ih q hm (hq q hm) _)
  cases o with
  | none => exact ⟨0, Ev.bind ho (Ev.val rfl)⟩
  | some ks =>
    have hk := hl ks rfl
    obtain ⟨r, hr⟩ := own_tot p ks l (by
      by_cases c : p.f0 = 1
      · exact .inl c
      · right
        unfold kidsN at s3
        rw [if_neg c] at s3
        simp only [List.length_nil, Nat.zero_add] at hk
        by_cases c5 : p.f0 = 5
        · rw [if_pos c5] at s3; exact ⟨by omega, fun _ => by omega⟩
        · rw [if_neg c5] at s3; exact ⟨by omega, fun h => absurd h c5⟩)
    exact ⟨r, Ev.bind ho hr⟩
/-! ### the names that a plan scans -/
def names (p : S31) : List ByteArray := (if p.f0 = 1 then [p.f1] else []) ++ (p.f12.attach.map fun q => names q.1).flatten
termination_by SizeOf.sizeOf p
decreasing_by
  have h1 := List.sizeOf_lt_of_mem q.2
  have h2 : SizeOf.sizeOf p.f12 < SizeOf.sizeOf p := by cases p; simp; omega
  omega
/-- A table's columns, by its name; 0: there is none. -/
def tab (l : List S46) (nm : ByteArray) : Int := if firstOf (scanIs nm) l < 0 then 0 else (rd_T46 l (firstOf (scanIs nm) l)).f1
theorem scan_tab (nm : ByteArray) (l : List S46) : plan_scan.f nm l = some (tab l nm) := rfl
theorem kidsL_congr (g g' : S31 → Option Int) : ∀ (l : List S31) (ks : List Int), (∀ q, q ∈ l → g q = g' q) → kidsL g l ks = kidsL g' l ks
  | [], _, _ => rfl
  | q :: qs, ks, h => by
    simp only [kidsL]
    rw [h q (List.mem_cons_self ..)]
    congr 1
    funext n
    rw [kidsL_congr g g' qs _ fun q hq => h q (List.mem_cons_of_mem _ hq)]
end Go.Proofs.Ytomccmodlkdcbaa.Pure
