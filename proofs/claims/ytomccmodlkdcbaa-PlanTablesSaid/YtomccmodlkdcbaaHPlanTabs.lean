/- Plans: the guard 'Small' answers of each; of a small plan both ways to the scanned names come to the same. -/
import Derived.Test.YtomccmodlkdcbaaHCmpS
import Derived.Test.YtomccmodlkdcbaaHPredSmall
import Derived.Test.YtomccmodlkdcbaaHExprSmall
set_option linter.unusedVariables false
set_option linter.unusedSimpArgs false
namespace Go.Proofs.Ytomccmodlkdcbaa.Pure
open Go.RowKit Go.Proofs.Ytomccmodlkdcbaa.Q Go.Proofs.YtomccmodlkdcbaaW.PrintWords Go.Proofs.YtomccmodlkdcbaaW.PrintLast Go.Proofs.YtomccmodlkdcbaaW.PrintMore
theorem ft_ : ¬ (false = true) := by decide
theorem tf_ : ¬ (true = false) := by decide
theorem ind31 {P : S31 → Prop} (h : ∀ p, (∀ q, q ∈ p.f12 → P q) → P p) : ∀ p, P p := fun p => h p fun q hq => ind31 h q
termination_by p => SizeOf.sizeOf p
decreasing_by
  have h1 := List.sizeOf_lt_of_mem hq
  have h2 : SizeOf.sizeOf p.f12 < SizeOf.sizeOf p := by cases p; simp; omega
  omega
/-- How many parts a plan has. -/
def nodes31 (p : S31) : Nat := 1 + (p.f12.attach.map fun q => nodes31 q.1).sum
termination_by SizeOf.sizeOf p
decreasing_by
  have h1 := List.sizeOf_lt_of_mem q.2
  have h2 : SizeOf.sizeOf p.f12 < SizeOf.sizeOf p := by cases p; simp; omega
  omega
theorem nodes31_eq (p : S31) : nodes31 p = 1 + (p.f12.map nodes31).sum := by
  rw [nodes31]
  congr 2
  exact List.attach_map_val (f := nodes31)
theorem sizeL_ev (most : Int) (h0 : 0 ≤ most) (h1 : most ≤ 1000) : ∀ (l : List S31), (∀ q, q ∈ l → ∀ m : Int, 0 ≤ m → m ≤ 1000 → ∃ r, Ev (fun k => sizeP k q m) r ∧ 1 ≤ r ∧ r ≤ m + 1 ∧ (r ≤ m → r = (nodes31 q : Int))) →
    ∀ n : Int, 1 ≤ n → n ≤ most + 1 → ∃ r, Ev (fun k => sizeL (fun q m => sizeP k q m) most l n) r ∧ n ≤ r ∧ r ≤ most + 1 ∧ (r ≤ most → r = n + ((l.map nodes31).sum : Nat))
  | [], _, n, hn, hm => ⟨n, Ev.congr (fun k => by rw [sizeL]) (Ev.val rfl), by omega, hm, fun _ => by simp⟩
  | q :: qs, h, n, hn, hm => by
    by_cases c : n ≤ most
    · obtain ⟨t, ht, t1, t2, t3⟩ := h q (by simp) (most - n) (by omega) (by omega)
      obtain ⟨r, hr, r1, r2, r3⟩ := sizeL_ev most h0 h1 qs (fun q hq => h q (List.mem_cons_of_mem _ hq)) (n + t) (by omega) (by omega)
      refine ⟨r, Ev.congr (fun k => by rw [sizeL]) (Ev.pos c ?_), by omega, r2, fun hle => ?_⟩
      · rw [w64 (x := most - n) (by omega) (by omega)]
        refine Ev.bind ht ?_
        rw [w64 (x := n + t) (by omega) (by omega)]
        exact hr
      · have e1 := r3 hle
        have e2 := t3 (by omega)
        rw [List.map_cons, List.sum_cons]
        omega
    · exact ⟨n, Ev.congr (fun k => by rw [sizeL]) (Ev.neg c (Ev.val rfl)), by omega, hm, fun _ => by omega⟩
theorem size_ev31 : ∀ (p : S31) (m : Int), 0 ≤ m → m ≤ 1000 → ∃ r, Ev (fun k => sizeP k p m) r ∧ 1 ≤ r ∧ r ≤ m + 1 ∧ (r ≤ m → r = (nodes31 p : Int)) := by
  refine ind31 fun p ih m h0 h1 => ?_
  obtain ⟨r, hr, r1, r2, r3⟩ := sizeL_ev m h0 h1 p.f12 ih 1 (by omega) (by omega)
  exact ⟨r, Ev.step (fun k => by rw [sizeP]) hr, r1, r2, fun h => by rw [nodes31_eq, r3 h]; omega⟩
/-- What the guard says of a plan. -/
inductive Sm31 : Nat → S31 → Prop
  | mk (n : Nat) (p : S31) : nodes31 p ≤ 40 → p.f1.size ≤ 100 → Sm24 21 p.f2 → p.f3.length ≤ 12 → (∀ x, x ∈ p.f3 → Sm50 21 x) → p.f4.length ≤ 20 → p.f5.length ≤ 20 → p.f7.length ≤ 20 → p.f8.length ≤ 20 → p.f9.length ≤ 20 → p.f12.length ≤ 5 → (∀ q, q ∈ p.f12 → Sm31 n q) → Sm31 (n + 1) p
theorem allE_cons {α : Type} (g : α → Option Bool) (x : α) (xs : List α) : allE g (x :: xs) = (g x).bind fun b => if b = true then allE g xs else some false := rfl
theorem all_ev {α : Type} (g : Nat → α → Option Bool) (P : α → Prop) : ∀ l : List α, (∀ x, x ∈ l → ∃ b, Ev (fun k => g k x) b ∧ (b = true → P x)) → ∃ b, Ev (fun k => allE (g k) l) b ∧ (b = true → ∀ x, x ∈ l → P x)
  | [], _ => ⟨true, Ev.congr (fun k => by rw [allE]) (Ev.val rfl), fun _ x hx => by simp at hx⟩
  | x :: xs, h => by
    obtain ⟨b, hb, hp⟩ := h x (by simp)
    cases b with
    | false =>
      refine ⟨false, Ev.congr (fun k => allE_cons _ _ _) ?_, fun h => by cases h⟩
      refine Ev.bind hb ?_
      exact Ev.neg ft_ (Ev.val rfl)
    | true =>
      obtain ⟨b, hb2, hp2⟩ := all_ev g P xs (fun x hx => h x (List.mem_cons_of_mem _ hx))
      refine ⟨b, Ev.congr (fun k => allE_cons _ _ _) ?_, fun e y hy => ?_⟩
      · refine Ev.bind hb ?_
        exact Ev.pos rfl hb2
      rcases List.mem_cons.1 hy with rfl | hy
      · exact hp rfl
      · exact hp2 e y hy
theorem small_ev31 : ∀ (d : Nat) (p : S31) (m : Int), m + 1 ≤ d → m ≤ 1000 → -1 ≤ m → ∃ b, Ev (fun k => smallP k p m) b ∧ (b = true → Sm31 (m + 1).toNat p)
  | d, p, m => by
    intro hd h1 hm1
    by_cases c0 : m < 0
    · exact ⟨false, Ev.step (fun k => by rw [smallP]) (Ev.pos c0 (Ev.val rfl)), fun h => by cases h⟩
    cases d with
    | zero => omega
    | succ d =>
    by_cases c1 : 5 < p.f12.length
    · exact ⟨false, Ev.step (fun k => by rw [smallP]) (Ev.neg c0 (Ev.pos c1 (Ev.val rfl))), fun h => by cases h⟩
    obtain ⟨t, ht, t1, t2, t3⟩ := size_ev31 p 60 (by omega) (by omega)
    by_cases c2 : 40 < t
    · exact ⟨false, Ev.step (fun k => by rw [smallP]) (Ev.neg c0 (Ev.neg c1 (Ev.bind ht (Ev.pos c2 (Ev.val rfl))))), fun h => by cases h⟩
    obtain ⟨b, hb, hbs⟩ := small_ev24 21 p.f2 20 (by omega) (by omega) (by omega)
    cases b with
    | false => exact ⟨false, Ev.step (fun k => by rw [smallP]) (Ev.neg c0 (Ev.neg c1 (Ev.bind ht (Ev.neg c2 (Ev.bind hb (Ev.pos rfl (Ev.val rfl))))))), fun h => by cases h⟩
    | true =>
    have hP := hbs rfl
    by_cases c3 : 12 < p.f3.length
    · exact ⟨false, Ev.step (fun k => by rw [smallP]) (Ev.neg c0 (Ev.neg c1 (Ev.bind ht (Ev.neg c2 (Ev.bind hb (Ev.neg tf_ (Ev.pos c3 (Ev.val rfl)))))))), fun h => by cases h⟩
    by_cases c4 : 20 < p.f4.length
    · exact ⟨false, Ev.step (fun k => by rw [smallP]) (Ev.neg c0 (Ev.neg c1 (Ev.bind ht (Ev.neg c2 (Ev.bind hb (Ev.neg tf_ (Ev.neg c3 (Ev.pos c4 (Ev.val rfl))))))))), fun h => by cases h⟩
    by_cases c5 : 20 < p.f5.length
    · exact ⟨false, Ev.step (fun k => by rw [smallP]) (Ev.neg c0 (Ev.neg c1 (Ev.bind ht (Ev.neg c2 (Ev.bind hb (Ev.neg tf_ (Ev.neg c3 (Ev.neg c4 (Ev.pos c5 (Ev.val rfl)))))))))), fun h => by cases h⟩
    by_cases c6 : 20 < p.f7.length
    · exact ⟨false, Ev.step (fun k => by rw [smallP]) (Ev.neg c0 (Ev.neg c1 (Ev.bind ht (Ev.neg c2 (Ev.bind hb (Ev.neg tf_ (Ev.neg c3 (Ev.neg c4 (Ev.neg c5 (Ev.pos c6 (Ev.val rfl))))))))))), fun h => by cases h⟩
    by_cases c7 : 20 < p.f8.length
    · exact ⟨false, Ev.step (fun k => by rw [smallP]) (Ev.neg c0 (Ev.neg c1 (Ev.bind ht (Ev.neg c2 (Ev.bind hb (Ev.neg tf_ (Ev.neg c3 (Ev.neg c4 (Ev.neg c5 (Ev.neg c6 (Ev.pos c7 (Ev.val rfl)))))))))))), fun h => by cases h⟩
    by_cases c8 : 20 < p.f9.length
    · exact ⟨false, Ev.step (fun k => by rw [smallP]) (Ev.neg c0 (Ev.neg c1 (Ev.bind ht (Ev.neg c2 (Ev.bind hb (Ev.neg tf_ (Ev.neg c3 (Ev.neg c4 (Ev.neg c5 (Ev.neg c6 (Ev.neg c7 (Ev.pos c8 (Ev.val rfl))))))))))))), fun h => by cases h⟩
    by_cases c9 : 100 < p.f1.size
    · exact ⟨false, Ev.step (fun k => by rw [smallP]) (Ev.neg c0 (Ev.neg c1 (Ev.bind ht (Ev.neg c2 (Ev.bind hb (Ev.neg tf_ (Ev.neg c3 (Ev.neg c4 (Ev.neg c5 (Ev.neg c6 (Ev.neg c7 (Ev.neg c8 (Ev.pos c9 (Ev.val rfl)))))))))))))), fun h => by cases h⟩
    obtain ⟨b, ha, has⟩ := all_ev (fun k x => exprSm k x 20) (Sm50 21) p.f3 (fun x _ => small_ev50 21 x 20 (by omega) (by omega) (by omega))
    obtain ⟨b2, hk, hks⟩ := all_ev (fun k q => smallP k q (m - 1)) (Sm31 m.toNat) p.f12 (fun q _ => by
      obtain ⟨b, h, hs⟩ := small_ev31 d q (m - 1) (by omega) (by omega) (by omega)
      exact ⟨b, h, fun e => by have := hs e; rwa [show (m - 1 + 1).toNat = m.toNat by omega] at this⟩)
    cases b with
    | false =>
      refine ⟨false, Ev.step (fun k => by rw [smallP]) (Ev.neg c0 (Ev.neg c1 (Ev.bind ht (Ev.neg c2 (Ev.bind hb (Ev.neg tf_ (Ev.neg c3 (Ev.neg c4 (Ev.neg c5 (Ev.neg c6 (Ev.neg c7 (Ev.neg c8 (Ev.neg c9 ?_))))))))))))), fun h => by cases h⟩
      refine Ev.bind ha ?_
      exact Ev.neg ft_ (Ev.val rfl)
    | true =>
    refine ⟨b2, Ev.step (fun k => by rw [smallP]) (Ev.neg c0 (Ev.neg c1 (Ev.bind ht (Ev.neg c2 (Ev.bind hb (Ev.neg tf_ (Ev.neg c3 (Ev.neg c4 (Ev.neg c5 (Ev.neg c6 (Ev.neg c7 (Ev.neg c8 (Ev.neg c9 (Ev.bind ha (Ev.pos rfl ?_))))))))))))))), fun h => ?_⟩
    · rw [w64 (x := m - 1) (by omega) (by omega)]; exact hk
    · rw [show (m + 1).toNat = m.toNat + 1 by omega]
      have := t3 (by omega)
      exact .mk _ _ (by omega) (by omega) hP (by omega) (has rfl) (by omega) (by omega) (by omega) (by omega) (by omega) (by omega) (hks h)
/-! ### hopperref13.Sorted -/
theorem rise_insert {l : List ByteArray} {x : ByteArray} {j : Nat} (h : l.Pairwise fun a b => toB a < toB b) (hb : ∀ i (hi : i < l.length), i < j → toB l[i] < toB x) (ha : ∀ i (hi : i < l.length), j ≤ i → toB x < toB l[i]) :
    (l.take j ++ [x] ++ l.drop j).Pairwise fun a b => toB a < toB b := by
  rw [List.append_assoc, List.singleton_append]
  refine List.pairwise_append.2 ⟨h.sublist (List.take_sublist _ _), List.pairwise_cons.2 ⟨fun a hm => ?_, h.sublist (List.drop_sublist _ _)⟩, fun a hm b hm2 => ?_⟩
  · obtain ⟨i, hi, rfl⟩ := List.getElem_of_mem hm
    rw [List.getElem_drop]
    exact ha _ _ (by omega)
  · obtain ⟨i, hi, rfl⟩ := List.getElem_of_mem hm
    have hi3 : i < min j l.length := by simpa using hi
    have hi2 : i < j ∧ i < l.length := by omega
    rw [List.getElem_take]
    rcases List.mem_cons.1 hm2 with rfl | hm2
    · exact hb _ _ hi2.1
    · obtain ⟨i2, hj2, rfl⟩ := List.getElem_of_mem hm2
      rw [List.getElem_drop]
      exact List.pairwise_iff_getElem.1 h _ _ _ _ (by omega)
theorem mem_insert {l : List ByteArray} {x y : ByteArray} {j : Nat} : y ∈ l.take j ++ [x] ++ l.drop j ↔ y ∈ l ∨ y = x := by
  have h : y ∈ l ↔ y ∈ l.take j ∨ y ∈ l.drop j := by rw [← List.mem_append, List.take_append_drop]
  rw [h]
  simp only [List.mem_append, List.mem_singleton]
  constructor
  · rintro ((a | a) | a)
    · exact .inl (.inl a)
    · exact .inr a
    · exact .inl (.inr a)
  · rintro ((a | a) | a)
    · exact .inl (.inl a)
    · exact .inr a
    · exact .inl (.inr a)
theorem take_succ_mem {l : List ByteArray} {i : Nat} (hi : i < l.length) (y : ByteArray) : y ∈ l.take (i + 1) ↔ y ∈ l.take i ∨ y = l[i] := by
  have e := List.take_succ_eq_append_getElem hi
  simp only [e, List.mem_append, List.mem_singleton]
theorem sorted_ev (l : List ByteArray) (hl : l.length ≤ 1000000) (hs : ∀ s, s ∈ l → s.size ≤ 100) : ∃ r, Ev (fun k => hopperref13_Sorted.f k l) r ∧ SetOf r l ∧ r.length ≤ l.length := by
  have main : ∀ (n i : Nat) (out : List ByteArray), l.length - i = n → i ≤ l.length → SetOf out (l.take i) → out.length ≤ i → ∃ r, Ev (fun k => hopperref13_Sorted.l0 k l out (i : Int)) r ∧ SetOf r l ∧ r.length ≤ l.length := by
    intro n
    induction n with
    | zero =>
      intro i out hn hi ho hol
      refine ⟨out, Ev.step (fun k => by rw [hopperref13_Sorted.l0]) (Ev.neg (by omega) (Ev.val rfl)), ?_⟩
      rw [List.take_of_length_le (by omega)] at ho
      exact ⟨ho, by omega⟩
    | succ n ih =>
      intro i out hn hi ho hol
      have hil : i < l.length := by omega
      have hsz : ∀ s, s ∈ out → s.size ≤ 100 := fun s h => hs s (List.mem_of_mem_take ((ho.2 s).1 h))
      have inner : ∀ (m j : Nat), out.length - j = m → j ≤ out.length → (∀ i2 (h2 : i2 < out.length), i2 < j → toB out[i2] < toB l[i]) → ∃ r, Ev (fun k => hopperref13_Sorted.l1 k l out (i : Int) (j : Int)) r ∧ SetOf r l ∧ r.length ≤ l.length := by
        intro m
        induction m with
        | zero =>
          intro j hm hj hb
          obtain ⟨r, hr, hset⟩ := ih (i + 1) (out.take j ++ [l[i]] ++ out.drop j) (by omega) (by omega) ⟨rise_insert ho.1 hb (fun i2 h2 h3 => by omega), fun y => by rw [mem_insert, take_succ_mem hil, ho.2 y]⟩ (by simp; omega)
          refine ⟨r, Ev.step (fun k => by rw [hopperref13_Sorted.l1]) (Ev.neg (by omega) ?_), hset⟩
          refine Ev.bind (Ev.now _) (Ev.pos (by omega) (Ev.pos (by omega) (Ev.bind (Ev.now _) ?_)))
          have e1 : ((j : Int)).toNat = j := by omega
          simp only [List.nil_append, e1]
          refine Ev.pos (by simp; omega) (Ev.bind (Ev.now _) (Ev.pos (by omega) (Ev.pos (by omega) (Ev.bind (Ev.now _) ?_))))
          rw [rdOfn _ l i hil]
          refine Ev.pos (by simp; omega) (Ev.bind (Ev.now _) (Ev.bind (Ev.now _) (Ev.pos (by simp; omega) ?_)))
          rw [w64s (n := l.length) (by omega) (by omega)]
          exact hr
        | succ m IH =>
          intro j hm hj hb
          have hjl : j < out.length := by omega
          have hc := compare_ev out[j] l[i] (by have := hsz _ (List.getElem_mem hjl); unfold maxLen; omega)
          have e1 : ((j : Int)).toNat = j := by omega
          by_cases c1 : toB out[j] < toB l[i]
          · obtain ⟨r, hr, hset⟩ := IH (j + 1) (by omega) (by omega) (fun i2 h2 h3 => by
              by_cases e : i2 = j
              · subst e; exact c1
              · exact hb i2 h2 (by omega))
            refine ⟨r, Ev.step (fun k => by rw [hopperref13_Sorted.l1]) (Ev.pos (by omega) (Ev.pos (by omega) (Ev.pos (by omega) (Ev.pos (by omega) ?_)))), hset⟩
            rw [rdOfn _ l i hil, rdOfn _ out j hjl]
            refine Ev.bind hc (Ev.pos (cmpS_lt.2 c1) ?_)
            rw [w64s (n := out.length) (by omega) (by omega)]
            exact hr
          · by_cases c2 : out[j] = l[i]
            · obtain ⟨r, hr, hset⟩ := ih (i + 1) out (by omega) (by omega) ⟨ho.1, fun y => by
                rw [take_succ_mem hil, ho.2 y]
                exact ⟨.inl, fun h => h.elim id fun e => by rw [e, ← c2]; exact (ho.2 _).1 (List.getElem_mem hjl)⟩⟩ (by omega)
              refine ⟨r, Ev.step (fun k => by rw [hopperref13_Sorted.l1]) (Ev.pos (by omega) (Ev.pos (by omega) (Ev.pos (by omega) (Ev.pos (by omega) ?_)))), hset⟩
              rw [rdOfn _ l i hil, rdOfn _ out j hjl]
              refine Ev.bind hc (Ev.neg (fun h => c1 (cmpS_lt.1 h)) (Ev.pos (by rw [c2]) ?_))
              rw [w64s (n := l.length) (by omega) (by omega)]
              exact hr
            · have c3 : toB l[i] < toB out[j] := by
                rcases ls_tri (toB out[j]) (toB l[i]) with e | e | e
                · exact absurd e c1
                · exact absurd (toB_inj e) c2
                · exact e
              obtain ⟨r, hr, hset⟩ := ih (i + 1) (out.take j ++ [l[i]] ++ out.drop j) (by omega) (by omega) ⟨rise_insert ho.1 hb (fun i2 h2 h3 => by
                by_cases e : i2 = j
                · subst e; exact c3
                · exact ls_trans c3 (List.pairwise_iff_getElem.1 ho.1 j i2 hjl h2 (by omega))), fun y => by rw [mem_insert, take_succ_mem hil, ho.2 y]⟩ (by simp; omega)
              refine ⟨r, Ev.step (fun k => by rw [hopperref13_Sorted.l1]) (Ev.pos (by omega) (Ev.pos (by omega) (Ev.pos (by omega) (Ev.pos (by omega) ?_)))), hset⟩
              rw [rdOfn _ l i hil, rdOfn _ out j hjl]
              refine Ev.bind hc (Ev.neg (fun h => c1 (cmpS_lt.1 h)) (Ev.neg (fun h => c2 (ba_ext (by rw [← tl, ← tl]; exact h))) ?_))
              refine Ev.bind (Ev.now _) (Ev.pos (by omega) (Ev.bind (Ev.now _) ?_))
              simp only [List.nil_append, e1]
              refine Ev.pos (by simp; omega) (Ev.bind (Ev.now _) (Ev.bind (Ev.now _) (Ev.pos (by simp; omega) (Ev.bind (Ev.now _) (Ev.bind (Ev.now _) (Ev.pos (by simp; omega) ?_))))))
              rw [w64s (n := l.length) (by omega) (by omega)]
              exact hr
      obtain ⟨r, hr, hset⟩ := inner _ 0 rfl (by omega) (fun i2 _ h => by omega)
      replace hr : Ev (fun k => hopperref13_Sorted.l1 k l out (i : Int) 0) r := hr
      exact ⟨r, Ev.step (fun k => by rw [hopperref13_Sorted.l0]) (Ev.pos (by omega) hr), hset⟩
  obtain ⟨r, hr, hset⟩ := main _ 0 [] rfl (by omega) ⟨List.Pairwise.nil, fun y => by simp⟩ (by simp)
  exact ⟨r, by unfold hopperref13_Sorted.f; exact hr, hset⟩
/-! ### the names -/
theorem tabsL_ev : ∀ (l : List S31), (∀ q, q ∈ l → ∃ x, Ev (fun k => tablesP k q) x ∧ Ev (fun k => refTabsP k q) x ∧ x.length ≤ nodes31 q ∧ ∀ s, s ∈ x → s.size ≤ 100) → ∀ out : List ByteArray, (∀ s, s ∈ out → s.size ≤ 100) → out.length + (l.map nodes31).sum ≤ 1000 →
    ∃ o, Ev (fun k => tabsL (fun q => tablesP k q) l out) o ∧ Ev (fun k => tabsL (fun q => refTabsP k q) l out) o ∧ o.length ≤ out.length + (l.map nodes31).sum ∧ ∀ s, s ∈ o → s.size ≤ 100
  | [], _, out, hs, hb => ⟨out, Ev.congr (fun k => by rw [tabsL]) (Ev.val rfl), Ev.congr (fun k => by rw [tabsL]) (Ev.val rfl), by simp, hs⟩
  | q :: qs, h, out, hs, hb => by
    obtain ⟨x, h1, h2, hl, hx⟩ := h q (by simp)
    rw [List.map_cons, List.sum_cons] at hb ⊢
    obtain ⟨o, o1, o2, o3, o4⟩ := tabsL_ev qs (fun q hq => h q (List.mem_cons_of_mem _ hq)) (out ++ x) (fun s hm => (List.mem_append.1 hm).elim (hs s) (hx s)) (by rw [List.length_append]; omega)
    rw [List.length_append] at o3
    refine ⟨o, Ev.congr (fun k => by rw [tabsL]) (Ev.bind h1 ?_), Ev.congr (fun k => by rw [tabsL]) (Ev.bind h2 ?_), by omega, o4⟩
    · refine Ev.pos (by omega) ?_
      exact o1
    · refine Ev.pos (by omega) ?_
      exact o2
theorem tables_ev : ∀ (n : Nat) (p : S31), Sm31 n p → ∃ x, Ev (fun k => tablesP k p) x ∧ Ev (fun k => refTabsP k p) x ∧ x.length ≤ nodes31 p ∧ ∀ s, s ∈ x → s.size ≤ 100
  | 0, p, h => by cases h
  | n + 1, p, h => by
    obtain ⟨_, _, h40, h100, _, _, _, _, _, _, _, _, hk5, hk⟩ := h
    obtain ⟨o, o1, o2, o3, o4⟩ := tabsL_ev p.f12 (fun q hq => tables_ev n q (hk q hq)) (if p.f0 = 1 then [p.f1] else []) (fun s hm => by
      by_cases c : p.f0 = 1
      · rw [if_pos c] at hm; obtain rfl := List.mem_singleton.1 hm; exact h100
      · rw [if_neg c] at hm; simp at hm) (by rw [nodes31_eq] at h40; by_cases c : p.f0 = 1 <;> simp [c] <;> omega)
    have hol : o.length ≤ nodes31 p := by rw [nodes31_eq]; by_cases c : p.f0 = 1 <;> simp [c] at o3 <;> omega
    obtain ⟨r, hr, hset, hrl⟩ := sorted_ev o (by omega) o4
    have e := (compact_sort_set o).uniq hset (fun _ => Iff.rfl)
    refine ⟨r, Ev.step (fun k => by rw [tablesP]) (Ev.pos (by omega) (Ev.bind o1 (Ev.bind (Ev.c (?_ : _ = some (sortS o))) (Ev.c ?_)))), Ev.step (fun k => by rw [refTabsP]) (Ev.bind o2 hr), Nat.le_trans hrl hol, fun s hm => o4 s ((hset.2 s).1 hm)⟩
    · unfold slices_Sort_string_string.f
      rw [if_pos (by omega)]
    · unfold slices_Compact_string_string.f
      rw [if_pos ?_, e]
      unfold sortS
      simp
      omega
end Go.Proofs.Ytomccmodlkdcbaa.Pure
