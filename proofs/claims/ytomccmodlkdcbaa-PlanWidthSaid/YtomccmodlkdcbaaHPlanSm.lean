/- Plans: the guard 'Small' answers of each; of a small plan both ways to the scanned names come to the same. -/
import Derived.Test.YtomccmodlkdcbaaHPredSmall
import Derived.Test.YtomccmodlkdcbaaHExprSmall
set_option linter.unusedVariables false
set_option linter.unusedSimpArgs false
namespace Go.Proofs.Ytomccmodlkdcbaa.Pure
open Go.RowKit Go.Proofs.Ytomccmodlkdcbaa.Q Go.Proofs.YtomccmodlkdcbaaW.PrintWords Go.Proofs.YtomccmodlkdcbaaW.PrintLast Go.Proofs.YtomccmodlkdcbaaW.PrintMore
theorem ft_ : ¬ (false = true) := by decide
theorem tf_ : ¬ (true = false) := by decide
theorem ind31 {P : S31 → Prop} (h : ∀ p, (∀ q, q ∈ p.f12 → P q) → P p) : ∀ p, P p := fun p => h p fun q hq => ind31 h q
termination_by p => SizeOf.sizeOf p
decreasing_by
  have h1 := List.sizeOf_lt_of_mem hq
  have h2 : SizeOf.sizeOf p.f12 < SizeOf.sizeOf p := by cases p; simp; omega
  omega
/-- How many parts a plan has. -/
def nodes31 (p : S31) : Nat := 1 + (p.f12.attach.map fun q => nodes31 q.1).sum
termination_by SizeOf.sizeOf p
decreasing_by
  have h1 := List.sizeOf_lt_of_mem q.2
  have h2 : SizeOf.sizeOf p.f12 < SizeOf.sizeOf p := by cases p; simp; omega
  omega
theorem nodes31_eq (p : S31) : nodes31 p = 1 + (p.f12.map nodes31).sum := by
  rw [nodes31]
  congr 2
  exact List.attach_map_val (f := nodes31)
theorem sizeL_ev (most : Int) (h0 : 0 ≤ most) (h1 : most ≤ 1000) : ∀ (l : List S31), (∀ q, q ∈ l → ∀ m : Int, 0 ≤ m → m ≤ 1000 → ∃ r, Ev (fun k => sizeP k q m) r ∧ 1 ≤ r ∧ r ≤ m + 1 ∧ (r ≤ m → r = (nodes31 q : Int))) →
    ∀ n : Int, 1 ≤ n → n ≤ most + 1 → ∃ r, Ev (fun k => sizeL (fun q m => sizeP k q m) most l n) r ∧ n ≤ r ∧ r ≤ most + 1 ∧ (r ≤ most → r = n + ((l.map nodes31).sum : Nat))
  | [], _, n, hn, hm => ⟨n, Ev.congr (fun k => by rw [sizeL]) (Ev.val rfl), by omega, hm, fun _ => by simp⟩
  | q :: qs, h, n, hn, hm => by
    by_cases c : n ≤ most
    · obtain ⟨t, ht, t1, t2, t3⟩ := h q (by simp) (most - n) (by omega) (by omega)
      obtain ⟨r, hr, r1, r2, r3⟩ := sizeL_ev most h0 h1 qs (fun q hq => h q (List.mem_cons_of_mem _ hq)) (n + t) (by omega) (by omega)
      refine ⟨r, Ev.congr (fun k => by rw [sizeL]) (Ev.pos c ?_), by omega, r2, fun hle => ?_⟩
      · rw [w64 (x := most - n) (by omega) (by omega)]
        refine Ev.bind ht ?_
        rw [w64 (x := n + t) (by omega) (by omega)]
        exact hr
      · have e1 := r3 hle
        have e2 := t3 (by omega)
        rw [List.map_cons, List.sum_cons]
        omega
    · exact ⟨n, Ev.congr (fun k => by rw [sizeL]) (Ev.neg c (Ev.val rfl)), by omega, hm, fun _ => by omega⟩
theorem size_ev31 : ∀ (p : S31) (m : Int), 0 ≤ m → m ≤ 1000 → ∃ r, Ev (fun k => sizeP k p m) r ∧ 1 ≤ r ∧ r ≤ m + 1 ∧ (r ≤ m → r = (nodes31 p : Int)) := by
  refine ind31 fun p ih m h0 h1 => ?_
  obtain ⟨r, hr, r1, r2, r3⟩ := sizeL_ev m h0 h1 p.f12 ih 1 (by omega) (by omega)
  exact ⟨r, Ev.step (fun k => by rw [sizeP]) hr, r1, r2, fun h => by rw [nodes31_eq, r3 h]; omega⟩
/-- What the guard says of a plan. -/
inductive Sm31 : Nat → S31 → Prop
  | mk (n : Nat) (p : S31) : nodes31 p ≤ 40 → p.f1.size ≤ 100 → Sm24 21 p.f2 → p.f3.length ≤ 12 → (∀ x, x ∈ p.f3 → Sm50 21 x) → p.f4.length ≤ 20 → p.f5.length ≤ 20 → p.f7.length ≤ 20 → p.f8.length ≤ 20 → p.f9.length ≤ 20 → p.f12.length ≤ 5 → (∀ q, q ∈ p.f12 → Sm31 n q) → Sm31 (n + 1) p
theorem allE_cons {α : Type} (g : α → Option Bool) (x : α) (xs : List α) : allE g (x :: xs) = (g x).bind fun b => if b = true then allE g xs else some false := rfl
theorem all_ev {α : Type} (g : Nat → α → Option Bool) (P : α → Prop) : ∀ l : List α, (∀ x, x ∈ l → ∃ b, Ev (fun k => g k x) b ∧ (b = true → P x)) → ∃ b, Ev (fun k => allE (g k) l) b ∧ (b = true → ∀ x, x ∈ l → P x)
  | [], _ => ⟨true, Ev.congr (fun k => by rw [allE]) (Ev.val rfl), fun _ x hx => by simp at hx⟩
  | x :: xs, h => by
    obtain ⟨b, hb, hp⟩ := h x (by simp)
    cases b with
    | false =>
      refine ⟨false, Ev.congr (fun k => allE_cons _ _ _) ?_, fun h => by cases h⟩
      refine Ev.bind hb ?_
      exact Ev.neg ft_ (Ev.val rfl)
    | true =>
      obtain ⟨b, hb2, hp2⟩ := all_ev g P xs (fun x hx => h x (List.mem_cons_of_mem _ hx))
      refine ⟨b, Ev.congr (fun k => allE_cons _ _ _) ?_, fun e y hy => ?_⟩
      · refine Ev.bind hb ?_
        exact Ev.pos rfl hb2
      rcases List.mem_cons.1 hy with rfl | hy
      · exact hp rfl
      · exact hp2 e y hy
theorem small_ev31 : ∀ (d : Nat) (p : S31) (m : Int), m + 1 ≤ d → m ≤ 1000 → -1 ≤ m → ∃ b, Ev (fun k => smallP k p m) b ∧ (b = true → Sm31 (m + 1).toNat p)
  | d, p, m => by
    intro hd h1 hm1
    by_cases c0 : m < 0
    · exact ⟨false, Ev.step (fun k => by rw [smallP]) (Ev.pos c0 (Ev.val rfl)), fun h => by cases h⟩
    cases d with
    | zero => omega
    | succ d =>
    by_cases c1 : 5 < p.f12.length
    · exact ⟨false, Ev.step (fun k => by rw [smallP]) (Ev.neg c0 (Ev.pos c1 (Ev.val rfl))), fun h => by cases h⟩
    obtain ⟨t, ht, t1, t2, t3⟩ := size_ev31 p 60 (by omega) (by omega)
    by_cases c2 : 40 < t
    · exact ⟨false, Ev.step (fun k => by rw [smallP]) (Ev.neg c0 (Ev.neg c1 (Ev.bind ht (Ev.pos c2 (Ev.val rfl))))), fun h => by cases h⟩
    obtain ⟨b, hb, hbs⟩ := small_ev24 21 p.f2 20 (by omega) (by omega) (by omega)
    cases b with
    | false => exact ⟨false, Ev.step (fun k => by rw [smallP]) (Ev.neg c0 (Ev.neg c1 (Ev.bind ht (Ev.neg c2 (Ev.bind hb (Ev.pos rfl (Ev.val rfl))))))), fun h => by cases h⟩
    | true =>
    have hP := hbs rfl
    by_cases c3 : 12 < p.f3.length
    · exact ⟨false, Ev.step (fun k => by rw [smallP]) (Ev.neg c0 (Ev.neg c1 (Ev.bind ht (Ev.neg c2 (Ev.bind hb (Ev.neg tf_ (Ev.pos c3 (Ev.val rfl)))))))), fun h => by cases h⟩
    by_cases c4 : 20 < p.f4.length
    · exact ⟨false, Ev.step (fun k => by rw [smallP]) (Ev.neg c0 (Ev.neg c1 (Ev.bind ht (Ev.neg c2 (Ev.bind hb (Ev.neg tf_ (Ev.neg c3 (Ev.pos c4 (Ev.val rfl))))))))), fun h => by cases h⟩
    by_cases c5 : 20 < p.f5.length
    · exact ⟨false, Ev.step (fun k => by rw [smallP]) (Ev.neg c0 (Ev.neg c1 (Ev.bind ht (Ev.neg c2 (Ev.bind hb (Ev.neg tf_ (Ev.neg c3 (Ev.neg c4 (Ev.pos c5 (Ev.val rfl)))))))))), fun h => by cases h⟩
    by_cases c6 : 20 < p.f7.length
    · exact ⟨false, Ev.step (fun k => by rw [smallP]) (Ev.neg c0 (Ev.neg c1 (Ev.bind ht (Ev.neg c2 (Ev.bind hb (Ev.neg tf_ (Ev.neg c3 (Ev.neg c4 (Ev.neg c5 (Ev.pos c6 (Ev.val rfl))))))))))), fun h => by cases h⟩
    by_cases c7 : 20 < p.f8.length
    · exact ⟨false, Ev.step (fun k => by rw [smallP]) (Ev.neg c0 (Ev.neg c1 (Ev.bind ht (Ev.neg c2 (Ev.bind hb (Ev.neg tf_ (Ev.neg c3 (Ev.neg c4 (Ev.neg c5 (Ev.neg c6 (Ev.pos c7 (Ev.val rfl)))))))))))), fun h => by cases h⟩
    by_cases c8 : 20 < p.f9.length
    · exact ⟨false, Ev.step (fun k => by rw [smallP]) (Ev.neg c0 (Ev.neg c1 (Ev.bind ht (Ev.neg c2 (Ev.bind hb (Ev.neg tf_ (Ev.neg c3 (Ev.neg c4 (Ev.neg c5 (Ev.neg c6 (Ev.neg c7 (Ev.pos c8 (Ev.val rfl))))))))))))), fun h => by cases h⟩
    by_cases c9 : 100 < p.f1.size
    · exact ⟨false, Ev.step (fun k => by rw [smallP]) (Ev.neg c0 (Ev.neg c1 (Ev.bind ht (Ev.neg c2 (Ev.bind hb (Ev.neg tf_ (Ev.neg c3 (Ev.neg c4 (Ev.neg c5 (Ev.neg c6 (Ev.neg c7 (Ev.neg c8 (Ev.pos c9 (Ev.val rfl)))))))))))))), fun h => by cases h⟩
    obtain ⟨b, ha, has⟩ := all_ev (fun k x => exprSm k x 20) (Sm50 21) p.f3 (fun x _ => small_ev50 21 x 20 (by omega) (by omega) (by omega))
    obtain ⟨b2, hk, hks⟩ := all_ev (fun k q => smallP k q (m - 1)) (Sm31 m.toNat) p.f12 (fun q _ => by
      obtain ⟨b, h, hs⟩ := small_ev31 d q (m - 1) (by omega) (by omega) (by omega)
      exact ⟨b, h, fun e => by have := hs e; rwa [show (m - 1 + 1).toNat = m.toNat by omega] at this⟩)
    cases b with
    | false =>
      refine ⟨false, Ev.step (fun k => by rw [smallP]) (Ev.neg c0 (Ev.neg c1 (Ev.bind ht (Ev.neg c2 (Ev.bind hb (Ev.neg tf_ (Ev.neg c3 (Ev.neg c4 (Ev.neg c5 (Ev.neg c6 (Ev.neg c7 (Ev.neg c8 (Ev.neg c9 ?_))))))))))))), fun h => by cases h⟩
      refine Ev.bind ha ?_
      exact Ev.neg ft_ (Ev.val rfl)
    | true =>
    refine ⟨b2, Ev.step (fun k => by rw [smallP]) (Ev.neg c0 (Ev.neg c1 (Ev.bind ht (Ev.neg c2 (Ev.bind hb (Ev.neg tf_ (Ev.neg c3 (Ev.neg c4 (Ev.neg c5 (Ev.neg c6 (Ev.neg c7 (Ev.neg c8 (Ev.neg c9 (Ev.bind ha (Ev.pos rfl ?_))))))))))))))), fun h => ?_⟩
    · rw [w64 (x := m - 1) (by omega) (by omega)]; exact hk
    · rw [show (m + 1).toNat = m.toNat + 1 by omega]
      have := t3 (by omega)
      exact .mk _ _ (by omega) (by omega) hP (by omega) (has rfl) (by omega) (by omega) (by omega) (by omega) (by omega) (by omega) (hks h)
/-! ### hopperref13.Sorted -/
end Go.Proofs.Ytomccmodlkdcbaa.Pure
