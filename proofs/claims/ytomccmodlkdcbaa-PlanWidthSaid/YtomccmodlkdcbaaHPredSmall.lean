/- The guard 'Small' of predicates: it answers of each, and what holds where it says yes. -/
import Derived.Test.YtomccmodlkdcbaaHEvBase
import Derived.Test.YtomccmodlkdcbaaQx
set_option linter.unusedVariables false
set_option linter.unusedSimpArgs false
namespace Go.Proofs.Ytomccmodlkdcbaa.Pure
open Go.RowKit Go.Proofs.Ytomccmodlkdcbaa.Q Go.Proofs.YtomccmodlkdcbaaW.PrintWords Go.Proofs.YtomccmodlkdcbaaW.PrintLast Go.Proofs.YtomccmodlkdcbaaW.PrintMore
theorem ind24 {P : S24 → Prop} (h : ∀ p, (∀ q, q ∈ p.f5 → P q) → P p) : ∀ p, P p := fun p => h p fun q hq => ind24 h q
termination_by p => SizeOf.sizeOf p
decreasing_by
  have h1 := List.sizeOf_lt_of_mem hq
  have h2 : SizeOf.sizeOf p.f5 < SizeOf.sizeOf p := by cases p; simp; omega
  omega
theorem rdT24 (l : List S24) (i : Nat) (h : i < l.length) : rd_T24 l (i : Int) = l[i] := by simp [rd_T24, List.getD, h]
theorem size_ev24 : ∀ (p : S24) (most : Int), 0 ≤ most → most ≤ 1000 → ∃ r, Ev (fun k => hopperref16_Size.f k p.f0 p.f1 p.f2 p.f3 p.f4 p.f5 most) r ∧ 1 ≤ r ∧ r ≤ most + 1 := by
  refine ind24 fun p ih most h0 h1 => ?_
  have loop : ∀ (d i : Nat) (n : Int), (most + 1 - n).toNat ≤ d → (i : Int) + 1 ≤ n → n ≤ most + 1 → ∃ r, Ev (fun k => hopperref16_Size.l0 k most n (i : Int) p.f0 p.f1 p.f2 p.f3 p.f4 p.f5) r ∧ 1 ≤ r ∧ r ≤ most + 1 := by
    intro d
    induction d with
    | zero =>
      intro i n hd hi hn
      refine ⟨n, Ev.step (fun k => by rw [hopperref16_Size.l0]) ?_, by omega, by omega⟩
      by_cases c : (i : Int) < (p.f5.length : Int)
      · exact Ev.pos c (Ev.neg (by omega) (Ev.val rfl))
      · exact Ev.neg c (Ev.val rfl)
    | succ d IH =>
      intro i n hd hi hn
      by_cases c : (i : Int) < (p.f5.length : Int)
      · by_cases c2 : n ≤ most
        · have hl : i < p.f5.length := by omega
          obtain ⟨t, ht, t1, t2⟩ := ih p.f5[i] (List.getElem_mem hl) (most - n) (by omega) (by omega)
          obtain ⟨r, hr, r1, r2⟩ := IH (i + 1) (n + t) (by omega) (by omega) (by omega)
          refine ⟨r, Ev.step (fun k => by rw [hopperref16_Size.l0]) (Ev.pos c (Ev.pos c2 (Ev.pos (by omega) ?_))), r1, r2⟩
          rw [rdT24 _ i hl, w64 (x := most - n) (by omega) (by omega)]
          refine Ev.bind ht ?_
          rw [w64 (x := n + t) (by omega) (by omega), w64 (x := (i : Int) + 1) (by omega) (by omega)]
          exact hr
        · exact ⟨n, Ev.step (fun k => by rw [hopperref16_Size.l0]) (Ev.pos c (Ev.neg c2 (Ev.val rfl))), by omega, by omega⟩
      · exact ⟨n, Ev.step (fun k => by rw [hopperref16_Size.l0]) (Ev.neg c (Ev.val rfl)), by omega, by omega⟩
  obtain ⟨r, hr, r1, r2⟩ := loop _ 0 1 (Nat.le_refl _) (by omega) (by omega)
  replace hr : Ev (fun k => hopperref16_Size.l0 k most 1 0 p.f0 p.f1 p.f2 p.f3 p.f4 p.f5) r := hr
  exact ⟨r, Ev.step (fun k => by rw [hopperref16_Size.f]) hr, r1, r2⟩
/-- Few kids, short strings, not deep. -/
inductive Sm24 : Nat → S24 → Prop
  | mk (n : Nat) (p : S24) : p.f2.size ≤ 300 → p.f5.length ≤ 20 → (∀ q, q ∈ p.f5 → Sm24 n q) → Sm24 (n + 1) p
theorem small_ev24 : ∀ (d : Nat) (p : S24) (m : Int), m + 1 ≤ d → m ≤ 1000 → -1 ≤ m → ∃ b, Ev (fun k => hopperref16_Small.f k p.f0 p.f1 p.f2 p.f3 p.f4 p.f5 m) b ∧ (b = true → Sm24 (m + 1).toNat p)
  | d, p, m => by
    intro hd h1 hm1
    by_cases c0 : m < 0
    · exact ⟨false, Ev.step (fun k => by rw [hopperref16_Small.f]) (Ev.pos c0 (Ev.step (fun k => by rw [hopperref16_Small.j0]) (Ev.pos rfl (Ev.val rfl)))), fun h => by cases h⟩
    cases d with
    | zero => omega
    | succ d =>
    by_cases c1 : (p.f2.size : Int) > 300
    · exact ⟨false, Ev.step (fun k => by rw [hopperref16_Small.f]) (Ev.neg c0 (Ev.pos c1 (Ev.step (fun k => by rw [hopperref16_Small.j0]) (Ev.pos rfl (Ev.val rfl))))), fun h => by cases h⟩
    by_cases c2 : (p.f5.length : Int) > 20
    · exact ⟨false, Ev.step (fun k => by rw [hopperref16_Small.f]) (Ev.neg c0 (Ev.neg c1 (Ev.pos c2 (Ev.step (fun k => by rw [hopperref16_Small.j0]) (Ev.pos rfl (Ev.val rfl)))))), fun h => by cases h⟩
    obtain ⟨t, ht, t1, t2⟩ := size_ev24 p 100 (by omega) (by omega)
    by_cases c3 : t > 80
    · exact ⟨false, Ev.step (fun k => by rw [hopperref16_Small.f]) (Ev.neg c0 (Ev.neg c1 (Ev.neg c2 (Ev.bind ht (Ev.step (fun k => by rw [hopperref16_Small.j0]) (Ev.pos (decide_eq_true c3) (Ev.val rfl))))))), fun h => by cases h⟩
    have loop : ∀ (e i : Nat), p.f5.length - i = e → ∃ b, Ev (fun k => hopperref16_Small.l0 k m (i : Int) p.f0 p.f1 p.f2 p.f3 p.f4 p.f5) b ∧ (b = true → ∀ j (hj : j < p.f5.length), i ≤ j → Sm24 m.toNat p.f5[j]) := by
      intro e
      induction e with
      | zero => intro i he; exact ⟨true, Ev.step (fun k => by rw [hopperref16_Small.l0]) (Ev.neg (by omega) (Ev.val rfl)), fun _ j hj hij => by omega⟩
      | succ e IH =>
        intro i he
        have hl : i < p.f5.length := by omega
        obtain ⟨b, hb, hs⟩ := small_ev24 d p.f5[i] (m - 1) (by omega) (by omega) (by omega)
        cases b with
        | false =>
          refine ⟨false, Ev.step (fun k => by rw [hopperref16_Small.l0]) (Ev.pos (by omega) (Ev.pos (by omega) ?_)), fun h => by cases h⟩
          rw [rdT24 _ i hl, w64 (x := m - 1) (by omega) (by omega)]
          exact Ev.bind hb (Ev.neg (by decide) (Ev.val rfl))
        | true =>
          obtain ⟨b, hb2, hs2⟩ := IH (i + 1) (by omega)
          refine ⟨b, Ev.step (fun k => by rw [hopperref16_Small.l0]) (Ev.pos (by omega) (Ev.pos (by omega) ?_)), fun h j hj hij => ?_⟩
          · rw [rdT24 _ i hl, w64 (x := m - 1) (by omega) (by omega)]
            refine Ev.bind hb (Ev.pos rfl ?_)
            rw [w64s (n := 20) (by omega) (by omega)]
            exact hb2
          · by_cases e2 : j = i
            · subst e2
              have := hs rfl
              rwa [show (m - 1 + 1).toNat = m.toNat by omega] at this
            · exact hs2 h j hj (by omega)
    obtain ⟨b, hb, hs⟩ := loop _ 0 rfl
    replace hb : Ev (fun k => hopperref16_Small.l0 k m 0 p.f0 p.f1 p.f2 p.f3 p.f4 p.f5) b := hb
    refine ⟨b, Ev.step (fun k => by rw [hopperref16_Small.f]) (Ev.neg c0 (Ev.neg c1 (Ev.neg c2 (Ev.bind ht (Ev.step (fun k => by rw [hopperref16_Small.j0]) (Ev.neg (by simpa using c3) hb)))))), fun h => ?_⟩
    rw [show (m + 1).toNat = m.toNat + 1 by omega]
    refine .mk _ _ (by omega) (by omega) fun q hq => ?_
    obtain ⟨j, hj, rfl⟩ := List.getElem_of_mem hq
    exact hs h j hj (by omega)
end Go.Proofs.Ytomccmodlkdcbaa.Pure
