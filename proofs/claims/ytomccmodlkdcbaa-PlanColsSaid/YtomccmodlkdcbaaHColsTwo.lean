/- The walk down: plan.cols and the reference's Cols, one answer of whatever plan. -/
import Derived.Test.YtomccmodlkdcbaaHColsEv
set_option linter.unusedVariables false
set_option linter.unusedSimpArgs false
namespace Go.Proofs.Ytomccmodlkdcbaa.Pure
open Go.RowKit Go.Proofs.Ytomccmodlkdcbaa.Q Go.Proofs.YtomccmodlkdcbaaW.PrintWords Go.Proofs.YtomccmodlkdcbaaW.PrintLast Go.Proofs.YtomccmodlkdcbaaW.PrintMore
theorem indC {P : S31 → Prop} (h : ∀ p, (∀ q, q ∈ p.f12 → P q) → P p) : ∀ p, P p := fun p => h p fun q hq => indC h q
termination_by p => SizeOf.sizeOf p
decreasing_by
  have h1 := List.sizeOf_lt_of_mem hq
  have h2 : SizeOf.sizeOf p.f12 < SizeOf.sizeOf p := by cases p; simp; omega
  omega
theorem bare_eq (p : S31) (h1 : 1 ≤ p.f0) (h2 : p.f0 ≤ 7) : badL (hasL p) 0 p.f0 = !bareB p := by
  have hk : p.f0 = 1 ∨ p.f0 = 2 ∨ p.f0 = 3 ∨ p.f0 = 4 ∨ p.f0 = 5 ∨ p.f0 = 6 ∨ p.f0 = 7 := by omega
  unfold hasL bareB badA badJ
  rw [show limNZ p = (p.f10 != 0 || p.f11 != 0) from rfl]
  generalize (!p.f1.toList.isEmpty) = b1
  generalize predNZ p.f2 = b2
  generalize decide (0 < p.f3.length) = b3
  generalize decide (0 < wrap64 ((p.f4.length : Int) + (p.f5.length : Int))) = b4
  generalize joinNZ p = b5
  generalize decide (0 < p.f9.length) = b6
  generalize (p.f10 != 0 || p.f11 != 0) = b7
  rcases hk with e | e | e | e | e | e | e <;> rw [e] <;> revert b1 b2 b3 b4 b5 b6 b7 <;> decide
theorem need2 (p : S24) (n : Int) : Ev2 (fun k => needRP k p n) (fun k => refRightP k p n 12) := by
  obtain ⟨r, h1, h2⟩ := right2 p n 12 (by omega) (by omega)
  refine ⟨r, ?_, h2⟩
  unfold needRP need_Right.f need_right.f
  cases p
  exact Ev.bind h1 (Ev.val rfl)
theorem exprs2 (l : List S50) (n : Int) : Ev2 (fun k => plan_exprs.f k l n) (fun k => if l.length < 1 then some false else if 8 < l.length then some false else allE (r20P k n) l) := by
  unfold plan_exprs.f
  by_cases c1 : l.length < 1
  · exact ⟨false, Ev.pos c1 (Ev.val rfl), Ev.pos c1 (Ev.val rfl)⟩
  by_cases c2 : 8 < l.length
  · exact ⟨false, Ev.neg c1 (Ev.pos c2 (Ev.val rfl)), Ev.neg c1 (Ev.pos c2 (Ev.val rfl))⟩
  obtain ⟨r, h1, h2⟩ := all2 (fun k (q : S50) => scalar_Right.f k q.f0 q.f1 q.f2 q.f3 q.f4 q.f5 n) (fun k q => r20P k n q) l fun q hq => by
    obtain ⟨r, h1, h2⟩ := scalar2 q n 12 (by omega) (by omega)
    refine ⟨r, ?_, h2⟩
    unfold scalar_Right.f scalar_right.f
    cases q
    exact Ev.bind h1 (Ev.val rfl)
  exact ⟨r, Ev.neg c1 (Ev.neg c2 h1), Ev.neg c1 (Ev.neg c2 h2)⟩
/-- The end of both: what is right has so many columns. -/
theorem end2 {f g : Nat → Option Bool} {F G : Nat → Option Int} {out : Int} (h : Ev2 f g) (hF : ∀ {r}, Ev (fun k => (f k).bind fun b => plan_when.f b out) r → Ev F r) (hG : ∀ {r}, Ev (fun k => (g k).bind fun b => some (endP b out)) r → Ev G r) : Ev2 F G := by
  obtain ⟨b, h1, h2⟩ := h
  exact ⟨endP b out, hF (Ev.bind h1 (Ev.c (when_eq b out))), hG (Ev.bind h2 (Ev.val rfl))⟩
theorem own2 (p : S31) (n m : Int) (l1 : List S46) (ks : List Int) (h2 : 2 ≤ p.f0) (h7 : p.f0 ≤ 7) (hks : ks = if p.f0 = 5 then [n, m] else [n]) (h9 : p.f9.length ≤ 1000000) : Ev2 (fun k => ownP k p ks l1) (fun k => (okP k p n m).bind fun ok => some (endP ok (outP p n m))) := by
  have hk : p.f0 = 2 ∨ p.f0 = 3 ∨ p.f0 = 4 ∨ p.f0 = 5 ∨ p.f0 = 6 ∨ p.f0 = 7 := by omega
  have r0 : rd [n] 0 = n := rfl
  have r1 : rd [n, m] 0 = n := rfl
  have r2 : rd [n, m] 1 = m := rfl
  have z1 : 0 < [n].length := by simp
  have z2 : 1 < [n, m].length := by simp
  unfold ownP okP outP
  rcases hk with e | e | e | e | e | e
  · rw [e, if_neg (by decide)] at hks
    subst hks
    simp only [e, ↓reduceIte, Int.reduceEq, r0, if_pos z1]
    exact end2 (need2 p.f2 n) (fun h => h) (fun h => h)
  · rw [e, if_neg (by decide)] at hks
    subst hks
    simp only [e, ↓reduceIte, Int.reduceEq, r0, if_pos z1]
    exact end2 (exprs2 p.f3 n) (fun h => h) (fun h => h)
  · rw [e, if_neg (by decide)] at hks
    subst hks
    simp only [e, ↓reduceIte, Int.reduceEq, r0, if_pos z1]
    exact end2 (group2 p.f4 p.f5 n) (fun h => h) (fun h => h)
  · rw [e, if_pos rfl] at hks
    subst hks
    simp only [e, ↓reduceIte, Int.reduceEq, r1, r2, if_pos z2]
    exact end2 (join2 p.f6 p.f7 p.f8 n m) (fun h => h) (fun h => h)
  · rw [e, if_neg (by decide)] at hks
    subst hks
    simp only [e, ↓reduceIte, Int.reduceEq, r0, if_pos z1]
    by_cases c : 0 < p.f9.length
    · simp only [if_pos c]
      exact end2 (order2 p.f9 n h9) (fun h => h) (fun h => h)
    · simp only [if_neg c]
      exact ⟨endP false n, Ev.c (when_eq false n), Ev.val rfl⟩
  · rw [e, if_neg (by decide)] at hks
    subst hks
    simp only [e, ↓reduceIte, Int.reduceEq, r0, if_pos z1]
    exact ⟨endP (decide (0 ≤ p.f10) && decide (0 ≤ p.f11)) n, Ev.c (when_eq _ n), Ev.val rfl⟩
/-- Behind the kids. -/
def kidsEnd (k : Nat) (p : S31) (l1 : List S46) (o : Option (List Int)) : Option Int := match o with | none => some 0 | some ks => ownP k p ks l1
theorem colsP_eq (k : Nat) (p : S31) (l1 : List S46) (deep : Int) (h : p.f12.length ≤ 1000000) (h0 : ¬ deep = 0) : colsP (k + 1) p l1 deep = (shapedP p).bind fun s => if s = true then (kidsL (fun q => colsP k q l1 (wrap64 (deep - 1))) p.f12 []).bind (kidsEnd k p l1) else some 0 := by
  rw [colsP, if_pos h, if_neg h0]
  congr 1
/-- Lists that are not longer than a heap bears. -/
inductive Few : S31 → Prop
  | mk (p : S31) : p.f12.length ≤ 1000000 → p.f9.length ≤ 1000000 → (∀ q, q ∈ p.f12 → Few q) → Few p
theorem cols2 (l1 : List S46) : ∀ (p : S31), Few p → ∀ deep : Int, 0 ≤ deep → deep ≤ 12 → Ev2 (fun k => colsP k p l1 deep) (fun k => refColsP k p l1 deep) := by
  refine indC fun p ih hf deep h0 h12 => ?_
  obtain ⟨_, f12, f9, fq⟩ := hf
  by_cases d0 : deep = 0
  · exact ⟨0, Ev.step (fun k => by rw [colsP]) (Ev.pos f12 (Ev.pos d0 (Ev.val rfl))), Ev.step (fun k => by rw [refColsP]) (Ev.pos (by omega) (Ev.val rfl))⟩
  have e : wrap64 (deep - 1) = deep - 1 := w64 (by omega) (by omega)
  have L : ∀ {r}, Ev (fun k => (shapedP p).bind fun s => if s = true then (kidsL (fun q => colsP k q l1 (wrap64 (deep - 1))) p.f12 []).bind (kidsEnd k p l1) else some 0) r → Ev (fun k => colsP k p l1 deep) r := fun {r} h => Ev.step (fun k => colsP_eq k p l1 deep f12 d0) h
  have L0 : shapedB p = false → Ev (fun k => colsP k p l1 deep) 0 := fun h => L (Ev.bind (Ev.c (show shapedP p = some false by unfold shapedP; rw [h])) (Ev.neg ff_ (Ev.val rfl)))
  by_cases a1 : p.f0 < 1
  · exact ⟨0, L0 (by unfold shapedB; rw [if_pos a1]), Ev.step (fun k => by rw [refColsP]) (Ev.neg (by omega) (Ev.pos a1 (Ev.val rfl)))⟩
  by_cases a2 : 7 < p.f0
  · exact ⟨0, L0 (by unfold shapedB; rw [if_neg a1, if_pos a2]), Ev.step (fun k => by rw [refColsP]) (Ev.neg (by omega) (Ev.neg a1 (Ev.pos a2 (Ev.val rfl))))⟩
  have hb := bare_eq p (by omega) (by omega)
  cases b : bareB p with
  | false =>
    rw [b, Bool.not_false] at hb
    exact ⟨0, L0 (by unfold shapedB; rw [if_neg a1, if_neg a2, if_pos hb]), Ev.step (fun k => by rw [refColsP]) (Ev.neg (by omega) (Ev.neg a1 (Ev.neg a2 (Ev.pos b (Ev.val rfl)))))⟩
  | true =>
  rw [b, Bool.not_true] at hb
  have hs : shapedB p = decide ((p.f12.length : Int) = kidsN p.f0) := by unfold shapedB; rw [if_neg a1, if_neg a2, hb, if_neg (by decide)]
  have R : ∀ {r}, Ev (fun k => if p.f0 = 1 then some (if p.f12.length = 0 then tabCols p.f1 l1 else 0) else if (p.f12.length : Int) ≠ kidsN p.f0 then some 0 else
    (refColsP k (p.f12.getD 0 z31) l1 (wrap64 (deep - 1))).bind fun n => (if p.f0 = 5 then refColsP k (p.f12.getD 1 z31) l1 (wrap64 (deep - 1)) else some n).bind fun m =>
      if n = 0 then some 0 else if m = 0 then some 0 else (okP k p n m).bind fun ok => some (endP ok (outP p n m))) r → Ev (fun k => refColsP k p l1 deep) r := fun {r} h =>
    Ev.step (fun k => by rw [refColsP]) (Ev.neg (by omega) (Ev.neg a1 (Ev.neg a2 (Ev.neg (by rw [b]; decide) h))))
  by_cases c : (p.f12.length : Int) = kidsN p.f0
  · rw [decide_eq_true c] at hs
    have L1 : ∀ {r}, Ev (fun k => (kidsL (fun q => colsP k q l1 (wrap64 (deep - 1))) p.f12 []).bind (kidsEnd k p l1)) r → Ev (fun k => colsP k p l1 deep) r := fun {r} h => L (Ev.bind (Ev.c (show shapedP p = some true by unfold shapedP; rw [hs])) (Ev.pos rfl h))
    by_cases k1 : p.f0 = 1
    · rw [k1] at c
      have hl : p.f12 = [] := List.eq_nil_of_length_eq_zero (by have : kidsN 1 = 0 := rfl; omega)
      refine ⟨tabCols p.f1 l1, L1 ?_, R (Ev.pos k1 (Ev.val (if_pos (by rw [hl]; rfl))))⟩
      rw [hl]
      refine Ev.bind (a := some []) (Ev.val rfl) ?_
      show Ev (fun k => ownP k p [] l1) _
      unfold ownP
      exact Ev.pos k1 (Ev.c (scan_eq _ _))
    · have R1 : ∀ {r}, Ev (fun k => (refColsP k (p.f12.getD 0 z31) l1 (wrap64 (deep - 1))).bind fun n => (if p.f0 = 5 then refColsP k (p.f12.getD 1 z31) l1 (wrap64 (deep - 1)) else some n).bind fun m =>
        if n = 0 then some 0 else if m = 0 then some 0 else (okP k p n m).bind fun ok => some (endP ok (outP p n m))) r → Ev (fun k => refColsP k p l1 deep) r := fun {r} h => R (Ev.neg k1 (Ev.neg (fun z => z c) h))
      by_cases k5 : p.f0 = 5
      · have h2 : p.f12.length = 2 := by rw [k5] at c; have : kidsN 5 = 2 := rfl; omega
        cases hq : p.f12 with
        | nil => rw [hq] at h2; cases h2
        | cons q1 qs =>
        cases qs with
        | nil => rw [hq] at h2; simp at h2
        | cons q2 qs =>
        cases qs with
        | cons q3 qs => rw [hq] at h2; simp at h2
        | nil =>
        have m1 : q1 ∈ p.f12 := by rw [hq]; simp
        have m2 : q2 ∈ p.f12 := by rw [hq]; simp
        obtain ⟨n, n1, n2⟩ := ih q1 m1 (fq q1 m1) (deep - 1) (by omega) (by omega)
        obtain ⟨m, s1, s2⟩ := ih q2 m2 (fq q2 m2) (deep - 1) (by omega) (by omega)
        have R2 : ∀ {r}, Ev (fun k => if n = 0 then some 0 else if m = 0 then some 0 else (okP k p n m).bind fun ok => some (endP ok (outP p n m))) r → Ev (fun k => refColsP k p l1 deep) r := fun {r} h => R1 (by
          rw [hq, e]
          exact Ev.bind n2 (Ev.bind (Ev.pos k5 s2) h))
        have L2 : ∀ {r}, Ev (fun k => if n = 0 then some 0 else if m = 0 then some 0 else ownP k p [n, m] l1) r → Ev (fun k => colsP k p l1 deep) r := fun {r} h => L1 (by
          rw [hq, e]
          by_cases zn : n = 0
          · simp only [if_pos zn] at h
            have hr : (0 : Int) = r := by obtain ⟨K, hK⟩ := h; exact Option.some.inj (hK K (Nat.le_refl _))
            refine Ev.bind (a := none) ?_ (Ev.val hr)
            simp only [kidsL]
            exact Ev.bind n1 (Ev.pos zn (Ev.val rfl))
          · simp only [if_neg zn] at h
            by_cases zm : m = 0
            · simp only [if_pos zm] at h
              have hr : (0 : Int) = r := by obtain ⟨K, hK⟩ := h; exact Option.some.inj (hK K (Nat.le_refl _))
              refine Ev.bind (a := none) ?_ (Ev.val hr)
              simp only [kidsL]
              exact Ev.bind n1 (Ev.neg zn (Ev.bind s1 (Ev.pos zm (Ev.val rfl))))
            · simp only [if_neg zm] at h
              refine Ev.bind (a := some [n, m]) ?_ h
              simp only [kidsL]
              exact Ev.bind n1 (Ev.neg zn (Ev.bind s1 (Ev.neg zm (Ev.val rfl)))))
        by_cases zn : n = 0
        · exact ⟨0, L2 (Ev.pos zn (Ev.val rfl)), R2 (Ev.pos zn (Ev.val rfl))⟩
        by_cases zm : m = 0
        · exact ⟨0, L2 (Ev.neg zn (Ev.pos zm (Ev.val rfl))), R2 (Ev.neg zn (Ev.pos zm (Ev.val rfl)))⟩
        obtain ⟨r, o1, o2⟩ := own2 p n m l1 [n, m] (by omega) (by omega) (by rw [if_pos k5]) f9
        exact ⟨r, L2 (Ev.neg zn (Ev.neg zm o1)), R2 (Ev.neg zn (Ev.neg zm o2))⟩
      · have h2 : p.f12.length = 1 := by
          have : kidsN p.f0 = 1 := by unfold kidsN; rw [if_neg k1, if_neg k5]
          omega
        cases hq : p.f12 with
        | nil => rw [hq] at h2; cases h2
        | cons q1 qs =>
        cases qs with
        | cons q2 qs => rw [hq] at h2; simp at h2
        | nil =>
        have m1 : q1 ∈ p.f12 := by rw [hq]; simp
        obtain ⟨n, n1, n2⟩ := ih q1 m1 (fq q1 m1) (deep - 1) (by omega) (by omega)
        have R2 : ∀ {r}, Ev (fun k => if n = 0 then some 0 else if n = 0 then some 0 else (okP k p n n).bind fun ok => some (endP ok (outP p n n))) r → Ev (fun k => refColsP k p l1 deep) r := fun {r} h => R1 (by
          rw [hq, e]
          exact Ev.bind n2 (Ev.bind (Ev.neg k5 (Ev.val rfl)) h))
        have L2 : ∀ {r}, Ev (fun k => if n = 0 then some 0 else ownP k p [n] l1) r → Ev (fun k => colsP k p l1 deep) r := fun {r} h => L1 (by
          rw [hq, e]
          by_cases zn : n = 0
          · simp only [if_pos zn] at h
            have hr : (0 : Int) = r := by obtain ⟨K, hK⟩ := h; exact Option.some.inj (hK K (Nat.le_refl _))
            refine Ev.bind (a := none) ?_ (Ev.val hr)
            simp only [kidsL]
            exact Ev.bind n1 (Ev.pos zn (Ev.val rfl))
          · simp only [if_neg zn] at h
            refine Ev.bind (a := some [n]) ?_ h
            simp only [kidsL]
            exact Ev.bind n1 (Ev.neg zn (Ev.val rfl)))
        by_cases zn : n = 0
        · exact ⟨0, L2 (Ev.pos zn (Ev.val rfl)), R2 (Ev.pos zn (Ev.val rfl))⟩
        obtain ⟨r, o1, o2⟩ := own2 p n n l1 [n] (by omega) (by omega) (by rw [if_neg k5]) f9
        exact ⟨r, L2 (Ev.neg zn o1), R2 (Ev.neg zn (Ev.neg zn o2))⟩
  · rw [decide_eq_false c] at hs
    refine ⟨0, L0 hs, R ?_⟩
    by_cases k1 : p.f0 = 1
    · refine Ev.pos k1 (Ev.val (if_neg (fun z => c ?_)))
      rw [k1, z]
      rfl
    · exact Ev.neg k1 (Ev.pos c (Ev.val rfl))
end Go.Proofs.Ytomccmodlkdcbaa.Pure
