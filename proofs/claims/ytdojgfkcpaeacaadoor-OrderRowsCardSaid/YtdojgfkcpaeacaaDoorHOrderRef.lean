/- The reference's order: each row put behind all that aren't greater: the same one. -/
import Derived.Test.YtdojgfkcpaeacaaDoorHOrderTot
set_option linter.unusedVariables false
set_option linter.unusedSimpArgs false
namespace Go.Proofs.YtdojgfkcpaeacaaDoor.Pure
open Go.Sort Go.RowKit Go.Proofs.YtdojgfkcpaeacaaDoor.Q Go.Proofs.YtdojgfkcpaeacaaDoorW.PrintWords Go.Proofs.YtdojgfkcpaeacaaDoorW.PrintLast Go.Proofs.YtdojgfkcpaeacaaDoorW.PrintMore
section
variable {l : List (List S36)} {keys : List S39} {a : Int}
theorem rput_z (L : List (List S36)) (x0 is : List Nat) (keys : List S39) (i p : Nat) (hi : i < x0.length) (hx : x0.length ≤ 100) (hl : is.length ≤ 100) (hp : p ≤ is.length) (r : List Nat) (h : Ev (fun k => hopperref24_Rowsr.l0 L k x0 keys (is.take p ++ [x0[i]] ++ is.drop p) ((i + 1 : Nat) : Int)) r) :
    Ev (fun k => (some (([] : List Nat) : List Nat)).bind fun y280 => (if 0 ≤ (p : Int) then (if (p : Int) ≤ (is.length : Int) then ((some (is.take (p : Int).toNat : List Nat)).bind fun y283 => (if y280.length + y283.length < 5864062014805 then ((some (y280 ++ y283 : List Nat)).bind fun y287 => (if 0 ≤ (i : Int) then (if (i : Int) < (x0.length : Int) then ((some (([rdOf 0 x0 (i : Int)] : List Nat) : List Nat)).bind fun y291 => (if y287.length + y291.length < 5864062014805 then ((some (y287 ++ y291 : List Nat)).bind fun y294 => ((some (is.drop (p : Int).toNat : List Nat)).bind fun y297 => (if y294.length + y297.length < 5864062014805 then (hopperref24_Rowsr.l0 L k x0 keys (y294 ++ y297) (wrap64 ((i : Int) + 1))) else (none)))) else (none))) else (none)) else (none))) else (none))) else (none)) else (none))) r := by
  rw [rdOfn 0 x0 i hi, w64s hi (by omega)]
  simp only [Option.bind_some, Int.toNat_natCast, List.nil_append]
  have h1 : (is.take p).length ≤ 100 := by rw [List.length_take]; omega
  have h2 : (is.drop p).length ≤ 100 := by rw [List.length_drop]; omega
  refine Ev.pos (by omega) (Ev.pos (by omega) (Ev.pos (by simp; omega) (Ev.pos (by omega) (Ev.pos (by omega) (Ev.pos (by simp; omega) (Ev.pos (by simp; omega) h))))))
theorem rl1_z (h : Rowsy l keys a) (is : List Nat) (i : Nat) (hi : i < l.length) (hm : ∀ x ∈ is, x < l.length) (hl : is.length ≤ 100) : ∀ (m : Nat), m ≤ is.length →
    ∃ p, p ≤ m ∧ (∀ q (hq : q < is.length), p ≤ q → q < m → cmpK keys (l.getD is[q] []) (l.getD i []) > 0) ∧ (∀ (hp : p - 1 < is.length), 0 < p → cmpK keys (l.getD is[p - 1] []) (l.getD i []) ≤ 0) ∧
      ∀ r, Ev (fun k => hopperref24_Rowsr.l0 l k (List.range l.length) keys (is.take p ++ [i] ++ is.drop p) ((i + 1 : Nat) : Int)) r → Ev (fun k => hopperref24_Rowsr.l1 l k (List.range l.length) keys is (i : Int) (m : Int)) r := by
  have hn := h.small.len
  have hir : i < (List.range l.length).length := by rw [List.length_range]; exact hi
  have hri : (List.range l.length)[i] = i := by simp
  intro m
  induction m with
  | zero =>
    intro _
    refine ⟨0, Nat.le_refl _, fun q _ _ hq => by omega, fun _ hp => by omega, fun r hr => ?_⟩
    refine Ev.step (fun k => by rw [hopperref24_Rowsr.l1]) (Ev.neg (by omega) ?_)
    exact rput_z l (List.range l.length) is keys i 0 hir (by rw [List.length_range]; exact hn) hl (Nat.zero_le _) r (by rw [hri]; exact hr)
  | succ m ih =>
    intro hml
    have hlt : m < is.length := by omega
    have hw : wrap64 (((m + 1 : Nat) : Int) - 1) = (m : Int) := by rw [w64 (by omega) (by omega)]; omega
    have hc : Ev (fun k => hopperref24_Rowsc l k is[m] i keys) (cmpK keys (l.getD is[m] []) (l.getD i [])) := (h.cmp is[m] i (hm _ (List.getElem_mem hlt)) hi).2
    have S : ∀ r, (cmpK keys (l.getD is[m] []) (l.getD i []) > 0 → Ev (fun k => hopperref24_Rowsr.l1 l k (List.range l.length) keys is (i : Int) (m : Int)) r) → (¬ cmpK keys (l.getD is[m] []) (l.getD i []) > 0 → Ev (fun k => hopperref24_Rowsr.l0 l k (List.range l.length) keys (is.take (m + 1) ++ [i] ++ is.drop (m + 1)) ((i + 1 : Nat) : Int)) r) → Ev (fun k => hopperref24_Rowsr.l1 l k (List.range l.length) keys is (i : Int) ((m + 1 : Nat) : Int)) r := fun r k1 k2 => by
      refine Ev.step (fun k => by rw [hopperref24_Rowsr.l1]) ?_
      rw [hw, rdOfn 0 is m hlt, rdOfn 0 (List.range l.length) i hir, hri]
      refine Ev.pos (by omega) (Ev.pos (by omega) (Ev.pos (by omega) (Ev.pos (by omega) (Ev.pos (by omega) (Ev.bind hc ?_)))))
      by_cases c : cmpK keys (l.getD is[m] []) (l.getD i []) > 0
      · exact Ev.pos c (k1 c)
      · refine Ev.neg c ?_
        rw [w64s hi (by omega)]
        simp only [Option.bind_some, Int.toNat_natCast, List.nil_append]
        have h1 : (is.take (m + 1)).length ≤ 100 := by rw [List.length_take]; omega
        have h2 : (is.drop (m + 1)).length ≤ 100 := by rw [List.length_drop]; omega
        exact Ev.pos (by omega) (Ev.pos (by omega) (Ev.pos (by simp; omega) (Ev.pos (by simp; omega) (Ev.pos (by simp; omega) (k2 c)))))
    by_cases c : cmpK keys (l.getD is[m] []) (l.getD i []) > 0
    · obtain ⟨p, p1, p2, p3, p4⟩ := ih (by omega)
      refine ⟨p, by omega, fun q hq q1 q2 => ?_, p3, fun r hr => S r (fun _ => p4 r hr) (fun k => absurd c k)⟩
      by_cases e : q = m
      · subst e; exact c
      · exact p2 q hq q1 (by omega)
    · exact ⟨m + 1, Nat.le_refl _, fun q _ q1 q2 => by omega, fun hp _ => by simp only [Nat.add_sub_cancel]; omega, fun r hr => S r (fun k => absurd k c) (fun _ => hr)⟩
theorem rl0_z (h : Rowsy l keys a) : ∀ (d i : Nat) (is : List Nat), l.length - i = d → i ≤ l.length → is.Perm (List.range i) → is.Pairwise (fun x y => byPlace (ltOf (cfZ l keys)) l.length y x = false) →
    Ev (fun k => hopperref24_Rowsr.l0 l k (List.range l.length) keys is (i : Int)) (inOrder l keys) := by
  have hT := byPlace_swo (weak l keys)
  intro d
  induction d with
  | zero =>
    intro i is hd hi hp hs
    refine Ev.step (fun k => by rw [hopperref24_Rowsr.l0]) (Ev.neg (by rw [List.length_range]; omega) (Ev.val ?_))
    have e : i = l.length := by omega
    subst e
    unfold inOrder
    refine List.Perm.eq_of_pairwise (le := fun x y => (!byPlace (ltOf (cfZ l keys)) l.length y x) = true) ?_ ?_ ?_ (hp.trans (List.mergeSort_perm _ _).symm)
    · intro x y _ _ h1 h2
      simp only [Bool.not_eq_true'] at h1 h2
      exact byPlace_anti x y h2 h1
    · exact hs.imp (fun h => by simpa using h)
    · refine List.pairwise_mergeSort ?_ ?_ _
      · intro x y z h1 h2
        simp only [Bool.not_eq_true'] at h1 h2 ⊢
        exact hT.ntrans z y x h2 h1
      · intro x y
        cases h : byPlace (ltOf (cfZ l keys)) l.length y x with
        | false => simp
        | true => simp [hT.asymmA h]
  | succ d ih =>
    intro i is hd hi hp hs
    have hn := h.small.len
    have hil : i < l.length := by omega
    have hlen : is.length = i := by rw [hp.length_eq, List.length_range]
    have hlt : ∀ x ∈ is, x < i := fun x hx => List.mem_range.1 (hp.mem_iff.1 hx)
    obtain ⟨p, p1, p2, p3, p4⟩ := rl1_z h is i hil (fun x hx => by have := hlt x hx; omega) (by omega) is.length (Nat.le_refl _)
    refine Ev.step (fun k => by rw [hopperref24_Rowsr.l0]) (Ev.pos (by rw [List.length_range]; omega) (p4 _ ?_))
    refine ih (i + 1) _ (by omega) (by omega) ?_ ?_
    · rw [List.range_succ]
      have e : (is.take p ++ [i] ++ is.drop p).Perm (is.take p ++ is.drop p ++ [i]) := by
        rw [List.append_assoc, List.append_assoc]
        exact List.Perm.append_left _ List.perm_append_comm
      rw [List.take_append_drop] at e
      exact e.trans (hp.append_right _)
    · have hcf : ∀ y, y < i → byPlace (ltOf (cfZ l keys)) l.length i y = decide (cmpK keys (l.getD i []) (l.getD y []) < 0) := fun y hy => by
        rw [byPlace_later hil hy]
        unfold ltOf cfZ
        rw [if_pos ⟨hil, by omega⟩]
      rw [← List.take_append_drop p is] at hs
      obtain ⟨t1, t2, t3⟩ := List.pairwise_append.1 hs
      rw [List.pairwise_append, List.pairwise_append]
      have up : ∀ y ∈ is.take p, byPlace (ltOf (cfZ l keys)) l.length i y = false := fun y hy => by
        obtain ⟨q, hq, e⟩ := List.getElem_of_mem hy
        rw [List.length_take] at hq
        rw [List.getElem_take] at e
        have hpl : p - 1 < is.length := by omega
        have b3 := p3 hpl (by omega)
        have b4 : byPlace (ltOf (cfZ l keys)) l.length i is[p - 1] = false := by
          rw [hcf _ (hlt _ (List.getElem_mem hpl))]
          have := cmpK_turn keys (l.getD is[p - 1] []) (l.getD i [])
          exact decide_eq_false (by omega)
        by_cases eq : q = p - 1
        · subst eq; rw [← e]; exact b4
        · have b5 : byPlace (ltOf (cfZ l keys)) l.length is[p - 1] is[q] = false := by
            have h1 : (is.take p)[q]'(by rw [List.length_take]; omega) = is[q] := List.getElem_take ..
            have h2 : (is.take p)[p - 1]'(by rw [List.length_take]; omega) = is[p - 1] := List.getElem_take ..
            have := List.pairwise_iff_getElem.1 t1 q (p - 1) (by rw [List.length_take]; omega) (by rw [List.length_take]; omega) (by omega)
            rw [h1, h2] at this
            exact this
          rw [← e]
          exact hT.ntrans _ _ _ b4 b5
      have lo : ∀ y ∈ is.drop p, byPlace (ltOf (cfZ l keys)) l.length y i = false := fun y hy => by
        obtain ⟨q, hq, e⟩ := List.getElem_of_mem hy
        rw [List.length_drop] at hq
        rw [List.getElem_drop] at e
        have b := p2 (p + q) (by omega) (by omega) (by omega)
        refine hT.asymmA ?_
        rw [← e, hcf _ (hlt _ (List.getElem_mem _))]
        have := cmpK_turn keys (l.getD is[p + q] []) (l.getD i [])
        exact decide_eq_true (by omega)
      refine ⟨⟨t1, List.pairwise_singleton _ _, fun x hx y hy => ?_⟩, t2, fun x hx y hy => ?_⟩
      · rw [List.mem_singleton.1 hy]; exact up x hx
      · rcases List.mem_append.1 hx with hx | hx
        · exact t3 x hx y hy
        · rw [List.mem_singleton.1 hx]; exact lo y hy
theorem rrows_z (h : Rowsy l keys a) : Ev (fun k => hopperref24_Rows.f k l keys) ((inOrder l keys).map fun i => l.getD i []) := by
  unfold hopperref24_Rows.f hopperref24_Rowsr.f
  exact Ev.bind (rl0_z h l.length 0 [] rfl (Nat.zero_le _) (List.Perm.refl _) List.Pairwise.nil) (Ev.val rfl)
end
end Go.Proofs.YtdojgfkcpaeacaaDoor.Pure
