/- Right predicates, as need.Right tells them. -/
import Derived.Test.YtdccooaddoafnaaGreatDoorHNeedBase
set_option linter.unusedVariables false
set_option linter.unusedSimpArgs false
namespace Go.Proofs.YtdccooaddoafnaaGreatDoor.Pure
open Go.RowKit Go.Proofs.YtdccooaddoafnaaGreatDoor.Q Go.Proofs.YtdccooaddoafnaaGreatDoorW.PrintWords Go.Proofs.YtdccooaddoafnaaGreatDoorW.PrintLast Go.Proofs.YtdccooaddoafnaaGreatDoorW.PrintMore
theorem indP {P : S24 → Prop} (h : ∀ p, (∀ q, q ∈ p.f5 → P q) → P p) : ∀ p, P p := fun p => h p fun q hq => indP h q
termination_by p => SizeOf.sizeOf p
decreasing_by
  have h1 := List.sizeOf_lt_of_mem hq
  have h2 : SizeOf.sizeOf p.f5 < SizeOf.sizeOf p := by cases p; simp; omega
  omega
theorem joins_eq (x : Int) : need_joins.f x = some (decide (12 ≤ x ∧ x ≤ 14)) := by
  unfold need_joins.f
  by_cases a : x ≥ 12
  · rw [if_pos a]; congr 1; by_cases b : x ≤ 14 <;> simp [a, b] <;> omega
  · rw [if_neg a]; congr 1; simp; omega
/-- 'None is wrong'. -/
theorem all1 {α : Type} (f : Nat → α → Option Bool) (R : α → Prop) : ∀ l : List α, (∀ q, q ∈ l → ∃ b, Ev (fun k => f k q) b ∧ (b = true → R q)) → ∃ b, Ev (fun k => (anyE (fun q => (f k q).map (!·)) l).map (!·)) b ∧ (b = true → ∀ q, q ∈ l → R q)
  | [], _ => ⟨true, Ev.val rfl, fun _ q hq => by cases hq⟩
  | x :: xs, h => by
    obtain ⟨b, h1, h2⟩ := h x (List.mem_cons_self ..)
    obtain ⟨c, h3, h4⟩ := all1 f R xs fun q hq => h q (List.mem_cons_of_mem _ hq)
    obtain ⟨K1, h1⟩ := h1
    obtain ⟨K3, h3⟩ := h3
    cases b with
    | false => exact ⟨false, ⟨K1, fun k hk => by simp only [anyE, h1 k hk]; rfl⟩, by simp⟩
    | true =>
      refine ⟨c, ⟨K1 + K3, fun k hk => ?_⟩, fun e q hq => ?_⟩
      · simp only [anyE, h1 k (by omega), Option.map_some, Bool.not_true, Option.bind_some, Bool.false_eq_true, if_false]
        exact h3 k (by omega)
      · rcases List.mem_cons.1 hq with rfl | hq
        · exact h2 rfl
        · exact h4 e q hq
theorem leaf_ev (p : S24) (cols : Int) : ∃ b, Ev (fun k => leafP k p cols) b ∧ (b = true → Rt cols p) := by
  have bad : Ev (fun k => need_leaf.j0 k true p.f0 p.f1 p.f2 p.f3 p.f4 p.f5) false := Ev.step (fun k => by rw [need_leaf.j0]) (Ev.pos rfl (Ev.val rfl))
  unfold leafP need_leaf.f
  by_cases c1 : p.f0 < 1
  · exact ⟨false, Ev.pos c1 bad, by simp⟩
  by_cases c2 : p.f0 > 11
  · exact ⟨false, Ev.neg c1 (Ev.pos c2 bad), by simp⟩
  by_cases c3 : (p.f5.length : Int) > 0
  · exact ⟨false, Ev.neg c1 (Ev.neg c2 (Ev.pos c3 bad)), by simp⟩
  by_cases c4 : p.f1 < 0
  · exact ⟨false, Ev.neg c1 (Ev.neg c2 (Ev.neg c3 (Ev.pos c4 bad))), by simp⟩
  by_cases c5 : p.f1 ≥ cols
  · exact ⟨false, Ev.neg c1 (Ev.neg c2 (Ev.neg c3 (Ev.neg c4 (Ev.pos c5 bad)))), by simp⟩
  by_cases c6 : (p.f2.size : Int) > 4096
  · exact ⟨false, Ev.neg c1 (Ev.neg c2 (Ev.neg c3 (Ev.neg c4 (Ev.neg c5 (by rw [decide_eq_true c6]; exact bad))))), by simp⟩
  have hnil : p.f5 = [] := by
    cases h5 : p.f5 with
    | nil => rfl
    | cons a b => rw [h5] at c3; simp at c3
  rw [decide_eq_false c6]
  have lf : ∀ {r}, Ev (fun k => need_leaf.j0 k false p.f0 p.f1 p.f2 p.f3 p.f4 p.f5) r → Ev (fun k => if p.f0 < 1 then need_leaf.j0 k true p.f0 p.f1 p.f2 p.f3 p.f4 p.f5 else if p.f0 > 11 then need_leaf.j0 k true p.f0 p.f1 p.f2 p.f3 p.f4 p.f5 else if (p.f5.length : Int) > 0 then need_leaf.j0 k true p.f0 p.f1 p.f2 p.f3 p.f4 p.f5 else if p.f1 < 0 then need_leaf.j0 k true p.f0 p.f1 p.f2 p.f3 p.f4 p.f5 else if p.f1 ≥ cols then need_leaf.j0 k true p.f0 p.f1 p.f2 p.f3 p.f4 p.f5 else need_leaf.j0 k false p.f0 p.f1 p.f2 p.f3 p.f4 p.f5) r := fun {r} h => Ev.neg c1 (Ev.neg c2 (Ev.neg c3 (Ev.neg c4 (Ev.neg c5 h))))
  by_cases k10 : p.f0 = 10
  · have p1 := parse_ev p.f2 p.f3 (by omega)
    refine ⟨_, lf (Ev.step (fun k => by rw [need_leaf.j0]) (Ev.neg (by decide) (Ev.pos k10 (Ev.bind p1 (r := if (presAll p.f2 p.f3).2 = 0 then p.f4 == 0 else false) ?_)))), fun e => ?_⟩
    · by_cases e : (presAll p.f2 p.f3).2 = 0
      · rw [if_pos e, if_pos e]; exact Ev.val rfl
      · rw [if_neg e, if_neg e]; exact Ev.val rfl
    · by_cases e2 : (presAll p.f2 p.f3).2 = 0
      · rw [if_pos e2] at e
        have h4 : p.f4 = 0 := by simpa using e
        exact Rt.leaf p (by omega) (by omega) hnil (by omega) (by omega) (by omega) (by omega) (by omega) (fun _ => h4)
      · rw [if_neg e2] at e; cases e
  · have tail : ∃ b, (if p.f0 = 11 then (some (p.f2.toList == ([] : List UInt8))) else (some true)) = some b := by
      by_cases c : p.f0 = 11
      · rw [if_pos c]; exact ⟨_, rfl⟩
      · rw [if_neg c]; exact ⟨_, rfl⟩
    obtain ⟨b, hb⟩ := tail
    have lf' : ∀ {b}, Ev (fun _ => (if p.f3 = 0 then (if p.f4 < 0 then (some false) else (if p.f4 > 2 then (some false) else (if p.f4 > 0 then ((need_compares.f p.f0).bind fun t113 => (if t113 = true then (if p.f0 = 11 then (some (p.f2.toList == ([] : List UInt8))) else (some true)) else (some false))) else (if p.f0 = 11 then (some (p.f2.toList == ([] : List UInt8))) else (some true))))) else (some false))) b → Ev (fun k => need_leaf.j0 k false p.f0 p.f1 p.f2 p.f3 p.f4 p.f5) b := fun {b} h => Ev.step (fun k => by rw [need_leaf.j0]) (Ev.neg (by decide) (Ev.neg k10 h))
    by_cases ok : p.f3 = 0 ∧ 0 ≤ p.f4 ∧ p.f4 ≤ 2 ∧ (0 < p.f4 → p.f0 ≤ 6)
    · refine ⟨b, lf (lf' (Ev.c ?_)), fun _ => Rt.leaf p (by omega) (by omega) hnil (by omega) (by omega) (by omega) (by omega) (by omega) (fun z => by omega)⟩
      rw [if_pos ok.1, if_neg (by omega), if_neg (by omega)]
      by_cases z : p.f4 > 0
      · rw [if_pos z]
        unfold need_compares.f
        rw [if_pos (by omega), decide_eq_true (show p.f0 ≤ 6 from ok.2.2.2 z), Option.bind_some, if_pos rfl]
        exact hb
      · rw [if_neg z]; exact hb
    · refine ⟨false, lf (lf' (Ev.c ?_)), by simp⟩
      by_cases d3 : p.f3 = 0
      · rw [if_pos d3]
        by_cases d4 : p.f4 < 0
        · rw [if_pos d4]
        · rw [if_neg d4]
          by_cases d5 : p.f4 > 2
          · rw [if_pos d5]
          · rw [if_neg d5, if_pos (by omega)]
            unfold need_compares.f
            rw [if_pos (by omega), decide_eq_false (by omega), Option.bind_some, if_neg (by decide)]
      · rw [if_neg d3]
theorem right_ev (cols : Int) : ∀ (p : S24) (deep : Int), 0 ≤ deep → deep ≤ 12 → ∃ b, Ev (fun k => rightP k p cols deep) b ∧ (b = true → Rt cols p) := by
  refine indP fun p ih deep h0 h12 => ?_
  by_cases j : 12 ≤ p.f0 ∧ p.f0 ≤ 14
  · have hj : need_joins.f p.f0 = some true := by rw [joins_eq, decide_eq_true j]
    have lf : ∀ {r}, Ev (fun k => if p.f1 ≠ 0 then some false else if p.f3 ≠ 0 then some false else if p.f4 ≠ 0 then some false else if p.f2.toList ≠ [] then some false else if p.f5.length < 1 then some false else if 16 < p.f5.length then some false else if p.f0 = 14 ∧ 1 < p.f5.length then some false else if deep ≤ 1 then some false else (anyE (fun q => (rightP k q cols (wrap64 (deep - 1))).map (!·)) p.f5).map (!·)) r → Ev (fun k => rightP k p cols deep) r := fun {r} h => Ev.step (fun k => by rw [rightP, hj, Option.bind_some, if_neg (by decide)]) h
    by_cases a1 : p.f1 ≠ 0
    · exact ⟨false, lf (Ev.pos a1 (Ev.val rfl)), by simp⟩
    by_cases a2 : p.f3 ≠ 0
    · exact ⟨false, lf (Ev.neg a1 (Ev.pos a2 (Ev.val rfl))), by simp⟩
    by_cases a3 : p.f4 ≠ 0
    · exact ⟨false, lf (Ev.neg a1 (Ev.neg a2 (Ev.pos a3 (Ev.val rfl)))), by simp⟩
    by_cases a4 : p.f2.toList ≠ []
    · exact ⟨false, lf (Ev.neg a1 (Ev.neg a2 (Ev.neg a3 (Ev.pos a4 (Ev.val rfl))))), by simp⟩
    have lf2 : ∀ {r}, Ev (fun k => if p.f5.length < 1 then some false else if 16 < p.f5.length then some false else if p.f0 = 14 ∧ 1 < p.f5.length then some false else if deep ≤ 1 then some false else (anyE (fun q => (rightP k q cols (wrap64 (deep - 1))).map (!·)) p.f5).map (!·)) r → Ev (fun k => rightP k p cols deep) r := fun {r} h => lf (Ev.neg a1 (Ev.neg a2 (Ev.neg a3 (Ev.neg a4 h))))
    by_cases a5 : p.f5.length < 1
    · exact ⟨false, lf2 (Ev.pos a5 (Ev.val rfl)), by simp⟩
    by_cases a6 : 16 < p.f5.length
    · exact ⟨false, lf2 (Ev.neg a5 (Ev.pos a6 (Ev.val rfl))), by simp⟩
    by_cases a7 : p.f0 = 14 ∧ 1 < p.f5.length
    · exact ⟨false, lf2 (Ev.neg a5 (Ev.neg a6 (Ev.pos a7 (Ev.val rfl)))), by simp⟩
    by_cases a8 : deep ≤ 1
    · exact ⟨false, lf2 (Ev.neg a5 (Ev.neg a6 (Ev.neg a7 (Ev.pos a8 (Ev.val rfl))))), by simp⟩
    have e : wrap64 (deep - 1) = deep - 1 := w64 (by omega) (by omega)
    obtain ⟨r, h1, h2⟩ := all1 (fun k q => rightP k q cols (wrap64 (deep - 1))) (Rt cols) p.f5 fun q hq => by
      rw [e]; exact ih q hq (deep - 1) (by omega) (by omega)
    exact ⟨r, lf2 (Ev.neg a5 (Ev.neg a6 (Ev.neg a7 (Ev.neg a8 h1)))), fun z => Rt.node p j.1 j.2 (by omega) (by omega) (fun z14 => by omega) (h2 z)⟩
  · have hj : need_joins.f p.f0 = some false := by rw [joins_eq, decide_eq_false j]
    have lf : ∀ {r}, Ev (fun k => if 0 < deep then leafP k p cols else some false) r → Ev (fun k => rightP k p cols deep) r := fun {r} h => Ev.step (fun k => by rw [rightP, hj, Option.bind_some, if_pos rfl]) h
    by_cases d0 : 0 < deep
    · obtain ⟨b, h1, h2⟩ := leaf_ev p cols
      exact ⟨b, lf (Ev.pos d0 h1), h2⟩
    · exact ⟨false, lf (Ev.neg d0 (Ev.val rfl)), by simp⟩
end Go.Proofs.YtdccooaddoafnaaGreatDoor.Pure
