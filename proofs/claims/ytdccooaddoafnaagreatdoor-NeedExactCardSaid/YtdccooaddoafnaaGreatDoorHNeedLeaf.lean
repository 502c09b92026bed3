/- What a leaf skips; the filters of rows. -/
import Derived.Test.YtdccooaddoafnaaGreatDoorHNeedBase
import Derived.Test.YtdccooaddoafnaaGreatDoorHRowsEv
set_option linter.unusedVariables false
set_option linter.unusedSimpArgs false
namespace Go.Proofs.YtdccooaddoafnaaGreatDoor.Pure
open Go.RowKit Go.Proofs.YtdccooaddoafnaaGreatDoor.Q Go.Proofs.YtdccooaddoafnaaGreatDoorW.PrintWords Go.Proofs.YtdccooaddoafnaaGreatDoorW.PrintLast Go.Proofs.YtdccooaddoafnaaGreatDoorW.PrintMore
theorem rdV (l : List S38) (i : Nat) (h : i < l.length) : rd_T38 l (i : Int) = l[i] := by simp [rd_T38, List.getD, h]
theorem rdF (l : List S53) (i : Nat) (h : i < l.length) : rd_T53 l (i : Int) = l[i] := by simp [rd_T53, List.getD, h]
theorem leafSkip_ev {cols : Int} (p : S24) (hk2 : p.f0 ≤ 11) (h1 : 0 ≤ p.f1) (h2 : p.f1 < cols) (hp : p.f2.size ≤ 4096) (f : List S53) (hl : (f.length : Int) = cols) (j : Nat) (ej : p.f1 = (j : Int)) (hj : j < f.length) (hGj : GoodF f[j]) :
    Ev (fun k => skipP k p f) ((needs p).any fun s => !mayB f[j] s) := by
  have hns := needs_size p hp
  have er : rd_T53 f p.f1 = f[j] := by rw [ej]; exact rdF f j hj
  refine Ev.step (fun k => by rw [skipP]) (Ev.neg (by omega) (Ev.neg (by omega) (Ev.neg (by omega) (Ev.bind (runsP_ev p hp) ?_))))
  refine anyE_ev (fun k s => (mayAt k f p.f1 s).map (!·)) (fun s => !mayB f[j] s) _ (fun s hs => Ev.map1 (!·) ?_)
  unfold mayAt
  rw [er]
  exact Ev.pos h1 (Ev.pos (by omega) (may_ev f[j] hGj s (by have := hns s hs; omega)))
/-! ### the reference's filters -/
/-- A column's strings that aren't Null. -/
def colS (rows : List (List S38)) (c : Nat) : List ByteArray := rows.filterMap fun r => if (rd_T38 r (c : Int)).f0 = true then none else some (rd_T38 r (c : Int)).f1
theorem rdLL (l : List (List S38)) (i : Nat) (h : i < l.length) : rd_L7 l (i : Int) = l[i] := by simp [rd_L7, List.getD, h]
theorem colS_len (rows : List (List S38)) (c : Nat) : (colS rows c).length ≤ rows.length := List.length_filterMap_le _ _
theorem sum_le {l : List ByteArray} (h : ∀ s, s ∈ l → s.size ≤ 100) : sumSz l ≤ 100 * l.length := by
  unfold sumSz
  induction l with
  | nil => simp
  | cons a l ih =>
    have h1 := h a (List.mem_cons_self ..)
    have h2 := ih fun s hs => h s (List.mem_cons_of_mem _ hs)
    simp only [List.map_cons, List.sum_cons, List.length_cons]
    omega
theorem filters_l1 (rows : List (List S38)) (cols bits : Int) (hrl : rows.length ≤ 100) (hr : ∀ r, r ∈ rows → (r.length : Int) = cols) (out : List S53) (c : Nat) (hc : (c : Int) < cols) :
    ∀ (n i : Nat) (acc : List ByteArray), rows.length - i = n → i ≤ rows.length → acc.length ≤ i → ∀ R,
      Ev (fun k => (hopperref15_Make.f k (acc ++ colS (rows.drop i) c) bits).bind fun bt => if out.length < 2513169434916 then hopperref16_Filters.l0 k rows cols bits (out ++ [(⟨bt.1, bt.2.1, bt.2.2⟩ : S53)]) (wrap64 ((c : Int) + 1)) else none) R →
      Ev (fun k => hopperref16_Filters.l1 k rows cols bits out (c : Int) acc (i : Int)) R := by
  intro n
  induction n with
  | zero =>
    intro i acc hn hi ha R h
    rw [List.drop_of_length_le (by omega)] at h
    simp only [colS, List.filterMap_nil, List.append_nil] at h
    exact Ev.step (fun k => by rw [hopperref16_Filters.l1]) (Ev.neg (by omega) h)
  | succ n ih =>
    intro i acc hn hi ha R h
    have hil : i < rows.length := by omega
    have hri := hr _ (List.getElem_mem hil)
    rw [List.drop_eq_getElem_cons hil] at h
    refine Ev.step (fun k => by rw [hopperref16_Filters.l1]) (Ev.pos (by omega) (Ev.pos (by omega) (Ev.pos (by omega) ?_)))
    rw [rdLL rows i hil, w64s hil (by omega)]
    refine Ev.pos (by omega) ?_
    by_cases cn : (rd_T38 rows[i] (c : Int)).f0 = true
    · have e : colS (rows[i] :: rows.drop (i + 1)) c = colS (rows.drop (i + 1)) c := by unfold colS; rw [List.filterMap_cons, if_pos cn]
      rw [e] at h
      exact Ev.pos cn (ih (i + 1) acc (by omega) (by omega) (by omega) R h)
    · have e : colS (rows[i] :: rows.drop (i + 1)) c = (rd_T38 rows[i] (c : Int)).f1 :: colS (rows.drop (i + 1)) c := by unfold colS; rw [List.filterMap_cons, if_neg cn]
      rw [e] at h
      refine Ev.neg cn (Ev.pos (by omega) (ih (i + 1) _ (by omega) (by omega) (by simp; omega) R ?_))
      rw [List.append_assoc]
      exact h
theorem filters_l0 (rows : List (List S38)) (cols bits : Int) (hc1 : 1 ≤ cols) (hc8 : cols ≤ 8) (hb0 : 0 ≤ bits) (hb1 : bits ≤ 65536) (hrl : rows.length ≤ 100) (hr : ∀ r, r ∈ rows → (r.length : Int) = cols ∧ ∀ v, v ∈ r → v.f1.size ≤ 100) :
    ∀ (n c : Nat) (out : List S53), cols.toNat - c = n → c ≤ cols.toNat → out.length = c → (∀ j (h : j < out.length), MkF (colS rows j) bits out[j]) →
      ∃ f, Ev (fun k => hopperref16_Filters.l0 k rows cols bits out (c : Int)) f ∧ (f.length : Int) = cols ∧ ∀ j (h : j < f.length), MkF (colS rows j) bits f[j] := by
  intro n
  induction n with
  | zero =>
    intro c out hn hc ho hm
    exact ⟨out, Ev.step (fun k => by rw [hopperref16_Filters.l0]) (Ev.neg (by omega) (Ev.val rfl)), by omega, hm⟩
  | succ n ih =>
    intro c out hn hc ho hm
    have hcl : (c : Int) < cols := by omega
    have hsz : ∀ s, s ∈ colS rows c → s.size ≤ 100 := by
      intro s hs
      obtain ⟨r, hrm, e⟩ := List.mem_filterMap.1 hs
      split at e
      · cases e
      · obtain rfl := Option.some.inj e
        have h1 := hr r hrm
        have hcr : c < r.length := by omega
        rw [rdV r c hcr]
        exact h1.2 _ (List.getElem_mem hcr)
    have hlen := colS_len rows c
    have hsum := sum_le hsz
    obtain ⟨g, hg1, hg2⟩ := make_ev (colS rows c) bits hb0 hb1 (by omega) (fun s hs => by have := hsz s hs; omega) (by omega)
    obtain ⟨f, f1, f2, f3⟩ := ih (c + 1) (out ++ [(⟨g.f0, g.f1, g.f2⟩ : S53)]) (by omega) (by omega) (by simp; omega) (fun j h => by
      by_cases e : j < out.length
      · rw [List.getElem_append_left e]; exact hm j e
      · have hjc : j = c := by simp at h; omega
        subst hjc
        rw [List.getElem_append_right (by omega)]
        simpa [ho] using hg2)
    have L := filters_l1 rows cols bits hrl (fun r h => (hr r h).1) out c hcl _ 0 [] rfl (Nat.zero_le _) (Nat.le_refl _) f
    rw [List.drop_zero, List.nil_append] at L
    have L2 : _ → Ev (fun k => hopperref16_Filters.l1 k rows cols bits out (c : Int) [] 0) f := L
    refine ⟨f, Ev.step (fun k => by rw [hopperref16_Filters.l0]) (Ev.pos hcl (L2 ?_)), f2, f3⟩
    refine Ev.bind hg1 (Ev.pos (by omega) ?_)
    rw [w64 (by omega) (by omega), show ((c : Int) + 1) = ((c + 1 : Nat) : Int) by omega]
    exact f1
theorem filters_ev (rows : List (List S38)) (cols bits : Int) (hc1 : 1 ≤ cols) (hc8 : cols ≤ 8) (hb0 : 0 ≤ bits) (hb1 : bits ≤ 65536) (hrl : rows.length ≤ 100) (hr : ∀ r, r ∈ rows → (r.length : Int) = cols ∧ ∀ v, v ∈ r → v.f1.size ≤ 100) :
    ∃ f, Ev (fun k => hopperref16_Filters.f k rows cols bits) f ∧ (f.length : Int) = cols ∧ ∀ j (h : j < f.length), MkF (colS rows j) bits f[j] := by
  unfold hopperref16_Filters.f
  exact filters_l0 rows cols bits hc1 hc8 hb0 hb1 hrl hr _ 0 [] rfl (Nat.zero_le _) rfl (fun j h => by simp at h)
end Go.Proofs.YtdccooaddoafnaaGreatDoor.Pure
