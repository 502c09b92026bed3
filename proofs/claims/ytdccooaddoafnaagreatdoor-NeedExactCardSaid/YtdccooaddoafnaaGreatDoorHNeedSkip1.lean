/- Of none that is skipped a predicate says Yes. -/
import Derived.Test.YtdccooaddoafnaaGreatDoorHNeedEv
set_option linter.unusedVariables false
set_option linter.unusedSimpArgs false
namespace Go.Proofs.YtdccooaddoafnaaGreatDoor.Pure
open Go.RowKit Go.Proofs.YtdccooaddoafnaaGreatDoor.Q Go.Proofs.YtdccooaddoafnaaGreatDoorW.PrintWords Go.Proofs.YtdccooaddoafnaaGreatDoorW.PrintLast Go.Proofs.YtdccooaddoafnaaGreatDoorW.PrintMore
/-- Do filters stand for a row: what isn't Null has its grams there. -/
def Cov (f : List S53) (row : List S38) : Prop := ∀ (c : Nat) (hf : c < f.length) (hr : c < row.length), (row[c]).f0 = false → ∀ g, g ∈ rawG (row[c]).f1 → hasB f[c] g = true
theorem mayB_part {f : S53} {x s : ByteArray} (h : x.data.toList <:+: s.data.toList) (hs : ∀ g, g ∈ rawG s → hasB f g = true) : mayB f x = true := by
  unfold mayB
  rw [List.all_eq_true]
  exact fun g hg => hs g (grams_part h g hg)
noncomputable def skipV (f : List S53) (p : S24) : Bool := ans (fun k => skipP k p f)
theorem skip1_ev {cols : Int} {p : S24} (hR : Rt cols p) (f : List S53) (hl : (f.length : Int) = cols) (hG : ∀ x, x ∈ f → GoodF x) :
    ∃ b, Ev (fun k => skipP k p f) b ∧ (b = true → ∀ row, RowOk cols row → Cov f row → ∀ x, Ev (fun k => saysP k p row) x → x ≠ 1) := by
  induction hR with
  | leaf p hk1 hk2 h5 h1 h2 hp h40 h42 h6 =>
    obtain ⟨j, ej⟩ : ∃ j : Nat, p.f1 = (j : Int) := ⟨p.f1.toNat, by omega⟩
    have hj : j < f.length := by omega
    have hGj := hG _ (List.getElem_mem hj)
    have hns := needs_size p hp
    have er : rd_T53 f p.f1 = f[j] := by rw [ej]; exact rdF f j hj
    refine ⟨(needs p).any fun s => !mayB f[j] s, ?_, ?_⟩
    · exact leafSkip_ev p hk2 h1 h2 hp f hl j ej hj hGj
    · intro hb row hr hcov x hx hx1
      obtain ⟨s, hs, hm⟩ := List.any_eq_true.1 hb
      obtain ⟨v, hv, hvj, hsay⟩ := saysLeaf_ev p hk1 hk2 h1 h2 hp h40 h42 row hr
      have e := Ev.uniq hx hsay
      rw [hx1] at e
      have hjr : j < row.length := by have := hr.1; omega
      have evj : v = row[j] := by
        rw [ej, Int.toNat_natCast, List.getElem?_eq_getElem hjr] at hvj
        exact (Option.some.inj hvj).symm
      unfold leafV at e
      by_cases c11 : p.f0 = 11
      · have e2 : needs p = [] := by unfold needs; rw [if_neg (by omega), if_neg (by omega), if_neg (by omega)]
        rw [e2] at hs; cases hs
      rw [if_neg c11] at e
      by_cases cn : v.f0 = true
      · rw [if_pos cn] at e; exact absurd e (by decide)
      rw [if_neg cn] at e
      obtain ⟨b, hb1, hb2⟩ := holds_ev p hk1 (by omega) hp h40 h42 v.f1 (hr.2 v hv)
      have e3 : holdsV p v.f1 = b := ans_eq hb1
      rw [e3] at e
      cases b with
      | false => exact absurd e (by decide)
      | true =>
        have hpart := hb2 rfl s hs
        have : mayB f[j] s = true := mayB_part hpart (fun g hg => by
          rw [evj] at hg cn
          exact hcov j hj hjr (by simpa using cn) g hg)
        rw [this] at hm
        cases hm
  | node p hk1 hk2 hn1 hn2 hn3 hq ih =>
    have hv : ∀ q, q ∈ p.f5 → Ev (fun k => skipP k q f) (skipV f q) ∧ (skipV f q = true → ∀ row, RowOk cols row → Cov f row → ∀ x, Ev (fun k => saysP k q row) x → x ≠ 1) := fun q h => by
      obtain ⟨b, a1, a3⟩ := ih q h
      have : skipV f q = b := ans_eq a1
      rw [this]; exact ⟨a1, a3⟩
    have hsays : ∀ row, RowOk cols row → ∀ q, q ∈ p.f5 → Ev (fun k => saysP k q row) (saysV row q) ∧ Tri (saysV row q) := fun row hr q h => by
      obtain ⟨x, hx, ht⟩ := says_ev (hq q h) row hr
      have : saysV row q = x := ans_eq hx
      rw [this]; exact ⟨hx, ht⟩
    by_cases c12 : p.f0 = 12
    · refine ⟨p.f5.any (skipV f), Ev.step (fun k => by rw [skipP]) (Ev.pos c12 (anyE_ev _ (skipV f) _ (fun q h => (hv q h).1))), ?_⟩
      · intro hb row hr hcov x hx hx1
        obtain ⟨q, hqm, hqs⟩ := List.any_eq_true.1 hb
        have hx2 := Ev.uniq hx (Ev.step (fun k => by rw [saysP]) (Ev.pos c12 (both_ev _ (saysV row) 0 p.f5 (fun q h => (hsays row hr q h).1) 1)))
        rw [bothV_eq 0 (by decide), hx1] at hx2
        obtain ⟨s1, s2⟩ := hsays row hr q hqm
        have hne := (hv q hqm).2 hqs row hr hcov _ s1
        have hmem : saysV row q ∈ p.f5.map (saysV row) := List.mem_map_of_mem hqm
        by_cases m0 : (0 : Int) ∈ p.f5.map (saysV row)
        · rw [if_pos m0] at hx2; exact absurd hx2 (by decide)
        rw [if_neg m0] at hx2
        by_cases m2 : (2 : Int) ∈ p.f5.map (saysV row)
        · rw [if_pos m2] at hx2; exact absurd hx2 (by decide)
        rcases s2 with e | e | e
        · exact m0 (e ▸ hmem)
        · exact hne e
        · exact m2 (e ▸ hmem)
    by_cases c13 : p.f0 = 13
    · refine ⟨p.f5.all (skipV f), ?_, ?_⟩
      · refine Ev.eq (Ev.step (fun k => by rw [skipP]) (Ev.neg c12 (Ev.pos c13 (Ev.map1 (!·) (anyE_ev (fun k q => (skipP k q f).map (!·)) (fun q => !skipV f q) _ (fun q h => Ev.map1 (!·) (hv q h).1)))))) ?_
        exact not_any (skipV f) p.f5
      · intro hb row hr hcov x hx hx1
        have hx2 := Ev.uniq hx (Ev.step (fun k => by rw [saysP]) (Ev.neg c12 (Ev.pos c13 (both_ev _ (saysV row) 1 p.f5 (fun q h => (hsays row hr q h).1) 0))))
        rw [bothV_eq 1 (by decide), hx1] at hx2
        by_cases m1 : (1 : Int) ∈ p.f5.map (saysV row)
        · obtain ⟨q, hqm, e⟩ := List.mem_map.1 m1
          exact (hv q hqm).2 (List.all_eq_true.1 hb q hqm) row hr hcov _ (hsays row hr q hqm).1 e
        · rw [if_neg m1] at hx2
          split at hx2 <;> exact absurd hx2 (by decide)
    have c14 : p.f0 = 14 := by omega
    refine ⟨false, Ev.step (fun k => by rw [skipP]) (Ev.neg c12 (Ev.neg c13 (Ev.pos c14 (Ev.val rfl)))), fun e => by cases e⟩
end Go.Proofs.YtdccooaddoafnaaGreatDoor.Pure
