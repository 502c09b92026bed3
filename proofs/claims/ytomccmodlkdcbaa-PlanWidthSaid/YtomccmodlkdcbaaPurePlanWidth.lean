/- A filter, an order, a limit of a right plan have as many columns as it; projections as many as expressions; what has a part too many isn't right. No condition. -/
import Derived.Test.YtomccmodlkdcbaaHCapTot
import Derived.Test.YtomccmodlkdcbaaHPlanEv
set_option linter.unusedVariables false
set_option linter.unusedSimpArgs false
namespace Go.Proofs.Ytomccmodlkdcbaa.Pure
open Go.RowKit Go.Proofs.Ytomccmodlkdcbaa.Q Go.Proofs.YtomccmodlkdcbaaW.PrintWords Go.Proofs.YtomccmodlkdcbaaW.PrintLast Go.Proofs.YtomccmodlkdcbaaW.PrintMore
theorem byte_wf {x : Int} (h : (Lit.int .u8 x).wf = true) : 0 ≤ x ∧ x ≤ 255 := by
  unfold Lit.wf at h
  simp only [Bool.and_eq_true, decide_eq_true_eq] at h
  exact h
theorem rd46 (l : List S46) (i : Nat) (h : i < l.length) : rd_T46 l (i : Int) = l[i] := by simp [rd_T46, List.getD, h]
/-- Tables with names: each has 1 to 8 columns. -/
def TabsOk (l : List S46) : Prop := ∀ t, t ∈ l → 1 ≤ t.f1 ∧ t.f1 ≤ 8
theorem named_ev (l : List S46) (hl : l.length ≤ 9223372036854775807) : ∃ b, Ev (fun k => hopperref25_Named.f k l) b ∧ (b = true → TabsOk l) := by
  have loop : ∀ (d i : Nat), l.length - i = d → ∃ b, Ev (fun k => hopperref25_Named.l0 k l (i : Int)) b ∧ (b = true → ∀ j, i ≤ j → ∀ h : j < l.length, 1 ≤ l[j].f1 ∧ l[j].f1 ≤ 8) := by
    intro d
    induction d with
    | zero => intro i hd; exact ⟨decide ((l.length : Int) ≤ 20), Ev.step (fun k => by rw [hopperref25_Named.l0]) (Ev.neg (by omega) (Ev.val rfl)), fun _ j hj h => by omega⟩
    | succ d ih =>
      intro i hd
      have hi : i < l.length := by omega
      obtain ⟨b, next, hb⟩ := ih (i + 1) (by omega)
      rw [← w64s hi (by omega)] at next
      have S : ∀ {b}, Ev (fun k => if ((l[i].f0).size : Int) > 100 then (some false) else (if l[i].f1 < 1 then (some false) else (if l[i].f1 > 8 then (some false) else (hopperref25_Named.l0 k l (wrap64 ((i : Int) + 1)))))) b → Ev (fun k => hopperref25_Named.l0 k l (i : Int)) b := fun {b} h => Ev.step (fun k => by rw [hopperref25_Named.l0, rd46 l i hi]) (Ev.pos (by omega) (Ev.pos (by omega) h))
      by_cases c1 : ((l[i].f0).size : Int) > 100
      · exact ⟨false, S (Ev.pos c1 (Ev.val rfl)), fun h => by cases h⟩
      by_cases c2 : l[i].f1 < 1
      · exact ⟨false, S (Ev.neg c1 (Ev.pos c2 (Ev.val rfl))), fun h => by cases h⟩
      by_cases c3 : l[i].f1 > 8
      · exact ⟨false, S (Ev.neg c1 (Ev.neg c2 (Ev.pos c3 (Ev.val rfl)))), fun h => by cases h⟩
      refine ⟨b, S (Ev.neg c1 (Ev.neg c2 (Ev.neg c3 next))), fun hbt j hj h => ?_⟩
      by_cases e : j = i
      · subst e; exact ⟨by omega, by omega⟩
      · exact hb hbt j (by omega) h
  obtain ⟨b, h, hb⟩ := loop _ 0 rfl
  refine ⟨b, h, fun e t ht => ?_⟩
  obtain ⟨j, hj, rfl⟩ := List.getElem_of_mem ht
  exact hb e j (Nat.zero_le _) hj
theorem tab_range (l : List S46) (h : TabsOk l) (nm : ByteArray) : 0 ≤ tab l nm ∧ tab l nm ≤ 8 := by
  cases hf : l.findIdx? (scanIs nm) with
  | none =>
    have e : firstOf (scanIs nm) l = -1 := by unfold firstOf; rw [hf]
    unfold tab
    rw [e, if_pos (by decide)]; decide
  | some i =>
    have hi : i < l.length := by
      rw [List.findIdx?_eq_some_iff_getElem] at hf
      exact hf.1
    have e : firstOf (scanIs nm) l = (i : Int) := by unfold firstOf; rw [hf]
    unfold tab
    rw [e, if_neg (by omega), rd46 _ i hi]
    have := h _ (List.getElem_mem hi)
    omega
theorem few_of : ∀ (n : Nat) (p : S31), Sm31 n p → FewM p
  | 0, _, h => by cases h
  | n + 1, p, h => by
    cases h with
    | mk _ _ h1 h2 h3 h4 h5 h6 h7 h8 h9 h10 h11 h12 => exact ⟨p, by omega, fun q hq => few_of n q (h12 q hq)⟩
theorem kidsL_vals (g : S31 → Option Int) : ∀ (l : List S31) (ks xs : List Int), kidsL g l ks = some (some xs) → ∀ x, x ∈ xs → x ∈ ks ∨ ∃ q, q ∈ l ∧ g q = some x
  | [], ks, xs, h, x, hx => by
    simp only [kidsL] at h
    obtain rfl := Option.some.inj (Option.some.inj h)
    exact .inl hx
  | q :: qs, ks, xs, h, x, hx => by
    simp only [kidsL] at h
    obtain ⟨n, hn, h⟩ := Option.bind_eq_some_iff.1 h
    by_cases z : n = 0
    · rw [if_pos z] at h; cases h
    · rw [if_neg z] at h
      rcases kidsL_vals g qs _ _ h x hx with e | ⟨r, hr, e⟩
      · rcases List.mem_append.1 e with e | e
        · exact .inl e
        · obtain rfl := List.mem_singleton.1 e
          exact .inr ⟨q, List.mem_cons_self .., hn⟩
      · exact .inr ⟨r, List.mem_cons_of_mem _ hr, e⟩
theorem when_range {b : Bool} {n r : Int} (h : plan_when.f b n = some r) (h0 : 0 ≤ n) : 0 ≤ r ∧ r ≤ 8 := by
  unfold plan_when.f at h
  split at h
  · split at h
    · obtain rfl := Option.some.inj h; omega
    · obtain rfl := Option.some.inj h; omega
  · obtain rfl := Option.some.inj h; omega
theorem rd_mem (ks : List Int) (i : Nat) (h : i < ks.length) : rd ks (i : Int) ∈ ks := by
  have e : rd ks (i : Int) = ks[i] := by simp [rd, List.getD, h]
  rw [e]; exact List.getElem_mem h
theorem cols_range (l : List S46) (hl : TabsOk l) : ∀ (k n : Nat) (p : S31) (d r : Int), Sm31 n p → colsP k p l d = some r → 0 ≤ r ∧ r ≤ 8
  | 0, _, _, _, _, _, h => by cases h
  | k + 1, 0, p, d, r, hs, h => by cases hs
  | k + 1, n + 1, p, d, r, hs, h => by
    obtain ⟨_, _, h40, _, _, h3, _, h4, h5, _, _, _, h12, hk⟩ := hs
    rw [colsP_at k p l d (by omega)] at h
    by_cases d0 : d = 0
    · rw [if_pos d0] at h; obtain rfl := Option.some.inj h; omega
    rw [if_neg d0] at h
    by_cases hs : shapedB p = true
    case neg => rw [if_neg hs] at h; obtain rfl := Option.some.inj h; omega
    rw [if_pos hs] at h
    obtain ⟨o, ho, h⟩ := Option.bind_eq_some_iff.1 h
    cases o with
    | none => obtain rfl := Option.some.inj h; omega
    | some ks =>
      have hv : ∀ x, x ∈ ks → 0 ≤ x ∧ x ≤ 8 := fun x hx => by
        rcases kidsL_vals _ _ _ _ ho x hx with e | ⟨q, hq, e⟩
        · cases e
        · exact cols_range l hl k n q _ x (hk q hq) e
      have h0 : 0 < ks.length → 0 ≤ rd ks 0 ∧ rd ks 0 ≤ 8 := fun h => hv _ (rd_mem ks 0 h)
      have h1 : 1 < ks.length → 0 ≤ rd ks 1 ∧ rd ks 1 ≤ 8 := fun h => hv _ (rd_mem ks 1 h)
      have h2 : ownP k p ks l = some r := h
      unfold ownP at h2
      by_cases c1 : p.f0 = 1
      · rw [if_pos c1, scan_tab] at h2
        obtain rfl := Option.some.inj h2
        exact tab_range l hl _
      rw [if_neg c1] at h2
      by_cases c2 : p.f0 = 2
      · rw [if_pos c2] at h2
        split at h2
        · rename_i hh; obtain ⟨b, _, h2⟩ := Option.bind_eq_some_iff.1 h2; exact when_range h2 (h0 hh).1
        · cases h2
      rw [if_neg c2] at h2
      by_cases c3 : p.f0 = 3
      · rw [if_pos c3] at h2
        split at h2
        · obtain ⟨b, _, h2⟩ := Option.bind_eq_some_iff.1 h2; exact when_range h2 (by omega)
        · cases h2
      rw [if_neg c3] at h2
      by_cases c4 : p.f0 = 4
      · rw [if_pos c4] at h2
        split at h2
        · obtain ⟨b, _, h2⟩ := Option.bind_eq_some_iff.1 h2; exact when_range h2 (by rw [w64 (by omega) (by omega)]; omega)
        · cases h2
      rw [if_neg c4] at h2
      by_cases c5 : p.f0 = 5
      · rw [if_pos c5] at h2
        split at h2
        · rename_i hh
          obtain ⟨b, _, h2⟩ := Option.bind_eq_some_iff.1 h2
          have a0 := h0 (by omega)
          have a1 := h1 hh
          refine when_range h2 ?_
          split
          · rw [w64 (by omega) (by omega)]; omega
          · exact a0.1
        · cases h2
      rw [if_neg c5] at h2
      by_cases c6 : p.f0 = 6
      · rw [if_pos c6] at h2
        split at h2
        · rename_i hh
          split at h2
          · obtain ⟨b, _, h2⟩ := Option.bind_eq_some_iff.1 h2; exact when_range h2 (h0 hh).1
          · exact when_range h2 (h0 hh).1
        · cases h2
      rw [if_neg c6] at h2
      split at h2
      · rename_i hh; exact when_range h2 (h0 hh).1
      · cases h2
/-! ### how deep a plan is -/
inductive DeepM : Nat → S31 → Prop
  | mk (n : Nat) (p : S31) : (∀ q, q ∈ p.f12 → DeepM n q) → DeepM (n + 1) p
theorem DeepM.up : ∀ {n m : Nat} {p : S31}, DeepM n p → n ≤ m → DeepM m p
  | 0, _, _, h, _ => by cases h
  | n + 1, m, p, h, hm => by
    cases h with
    | mk _ _ hq =>
      obtain ⟨m, rfl⟩ : ∃ m', m = m' + 1 := ⟨m - 1, by omega⟩
      exact .mk m p fun q hm2 => DeepM.up (hq q hm2) (by omega)
theorem deep_of : ∀ (n : Nat) (p : S31), Sm31 n p → DeepM n p
  | 0, _, h => by cases h
  | n + 1, p, h => by
    cases h with
    | mk _ _ h1 h2 h3 h4 h5 h6 h7 h8 h9 h10 h11 h12 => exact .mk n p fun q hq => deep_of n q (h12 q hq)
theorem deepL_ev (n : Nat) : ∀ (l : List S31), (∀ q, q ∈ l → ∃ d : Nat, Ev (fun k => deepP k q) (d : Int) ∧ d ≤ n ∧ DeepM d q) → ∀ a : Nat, a ≤ n → ∃ m : Nat, Ev (fun k => deepL (fun q => deepP k q) l (a : Int)) (m : Int) ∧ a ≤ m ∧ m ≤ n ∧ ∀ q, q ∈ l → DeepM m q
  | [], _, a, ha => ⟨a, Ev.congr (fun k => by rw [deepL]) (Ev.val rfl), Nat.le_refl _, ha, fun q hq => by cases hq⟩
  | q :: qs, h, a, ha => by
    obtain ⟨d, hd, hdn, hD⟩ := h q (List.mem_cons_self ..)
    obtain ⟨m, hm, h1, h2, h3⟩ := deepL_ev n qs (fun q hq => h q (List.mem_cons_of_mem _ hq)) (if a < d then d else a) (by split <;> omega)
    have e : (if (a : Int) < (d : Int) then (d : Int) else (a : Int)) = ((if a < d then d else a : Nat) : Int) := by
      by_cases c : a < d
      · rw [if_pos c, if_pos (by omega)]
      · rw [if_neg c, if_neg (by omega)]
    have hdm : a ≤ m ∧ d ≤ m := by
      by_cases c : a < d
      · rw [if_pos c] at h1; omega
      · rw [if_neg c] at h1; omega
    refine ⟨m, Ev.congr (fun k => by rw [deepL]) (Ev.bind hd ?_), hdm.1, h2, fun r hr => ?_⟩
    · rw [e]; exact hm
    · rcases List.mem_cons.1 hr with rfl | hr
      · exact hD.up hdm.2
      · exact h3 r hr
theorem deep_ev : ∀ (n : Nat) (p : S31), DeepM n p → n ≤ 1000 → ∃ d : Nat, Ev (fun k => deepP k p) (d : Int) ∧ d ≤ n ∧ DeepM d p
  | 0, _, h, _ => by cases h
  | n + 1, p, h, hn => by
    cases h with
    | mk _ _ hq =>
      obtain ⟨m, hm, _, h2, h3⟩ := deepL_ev n p.f12 (fun q hm => deep_ev n q (hq q hm) (by omega)) 0 (Nat.zero_le _)
      refine ⟨m + 1, ?_, by omega, .mk m p h3⟩
      obtain ⟨K, hK⟩ := hm
      refine ⟨K + 1, fun k hk => ?_⟩
      obtain ⟨k, rfl⟩ : ∃ k', k = k' + 1 := ⟨k - 1, by omega⟩
      have h4 : deepL (fun q => deepP k q) p.f12 0 = some (m : Int) := hK k (by omega)
      show deepP (k + 1) p = _
      rw [deepP, h4, Option.bind_some, w64 (by omega) (by omega)]
      congr 1
theorem cols_deeper (l : List S46) : ∀ (n : Nat) (p : S31), DeepM n p → ∀ d d' : Int, (n : Int) ≤ d → (n : Int) ≤ d' → d ≤ 100 → d' ≤ 100 → ∀ k, colsP k p l d = colsP k p l d'
  | 0, _, h, _, _, _, _, _, _, _ => by cases h
  | n + 1, p, h, d, d', h1, h2, h3, h4, 0 => rfl
  | n + 1, p, h, d, d', h1, h2, h3, h4, k + 1 => by
    cases h with
    | mk _ _ hq =>
      by_cases h12 : p.f12.length ≤ 1000000
      · rw [colsP_at k p l d h12, colsP_at k p l d' h12, if_neg (show ¬ d = 0 by omega), if_neg (show ¬ d' = 0 by omega)]
        rw [kidsL_congr (fun q => colsP k q l (wrap64 (d - 1))) (fun q => colsP k q l (wrap64 (d' - 1))) p.f12 [] (fun q hm => cols_deeper l n q (hq q hm) _ _ (by rw [w64 (by omega) (by omega)]; omega) (by rw [w64 (by omega) (by omega)]; omega) (by rw [w64 (by omega) (by omega)]; omega) (by rw [w64 (by omega) (by omega)]; omega) k)]
      · rw [colsP, if_neg h12, colsP, if_neg h12]
/-! ### a plan of one kid -/
theorem one_ev (l : List S46) (P p : S31) (hP : P.f12 = [p]) (hs : shapedB P = true) {c r : Int} (hc : Ev (fun k => colsP k p l 11) c) (hc0 : c ≠ 0) (ho : Ev (fun k => ownP k P [c] l) r) : Ev (fun k => colsP k P l 12) r := by
  have hk : Ev (fun k => kidsL (fun q => colsP k q l (wrap64 (12 - 1))) P.f12 []) (some [c]) := by
    obtain ⟨K, hK⟩ := hc
    refine ⟨K, fun k hk => ?_⟩
    have h1 : colsP k p l (wrap64 (12 - 1)) = some c := by rw [show wrap64 (12 - 1) = 11 from by decide +kernel]; exact hK k hk
    show kidsL (fun q => colsP k q l (wrap64 (12 - 1))) P.f12 [] = _
    rw [hP]
    simp only [kidsL, h1, Option.bind_some, if_neg hc0, List.nil_append]
  exact Ev.step (fun k => colsP_at k P l 12 (by rw [hP]; exact (show 1 ≤ 1000000 by decide))) (Ev.neg (by decide) (Ev.pos hs (Ev.bind hk ho)))
theorem when_ok {c : Int} (h : c ≤ 8) : plan_when.f true c = some c := by
  unfold plan_when.f; rw [if_pos rfl, if_neg (by omega)]
theorem exprs_all : ((List.range 8).all fun c => (List.range 8).all fun m => plan_exprs.f 40 (xsL ((c : Int) + 1) (m + 1)) ((c : Int) + 1) == some true) = true := by kernel_rfl
theorem exprs_ev (c m : Nat) (hc : c < 8) (hm : m < 8) : Ev (fun k => plan_exprs.f k (xsL ((c : Int) + 1) (m + 1)) ((c : Int) + 1)) true := by
  refine Ev.of (fun k => plan_exprs.mono _ _ k) (k := 40) ?_
  have h := List.all_eq_true.1 exprs_all c (List.mem_range.2 hc)
  have h2 := List.all_eq_true.1 h m (List.mem_range.2 hm)
  exact eq_of_beq h2
theorem order_ok (c : Int) (h1 : 1 ≤ c) : order_Right.f [(⟨c - 1, 0, false⟩ : S52)] c = some true := by
  unfold order_Right.f
  simp [keyWrong]
  omega
theorem order_bad (c : Int) : order_Right.f [(⟨c, 0, false⟩ : S52)] c = some false := by
  unfold order_Right.f
  simp [keyWrong]
theorem e_list : (⟨#[]⟩ : ByteArray).toList = [] := by decide +kernel
theorem t_list : (⟨#[116]⟩ : ByteArray).toList = [116] := by decide +kernel
theorem sh_lim (p : S31) : shapedB (limS ⟨#[]⟩ p) = true := by unfold shapedB; simp [limS, hasL, badL, kidsN, predNZ, joinNZ, limNZ, z24, e_list, wrap64]
theorem sh_limT (p : S31) : shapedB (limS ⟨#[116]⟩ p) = false := by unfold shapedB; simp [limS, hasL, badL, kidsN, predNZ, joinNZ, limNZ, z24, t_list]
theorem sh_prj (xs : List S50) (p : S31) : shapedB (projS xs p) = true := by unfold shapedB; simp [projS, hasL, badL, kidsN, predNZ, joinNZ, limNZ, z24, e_list, wrap64]
theorem sh_ord (c : Int) (p : S31) : shapedB (ordS c p) = true := by unfold shapedB; simp [ordS, hasL, badL, kidsN, predNZ, joinNZ, limNZ, z24, e_list, wrap64]
theorem own_ord (k : Nat) (a : Int) (p : S31) (c : Int) (l : List S46) : ownP k (ordS a p) [c] l = (order_Right.f [(⟨a, 0, false⟩ : S52)] c).bind fun b => plan_when.f b c := rfl
theorem PlanWidth : hopperlaw25_PlanWidth.Pure := by
  intro a0_0 a0_1 a0_2 a0_3 a0_4 a0_5 a0_6 l0_7 l0_8 l0_9 l0_10 a0_11 l0_12 l0_13 l0_14 a0_15 a0_16 l0_17 l1 n _ _ _ _ _ _ _ _ _ _ _ _ _ _ _ _ _ _ hl1 hn
  have hn2 : 0 ≤ n ∧ n ≤ 255 := byte_wf hn
  clear hn
  refine Ev.rounds ?_
  unfold hopperlaw25_PlanWidth.f lawWidthP
  refine Ev.bind awake_ev (Ev.pos rfl ?_)
  obtain ⟨b, hb, hs⟩ := small_ev31 21 ⟨a0_0, a0_1, ⟨a0_2, a0_3, a0_4, a0_5, a0_6, l0_7⟩, l0_8, l0_9, l0_10, a0_11, l0_12, l0_13, l0_14, a0_15, a0_16, l0_17⟩ 9 (by omega) (by omega) (by omega)
  refine Ev.bind hb ?_
  cases b with
  | false => exact Ev.neg (by decide) (Ev.val rfl)
  | true =>
  refine Ev.pos rfl ?_
  have hS : Sm31 10 _ := hs rfl
  generalize (⟨a0_0, a0_1, ⟨a0_2, a0_3, a0_4, a0_5, a0_6, l0_7⟩, l0_8, l0_9, l0_10, a0_11, l0_12, l0_13, l0_14, a0_15, a0_16, l0_17⟩ : S31) = p at hS hb
  obtain ⟨c, hc, hT⟩ := named_ev l1 (Nat.le_trans hl1.1 (by decide))
  refine Ev.bind hc ?_
  cases c with
  | false => exact Ev.neg (by decide) (Ev.val rfl)
  | true =>
  refine Ev.pos rfl ?_
  have hf := few_of _ _ hS
  obtain ⟨c, hr⟩ := cols_tot l1 _ hf 12
  refine Ev.bind hr ?_
  by_cases z : c = 0
  · exact Ev.pos z (Ev.val rfl)
  refine Ev.neg z ?_
  obtain ⟨d, hd, hdn, hD⟩ := deep_ev 10 p (deep_of _ _ hS) (by omega)
  refine Ev.bind hd ?_
  by_cases d9 : 9 < (d : Int)
  · exact Ev.pos d9 (Ev.val rfl)
  refine Ev.neg d9 ?_
  have hD9 : DeepM 9 p := hD.up (by omega)
  have h11 : Ev (fun k => colsP k p l1 11) c := by
    obtain ⟨K, hK⟩ := hr
    refine ⟨K, fun k hk => ?_⟩
    show colsP k p l1 11 = some c
    rw [cols_deeper l1 9 p hD9 11 12 (by omega) (by omega) (by omega) (by omega) k]
    exact hK k hk
  have hc8 : 0 ≤ c ∧ c ≤ 8 := by
    obtain ⟨K, hK⟩ := hr
    exact cols_range l1 (hT rfl) K _ p 12 c hS (hK K (Nat.le_refl _))
  have hkn : 1 ≤ kN n ∧ kN n ≤ 8 := by
    unfold kN wrap64
    have := Int.tmod_nonneg 8 hn2.1
    have := Int.tmod_lt_of_pos n (show (0 : Int) < 8 by decide)
    omega
  obtain ⟨m, hm⟩ : ∃ m : Nat, kN n = (m : Int) + 1 := ⟨(kN n - 1).toNat, by omega⟩
  obtain ⟨c', rfl⟩ : ∃ c' : Nat, c = (c' : Int) + 1 := ⟨(c - 1).toNat, by omega⟩
  have e1 : Ev (fun k => colsP k (limS ⟨#[]⟩ p) l1 12) ((c' : Int) + 1) := one_ev l1 (limS ⟨#[]⟩ p) p rfl (sh_lim p) h11 z (Ev.c (when_ok hc8.2))
  have e2 : Ev (fun k => colsP k (projS (xsL ((c' : Int) + 1) (m + 1)) p) l1 12) (kN n) := one_ev l1 (projS (xsL ((c' : Int) + 1) (m + 1)) p) p rfl (sh_prj _ p) h11 z (Ev.bind (exprs_ev c' m (by omega) (by omega)) (Ev.c (by
    have hlen : ((projS (xsL ((c' : Int) + 1) (m + 1)) p).f3.length : Int) = kN n := by
      show ((xsL ((c' : Int) + 1) (m + 1)).length : Int) = _
      rw [xsL_len, hm]; omega
    rw [hlen]
    exact when_ok hkn.2)))
  have e3 : Ev (fun k => colsP k (ordS ((c' : Int) + 1 - 1) p) l1 12) ((c' : Int) + 1) := one_ev l1 (ordS ((c' : Int) + 1 - 1) p) p rfl (sh_ord _ p) h11 z ⟨0, fun k _ => by show ownP k _ _ _ = _; rw [own_ord, order_ok _ (by omega)]; exact when_ok hc8.2⟩
  have e4 : Ev (fun k => colsP k (ordS ((c' : Int) + 1) p) l1 12) 0 := one_ev l1 (ordS ((c' : Int) + 1) p) p rfl (sh_ord _ p) h11 z ⟨0, fun k _ => by show ownP k _ _ _ = _; rw [own_ord, order_bad]; rfl⟩
  have e5 : Ev (fun k => colsP k (limS ⟨#[116]⟩ p) l1 12) 0 := Ev.step (fun k => colsP_at k (limS ⟨#[116]⟩ p) l1 12 (show 1 ≤ 1000000 by decide)) (Ev.neg (by decide) (Ev.neg (by rw [sh_limT]; decide) (Ev.val rfl)))
  have hmn : (kN n).toNat = m + 1 := by omega
  refine Ev.pos ⟨hn2.1, hn2.2, by omega, hc8.2⟩ ?_
  rw [hmn]
  exact Ev.bind e1 (Ev.bind e2 (Ev.bind e3 (Ev.bind e4 (Ev.bind e5 (Ev.pos ⟨rfl, rfl, rfl, rfl, rfl⟩ (Ev.val rfl))))))
end Go.Proofs.Ytomccmodlkdcbaa.Pure
