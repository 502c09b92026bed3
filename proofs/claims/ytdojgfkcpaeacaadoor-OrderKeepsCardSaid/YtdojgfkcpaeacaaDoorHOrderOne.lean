/- (Without the references.) How rows compare, as one plain function: by lists of numbers, key by key; it is an order. -/
import Derived.Test.YtdojgfkcpaeacaaDoorHCmpEv
import Derived.Test.YtdojgfkcpaeacaaDoorHOrderEv
import Derived.Test.YtdojgfkcpaeacaaDoorHSymMerge
set_option linter.unusedVariables false
set_option linter.unusedSimpArgs false
namespace Go.Proofs.YtdojgfkcpaeacaaDoor.Pure
open Go.RowKit Go.Proofs.YtdojgfkcpaeacaaDoor.Q Go.Proofs.YtdojgfkcpaeacaaDoorW.PrintWords Go.Proofs.YtdojgfkcpaeacaaDoorW.PrintLast Go.Proofs.YtdojgfkcpaeacaaDoorW.PrintMore
open TextPure (nth nth_lt dec point enc nums Pts cut cmpZ cmpZ_turn cmpZ_zero cmpZ_trans)
noncomputable def kx (c : Int) (v : S36) : List Int := if v.f0 = true then [0] else 1 :: (if c = 1 then nums (fold v.f1).data.toList else if c = 2 then Classical.choose (pts v.f1) else nums v.f1.data.toList)
theorem kx_null (c : Int) {v : S36} (h : v.f0 = true) : kx c v = [0] := by unfold kx; rw [if_pos h]
theorem kx_fold {v : S36} (h : ¬ v.f0 = true) : kx 1 v = 1 :: nums (fold v.f1).data.toList := by unfold kx; rw [if_neg h, if_pos rfl]
theorem kx_points {v : S36} (h : ¬ v.f0 = true) : ∃ ps, Pts v.f1.data.toList ps ∧ kx 2 v = 1 :: ps := by unfold kx; rw [if_neg h, if_neg (by decide), if_pos rfl]; exact ⟨_, Classical.choose_spec (pts v.f1), rfl⟩
theorem kx_bytes {c : Int} {v : S36} (h : ¬ v.f0 = true) (h1 : ¬ c = 1) (h2 : ¬ c = 2) : kx c v = 1 :: nums v.f1.data.toList := by unfold kx; rw [if_neg h, if_neg h1, if_neg h2]
noncomputable def valZ (c : Int) (x y : S36) : Int := cmpZ (kx c x) (kx c y)
theorem cmpZ_one (a b : List Int) : cmpZ (1 :: a) (1 :: b) = cmpZ a b := by
  conv => lhs; unfold cmpZ
  rw [if_neg (by decide), if_neg (by decide)]
theorem valZ_null (c : Int) {x y : S36} (h : x.f0 = true ∨ y.f0 = true) : valZ c x y = if (if x.f0 = true then (0 : Int) else 1) < (if y.f0 = true then (0 : Int) else 1) then -1 else if (if x.f0 = true then (0 : Int) else 1) > (if y.f0 = true then (0 : Int) else 1) then 1 else 0 := by
  unfold valZ
  by_cases hx : x.f0 = true
  · by_cases hy : y.f0 = true
    · rw [kx_null c hx, kx_null c hy, if_pos hx, if_pos hy]; rfl
    · rw [kx_null c hx, if_pos hx, if_neg hy]
      unfold kx
      rw [if_neg hy]
      simp [cmpZ]
  · have hy := h.resolve_left hx
    rw [kx_null c hy, if_pos hy, if_neg hx]
    unfold kx
    rw [if_neg hx]
    simp [cmpZ]
/-- Two values compared alike by whatever compares strings alike. -/
theorem valZ_ev (c : Int) (x y : S36) (hx : ¬ x.f0 = true) (hy : ¬ y.f0 = true) : (c = 1 → valZ c x y = cmpZ (nums (fold x.f1).data.toList) (nums (fold y.f1).data.toList)) ∧ (c = 2 → ∃ ps qs, Pts x.f1.data.toList ps ∧ Pts y.f1.data.toList qs ∧ valZ c x y = cmpZ ps qs) ∧ (¬ c = 1 → ¬ c = 2 → valZ c x y = cmpZ (nums x.f1.data.toList) (nums y.f1.data.toList)) := by
  refine ⟨fun h => ?_, fun h => ?_, fun h1 h2 => ?_⟩
  · subst h; unfold valZ; rw [kx_fold hx, kx_fold hy, cmpZ_one]
  · subst h
    obtain ⟨ps, hp, e1⟩ := kx_points hx
    obtain ⟨qs, hq, e2⟩ := kx_points hy
    exact ⟨ps, qs, hp, hq, by unfold valZ; rw [e1, e2, cmpZ_one]⟩
  · unfold valZ; rw [kx_bytes hx h1 h2, kx_bytes hy h1 h2, cmpZ_one]
theorem valZ_turn (c : Int) (x y : S36) : valZ c y x = - valZ c x y := cmpZ_turn _ _
theorem valZ_vals (c : Int) (x y : S36) : valZ c x y = -1 ∨ valZ c x y = 0 ∨ valZ c x y = 1 := cmpZ_vals _ _
theorem rank_f (b : Bool) (s : ByteArray) : order_rank.f b s = some (if b = true then 0 else 1) := by unfold order_rank.f; split <;> rfl
theorem vj0_null (c : Int) (x y : S36) : Ev (fun k => order_values.j0 k c true x.f0 x.f1 y.f0 y.f1) (if (if x.f0 = true then (0 : Int) else 1) < (if y.f0 = true then (0 : Int) else 1) then -1 else if (if x.f0 = true then (0 : Int) else 1) > (if y.f0 = true then (0 : Int) else 1) then 1 else 0) := by
  refine Ev.step (fun k => by rw [order_values.j0]) ?_
  refine Ev.pos rfl ?_
  refine Ev.bind (Ev.c (rank_f _ _)) ?_
  refine Ev.bind (Ev.c (rank_f _ _)) ?_
  refine Ev.bind (Ev.c (cmpi_f _ _)) ?_
  exact Ev.val rfl
theorem values_z (x y : S36) (c : Int) (hx : x.f1.size ≤ 1000) (hy : y.f1.size ≤ 1000) : Ev (fun k => order_values.f k x.f0 x.f1 y.f0 y.f1 c) (valZ c x y) := by
  by_cases hn : x.f0 = true ∨ y.f0 = true
  · rw [valZ_null c hn]
    unfold order_values.f
    by_cases h : x.f0 = true
    · exact Ev.pos h (vj0_null c x y)
    · refine Ev.neg h ?_
      have h2 : y.f0 = true := hn.resolve_left h
      have := vj0_null c x y
      rw [h2] at this ⊢
      exact this
  · have h1 : ¬ x.f0 = true := fun h => hn (.inl h)
    have h2 : ¬ y.f0 = true := fun h => hn (.inr h)
    obtain ⟨k1, k2, k3⟩ := valZ_ev c x y h1 h2
    unfold order_values.f
    refine Ev.neg h1 ?_
    have e2 : y.f0 = false := by simpa using h2
    rw [e2]
    refine Ev.step (fun k => by rw [order_values.j0]) ?_
    refine Ev.neg (by simp) ?_
    by_cases c1 : c = 1
    · rw [k1 c1]
      exact Ev.pos c1 (Ev.bind (Ev.c (byfold_f _ _ (by omega) (by omega))) (Ev.val rfl))
    refine Ev.neg c1 ?_
    by_cases c2 : c = 2
    · obtain ⟨ps, qs, hp, hq, e⟩ := k2 c2
      rw [e]
      exact Ev.pos c2 (Ev.bind (bypoints_ev hp hq (by omega) (by omega)) (Ev.val rfl))
    · rw [k3 c1 c2]
      exact Ev.neg c2 (Ev.bind (Ev.c (cmps_f _ _)) (Ev.val rfl))
/-- How two rows compare. -/
noncomputable def keyZ (key : S39) (a b : List S36) : Int := if key.f2 = true then - valZ key.f1 (a.getD key.f0.toNat ⟨false, ByteArray.empty⟩) (b.getD key.f0.toNat ⟨false, ByteArray.empty⟩) else valZ key.f1 (a.getD key.f0.toNat ⟨false, ByteArray.empty⟩) (b.getD key.f0.toNat ⟨false, ByteArray.empty⟩)
noncomputable def cmpK : List S39 → List S36 → List S36 → Int
  | [], _, _ => 0
  | key :: keys, a, b => if keyZ key a b = 0 then cmpK keys a b else keyZ key a b
theorem keyZ_turn (key : S39) (a b : List S36) : keyZ key b a = - keyZ key a b := by
  unfold keyZ
  rw [valZ_turn key.f1 (a.getD key.f0.toNat _)]
  split <;> omega
theorem keyZ_trans (key : S39) (a b c : List S36) (h1 : keyZ key a b ≤ 0) (h2 : keyZ key b c ≤ 0) : keyZ key a c ≤ 0 := by
  unfold keyZ at h1 h2 ⊢
  unfold valZ at h1 h2 ⊢
  by_cases d : key.f2 = true
  · rw [if_pos d] at h1 h2 ⊢
    rw [← cmpZ_turn] at h1 h2 ⊢
    exact cmpZ_trans _ _ _ h2 h1
  · rw [if_neg d] at h1 h2 ⊢
    exact cmpZ_trans _ _ _ h1 h2
theorem cmpK_turn : ∀ (keys : List S39) (a b : List S36), cmpK keys b a = - cmpK keys a b
  | [], _, _ => rfl
  | key :: keys, a, b => by
    unfold cmpK
    rw [keyZ_turn key a b, cmpK_turn keys a b]
    split <;> split <;> omega
theorem cmpK_trans : ∀ (keys : List S39) (a b c : List S36), cmpK keys a b ≤ 0 → cmpK keys b c ≤ 0 → cmpK keys a c ≤ 0
  | [], _, _, _, _, _ => Int.le_refl _
  | key :: keys, a, b, c, h1, h2 => by
    unfold cmpK at h1 h2 ⊢
    have ih := cmpK_trans keys a b c
    have t1 := keyZ_trans key a b c
    have t2 := keyZ_trans key c a b
    have t3 := keyZ_trans key b c a
    have t4 := keyZ_trans key c b a
    have u1 := keyZ_turn key a b
    have u2 := keyZ_turn key b c
    have u3 := keyZ_turn key a c
    by_cases z1 : keyZ key a b = 0
    · rw [if_pos z1] at h1
      by_cases z2 : keyZ key b c = 0
      · rw [if_pos z2] at h2
        rw [if_pos (by omega)]
        exact ih h1 h2
      · rw [if_neg z2] at h2
        split <;> omega
    · rw [if_neg z1] at h1
      by_cases z2 : keyZ key b c = 0
      · rw [if_neg (by omega)]
        omega
      · rw [if_neg z2] at h2
        rw [if_neg (by omega)]
        omega
def Fit (keys : List S39) (n : Nat) : Prop := keys.length ≤ 8 ∧ ∀ x ∈ keys, 0 ≤ x.f0 ∧ x.f0 < (n : Int)
theorem cmpK_step (key : S39) (keys : List S39) (a b : List S36) : cmpK (key :: keys) a b = if keyZ key a b = 0 then cmpK keys a b else keyZ key a b := rfl
theorem valZ_w (c : Int) (x y : S36) : wrap64 (- valZ c x y) = - valZ c x y := by have := valZ_vals c x y; exact w64 (by omega) (by omega)
theorem compare_z (a b : List S36) (keys : List S39) (hK : Fit keys a.length) (he : a.length = b.length) (ha : ∀ v ∈ a, v.f1.size ≤ 1000) (hb : ∀ v ∈ b, v.f1.size ≤ 1000) : Ev (fun k => order_Compare.f k a b keys) (cmpK keys a b) := by
  have loop : ∀ (n i : Nat), keys.length - i = n → i ≤ keys.length → Ev (fun k => order_Compare.l0 k a b keys (keys.length : Int) (i : Int)) (cmpK (keys.drop i) a b) := by
    intro n
    induction n with
    | zero =>
      intro i hi hil
      rw [List.drop_of_length_le (by omega)]
      refine Ev.step (fun k => by rw [order_Compare.l0]) ?_
      refine Ev.neg (by omega) ?_
      exact Ev.val rfl
    | succ n ih =>
      intro i hi hil
      have hlt : i < keys.length := by omega
      have next := ih (i + 1) (by omega) (by omega)
      have hk8 := hK.1
      rw [← w64s hlt (by omega)] at next
      rw [drop_at keys i hlt, cmpK_step]
      obtain ⟨c0, c1⟩ := hK.2 _ (List.getElem_mem hlt)
      obtain ⟨m, hm⟩ : ∃ m : Nat, keys[i].f0 = (m : Int) := ⟨keys[i].f0.toNat, by omega⟩
      have hma : m < a.length := by omega
      have hmb : m < b.length := by omega
      have kz : keyZ keys[i] a b = if keys[i].f2 = true then - valZ keys[i].f1 a[m] b[m] else valZ keys[i].f1 a[m] b[m] := by
        unfold keyZ
        rw [hm, Int.toNat_natCast, List.getD_eq_getElem?_getD, List.getD_eq_getElem?_getD, List.getElem?_eq_getElem hma, List.getElem?_eq_getElem hmb]; rfl
      rw [kz]
      refine Ev.step (fun k => by rw [order_Compare.l0]) ?_
      rw [rd39 keys i hlt, hm, rd36 a m hma, rd36 b m hmb]
      refine Ev.pos (by omega) (Ev.pos (by omega) (Ev.pos (by omega) (Ev.pos (by omega) (Ev.pos (by omega) (Ev.pos (by omega) ?_)))))
      refine Ev.bind (values_z a[m] b[m] keys[i].f1 (ha _ (List.getElem_mem hma)) (hb _ (List.getElem_mem hmb))) ?_
      rw [valZ_w]
      by_cases cd : keys[i].f2 = true
      · rw [if_pos cd]
        refine Ev.pos cd ?_
        by_cases cz : - valZ keys[i].f1 a[m] b[m] = 0
        · rw [if_pos cz]; exact Ev.pos cz next
        · rw [if_neg cz]; exact Ev.neg cz (Ev.val rfl)
      · rw [if_neg cd]
        refine Ev.neg cd ?_
        by_cases cz : valZ keys[i].f1 a[m] b[m] = 0
        · rw [if_pos cz]; exact Ev.pos cz next
        · rw [if_neg cz]; exact Ev.neg cz (Ev.val rfl)
  exact loop _ 0 rfl (Nat.zero_le _)
/-- What rows must be to be compared. -/
structure Rowsy (l : List (List S36)) (keys : List S39) (a : Int) : Prop where
  small : Small l a
  fit : keys.length ≤ 8 ∧ ∀ x ∈ keys, 0 ≤ x.f0 ∧ x.f0 < a
theorem Rowsy.at_ {l : List (List S36)} {keys : List S39} {a : Int} (h : Rowsy l keys a) (i : Nat) (hi : i < l.length) : Fit keys (l.getD i []).length ∧ ((l.getD i []).length : Int) = a ∧ ∀ v ∈ l.getD i [], v.f1.size ≤ 1000 := by
  rw [List.getD_eq_getElem?_getD, List.getElem?_eq_getElem hi]
  obtain ⟨h1, h2⟩ := h.small.row _ (List.getElem_mem hi)
  exact ⟨⟨h.fit.1, fun x hx => ⟨(h.fit.2 x hx).1, by have := (h.fit.2 x hx).2; show x.f0 < (l[i].length : Int); omega⟩⟩, h1, fun v hv => by have := (h2 v hv).1; omega⟩
theorem Rowsy.cmp {l : List (List S36)} {keys : List S39} {a : Int} (h : Rowsy l keys a) (i j : Nat) (hi : i < l.length) (hj : j < l.length) : Ev (fun k => order_Compare.f k (l.getD i []) (l.getD j []) keys) (cmpK keys (l.getD i []) (l.getD j [])) ∧ True := by
  obtain ⟨f1, e1, s1⟩ := h.at_ i hi
  obtain ⟨f2, e2, s2⟩ := h.at_ j hj
  exact ⟨compare_z _ _ _ f1 (by omega) s1 s2, trivial⟩
noncomputable def cfZ (l : List (List S36)) (keys : List S39) (i j : Nat) : Int := if i < l.length ∧ j < l.length then cmpK keys (l.getD i []) (l.getD j []) else 0
theorem weak (l : List (List S36)) (keys : List S39) : WeakTo (ltOf (cfZ l keys)) l.length := by
  have e : ∀ x y, x < l.length → y < l.length → cfZ l keys x y = cmpK keys (l.getD x []) (l.getD y []) := fun x y hx hy => if_pos ⟨hx, hy⟩
  refine ⟨fun x hx => ?_, fun x y z hx hy hz h1 h2 => ?_, fun x y z hx hy hz h1 h2 => ?_⟩
  · unfold ltOf
    rw [e x x hx hx]
    have := cmpK_turn keys (l.getD x []) (l.getD x [])
    exact decide_eq_false (by omega)
  · unfold ltOf at *
    rw [e x y hx hy] at h1; rw [e y z hy hz] at h2; rw [e x z hx hz]
    have h1 := of_decide_eq_true h1
    have h2 := of_decide_eq_true h2
    have t1 := cmpK_turn keys (l.getD x []) (l.getD z [])
    have t2 := cmpK_turn keys (l.getD x []) (l.getD y [])
    have t3 := cmpK_trans keys (l.getD y []) (l.getD z []) (l.getD x [])
    exact decide_eq_true (by omega)
  · unfold ltOf at *
    rw [e x y hx hy] at h1; rw [e y z hy hz] at h2; rw [e x z hx hz]
    have h1 := of_decide_eq_false h1
    have h2 := of_decide_eq_false h2
    have t1 := cmpK_turn keys (l.getD x []) (l.getD z [])
    have t2 := cmpK_turn keys (l.getD x []) (l.getD y [])
    have t4 := cmpK_turn keys (l.getD y []) (l.getD z [])
    have t3 := cmpK_trans keys (l.getD z []) (l.getD y []) (l.getD x [])
    exact decide_eq_false (by omega)
/-- Of each two at once. -/
theorem Ev.all {α : Type} {n : Nat} {g : Nat → Nat → Option α} {r : Nat → α} (h : ∀ i, i < n → Ev (g i) (r i)) : ∃ K, ∀ k, K ≤ k → ∀ i, i < n → g i k = some (r i) := by
  induction n with
  | zero => exact ⟨0, fun _ _ i hi => by omega⟩
  | succ n ih =>
    obtain ⟨K, hK⟩ := ih (fun i hi => h i (by omega))
    obtain ⟨K2, h2⟩ := h n (by omega)
    refine ⟨max K K2, fun k hk i hi => ?_⟩
    by_cases e : i = n
    · subst e; exact h2 k (Nat.le_trans (Nat.le_max_right _ _) hk)
    · exact hK k (Nat.le_trans (Nat.le_max_left _ _) hk) i (by omega)
/-- The places in order. -/
noncomputable def inOrder (l : List (List S36)) (keys : List S39) : List Nat := (List.range l.length).mergeSort (fun x y => !byPlace (ltOf (cfZ l keys)) l.length y x)
theorem rows_z {l : List (List S36)} {keys : List S39} {a : Int} (h : Rowsy l keys a) : Ev (fun k => order_Rows.f k l keys) ((inOrder l keys).map fun i => l.getD i []) := by
  have hs := h.small
  have ha := hs.a8
  have hcop := copied_ev l (by have := hs.len; omega) (fun r hr => by have := (hs.row r hr).1; omega)
  obtain ⟨K0, h0⟩ := hcop
  have hrow : ∀ i, i < l.length → ∃ K, ∀ k, K ≤ k → ∀ j, j < l.length → order_Compare.f k (l.getD i []) (l.getD j []) keys = some (cmpK keys (l.getD i []) (l.getD j [])) := fun i hi => Ev.all (g := fun j k => order_Compare.f k (l.getD i []) (l.getD j []) keys) (fun j hj => (h.cmp i j hi hj).1)
  have hall : ∃ K, ∀ k, K ≤ k → ∀ i, i < l.length → ∀ j, j < l.length → order_Compare.f k (l.getD i []) (l.getD j []) keys = some (cmpK keys (l.getD i []) (l.getD j [])) := by
    have key : ∀ n, n ≤ l.length → ∃ K, ∀ k, K ≤ k → ∀ i, i < n → ∀ j, j < l.length → order_Compare.f k (l.getD i []) (l.getD j []) keys = some (cmpK keys (l.getD i []) (l.getD j [])) := by
      intro n
      induction n with
      | zero => intro _; exact ⟨0, fun _ _ i hi => by omega⟩
      | succ n ih =>
        intro hn
        obtain ⟨K, hK⟩ := ih (by omega)
        obtain ⟨K2, h2⟩ := hrow n (by omega)
        refine ⟨max K K2, fun k hk i hi => ?_⟩
        by_cases e : i = n
        · subst e; exact h2 k (Nat.le_trans (Nat.le_max_right _ _) hk)
        · exact hK k (Nat.le_trans (Nat.le_max_left _ _) hk) i (by omega)
    exact key _ (Nat.le_refl _)
  obtain ⟨K1, hall⟩ := hall
  refine ⟨max K0 K1, fun k hk => ?_⟩
  have hk0 : order_copied.f k l = some l := h0 k (Nat.le_trans (Nat.le_max_left _ _) hk)
  have hk1 := hall k (Nat.le_trans (Nat.le_max_right _ _) hk)
  have hcf : order_Rows.cf k l keys = cfZ l keys := by
    funext i j
    unfold order_Rows.cf cfZ
    by_cases c : i < l.length ∧ j < l.length
    · rw [if_pos c, if_pos c, hk1 i c.1 j c.2]; rfl
    · rw [if_neg c, if_neg c]
  have hok : order_Rows.ok k l keys = true := by
    unfold order_Rows.ok
    rw [Bool.and_eq_true, List.all_eq_true]
    refine ⟨decide_eq_true (by have := hs.len; omega), fun i hi => ?_⟩
    rw [List.all_eq_true]
    intro j hj
    rw [hk1 i (List.mem_range.1 hi) j (List.mem_range.1 hj)]
    rfl
  show order_Rows.f k l keys = _
  unfold order_Rows.f
  rw [hk0]
  simp only [Option.bind_some]
  rw [if_pos hok]
  unfold order_Rows.idx
  rw [hcf, stableP_eq (weak l keys)]
  rfl
end Go.Proofs.YtdojgfkcpaeacaaDoor.Pure
