/- The stable sort of slices over rows: insertionSort, stable, SortStableFunc: what their walks come to. -/
import Derived.Test.YtdojgfkcpaeacaaDoorHSymWalk
set_option linter.unusedVariables false
set_option linter.unusedSimpArgs false
namespace Go.Proofs.YtdojgfkcpaeacaaDoorW.PrintWords
open Go.RowKit Go.Sort
theorem cutP_bounds {α : Type} [Inhabited α] (lt : α → α → Bool) (a m b : Nat) (d : Array α) (h1 : a < m) (h2 : m < b) : a ≤ cutP lt a m b d ∧ cutP lt a m b d ≤ m ∧ cutP lt a m b d ≤ (a + b) / 2 ∧ (a + b) / 2 + m - cutP lt a m b d ≤ b := by
  unfold cutP
  by_cases c : (a + b) / 2 < m
  · rw [if_pos c, if_pos c]
    have := bsP_at (fun c => !lt d[(a + b) / 2 + m - 1 - c]! d[c]!) ((a + b) / 2 + m - b) ((a + b) / 2) (by omega)
    omega
  · rw [if_neg c, if_neg c]
    have := bsP_at (fun c => !lt d[(a + b) / 2 + m - 1 - c]! d[c]!) a m (by omega)
    omega
section
variable {α : Type} [Inhabited α] (enc : α → Value) (hE : ∀ x, ∃ A n c, enc x = .slice A n c) (cf : α → α → Int) (bx : Value) (w1 : World) (g cap : Nat) (d0 : Array α) (hg : g < w1.heap.size) (hcmp : CmpAt enc cf bx w1 g d0)
include hE hg hcmp
theorem sym_walk : ∀ (n a m b : Nat) (d : Array α) (w : World), b - a ≤ n → St enc w1 g d0 w d → a < m → m < b → b ≤ d.size → d.size < 1000000000 →
    Calls Tryd.prog 47 #[.slice (some ⟨g, 0, none⟩) d.size cap, .int .i64 a, .int .i64 m, .int .i64 b, .func (.func 25) #[] #[bx]] w fun e w' =>
      e = .returned (.tuple #[]) ∧ St enc w1 g d0 w' (symP (ltOf cf) a m b d) := by
  intro n
  induction n with
  | zero => intro a m b d w h0 _ h1 h2; omega
  | succ n ih =>
    intro a m b d w h0 hst h1 h2 hb hsz
    by_cases c1 : m - a = 1
    · have := sym_one enc hE cf bx w1 g cap d0 hg hcmp a m b d w hst (by omega) h2 hb hsz
      rw [symP, if_pos c1]
      exact this
    by_cases c2 : b - m = 1
    · have := sym_last enc hE cf bx w1 g cap d0 hg hcmp a m b d w hst (by omega) (by omega) hb hsz
      rw [symP, if_neg c1, if_pos c2]
      exact this
    refine sym_big enc hE cf bx w1 g cap d0 hg hcmp a m b d w hst (by omega) (by omega) hb hsz (cutP_bounds _ _ _ _ _ h1 h2) (fun a' m' b' dk W hlt hS hk h1' h2' hb' => ?_)
    have := ih a' m' b' dk W (by omega) hS h1' h2' (by omega) (by omega)
    rw [hk] at this
    exact this.mono fun e w' h => ⟨h.1, h.2, h.2.size.trans hst.size.symm⟩
set_option maxHeartbeats 8000000 in
set_option maxRecDepth 1000000 in
theorem stable_walk (d : Array α) (w : World) (hst : St enc w1 g d0 w d) (hsz : d.size < 1000000000)
    (hins : ∀ (a b : Nat) (dk : Array α) (W : World), St enc w1 g d0 W dk → dk.size = d.size → a ≤ b → b ≤ d.size → Calls Tryd.prog 46 #[.slice (some ⟨g, 0, none⟩) d.size cap, .int .i64 a, .int .i64 b, .func (.func 25) #[] #[bx]] W fun e w' =>
      e = .returned (.tuple #[]) ∧ St enc w1 g d0 w' (insertionSort (ltOf cf) dk a b)) :
    Calls Tryd.prog 37 #[.slice (some ⟨g, 0, none⟩) d.size cap, .int .i64 d.size, .func (.func 25) #[] #[bx]] w fun e w' =>
      e = .returned (.tuple #[]) ∧ St enc w1 g d0 w' (stableP (ltOf cf) d.size d) := by
  have hsym : ∀ (a m b : Nat) (dk : Array α) (W : World), St enc w1 g d0 W dk → dk.size = d.size → a < m → m < b → b ≤ d.size → Calls Tryd.prog 47 #[.slice (some ⟨g, 0, none⟩) d.size cap, .int .i64 a, .int .i64 m, .int .i64 b, .func (.func 25) #[] #[bx]] W fun e w' =>
      e = .returned (.tuple #[]) ∧ St enc w1 g d0 w' (symP (ltOf cf) a m b dk) := fun a m b dk W hS hk h1 h2 hb => by
    have := sym_walk enc hE cf bx w1 g cap d0 hg hcmp _ a m b dk W (Nat.le_refl _) hS h1 h2 (by omega) (by omega)
    rw [hk] at this
    exact this
  have HSZ : Aside0 (∀ W dk, St enc w1 g d0 W dk → dk.size = d.size) := ⟨fun W dk h => h.size.trans hst.size.symm⟩
  have HI := Aside0.mk hins
  have HY := Aside0.mk hsym
  have HST := Aside0.mk hst
  clear hins hsym hst hcmp hE
  obtain ⟨n, hn⟩ : ∃ n, d.size = n := ⟨_, rfl⟩
  rw [hn] at HI HY HSZ hsz ⊢
  obtain ⟨X, hX⟩ : ∃ X, insBlocks (ltOf cf) n 0 d = X := ⟨_, rfl⟩
  have hfin : stableP (ltOf cf) n d = symAll (ltOf cf) n 20 X := by unfold stableP; rw [hX]
  rw [hfin]
  have HX := Aside0.mk hX
  clear hX hfin hn
  go_enter Tryd.func37, Tryd.ntmps37
  go_wp2
  go_loopg [7, 8] n (fun gg v7 v8 wr => ∃ (a c : Nat) (dk : Array α), v7 = .int .i64 a ∧ v8 = .int .i64 c ∧ a + 20 = c ∧ a ≤ n ∧ n - a ≤ gg ∧ Aside0 (St enc w1 g d0 wr dk) ∧ Aside0 (insBlocks (ltOf cf) n a dk = X))
  case atStart => exact ⟨0, 20, d, rfl, rfl, rfl, Nat.zero_le _, by omega, HST, HX⟩
  case round =>
    clear HST HX
    obtain ⟨a, c, dk, rfl, rfl, hac, han, hgg, HS, HO⟩ := hrel
    have hk := HSZ.out _ _ HS.out
    by_cases hc : c ≤ n
    · have hcz : (c : Int) ≤ (n : Int) := by omega
      have HC := Aside0.mk (HI.out a c dk wr HS.out hk (by omega) hc)
      have wc : IntKind.i64.wrap ((c : Int) + 20) = ((c + 20 : Nat) : Int) := by rw [IntKind.wrap_i64]; omega
      have HO2 := HO.out
      rw [insBlocks, dif_pos (by omega : a + 20 ≤ n), hac] at HO2
      have HO3 := Aside0.mk HO2
      clear HO HO2 hk
      go_wp2_with (go_at_call 46; refine HC.out.mono ?_; clear HS; rintro e_ w' ⟨rfl, hS2⟩; have HS := Aside0.mk hS2; clear hS2)
      go_roundg (n - c)
      case measure => omega
      case rel => exact ⟨c, c + 20, _, rfl, by first | rfl | go_num, rfl, hc, Nat.le_refl _, HS, HO3⟩
    · have hcz : ¬ (c : Int) ≤ (n : Int) := by omega
      have HC := Aside0.mk (HI.out a n dk wr HS.out hk han (Nat.le_refl _))
      have HO2 := HO.out
      rw [insBlocks, dif_neg (by omega : ¬ a + 20 ≤ n)] at HO2
      have HO3 := Aside0.mk HO2
      clear HO HO2 hk
      go_wp2_with (go_at_call 46; refine HC.out.mono ?_; clear HS; rintro e_ w' ⟨rfl, hS2⟩; have HS : Aside0 (St enc w1 g d0 w' X) := ⟨by rw [HO3.out] at hS2; exact hS2⟩; clear hS2)
      clear HO3 HC hac han hgg hc hcz
      go_loopg [6] (n + 40) (fun gg v6 wr => ∃ (s : Nat) (dk : Array α), v6 = .int .i64 s ∧ 0 < s ∧ s ≤ 2 * n + 40 ∧ n + 40 - s ≤ gg ∧ Aside0 (St enc w1 g d0 wr dk) ∧ Aside0 (symAll (ltOf cf) n s dk = symAll (ltOf cf) n 20 X))
      case atStart => exact ⟨20, X, rfl, by omega, by omega, by omega, HS, ⟨rfl⟩⟩
      case round =>
        clear HS
        obtain ⟨s, dk, rfl, hs0, hsn, hgg, HS, HO⟩ := hrel
        by_cases hlt : s < n
        · have hltz : (s : Int) < (n : Int) := by omega
          obtain ⟨t, ht⟩ : ∃ t, 2 * s = t := ⟨_, rfl⟩
          have w2s : IntKind.i64.wrap (2 * (s : Int)) = (t : Int) := by rw [IntKind.wrap_i64]; omega
          have ws2 : IntKind.i64.wrap ((s : Int) * 2) = (t : Int) := by rw [IntKind.wrap_i64]; omega
          have HO2 := HO.out
          rw [symAll, dif_pos ⟨hs0, hlt⟩, ht] at HO2
          obtain ⟨Y, hY⟩ : ∃ Y, symLevel (ltOf cf) s n 0 dk = Y := ⟨_, rfl⟩
          rw [hY] at HO2
          have HO3 := Aside0.mk HO2
          have HYY := Aside0.mk hY
          have HT := Aside0.mk ht
          clear HO HO2 hY
          go_wp2
          go_loopg [7, 8] n (fun gg v7 v8 wr => ∃ (a c : Nat) (de : Array α), v7 = .int .i64 a ∧ v8 = .int .i64 c ∧ a + t = c ∧ a ≤ n ∧ n - a ≤ gg ∧ Aside0 (St enc w1 g d0 wr de) ∧ Aside0 (symLevel (ltOf cf) s n a de = Y))
          case atStart => exact ⟨0, t, dk, rfl, by first | rfl | go_num, by omega, Nat.zero_le _, by omega, HS, HYY⟩
          case round =>
            clear HS HYY
            obtain ⟨a, c, de, rfl, rfl, hac, han, hgg2, HS, HO⟩ := hrel
            have hk := HSZ.out _ _ HS.out
            obtain ⟨m, hm⟩ : ∃ m, a + s = m := ⟨_, rfl⟩
            have wam : IntKind.i64.wrap ((a : Int) + (s : Int)) = (m : Int) := by rw [IntKind.wrap_i64]; omega
            have ht := HT.out
            by_cases hc : c ≤ n
            · have hcz : (c : Int) ≤ (n : Int) := by omega
              have HC := Aside0.mk (HY.out a m c de wr HS.out hk (by omega) (by omega) hc)
              obtain ⟨c2, hc2⟩ : ∃ c2, c + t = c2 := ⟨_, rfl⟩
              have wc : IntKind.i64.wrap ((c : Int) + (t : Int)) = (c2 : Int) := by rw [IntKind.wrap_i64]; omega
              have HO2 := HO.out
              rw [symLevel, dif_pos (by omega : 0 < s ∧ a + 2 * s ≤ n), ht, hac, hm] at HO2
              have HO4 := Aside0.mk HO2
              have HC2 := Aside0.mk hc2
              clear HO HO2 hk hc2 ht
              go_wp2_with (go_at_call 47; refine HC.out.mono ?_; clear HS; rintro e_ w' ⟨rfl, hS2⟩; have HS := Aside0.mk hS2; clear hS2)
              go_roundg (n - c)
              case measure => have ht := HT.out; omega
              case rel => exact ⟨c, c2, _, rfl, by first | rfl | go_num, HC2.out, hc, Nat.le_refl _, HS, HO4⟩
            · have hcz : ¬ (c : Int) ≤ (n : Int) := by omega
              have HO2 := HO.out
              rw [symLevel, dif_neg (by omega : ¬ (0 < s ∧ a + 2 * s ≤ n)), hm] at HO2
              by_cases hmn : m < n
              · have hmz : (m : Int) < (n : Int) := by omega
                have HC := Aside0.mk (HY.out a m n de wr HS.out hk (by omega) hmn (Nat.le_refl _))
                rw [if_pos hmn] at HO2
                have HO4 := Aside0.mk HO2
                clear HO HO2 hk ht
                go_wp2_with (go_at_call 47; refine HC.out.mono ?_; clear HS; rintro e_ w' ⟨rfl, hS2⟩; have HS : Aside0 (St enc w1 g d0 w' Y) := ⟨by rw [HO4.out] at hS2; exact hS2⟩; clear hS2)
                have ht := HT.out
                go_roundg (n + 40 - t)
                case measure => omega
                case rel => exact ⟨t, Y, by first | rfl | go_num, by omega, by omega, Nat.le_refl _, HS, HO3⟩
              · have hmz : ¬ (m : Int) < (n : Int) := by omega
                rw [if_neg hmn] at HO2
                subst HO2
                clear HO hk ht
                go_wp2
                have ht := HT.out
                go_roundg (n + 40 - t)
                case measure => omega
                case rel => exact ⟨t, de, by first | rfl | go_num, by omega, by omega, Nat.le_refl _, HS, HO3⟩
        · have hltz : ¬ (s : Int) < (n : Int) := by omega
          go_wp2
          go_end0
          refine ⟨rfl, ?_⟩
          have e := HO.out
          rw [symAll, dif_neg (by omega : ¬ (0 < s ∧ s < n))] at e
          rw [← e]
          exact HS.out
end
end Go.Proofs.YtdojgfkcpaeacaaDoorW.PrintWords
