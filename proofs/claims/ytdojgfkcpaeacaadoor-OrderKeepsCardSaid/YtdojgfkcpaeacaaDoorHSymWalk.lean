/- The stable sort of slices over rows: symMerge: what its walk comes to. -/
import Derived.Test.YtdojgfkcpaeacaaDoorHStableWalk
import Derived.Test.YtdojgfkcpaeacaaDoorHLater
set_option linter.unusedVariables false
set_option linter.unusedSimpArgs false
namespace Go.Proofs.YtdojgfkcpaeacaaDoorW.PrintWords
open Go.RowKit Go.Sort
/-- 'a is less than b', as the sort asks it. -/
def ltOf {α : Type} (cf : α → α → Int) (x y : α) : Bool := decide (cf x y < 0)
def CmpAt {α : Type} [Inhabited α] (enc : α → Value) (cf : α → α → Int) (bx : Value) (w1 : World) (g : Nat) (d0 : Array α) : Prop :=
  ∀ W d', St enc w1 g d0 W d' → ∀ i j, i < d'.size → j < d'.size → Calls Tryd.prog 25 #[enc d'[i]!, enc d'[j]!, bx] W fun e w' => e = .returned (.int .i64 (cf d'[i]! d'[j]!)) ∧ Below W.heap.size W w'
theorem bsP_go (p : Nat → Bool) {i j h : Nat} (hlt : i < j) (hh : (i + j) / 2 = h) : bsP p i j = if p h then bsP p (h + 1) j else bsP p i h := by
  rw [bsP, dif_pos hlt, hh]
theorem bsP_end (p : Nat → Bool) {i j : Nat} (hlt : ¬ i < j) : bsP p i j = i := by rw [bsP, dif_neg hlt]
set_option maxHeartbeats 8000000 in
set_option maxRecDepth 1000000 in
theorem sym_one {α : Type} [Inhabited α] (enc : α → Value) (hE : ∀ x, ∃ A n c, enc x = .slice A n c) (cf : α → α → Int) (bx : Value) (w1 : World) (g cap : Nat) (d0 : Array α) (hg : g < w1.heap.size) (hcmp : CmpAt enc cf bx w1 g d0)
    (a m b : Nat) (d : Array α) (w : World) (hst : St enc w1 g d0 w d) (h1 : a + 1 = m) (h2 : m < b) (hb : b ≤ d.size) (hsz : d.size < 1000000000) :
    Calls Tryd.prog 47 #[.slice (some ⟨g, 0, none⟩) d.size cap, .int .i64 a, .int .i64 m, .int .i64 b, .func (.func 25) #[] #[bx]] w fun e w' =>
      e = .returned (.tuple #[]) ∧ St enc w1 g d0 w' (mvU (bsP (fun h => ltOf cf d[h]! d[a]!) m b - 1 - a) a d) := by
  have mixed : Tryd.prog.follows .mixedOrders = true := by kernel_rfl
  have HC := Aside0.mk hcmp
  have HST := Aside0.mk hst
  have HE := Aside0.mk hE
  have H1 := Aside0.mk h1
  have wma : IntKind.i64.wrap ((m : Int) - (a : Int)) = 1 := by rw [IntKind.wrap_i64]; omega
  clear hst hE hcmp h1
  generalize hB : bsP (fun h => ltOf cf d[h]! d[a]!) m b = B
  have HB := Aside0.mk hB
  clear hB
  go_enter Tryd.func47, Tryd.ntmps47
  go_wp2
  go_loopg [10, 11] (b - m) (fun gg v10 v11 wr => ∃ (i j : Nat), v10 = .int .i64 i ∧ v11 = .int .i64 j ∧ m ≤ i ∧ i ≤ j ∧ j ≤ b ∧ j - i ≤ gg ∧ Aside0 (St enc w1 g d0 wr d) ∧ Aside0 (bsP (fun h => ltOf cf d[h]! d[a]!) i j = B))
  case atStart => exact ⟨m, b, rfl, rfl, Nat.le_refl _, by omega, Nat.le_refl _, Nat.le_refl _, HST, HB⟩
  case round =>
    clear HST HB wma
    obtain ⟨i, j, rfl, rfl, hmi, hij, hjb, hgg, HS, HO⟩ := hrel
    by_cases hlt : i < j
    · have hltz : (i : Int) < (j : Int) := by omega
      obtain ⟨h, hh⟩ : ∃ h, (i + j) / 2 = h := ⟨_, rfl⟩
      have HH := Aside0.mk hh
      have wij : IntKind.i64.wrap ((i : Int) + (j : Int)) = (i : Int) + (j : Int) := by rw [IntKind.wrap_i64]; omega
      have hdiv : ((i : Int) + (j : Int)) / 2 = (h : Int) := by omega
      have hz : (h : Int) < (d.size : Int) := by omega
      have az : (a : Int) < (d.size : Int) := by have := H1.out; omega
      have hhb : h < d.size := by omega
      have hab : a < d.size := by have := H1.out; omega
      obtain ⟨xh, hxh⟩ : ∃ x, d[h]! = x := ⟨_, rfl⟩
      obtain ⟨xa, hxa⟩ : ∃ x, d[a]! = x := ⟨_, rfl⟩
      obtain ⟨ch, fh⟩ := HS.out.holds h hhb
      obtain ⟨ca, fa⟩ := HS.out.holds a hab
      obtain ⟨Ah, nh, kh, eh⟩ := HE.out xh
      obtain ⟨Aa, na, ka, ea⟩ := HE.out xa
      rw [hxh, eh, Nat.zero_add] at ch
      rw [hxa, ea, Nat.zero_add] at ca
      have hc : ∀ dd os, Calls Tryd.prog 25 #[.slice Ah nh kh, .slice Aa na ka, bx] (later wr dd os) fun e w' => e = .returned (.int .i64 (cf xh xa)) ∧ Below (later wr dd os).heap.size (later wr dd os) w' := fun dd os => by
        have := HC.out (later wr dd os) d (HS.out.below hg (below_later _ _ _)) h a hhb hab
        rw [hxh, hxa, eh, ea] at this
        exact this
      have lh : ∀ dd os, (later wr dd os).cell? ⟨g, h, none⟩ = some (.slice Ah nh kh) := fun dd os => cell_later ch dd os
      have la : ∀ dd os, (later wr dd os).cell? ⟨g, a, none⟩ = some (.slice Aa na ka) := fun dd os => cell_later ca dd os
      have HO2 := HO.out
      rw [bsP_go _ hlt hh] at HO2
      simp only [hxh, hxa] at HO2
      clear hh fh fa ch ca
      by_cases hlv : cf xh xa < 0
      · have HO3 : Aside0 (bsP (fun h => ltOf cf d[h]! d[a]!) (h + 1) j = B) := ⟨by rw [if_pos (show ltOf cf xh xa = true from decide_eq_true hlv)] at HO2; rw [← HO2, hxa]⟩
        clear HO2 HO
        go_wp2_with fail
        refine wp_region_later (by kernel_rfl) (by kernel_rfl) ?_
        repeat (quiet_step (first | (go_at_call 25; refine Calls.later_of (hc _ _))))
        refine wpQuiet_nil ?_
        intro _ hw'
        obtain ⟨⟨dq, osq⟩, hw''⟩ := hw'
        subst hw''
        go_wp2_with fail
        have hh := HH.out
        go_roundg (j - (h + 1))
        case measure => omega
        case rel => exact ⟨h + 1, j, by first | rfl | go_num, rfl, by omega, by omega, hjb, Nat.le_refl _, ⟨HS.out.below hg (below_later _ _ _)⟩, HO3⟩
      · have HO3 : Aside0 (bsP (fun h => ltOf cf d[h]! d[a]!) i h = B) := ⟨by rw [if_neg (by rw [show ltOf cf xh xa = false from decide_eq_false hlv]; decide)] at HO2; rw [← HO2, hxa]⟩
        clear HO2 HO
        go_wp2_with fail
        refine wp_region_later (by kernel_rfl) (by kernel_rfl) ?_
        repeat (quiet_step (first | (go_at_call 25; refine Calls.later_of (hc _ _))))
        refine wpQuiet_nil ?_
        intro _ hw'
        obtain ⟨⟨dq, osq⟩, hw''⟩ := hw'
        subst hw''
        go_wp2_with fail
        have hh := HH.out
        go_roundg (h - i)
        case measure => omega
        case rel => exact ⟨i, h, rfl, by first | rfl | go_num, hmi, by omega, by omega, Nat.le_refl _, ⟨HS.out.below hg (below_later _ _ _)⟩, HO3⟩
    · have hltz : ¬ (i : Int) < (j : Int) := by omega
      have HO2 := HO.out
      rw [bsP_end _ hlt] at HO2
      subst HO2
      clear HO hgg
      have wi1 : IntKind.i64.wrap ((i : Int) - 1) = (i : Int) - 1 := by rw [IntKind.wrap_i64]; omega
      go_wp2
      go_loopg [13] (i - 1 - a) (fun gg v13 wr => ∃ (k : Nat) (dk : Array α), v13 = .int .i64 k ∧ a ≤ k ∧ k ≤ i - 1 ∧ i - 1 - k ≤ gg ∧ dk.size = d.size ∧ Aside0 (St enc w1 g d0 wr dk) ∧ Aside0 (mvU (i - 1 - k) k dk = mvU (i - 1 - a) a d))
      case atStart => exact ⟨a, d, rfl, Nat.le_refl _, by have := H1.out; omega, Nat.le_refl _, rfl, HS, ⟨rfl⟩⟩
      case round =>
        clear HS
        obtain ⟨k, dk, rfl, hak, hki, hgg, hsk, HS, HO⟩ := hrel
        by_cases hk : k < i - 1
        · have hkz : (k : Int) < (i : Int) - 1 := by omega
          obtain ⟨q, hq⟩ : ∃ q, k + 1 = q := ⟨_, rfl⟩
          have wq : IntKind.i64.wrap ((k : Int) + 1) = (q : Int) := by rw [IntKind.wrap_i64]; omega
          have npq : ¬ k = q := by omega
          have nqp : ¬ q = k := by omega
          have zp : (k : Int) < (d.size : Int) := by omega
          have zq : (q : Int) < (d.size : Int) := by omega
          obtain ⟨xp, hxp⟩ : ∃ x, dk[k]! = x := ⟨_, rfl⟩
          obtain ⟨xq, hxq⟩ : ∃ x, dk[q]! = x := ⟨_, rfl⟩
          obtain ⟨cp, fp⟩ := HS.out.holds k (by omega)
          obtain ⟨cq, fq⟩ := HS.out.holds q (by omega)
          obtain ⟨Ap, np, kp, ep⟩ := HE.out xp
          obtain ⟨Aq, nq, kq, eq⟩ := HE.out xq
          rw [hxp, ep, Nat.zero_add] at cp
          rw [hxq, eq, Nat.zero_add] at cq
          rw [Nat.zero_add] at fp fq
          have P := Aside0.mk hq
          have EX := Aside0.mk (And.intro hxp hxq)
          have EV := Aside0.mk (And.intro ep eq)
          clear hq hxp hxq ep eq
          go_wp2_with fail
          go_big_region_o
          all_goals go_wp2
          go_roundg (i - 1 - (k + 1))
          case measure => omega
          case rel =>
            have hq := P.out
            refine ⟨k + 1, Sort.swp dk k q, by first | rfl | go_num | (congr 1; omega), by omega, by omega, Nat.le_refl _, by rw [Sort.size_swp]; exact hsk, ⟨?_⟩, ⟨?_⟩⟩
            · rw [← EV.out.1, ← EV.out.2, ← EX.out.1, ← EX.out.2]
              have hsw := (HS.out.below (w2 := wr.drew) hg (Below.drew (Below.refl _ _))).swap k q (by omega) (by omega)
              rw [Nat.zero_add, Nat.zero_add] at hsw
              exact hsw
            · rw [← HO.out, show i - 1 - k = i - 1 - (k + 1) + 1 by omega, mvU, P.out]
        · have hkz : ¬ (k : Int) < (i : Int) - 1 := by omega
          go_wp2
          ((try simp only [Exit.inBlock, Exit.then]); refine bodyPost_ret (results_none rfl _ _ _) rfl ?_)
          refine ⟨rfl, ?_⟩
          have e := HO.out
          rw [show i - 1 - k = 0 by omega, mvU] at e
          rw [← e]
          exact HS.out
set_option maxHeartbeats 8000000 in
set_option maxRecDepth 1000000 in
theorem sym_last {α : Type} [Inhabited α] (enc : α → Value) (hE : ∀ x, ∃ A n c, enc x = .slice A n c) (cf : α → α → Int) (bx : Value) (w1 : World) (g cap : Nat) (d0 : Array α) (hg : g < w1.heap.size) (hcmp : CmpAt enc cf bx w1 g d0)
    (a m b : Nat) (d : Array α) (w : World) (hst : St enc w1 g d0 w d) (h1 : a + 1 < m) (h2 : m + 1 = b) (hb : b ≤ d.size) (hsz : d.size < 1000000000) :
    Calls Tryd.prog 47 #[.slice (some ⟨g, 0, none⟩) d.size cap, .int .i64 a, .int .i64 m, .int .i64 b, .func (.func 25) #[] #[bx]] w fun e w' =>
      e = .returned (.tuple #[]) ∧ St enc w1 g d0 w' (mvD (m - bsP (fun h => !ltOf cf d[m]! d[h]!) a m) m d) := by
  have mixed : Tryd.prog.follows .mixedOrders = true := by kernel_rfl
  have HC := Aside0.mk hcmp
  have HST := Aside0.mk hst
  have HE := Aside0.mk hE
  have H1 := Aside0.mk (And.intro h1 h2)
  have wma : IntKind.i64.wrap ((m : Int) - (a : Int)) = (m : Int) - (a : Int) := by rw [IntKind.wrap_i64]; omega
  have nma : ((m : Int) - (a : Int) == 1) = false := beq_eq_false_iff_ne.2 (by omega)
  have wbm : IntKind.i64.wrap ((b : Int) - (m : Int)) = 1 := by rw [IntKind.wrap_i64]; omega
  clear hst hE hcmp h1 h2
  generalize hB : bsP (fun h => !ltOf cf d[m]! d[h]!) a m = B
  have HB := Aside0.mk hB
  clear hB
  go_enter Tryd.func47, Tryd.ntmps47
  go_wp2
  go_loopg [14, 15] (m - a) (fun gg v10 v11 wr => ∃ (i j : Nat), v10 = .int .i64 i ∧ v11 = .int .i64 j ∧ a ≤ i ∧ i ≤ j ∧ j ≤ m ∧ j - i ≤ gg ∧ Aside0 (St enc w1 g d0 wr d) ∧ Aside0 (bsP (fun h => !ltOf cf d[m]! d[h]!) i j = B))
  case atStart => exact ⟨a, m, rfl, rfl, Nat.le_refl _, by have := H1.out; omega, Nat.le_refl _, Nat.le_refl _, HST, HB⟩
  case round =>
    clear HST HB wma wbm nma
    obtain ⟨i, j, rfl, rfl, hmi, hij, hjb, hgg, HS, HO⟩ := hrel
    by_cases hlt : i < j
    · have hltz : (i : Int) < (j : Int) := by omega
      obtain ⟨h, hh⟩ : ∃ h, (i + j) / 2 = h := ⟨_, rfl⟩
      have HH := Aside0.mk hh
      have wij : IntKind.i64.wrap ((i : Int) + (j : Int)) = (i : Int) + (j : Int) := by rw [IntKind.wrap_i64]; have := H1.out; omega
      have hdiv : ((i : Int) + (j : Int)) / 2 = (h : Int) := by omega
      have hz : (h : Int) < (d.size : Int) := by have := H1.out; omega
      have az : (m : Int) < (d.size : Int) := by have := H1.out; omega
      have hhb : h < d.size := by omega
      have hab : m < d.size := by omega
      obtain ⟨xh, hxh⟩ : ∃ x, d[h]! = x := ⟨_, rfl⟩
      obtain ⟨xa, hxa⟩ : ∃ x, d[m]! = x := ⟨_, rfl⟩
      obtain ⟨ch, fh⟩ := HS.out.holds h hhb
      obtain ⟨ca, fa⟩ := HS.out.holds m hab
      obtain ⟨Ah, nh, kh, eh⟩ := HE.out xh
      obtain ⟨Aa, na, ka, ea⟩ := HE.out xa
      rw [hxh, eh, Nat.zero_add] at ch
      rw [hxa, ea, Nat.zero_add] at ca
      have hc : ∀ dd os, Calls Tryd.prog 25 #[.slice Aa na ka, .slice Ah nh kh, bx] (later wr dd os) fun e w' => e = .returned (.int .i64 (cf xa xh)) ∧ Below (later wr dd os).heap.size (later wr dd os) w' := fun dd os => by
        have := HC.out (later wr dd os) d (HS.out.below hg (below_later _ _ _)) m h hab hhb
        rw [hxh, hxa, eh, ea] at this
        exact this
      have lh : ∀ dd os, (later wr dd os).cell? ⟨g, h, none⟩ = some (.slice Ah nh kh) := fun dd os => cell_later ch dd os
      have la : ∀ dd os, (later wr dd os).cell? ⟨g, m, none⟩ = some (.slice Aa na ka) := fun dd os => cell_later ca dd os
      have HO2 := HO.out
      rw [bsP_go _ hlt hh] at HO2
      simp only [hxh, hxa] at HO2
      clear hh fh fa ch ca
      by_cases hlv : cf xa xh < 0
      · have HO3 : Aside0 (bsP (fun h => !ltOf cf d[m]! d[h]!) i h = B) := ⟨by rw [if_neg (by rw [show ltOf cf xa xh = true from decide_eq_true hlv]; decide)] at HO2; rw [← HO2, hxa]⟩
        clear HO2 HO
        have hlb : decide (cf xa xh < 0) = true := decide_eq_true hlv
        go_wp2_with fail
        refine wp_region_later (by kernel_rfl) (by kernel_rfl) ?_
        repeat (quiet_step (first | (go_at_call 25; refine Calls.later_of (hc _ _))))
        refine wpQuiet_nil ?_
        intro _ hw'
        obtain ⟨⟨dq, osq⟩, hw''⟩ := hw'
        subst hw''
        go_wp2_with fail
        have hh := HH.out
        go_roundg (h - i)
        case measure => omega
        case rel => exact ⟨i, h, rfl, by first | rfl | go_num, hmi, by omega, by omega, Nat.le_refl _, ⟨HS.out.below hg (below_later _ _ _)⟩, HO3⟩
      · have HO3 : Aside0 (bsP (fun h => !ltOf cf d[m]! d[h]!) (h + 1) j = B) := ⟨by rw [if_pos (by rw [show ltOf cf xa xh = false from decide_eq_false hlv]; rfl)] at HO2; rw [← HO2, hxa]⟩
        clear HO2 HO
        have hlb : decide (cf xa xh < 0) = false := decide_eq_false hlv
        go_wp2_with fail
        refine wp_region_later (by kernel_rfl) (by kernel_rfl) ?_
        repeat (quiet_step (first | (go_at_call 25; refine Calls.later_of (hc _ _))))
        refine wpQuiet_nil ?_
        intro _ hw'
        obtain ⟨⟨dq, osq⟩, hw''⟩ := hw'
        subst hw''
        go_wp2_with fail
        have hh := HH.out
        go_roundg (j - (h + 1))
        case measure => omega
        case rel => exact ⟨h + 1, j, by first | rfl | go_num, rfl, by omega, by omega, hjb, Nat.le_refl _, ⟨HS.out.below hg (below_later _ _ _)⟩, HO3⟩
    · have hltz : ¬ (i : Int) < (j : Int) := by omega
      have HO2 := HO.out
      rw [bsP_end _ hlt] at HO2
      subst HO2
      clear HO hgg
      go_wp2
      go_loopg [17] (m - i) (fun gg v13 wr => ∃ (k : Nat) (dk : Array α), v13 = .int .i64 k ∧ i ≤ k ∧ k ≤ m ∧ k - i ≤ gg ∧ dk.size = d.size ∧ Aside0 (St enc w1 g d0 wr dk) ∧ Aside0 (mvD (k - i) k dk = mvD (m - i) m d))
      case atStart => exact ⟨m, d, rfl, by omega, Nat.le_refl _, Nat.le_refl _, rfl, HS, ⟨rfl⟩⟩
      case round =>
        clear HS
        obtain ⟨k, dk, rfl, hak, hki, hgg, hsk, HS, HO⟩ := hrel
        by_cases hk : i < k
        · have hkz : (k : Int) > (i : Int) := by omega
          obtain ⟨q, hq⟩ : ∃ q, k - 1 = q := ⟨_, rfl⟩
          have wq : IntKind.i64.wrap ((k : Int) - 1) = (q : Int) := by rw [IntKind.wrap_i64]; have := H1.out; omega
          have npq : ¬ k = q := by omega
          have nqp : ¬ q = k := by omega
          have zp : (k : Int) < (d.size : Int) := by have := H1.out; omega
          have zq : (q : Int) < (d.size : Int) := by omega
          obtain ⟨xp, hxp⟩ : ∃ x, dk[k]! = x := ⟨_, rfl⟩
          obtain ⟨xq, hxq⟩ : ∃ x, dk[q]! = x := ⟨_, rfl⟩
          obtain ⟨cp, fp⟩ := HS.out.holds k (by omega)
          obtain ⟨cq, fq⟩ := HS.out.holds q (by omega)
          obtain ⟨Ap, np, kp, ep⟩ := HE.out xp
          obtain ⟨Aq, nq, kq, eq⟩ := HE.out xq
          rw [hxp, ep, Nat.zero_add] at cp
          rw [hxq, eq, Nat.zero_add] at cq
          rw [Nat.zero_add] at fp fq
          have P := Aside0.mk hq
          have EX := Aside0.mk (And.intro hxp hxq)
          have EV := Aside0.mk (And.intro ep eq)
          clear hq hxp hxq ep eq
          go_wp2_with fail
          go_big_region_o
          all_goals go_wp2
          have hq := P.out
          go_roundg (q - i)
          case measure => omega
          case rel =>
            refine ⟨q, Sort.swp dk k q, by first | rfl | go_num | (congr 1; omega), by omega, by omega, Nat.le_refl _, by rw [Sort.size_swp]; exact hsk, ⟨?_⟩, ⟨?_⟩⟩
            · rw [← EV.out.1, ← EV.out.2, ← EX.out.1, ← EX.out.2]
              have hsw := (HS.out.below (w2 := wr.drew) hg (Below.drew (Below.refl _ _))).swap k q (by omega) (by omega)
              rw [Nat.zero_add, Nat.zero_add] at hsw
              exact hsw
            · rw [← HO.out, show k - i = q - i + 1 by omega, mvD, P.out]
        · have hkz : ¬ (k : Int) > (i : Int) := by omega
          go_wp2
          ((try simp only [Exit.inBlock, Exit.then]); refine bodyPost_ret (results_none rfl _ _ _) rfl ?_)
          refine ⟨rfl, ?_⟩
          have e := HO.out
          rw [show k - i = 0 by omega, mvD] at e
          rw [← e]
          exact HS.out
theorem w64_small {n : Nat} (h : n < 4000000000) : wrap64 (n : Int) = (n : Int) := by unfold wrap64; omega
theorem i64_small {x : Int} {n : Nat} (h : n < 4000000000) (e : x = (n : Int)) : IntKind.i64.wrap x = (n : Int) := by rw [IntKind.wrap_i64]; omega
theorem symP_big {α : Type} [Inhabited α] (lt : α → α → Bool) (a m b mid S e : Nat) (d : Array α) (h1 : a + 1 < m) (h2 : m + 1 < b) (hm : (a + b) / 2 = mid) (hS : cutP lt a m b d = S) (he : mid + m - S = e) (hs : S ≤ m ∧ S ≤ mid) :
    symP lt a m b d = if S < m ∧ e < b then symP lt mid e b (if a < S ∧ S < mid then symP lt a S mid (if S < m ∧ S < mid then rotP m (m - S) (mid - S) d else d) else (if S < m ∧ S < mid then rotP m (m - S) (mid - S) d else d))
      else (if a < S ∧ S < mid then symP lt a S mid (if S < m ∧ S < mid then rotP m (m - S) (mid - S) d else d) else (if S < m ∧ S < mid then rotP m (m - S) (mid - S) d else d)) := by
  have hmd : midP lt a m b d = if S < m ∧ S < mid then rotP m (m - S) (mid - S) d else d := by
    unfold midP
    rw [hS, hm]
    by_cases c : S < m ∧ S < mid
    · rw [if_pos c, if_pos ⟨c.1, by omega⟩]
    · rw [if_neg c, if_neg (by omega)]
  rw [symP, if_neg (by omega), if_neg (by omega)]
  simp only [hmd, hS, hm, he]
  have e2 : (mid < e ∧ e < b) = (S < m ∧ e < b) := by apply propext; constructor <;> intro h <;> constructor <;> omega
  by_cases c : S < m ∧ e < b
  · rw [if_pos c, dif_pos (by rw [e2]; exact c)]
    congr 1
  · rw [if_neg c, dif_neg (by rw [e2]; exact c)]
    congr 1
set_option maxHeartbeats 16000000 in
set_option maxRecDepth 1000000 in
theorem sym_big {α : Type} [Inhabited α] (enc : α → Value) (hE : ∀ x, ∃ A n c, enc x = .slice A n c) (cf : α → α → Int) (bx : Value) (w1 : World) (g cap : Nat) (d0 : Array α) (hg : g < w1.heap.size) (hcmp : CmpAt enc cf bx w1 g d0)
    (a m b : Nat) (d : Array α) (w : World) (hst : St enc w1 g d0 w d) (h1 : a + 1 < m) (h2 : m + 1 < b) (hb : b ≤ d.size) (hsz : d.size < 1000000000)
    (hS0 : a ≤ cutP (ltOf cf) a m b d ∧ cutP (ltOf cf) a m b d ≤ m ∧ cutP (ltOf cf) a m b d ≤ (a + b) / 2 ∧ (a + b) / 2 + m - cutP (ltOf cf) a m b d ≤ b)
    (ih : ∀ a' m' b' dk W, b' - a' < b - a → St enc w1 g d0 W dk → dk.size = d.size → a' < m' → m' < b' → b' ≤ d.size → Calls Tryd.prog 47 #[.slice (some ⟨g, 0, none⟩) d.size cap, .int .i64 a', .int .i64 m', .int .i64 b', .func (.func 25) #[] #[bx]] W fun e w' =>
      e = .returned (.tuple #[]) ∧ St enc w1 g d0 w' (symP (ltOf cf) a' m' b' dk) ∧ (symP (ltOf cf) a' m' b' dk).size = d.size) :
    Calls Tryd.prog 47 #[.slice (some ⟨g, 0, none⟩) d.size cap, .int .i64 a, .int .i64 m, .int .i64 b, .func (.func 25) #[] #[bx]] w fun e w' =>
      e = .returned (.tuple #[]) ∧ St enc w1 g d0 w' (symP (ltOf cf) a m b d) := by
  have mixed : Tryd.prog.follows .mixedOrders = true := by kernel_rfl
  obtain ⟨mid, hmid⟩ : ∃ mid, (a + b) / 2 = mid := ⟨_, rfl⟩
  obtain ⟨S, hS⟩ : ∃ S, cutP (ltOf cf) a m b d = S := ⟨_, rfl⟩
  rw [hS, hmid] at hS0
  obtain ⟨k1, k2, k3, k4⟩ := hS0
  obtain ⟨e, he⟩ : ∃ e, mid + m - S = e := ⟨_, rfl⟩
  rw [he] at k4
  have hfin := symP_big (ltOf cf) a m b mid S e d h1 h2 hmid hS he ⟨k2, k3⟩
  have hROT : S < m → S < mid → ∀ W, St enc w1 g d0 W d → Calls Tryd.prog 51 #[.slice (some ⟨g, 0, none⟩) d.size cap, .int .i64 S, .int .i64 m, .int .i64 e, .func (.func 25) #[] #[bx]] W fun e w' => e = .returned (.tuple #[]) ∧ St enc w1 g d0 w' (rotP m (m - S) (mid - S) d) := fun c1 c2 W hW => by
    have := rotate_walk enc hE (.func (.func 25) #[] #[bx]) w1 g cap S m e d0 d W hW hg c1 (by omega) (by omega) (by omega)
    rw [show e - m = mid - S by omega] at this
    exact this
  have hRS : S < m → S < mid → (rotP m (m - S) (mid - S) d).size = d.size := fun c1 c2 => (rotP_spec m _ (m - S) (mid - S) d (Nat.le_refl _) (by omega) (by omega) (by omega) (by omega)).1.1
  have h1R : a < S → S < mid → ∀ dk W, St enc w1 g d0 W dk → dk.size = d.size → Calls Tryd.prog 47 #[.slice (some ⟨g, 0, none⟩) d.size cap, .int .i64 a, .int .i64 S, .int .i64 mid, .func (.func 25) #[] #[bx]] W fun e w' =>
      e = .returned (.tuple #[]) ∧ St enc w1 g d0 w' (symP (ltOf cf) a S mid dk) ∧ (symP (ltOf cf) a S mid dk).size = d.size := fun c1 c2 dk W hW hk => ih a S mid dk W (by omega) hW hk c1 c2 (by omega)
  have h2R : S < m → e < b → ∀ dk W, St enc w1 g d0 W dk → dk.size = d.size → Calls Tryd.prog 47 #[.slice (some ⟨g, 0, none⟩) d.size cap, .int .i64 mid, .int .i64 e, .int .i64 b, .func (.func 25) #[] #[bx]] W fun e' w' =>
      e' = .returned (.tuple #[]) ∧ St enc w1 g d0 w' (symP (ltOf cf) mid e b dk) ∧ (symP (ltOf cf) mid e b dk).size = d.size := fun c1 c2 dk W hW hk => ih mid e b dk W (by omega) hW hk (by omega) c2 hb
  have hcut : bsP (fun c => !ltOf cf d[mid + m - 1 - c]! d[c]!) (if mid < m then mid + m - b else a) (if mid < m then mid else m) = S := by
    rw [← hS]
    unfold cutP
    rw [hmid]
  have HFIN := Aside0.mk hfin
  have HROT := Aside0.mk hROT
  have HRS := Aside0.mk hRS
  have H1R := Aside0.mk h1R
  have H2R := Aside0.mk h2R
  have HC := Aside0.mk hcmp
  have HST := Aside0.mk hst
  have HE := Aside0.mk hE
  have HK := Aside0.mk (And.intro k1 (And.intro k2 (And.intro k3 (And.intro k4 he))))
  have H12 := Aside0.mk (And.intro h1 (And.intro h2 hmid))
  clear hfin hROT hRS h1R h2R hst hE hcmp k1 k2 k3 k4 ih hS
  obtain ⟨s0, hs0⟩ : ∃ s0, (if mid < m then mid + m - b else a) = s0 := ⟨_, rfl⟩
  obtain ⟨r0, hr0⟩ : ∃ r0, (if mid < m then mid else m) = r0 := ⟨_, rfl⟩
  rw [hs0, hr0] at hcut
  obtain ⟨nn, hnn⟩ : ∃ nn, mid + m = nn := ⟨_, rfl⟩
  obtain ⟨pp, hpp⟩ : ∃ pp, nn - 1 = pp := ⟨_, rfl⟩
  have hsr : s0 ≤ r0 ∧ a ≤ s0 ∧ r0 ≤ m ∧ r0 ≤ mid ∧ nn ≤ b + s0 := by
    by_cases c : mid < m
    · rw [if_pos c] at hs0 hr0; omega
    · rw [if_neg c] at hs0 hr0; omega
  rw [show mid + m - 1 = pp by omega] at hcut
  have HCUT := Aside0.mk hcut
  have HSR := Aside0.mk (And.intro hsr (And.intro hnn hpp))
  have hcs : ((m : Int) > (mid : Int) ∧ IntKind.i64.wrap ((nn : Int) - (b : Int)) = (s0 : Int) ∧ mid = r0) ∨ (¬ (m : Int) > (mid : Int) ∧ a = s0 ∧ m = r0) := by
    by_cases c : mid < m
    · rw [if_pos c] at hs0 hr0; exact .inl ⟨by omega, by rw [IntKind.wrap_i64]; omega, hr0⟩
    · rw [if_neg c] at hs0 hr0; exact .inr ⟨by omega, hs0, hr0⟩
  have wma : IntKind.i64.wrap ((m : Int) - (a : Int)) = (m : Int) - (a : Int) := by rw [IntKind.wrap_i64]; omega
  have nma : ((m : Int) - (a : Int) == 1) = false := beq_eq_false_iff_ne.2 (by omega)
  have wbm : IntKind.i64.wrap ((b : Int) - (m : Int)) = (b : Int) - (m : Int) := by rw [IntKind.wrap_i64]; omega
  have nbm : ((b : Int) - (m : Int) == 1) = false := beq_eq_false_iff_ne.2 (by omega)
  have wab : IntKind.i64.wrap ((a : Int) + (b : Int)) = (a : Int) + (b : Int) := by rw [IntKind.wrap_i64]; omega
  have uab : IntKind.u64.wrap ((a : Int) + (b : Int)) = (a : Int) + (b : Int) := by rw [IntKind.wrap_u64]; omega
  have dab : ((a : Int) + (b : Int)) / 2 = (mid : Int) := by omega
  have wmid : wrap64 (mid : Int) = (mid : Int) := w64_small (show mid < 4000000000 by clear uab wab wbm wma; omega)
  have wmm : IntKind.i64.wrap ((mid : Int) + (m : Int)) = (nn : Int) := i64_small (by clear uab wab wbm wma wmid; omega) (by clear uab wab wbm wma wmid; omega)
  have wn1 : IntKind.i64.wrap ((nn : Int) - 1) = (pp : Int) := i64_small (by clear uab wab wbm wma wmid wmm; omega) (by clear uab wab wbm wma wmid wmm; omega)
  have NEXT : ∀ (wr : World), Aside0 (St enc w1 g d0 wr d) → True := fun _ _ => trivial
  clear NEXT hs0 hr0 hnn hpp hcut hsr he hmid h1 h2
  go_enter Tryd.func47, Tryd.ntmps47
  rcases hcs with ⟨cz, wnb, hr⟩ | ⟨cz, hs, hr⟩ <;> (try subst hs) <;> subst hr
  all_goals
    go_wp2
    try rw [wmid]
    go_loopg [20, 21] b (fun gg v10 v11 wr => ∃ (i j : Nat), v10 = .int .i64 i ∧ v11 = .int .i64 j ∧ a ≤ i ∧ i ≤ j ∧ j ≤ m ∧ j ≤ mid ∧ nn ≤ b + i ∧ j - i ≤ gg ∧ Aside0 (St enc w1 g d0 wr d) ∧ Aside0 (bsP (fun c => !ltOf cf d[pp - c]! d[c]!) i j = S))
    case atStart => clear wma nma wbm nbm wab dab wmm wn1 uab wmid; try clear wnb
                    obtain ⟨⟨q1, q2, q3, q4, q5⟩, q6, q7⟩ := HSR.out; exact ⟨_, _, rfl, rfl, q2, q1, q3, q4, q5, by omega, HST, HCUT⟩
    case round =>
      clear HST HCUT wma nma wbm nbm wab dab wmm wn1 uab wmid
      try clear wnb
      obtain ⟨i, j, rfl, rfl, hmi, hij, hjb, hjm, hnb, hgg, HS, HO⟩ := hrel
      by_cases hlt : i < j
      · have hltz : (i : Int) < (j : Int) := by omega
        obtain ⟨⟨q1, q2, q3, q4, q5⟩, q6, q7⟩ := HSR.out
        obtain ⟨h, hh⟩ : ∃ h, (i + j) / 2 = h := ⟨_, rfl⟩
        obtain ⟨y, hy⟩ : ∃ y, pp - h = y := ⟨_, rfl⟩
        have HH := Aside0.mk (And.intro hh hy)
        have hdiv : ((i : Int) + (j : Int)) / 2 = (h : Int) := by omega
        have hhb : h < d.size := by omega
        have hab : y < d.size := by omega
        have hz : (h : Int) < (d.size : Int) := by omega
        have az : (y : Int) < (d.size : Int) := by omega
        obtain ⟨xh, hxh⟩ : ∃ x, d[h]! = x := ⟨_, rfl⟩
        obtain ⟨xa, hxa⟩ : ∃ x, d[y]! = x := ⟨_, rfl⟩
        obtain ⟨ch, fh⟩ := HS.out.holds h hhb
        obtain ⟨ca, fa⟩ := HS.out.holds y hab
        obtain ⟨Ah, nh, kh, eh⟩ := HE.out xh
        obtain ⟨Aa, na, ka, ea⟩ := HE.out xa
        rw [hxh, eh, Nat.zero_add] at ch
        rw [hxa, ea, Nat.zero_add] at ca
        have hc : ∀ dd os, Calls Tryd.prog 25 #[.slice Aa na ka, .slice Ah nh kh, bx] (later wr dd os) fun e w' => e = .returned (.int .i64 (cf xa xh)) ∧ Below (later wr dd os).heap.size (later wr dd os) w' := fun dd os => by
          have := HC.out (later wr dd os) d (HS.out.below hg (below_later _ _ _)) y h hab hhb
          rw [hxh, hxa, eh, ea] at this
          exact this
        have lh : ∀ dd os, (later wr dd os).cell? ⟨g, h, none⟩ = some (.slice Ah nh kh) := fun dd os => cell_later ch dd os
        have la : ∀ dd os, (later wr dd os).cell? ⟨g, y, none⟩ = some (.slice Aa na ka) := fun dd os => cell_later ca dd os
        have HO2 := HO.out
        rw [bsP_go _ hlt hh] at HO2
        simp only [hy, hxh, hxa] at HO2
        have e1 : (pp : Int) - (h : Int) = (y : Int) := by omega
        have l1 : y < 4000000000 := by omega
        have l2 : i + j < 4000000000 := by omega
        have wph : IntKind.i64.wrap ((pp : Int) - (h : Int)) = (y : Int) := i64_small l1 e1
        have wij : IntKind.i64.wrap ((i : Int) + (j : Int)) = (i : Int) + (j : Int) := (i64_small l2 (Int.natCast_add i j).symm).trans (Int.natCast_add i j)
        clear e1 l1 l2
        clear hh hy fh fa ch ca q1 q2 q3 q4 q5 q6 q7
        by_cases hlv : cf xa xh < 0
        · have HO3 : Aside0 (bsP (fun c => !ltOf cf d[pp - c]! d[c]!) i h = S) := ⟨by rw [if_neg (by rw [show ltOf cf xa xh = true from decide_eq_true hlv]; decide)] at HO2; exact HO2⟩
          clear HO2 HO
          have hlb : decide (cf xa xh < 0) = true := decide_eq_true hlv
          go_wp2_with fail
          refine wp_region_later (by kernel_rfl) (by kernel_rfl) ?_
          repeat (quiet_step (first | (go_at_call 25; refine Calls.later_of (hc _ _))))
          refine wpQuiet_nil ?_
          intro _ hw'
          obtain ⟨⟨dq, osq⟩, hw''⟩ := hw'
          subst hw''
          go_wp2_with fail
          obtain ⟨hh, hy⟩ := HH.out
          clear wph wij
          go_roundg (h - i)
          case measure => omega
          case rel => exact ⟨i, h, rfl, by first | rfl | go_num, hmi, by omega, by omega, by omega, hnb, Nat.le_refl _, ⟨HS.out.below hg (below_later _ _ _)⟩, HO3⟩
        · have HO3 : Aside0 (bsP (fun c => !ltOf cf d[pp - c]! d[c]!) (h + 1) j = S) := ⟨by rw [if_pos (by rw [show ltOf cf xa xh = false from decide_eq_false hlv]; rfl)] at HO2; exact HO2⟩
          clear HO2 HO
          have hlb : decide (cf xa xh < 0) = false := decide_eq_false hlv
          go_wp2_with fail
          refine wp_region_later (by kernel_rfl) (by kernel_rfl) ?_
          repeat (quiet_step (first | (go_at_call 25; refine Calls.later_of (hc _ _))))
          refine wpQuiet_nil ?_
          intro _ hw'
          obtain ⟨⟨dq, osq⟩, hw''⟩ := hw'
          subst hw''
          go_wp2_with fail
          obtain ⟨hh, hy⟩ := HH.out
          clear wph wij
          go_roundg (j - (h + 1))
          case measure => omega
          case rel => exact ⟨h + 1, j, by first | rfl | go_num, rfl, by omega, by omega, hjb, hjm, by omega, Nat.le_refl _, ⟨HS.out.below hg (below_later _ _ _)⟩, HO3⟩
      · have hltz : ¬ (i : Int) < (j : Int) := by omega
        have HO2 := HO.out
        rw [bsP_end _ hlt] at HO2
        subst HO2
        obtain ⟨k1, k2, k3, k4, he⟩ := HK.out
        obtain ⟨⟨q1, q2, q3, q4, q5⟩, q6, q7⟩ := HSR.out
        have e1 : (nn : Int) - (i : Int) = (e : Int) := by omega
        have l1 : e < 4000000000 := by omega
        have cA : (i < m ∧ (i : Int) < (m : Int) ∧ (mid : Int) < (e : Int)) ∨ (¬ i < m ∧ ¬ (i : Int) < (m : Int) ∧ ¬ (mid : Int) < (e : Int)) := by omega
        have cB : (i < mid ∧ (i : Int) < (mid : Int) ∧ (m : Int) < (e : Int)) ∨ (¬ i < mid ∧ ¬ (i : Int) < (mid : Int) ∧ ¬ (m : Int) < (e : Int)) := by omega
        have cC : (a < i ∧ (a : Int) < (i : Int)) ∨ (¬ a < i ∧ ¬ (a : Int) < (i : Int)) := by omega
        have cD : (e < b ∧ (e : Int) < (b : Int)) ∨ (¬ e < b ∧ ¬ (e : Int) < (b : Int)) := by omega
        have wni : IntKind.i64.wrap ((nn : Int) - (i : Int)) = (e : Int) := i64_small l1 e1
        clear e1 l1 HO hgg HK HSR k1 k2 k3 k4 he q1 q2 q3 q4 q5 q6 q7 hmi hij hjb hjm hnb hlt
        rcases cA with ⟨hA, zA, yA⟩ | ⟨hA, zA, yA⟩ <;> rcases cB with ⟨hB, zB, yB⟩ | ⟨hB, zB, yB⟩ <;> rcases cC with ⟨hC, zC⟩ | ⟨hC, zC⟩ <;> rcases cD with ⟨hD, zD⟩ | ⟨hD, zD⟩
        all_goals
          have FIN := HFIN.out
          simp only [hA, hB, hC, hD, and_self, and_true, true_and, and_false, false_and, if_true, if_false] at FIN
          have HF := Aside0.mk FIN
          have H0 : Aside0 (d.size = d.size) := ⟨rfl⟩
          clear FIN HFIN
          go_wp2_with (first
            | (go_at_call 51; with_reducible refine (HROT.out hA hB _ HS.out).mono ?_; clear HS H0; rintro e_ w' ⟨rfl, hS2⟩; have HS := Aside0.mk hS2; have H0 := Aside0.mk (HRS.out hA hB); clear hS2)
            | (go_at_call 47; with_reducible refine (H1R.out hC hB _ _ HS.out H0.out).mono ?_; clear HS H0; rintro e_ w' ⟨rfl, hS2, hz2⟩; have HS := Aside0.mk hS2; have H0 := Aside0.mk hz2; clear hS2 hz2)
            | (go_at_call 47; with_reducible refine (H2R.out hA hD _ _ HS.out H0.out).mono ?_; clear HS H0; rintro e_ w' ⟨rfl, hS2, hz2⟩; have HS := Aside0.mk hS2; have H0 := Aside0.mk hz2; clear hS2 hz2))
          all_goals (go_end0; refine ⟨rfl, ?_⟩; rw [HF.out]; exact HS.out)
end Go.Proofs.YtdojgfkcpaeacaaDoorW.PrintWords
