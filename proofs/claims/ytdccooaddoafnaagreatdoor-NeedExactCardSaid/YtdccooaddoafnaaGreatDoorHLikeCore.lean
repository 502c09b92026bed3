/- The plain laws of the patterns' functions: what Parse and Runs and their references come to. -/
import Derived.Test.YtdccooaddoafnaaGreatDoorHEvBase
import Derived.Test.YtdccooaddoafnaaGreatDoorQx
set_option linter.unusedVariables false
set_option linter.unusedSimpArgs false
namespace Go.Proofs.YtdccooaddoafnaaGreatDoor.Pure
open Go.RowKit Go.Proofs.YtdccooaddoafnaaGreatDoor.Q Go.Proofs.YtdccooaddoafnaaGreatDoorW.PrintWords Go.Proofs.YtdccooaddoafnaaGreatDoorW.PrintLast
theorem dsize (s : ByteArray) : s.data.toList.length = s.size := by simp
/-! ### Parse -/
theorem sign_ev (s : ByteArray) (i : Nat) (h : i < s.data.toList.length) : like_sign.f (bt s (i : Int)) = some (HopPure.sgn s.data.toList[i]) := by
  rw [btn s i h]
  have h2 := (s.data.toList[i]).toNat_lt
  unfold like_sign.f HopPure.sgn
  by_cases c1 : (s.data.toList[i]).toNat = 37
  · rw [if_pos (by omega), if_pos c1]
  · rw [if_neg (by omega), if_neg c1]
    by_cases c2 : (s.data.toList[i]).toNat = 95
    · rw [if_pos (by omega), if_pos c2]
    · rw [if_neg (by omega), if_neg c2, w64 (by omega) (by omega)]
def pres (acc : List Int) : Option (List Int) → List Int × Int
  | none => ([], 8)
  | some m => (acc ++ m, 0)
theorem pres_map (acc : List Int) (x : Int) (o : Option (List Int)) : pres acc (o.map (x :: ·)) = pres (acc ++ [x]) o := by cases o <;> simp [pres]
theorem parse_l0 (s : ByteArray) (esc : Int) (hs : s.size ≤ 1152921504606) : ∀ (n i : Nat) (acc : List Int), s.size - i = n → i ≤ s.size → acc.length ≤ i → Ev (fun k => like_Parse.l0 k s esc acc (i : Int)) (pres acc (HopPure.parseL esc (s.data.toList.drop i))) := by
  intro n
  induction n using Nat.strongRecOn with
  | _ n ih =>
  intro i acc hn hi ha
  refine Ev.step (fun k => by rw [like_Parse.l0]) ?_
  by_cases hlt : i < s.size
  · have hl : i < s.data.toList.length := by rw [dsize]; exact hlt
    refine Ev.pos (by omega) (Ev.pos (by omega) ?_)
    rw [HopPure.drop_at _ i hl]
    by_cases he : wrap64 (bt s (i : Int)) = esc
    · have he2 : ((s.data.toList[i]).toNat : Int) = esc := by rw [← he, wbt, btn s i hl]
      refine Ev.pos he ?_
      rw [w64s hlt (by omega)]
      by_cases hl2 : i + 1 = s.size
      · refine Ev.pos (by omega) (Ev.val ?_)
        rw [List.drop_eq_nil_of_le (by rw [dsize]; omega), HopPure.parseL_end _ _ he2]; rfl
      · have hl3 : i + 1 < s.data.toList.length := by rw [dsize]; omega
        refine Ev.neg (by omega) (Ev.pos (by omega) (Ev.pos (by omega) (Ev.pos (by omega) ?_)))
        rw [w64s (n := s.size) (by omega) (by omega), wbt, btn s (i + 1) hl3, HopPure.drop_at _ (i + 1) hl3, HopPure.parseL_esc _ _ _ _ he2, pres_map]
        exact ih (s.size - (i + 2)) (by omega) (i + 2) _ rfl (by omega) (by simp; omega)
    · have he2 : ¬ ((s.data.toList[i]).toNat : Int) = esc := by rw [← btn s i hl, ← wbt]; exact he
      refine Ev.neg he (Ev.bind (Ev.c (sign_ev s i hl)) (Ev.pos (by omega) ?_))
      rw [w64s hlt (by omega), HopPure.parseL_plain _ _ _ he2, pres_map]
      exact ih (s.size - (i + 1)) (by omega) (i + 1) _ rfl (by omega) (by simp; omega)
  · refine Ev.neg (by omega) (Ev.val ?_)
    rw [List.drop_eq_nil_of_le (by rw [dsize]; omega)]
    simp [HopPure.parseL, pres]
def presAll (s : ByteArray) (esc : Int) : List Int × Int := if esc < -1 ∨ esc > 255 ∨ s.size > 4096 then ([], 8) else pres [] (HopPure.parseL esc s.data.toList)
theorem parse_ev (s : ByteArray) (esc : Int) (hs : s.size ≤ 1152921504606) : Ev (fun k => like_Parse.f k s esc) (presAll s esc) := by
  unfold like_Parse.f presAll
  have bad : Ev (fun k => like_Parse.j0 k s esc true) ([], 8) := Ev.step (fun k => by rw [like_Parse.j0]) (Ev.pos rfl (Ev.val rfl))
  by_cases c1 : esc < -1
  · rw [if_pos (.inl c1)]; exact Ev.pos c1 bad
  by_cases c2 : esc > 255
  · rw [if_pos (.inr (.inl c2))]; exact Ev.neg c1 (Ev.pos c2 bad)
  refine Ev.neg c1 (Ev.neg c2 ?_)
  by_cases c3 : s.size > 4096
  · rw [if_pos (.inr (.inr c3)), decide_eq_true (by omega)]; exact bad
  · rw [if_neg (by omega), decide_eq_false (by omega)]
    refine Ev.step (fun k => by rw [like_Parse.j0]) (Ev.neg (by simp) ?_)
    simpa using parse_l0 s esc hs s.size 0 [] rfl (by omega) (by simp)
def okSigns (l : List Int) : Bool := l.all fun x => decide (0 ≤ x ∧ x ≤ 257)
def runsS (l : List Int) : List ByteArray := (HopPure.runsL [] l).map strOfNums
/-- With a sign of any bytes behind, nothing is owed at the end. -/
def lrun : List Int → List Int → List (List Int)
  | _, [] => []
  | run, x :: t => if x ≤ 255 then lrun (run ++ [x % 256]) t else if run = [] then lrun [] t else run :: lrun [] t
theorem lrun_end : ∀ (l run : List Int), lrun run (l ++ [257]) = HopPure.runsL run l
  | [], run => by
    simp only [List.nil_append, lrun, HopPure.runsL]
    rw [if_neg (by omega)]
  | x :: t, run => by
    simp only [List.cons_append, lrun, HopPure.runsL, lrun_end t]
theorem runs_l0 (l : List Int) (hl : l.length ≤ 1099511627776) : ∀ (n i : Nat) (out : List ByteArray) (run : List Int), l.length - i = n → out.length ≤ i → run.length ≤ i → Ev (fun k => like_Runs.l0 k out run l (l.length : Int) (i : Int)) (out ++ (lrun run (l.drop i)).map strOfNums) := by
  intro n
  induction n with
  | zero => intro i out run hn _ _; exact Ev.step (fun k => by rw [like_Runs.l0]) (Ev.neg (by omega) (Ev.val (by rw [List.drop_eq_nil_of_le (by omega)]; simp [lrun])))
  | succ n ih =>
    intro i out run hn ho hr
    have hi : i < l.length := by omega
    refine Ev.step (fun k => by rw [like_Runs.l0]) (Ev.pos (by omega) (Ev.pos (by omega) (Ev.pos (by omega) ?_)))
    rw [rdn l i hi, w64s hi (by omega), HopPure.drop_at l i hi]
    unfold lrun
    by_cases c : l[i] ≤ 255
    · rw [if_pos c]
      exact Ev.pos c (Ev.pos (by omega) (ih (i + 1) out _ (by omega) (by omega) (by simp; omega)))
    · rw [if_neg c]
      refine Ev.neg c ?_
      by_cases e : run = []
      · subst e
        rw [if_pos rfl]
        exact Ev.neg (by simp) (ih (i + 1) out [] (by omega) (by omega) (by simp))
      · rw [if_neg e]
        have h1 : run.length ≠ 0 := fun h => e (List.length_eq_zero_iff.1 h)
        refine Ev.pos (by omega) (Ev.pos (by omega) ?_)
        have := ih (i + 1) (out ++ [strOfNums run]) [] (by omega) (by simp; omega) (by simp)
        simpa using this
theorem runs_ev (l : List Int) (hl : l.length ≤ 1099511627775) : Ev (fun k => like_Runs.f k l) (runsS l) := by
  unfold like_Runs.f
  refine Ev.bind (Ev.now _) (Ev.pos (by simp; omega) (Ev.bind (Ev.now _) (Ev.pos (by simp; omega) (Ev.bind (Ev.now _) ?_))))
  have := runs_l0 (([] : List Int) ++ l ++ [257]) (by simp; omega) _ 0 [] [] rfl (by simp) (by simp)
  have e : ([] : List ByteArray) ++ (lrun [] ((([] : List Int) ++ l ++ [257]).drop 0)).map strOfNums = runsS l := by
    rw [List.nil_append, List.drop_zero, List.nil_append, lrun_end]; rfl
  rw [e] at this
  exact this
end Go.Proofs.YtdccooaddoafnaaGreatDoor.Pure
