/- Parse and Runs of the reference. -/
import Derived.Test.YtdccooaddoafnaaGreatDoorHLikeCore
set_option linter.unusedVariables false
set_option linter.unusedSimpArgs false
namespace Go.Proofs.YtdccooaddoafnaaGreatDoor.Pure
open Go.RowKit Go.Proofs.YtdccooaddoafnaaGreatDoor.Q Go.Proofs.YtdccooaddoafnaaGreatDoorW.PrintWords Go.Proofs.YtdccooaddoafnaaGreatDoorW.PrintLast Go.Proofs.YtdccooaddoafnaaGreatDoorW.PrintMore
theorem rparse_l0 (s : ByteArray) (esc : Int) (hs : s.size ≤ 1152921504606) : ∀ (n i : Nat) (acc : List Int), s.size - i = n → i ≤ s.size → acc.length ≤ i → Ev (fun k => hopperref09_Parse.l0 k s esc acc (i : Int)) (pres acc (HopPure.parseL esc (s.data.toList.drop i))) := by
  intro n
  induction n using Nat.strongRecOn with
  | _ n ih =>
  intro i acc hn hi ha
  refine Ev.step (fun k => by rw [hopperref09_Parse.l0]) ?_
  by_cases hlt : i < s.size
  · have hl : i < s.data.toList.length := by rw [dsize]; exact hlt
    refine Ev.pos (by omega) (Ev.pos (by omega) ?_)
    rw [HopPure.drop_at _ i hl]
    by_cases he : wrap64 (bt s (i : Int)) = esc
    · have he2 : ((s.data.toList[i]).toNat : Int) = esc := by rw [← he, wbt, btn s i hl]
      refine Ev.pos he ?_
      rw [w64s hlt (by omega)]
      by_cases hl2 : i + 1 = s.size
      · refine Ev.pos (by omega) (Ev.val ?_)
        rw [List.drop_eq_nil_of_le (by rw [dsize]; omega), HopPure.parseL_end _ _ he2]; rfl
      · have hl3 : i + 1 < s.data.toList.length := by rw [dsize]; omega
        refine Ev.neg (by omega) (Ev.pos (by omega) (Ev.pos (by omega) (Ev.pos (by omega) ?_)))
        rw [w64s (n := s.size) (by omega) (by omega), wbt, btn s (i + 1) hl3, HopPure.drop_at _ (i + 1) hl3, HopPure.parseL_esc _ _ _ _ he2, pres_map]
        exact ih (s.size - (i + 2)) (by omega) (i + 2) _ rfl (by omega) (by simp; omega)
    · have he2 : ¬ ((s.data.toList[i]).toNat : Int) = esc := by rw [← btn s i hl, ← wbt]; exact he
      have hb := (s.data.toList[i]).toNat_lt
      refine Ev.neg he ?_
      rw [w64s hlt (by omega), HopPure.parseL_plain _ _ _ he2, pres_map, wbt, btn s i hl]
      have next : ∀ x, x = HopPure.sgn s.data.toList[i] → Ev (fun k => hopperref09_Parse.l0 k s esc (acc ++ [x]) ((i + 1 : Nat) : Int)) (pres (acc ++ [HopPure.sgn s.data.toList[i]]) (HopPure.parseL esc (s.data.toList.drop (i + 1)))) := by
        rintro x rfl
        exact ih (s.size - (i + 1)) (by omega) (i + 1) _ rfl (by omega) (by simp; omega)
      by_cases c1 : (s.data.toList[i]).toNat = 37
      · exact Ev.pos (by omega) (Ev.pos (by omega) (next _ (by unfold HopPure.sgn; rw [if_pos c1])))
      · refine Ev.neg (by omega) ?_
        by_cases c2 : (s.data.toList[i]).toNat = 95
        · exact Ev.pos (by omega) (Ev.pos (by omega) (next _ (by unfold HopPure.sgn; rw [if_neg c1, if_pos c2])))
        · exact Ev.neg (by omega) (Ev.pos (by omega) (next _ (by unfold HopPure.sgn; rw [if_neg c1, if_neg c2])))
  · refine Ev.neg (by omega) (Ev.val ?_)
    rw [List.drop_eq_nil_of_le (by rw [dsize]; omega)]
    simp [HopPure.parseL, pres]
theorem rparse_ev (s : ByteArray) (esc : Int) (hs : s.size ≤ 1152921504606) : Ev (fun k => hopperref09_Parse.f k s esc) (presAll s esc) := by
  unfold hopperref09_Parse.f presAll
  have bad : Ev (fun k => hopperref09_Parse.j0 k s esc true) ([], 8) := Ev.step (fun k => by rw [hopperref09_Parse.j0]) (Ev.pos rfl (Ev.val rfl))
  by_cases c1 : esc < -1
  · rw [if_pos (.inl c1)]; exact Ev.pos c1 bad
  by_cases c2 : esc > 255
  · rw [if_pos (.inr (.inl c2))]; exact Ev.neg c1 (Ev.pos c2 bad)
  refine Ev.neg c1 (Ev.neg c2 ?_)
  by_cases c3 : s.size > 4096
  · rw [if_pos (.inr (.inr c3)), decide_eq_true (by omega)]; exact bad
  · rw [if_neg (by omega), decide_eq_false (by omega)]
    refine Ev.step (fun k => by rw [hopperref09_Parse.j0]) (Ev.neg (by simp) ?_)
    simpa using rparse_l0 s esc hs s.size 0 [] rfl (by omega) (by simp)

end Go.Proofs.YtdccooaddoafnaaGreatDoor.Pure
