/- awake of layer 16 answers true. -/
import Derived.Test.YtdccooaddoafnaaGreatDoorHNeedLeaf
set_option linter.unusedVariables false
set_option linter.unusedSimpArgs false
namespace Go.Proofs.YtdccooaddoafnaaGreatDoor.Pure
open Go.RowKit Go.Proofs.YtdccooaddoafnaaGreatDoor.Q Go.Proofs.YtdccooaddoafnaaGreatDoorW.PrintWords Go.Proofs.YtdccooaddoafnaaGreatDoorW.PrintLast Go.Proofs.YtdccooaddoafnaaGreatDoorW.PrintMore
abbrev awF : S53 := ⟨0, [6382179, 6447972], []⟩
theorem aw_good : GoodF awF := ⟨fun h => absurd h (by decide), by decide, by decide⟩
theorem aw_filters : hopperref16_Filters.f 60 ([[(⟨false, (⟨#[97, 98, 99, 100]⟩ : ByteArray)⟩ : S38)]] : List (List S38)) 1 0 = some [awF] := by kernel_rfl
theorem aw_right1 : need_Right.f 20 9 0 (⟨#[120, 121, 122]⟩ : ByteArray) 0 0 ([] : List (S24)) 1 = some true := by decide +kernel
theorem aw_right0 : need_Right.f 20 9 0 (⟨#[120, 121, 122]⟩ : ByteArray) 0 0 ([] : List (S24)) 0 = some false := by decide +kernel
theorem aw_says1 : need_Says.f 20 9 0 (⟨#[120, 121, 122]⟩ : ByteArray) 0 0 ([] : List (S24)) ([(⟨false, (⟨#[119, 120, 121, 122]⟩ : ByteArray)⟩ : S38)] : List S38) = some 1 := by decide +kernel
theorem aw_says2 : need_Says.f 20 9 0 (⟨#[120, 121, 122]⟩ : ByteArray) 0 0 ([] : List (S24)) ([(⟨true, (⟨#[]⟩ : ByteArray)⟩ : S38)] : List S38) = some 2 := by decide +kernel
theorem aw_skip (x : ByteArray) (hx : x.size ≤ 4096) (b : Bool) (h : (!(rawG x).all (hasB awF)) = b) : Ev (fun k => need_Skip.f k 9 0 x 0 0 ([] : List (S24)) [awF]) b := by
  have := leafSkip_ev (cols := 1) (⟨9, 0, x, 0, 0, []⟩ : S24) (show (9 : Int) ≤ 11 by decide) (show (0 : Int) ≤ 0 by decide) (show (0 : Int) < 1 by decide) hx [awF] rfl 0 rfl (show 0 < 1 by decide) aw_good
  refine Ev.eq this ?_
  rw [← h]
  simp [needs, mayB]
theorem awake_ev : Ev (fun k => hopperlaw16_awake.f k) true := by
  unfold hopperlaw16_awake.f
  refine Ev.bind (Ev.of (fun k => hopperref16_Filters.mono _ _ _ k) aw_filters) (Ev.bind (Ev.of (fun k => need_Right.mono _ _ _ _ _ _ _ k) aw_right1) (Ev.pos rfl (Ev.bind (Ev.of (fun k => need_Right.mono _ _ _ _ _ _ _ k) aw_right0) (Ev.neg (by decide) ?_))))
  refine Ev.bind (aw_skip (⟨#[120, 121, 122]⟩ : ByteArray) (by decide) true (by decide)) (Ev.pos rfl (Ev.bind (aw_skip (⟨#[98, 99, 100]⟩ : ByteArray) (by decide) false (by decide)) (Ev.neg (by decide) ?_)))
  exact Ev.bind (Ev.of (fun k => need_Says.mono _ _ _ _ _ _ _ k) aw_says1) (Ev.pos rfl (Ev.bind (Ev.of (fun k => need_Says.mono _ _ _ _ _ _ _ k) aw_says2) (Ev.val rfl)))
end Go.Proofs.YtdccooaddoafnaaGreatDoor.Pure
