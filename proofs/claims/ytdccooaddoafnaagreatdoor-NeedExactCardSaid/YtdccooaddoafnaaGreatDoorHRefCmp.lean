/- What the references compute that compare strings: points, folds, orders. -/
import Derived.Test.YtdccooaddoafnaaGreatDoorHCmpEv
set_option linter.unusedVariables false
set_option linter.unusedSimpArgs false
namespace Go.Proofs.YtdccooaddoafnaaGreatDoor.Pure
open Go.RowKit Go.Proofs.YtdccooaddoafnaaGreatDoor.Q Go.Proofs.YtdccooaddoafnaaGreatDoorW.PrintWords Go.Proofs.YtdccooaddoafnaaGreatDoorW.PrintLast Go.Proofs.YtdccooaddoafnaaGreatDoorW.PrintMore
open TextPure (nth nth_lt dec point enc nums Pts cut cmpZ)
def T (x : Int) : Prop := 128 ≤ x ∧ x < 192
instance T_dec (x : Int) : Decidable (T x) := by unfold T; infer_instance
theorem v2 (c a : Int) (h0 : 0 ≤ c ∧ c ≤ 255) (h1 : 0 ≤ a ∧ a ≤ 255) : wrap64 ((wrap64 ((wrap64 ((wrap64 (c - 192)) * 64)) + (wrap64 a))) - 128) = (c - 192) * 64 + a - 128 := by
  rw [w64 (x := c - 192) (by omega) (by omega), w64 (x := (c - 192) * 64) (by omega) (by omega), w64 (x := a) (by omega) (by omega), w64 (x := (c - 192) * 64 + a) (by omega) (by omega), w64 (by omega) (by omega)]
theorem v3 (c a b : Int) (h0 : 0 ≤ c ∧ c ≤ 255) (h1 : 0 ≤ a ∧ a ≤ 255) (h2 : 0 ≤ b ∧ b ≤ 255) : wrap64 ((wrap64 ((wrap64 ((wrap64 ((wrap64 (c - 224)) * 4096)) + (wrap64 ((wrap64 ((wrap64 a) - 128)) * 64)))) + (wrap64 b))) - 128) = (c - 224) * 4096 + (a - 128) * 64 + b - 128 := by
  rw [w64 (x := c - 224) (by omega) (by omega), w64 (x := (c - 224) * 4096) (by omega) (by omega), w64 (x := a) (by omega) (by omega), w64 (x := a - 128) (by omega) (by omega), w64 (x := (a - 128) * 64) (by omega) (by omega), w64 (x := (c - 224) * 4096 + (a - 128) * 64) (by omega) (by omega), w64 (x := b) (by omega) (by omega), w64 (x := (c - 224) * 4096 + (a - 128) * 64 + b) (by omega) (by omega), w64 (by omega) (by omega)]
theorem v4 (c a b d : Int) (h0 : 0 ≤ c ∧ c ≤ 255) (h1 : 0 ≤ a ∧ a ≤ 255) (h2 : 0 ≤ b ∧ b ≤ 255) (h3 : 0 ≤ d ∧ d ≤ 255) :
    wrap64 ((wrap64 ((wrap64 ((wrap64 ((wrap64 ((wrap64 (c - 240)) * 262144)) + (wrap64 ((wrap64 ((wrap64 a) - 128)) * 4096)))) + (wrap64 ((wrap64 ((wrap64 b) - 128)) * 64)))) + (wrap64 d))) - 128) = (c - 240) * 262144 + (a - 128) * 4096 + (b - 128) * 64 + d - 128 := by
  rw [w64 (x := c - 240) (by omega) (by omega), w64 (x := (c - 240) * 262144) (by omega) (by omega), w64 (x := a) (by omega) (by omega), w64 (x := a - 128) (by omega) (by omega), w64 (x := (a - 128) * 4096) (by omega) (by omega), w64 (x := (c - 240) * 262144 + (a - 128) * 4096) (by omega) (by omega), w64 (x := b) (by omega) (by omega), w64 (x := b - 128) (by omega) (by omega), w64 (x := (b - 128) * 64) (by omega) (by omega), w64 (x := (c - 240) * 262144 + (a - 128) * 4096 + (b - 128) * 64) (by omega) (by omega), w64 (x := d) (by omega) (by omega), w64 (x := (c - 240) * 262144 + (a - 128) * 4096 + (b - 128) * 64 + d) (by omega) (by omega), w64 (by omega) (by omega)]
end Go.Proofs.YtdccooaddoafnaaGreatDoor.Pure
