-- PRINTED by print.py (a twelfth state) out of the translation. Not trusted: Lean checks it.
import Derived.Test.YtomccmodlkdcbaaQx0
namespace Go.Proofs.Ytomccmodlkdcbaa.Q
open Go.RowKit Go.Proofs.YtomccmodlkdcbaaW.PrintWords Go.Proofs.YtomccmodlkdcbaaW.PrintLast Go.Proofs.YtomccmodlkdcbaaW.PrintMore
attribute [local go_sem] str_gtr str_geq str_leq max2_int min2_int max_two min_two max_three min_three max_four min_four   -- for this text's walks alone
set_option linter.unusedVariables false
set_option linter.unusedSimpArgs false

/-! ### group_Right: function 45 -/
-- told by hand
def group_Right.f (l0 : List Int) (l1 : List (S72)) (a2 : Int) : Option (Bool) := none
theorem group_Right.calls (A0 : Option Addr) (c0 : Nat) (l0 : List Int) (A1 : Option Addr) (c1 : Nat) (l1 : List (S72)) (a2 : Int) (r : Bool) (w : World) (hr0 : Kd.C (Kd.int .i64) w A0 l0.length l0) (hc0 : l0.length ≤ c0) (hr1 : Kd.C k72 w A1 l1.length l1) (hc1 : l1.length ≤ c1) (h : group_Right.f l0 l1 a2 = some r) :
    Calls Try.prog 45 #[.slice A0 l0.length c0, .slice A1 l1.length c1, .int .i64 a2] w fun e w' => e = .returned (.bool r) ∧ Below w.heap.size w w' := by
  unfold group_Right.f at h
  cases h

end Go.Proofs.Ytomccmodlkdcbaa.Q
