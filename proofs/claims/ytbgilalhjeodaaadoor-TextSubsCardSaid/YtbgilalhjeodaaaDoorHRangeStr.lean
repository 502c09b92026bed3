/- What a walk over a string's points needs. -/
import Derived.Lib.RuneCount
import Derived.Laws.RangeString
import Derived.Laws.RangeAny
import Derived.LoopTactic
import Derived.Test.YtbgilalhjeodaaaDoorWMore
set_option linter.unusedVariables false
set_option linter.unusedSimpArgs false
namespace Go.Proofs.YtbgilalhjeodaaaDoorW.PrintWords
open Go.RowKit
/-- Where 'text.Sub' begins and ends: from a place on, by so many points. -/
def subL (s : ByteArray) (a n : Int) : Nat → Nat → Int → Int → Int × Int
  | 0, _, _, b => (b, s.size)
  | k + 1, pos, x, b => if pos < s.size then (if a ≤ x ∧ wrap64 (x - a) = n then ((if x = a then (pos : Int) else b), (pos : Int)) else subL s a n k (pos + (Utf8.decode s pos).2) (wrap64 (x + 1)) (if x = a then (pos : Int) else b)) else (b, s.size)
theorem subL_end (s : ByteArray) (a n : Int) (k pos : Nat) (x b : Int) (h : ¬ pos < s.size) : subL s a n k pos x b = (b, (s.size : Int)) := by
  cases k with
  | zero => rfl
  | succ k => rw [subL, if_neg h]
theorem extract_none (s : ByteArray) (n : Nat) : ByteArray.empty = s.extract n n := by
  apply ByteArray.ext
  simp [ByteArray.data_extract]
end Go.Proofs.YtbgilalhjeodaaaDoorW.PrintWords
