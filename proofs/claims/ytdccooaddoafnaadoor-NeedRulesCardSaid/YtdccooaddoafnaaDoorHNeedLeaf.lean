/- What a leaf skips; the filters of rows. -/
import Derived.Test.YtdccooaddoafnaaDoorHNeedBase
import Derived.Test.YtdccooaddoafnaaDoorHRowsEv
set_option linter.unusedVariables false
set_option linter.unusedSimpArgs false
namespace Go.Proofs.YtdccooaddoafnaaDoor.Pure
open Go.RowKit Go.Proofs.YtdccooaddoafnaaDoor.Q Go.Proofs.YtdccooaddoafnaaDoorW.PrintWords Go.Proofs.YtdccooaddoafnaaDoorW.PrintLast Go.Proofs.YtdccooaddoafnaaDoorW.PrintMore
theorem rdV (l : List S40) (i : Nat) (h : i < l.length) : rd_T40 l (i : Int) = l[i] := by simp [rd_T40, List.getD, h]
theorem rdF (l : List S50) (i : Nat) (h : i < l.length) : rd_T50 l (i : Int) = l[i] := by simp [rd_T50, List.getD, h]
theorem leafSkip_ev {cols : Int} (p : S24) (hk2 : p.f0 ≤ 11) (h1 : 0 ≤ p.f1) (h2 : p.f1 < cols) (hp : p.f2.size ≤ 4096) (f : List S50) (hl : (f.length : Int) = cols) (j : Nat) (ej : p.f1 = (j : Int)) (hj : j < f.length) (hGj : GoodF f[j]) :
    Ev (fun k => skipP k p f) ((needs p).any fun s => !mayB f[j] s) := by
  have hns := needs_size p hp
  have er : rd_T50 f p.f1 = f[j] := by rw [ej]; exact rdF f j hj
  refine Ev.step (fun k => by rw [skipP]) (Ev.neg (by omega) (Ev.neg (by omega) (Ev.neg (by omega) (Ev.bind (runsP_ev p hp) ?_))))
  refine anyE_ev (fun k s => (mayAt k f p.f1 s).map (!·)) (fun s => !mayB f[j] s) _ (fun s hs => Ev.map1 (!·) ?_)
  unfold mayAt
  rw [er]
  exact Ev.pos h1 (Ev.pos (by omega) (may_ev f[j] hGj s (by have := hns s hs; omega)))
/-! ### the reference's filters -/
end Go.Proofs.YtdccooaddoafnaaDoor.Pure
