/- The row of the law TrainRight: out of its pure statement and the printed contract. -/
import Derived.Test.YtjodnhlfodmpeaaHSized
import Derived.Test.YtjodnhlfodmpeaaRows
import Derived.Test.YtjodnhlfodmpeaaQx7
import Derived.Test.YtjodnhlfodmpeaaPureTrainRight
import Derived.WalkKit
import Derived.ProofKit
import Derived.OpenShut
import Derived.ShutString
import Derived.ChangeOld
import Derived.Below
import Derived.SizedLaws
import Derived.HandedShaped
set_option linter.unusedVariables false
namespace Go.Proofs.Ytjodnhlfodmpeaa.trainRight
open Go.ChangeShapes Go.WideShapes Go.ChangeAt Go.RowKit Go.Proofs.YtjodnhlfodmpeaaW.PrintWords Go.Proofs.YtjodnhlfodmpeaaW.PrintLast Go.Proofs.Ytjodnhlfodmpeaa.Q
open Go.ChangeMaps (open_string shut_string)
theorem own : ownKnob Try.prog.godebug = none := by kernel_rfl
theorem laidOut : laidOutB Try.prog = true := by kernel_rfl
set_option maxRecDepth 100000 in
theorem lifted (os : Os) (started : os.Started) (H : Type) (enc : TypeId × Value → H) :
    ReturnsInHanded {} Try.checked os 8 .any (Rows.trainRightSpec.pre6 enc Try.prog Try.f8 Rows.trainRightRow.domain false) (Rows.trainRightSpec.post enc Try.prog Try.f8 false true false false) := by
  refine returnsInHanded_of_change_shaped (C := Try.checked) own started (by kernel_rfl) Try.func8
    (ChangeSpec.witness6 (enc := enc) (C := Try.checked) false ⟨#[], #[.slice none 0 0, .int .u8 0], []⟩ 8 (by kernel_rfl) (by kernel_rfl) (by kernel_rfl) (by kernel_rfl)) ?_
  intro W base args ds gs before hval0 hW hcnd hsz0 hsh _
  have hval : ∀ (j : Nat) t v, Try.f8.params[j]? = some t → args[j]? = some v → Value.okWide Try.prog W .any base t v := hval0
  have hW' := hW
  obtain ⟨p, q, hA0, hV, rfl, hfz, hnd⟩ := hW
  have hA : DataW.TrodAll enc Try.prog W 0 (fun _ => true) true Try.f8.params.toList args.toList ds p := hA0
  rw [Try.params8] at hA hval
  obtain ⟨v0, vs0, d0, ds0, p0, q0, hargs, rfl, rfl, h0, r0⟩ := trodAll_cons hA
  obtain ⟨v1, vs1, d1, ds1, p1, q1, rfl, rfl, rfl, h1, r1⟩ := trodAll_cons r0
  obtain ⟨rfl, rfl, rfl⟩ := trodAll_nil r1
  obtain rfl : args = #[v0, v1] := by cases args; simp_all
  obtain ⟨rfl, rfl⟩ := trodVars_none hV
  obtain ⟨a0, len0, cap0, rfl⟩ := okWide_slice Try.underlying22 (hval 0 22 v0 rfl rfl)
  have k0 := h0
  have lt0 : ∀ x ∈ p0, x.block < W.heap.size := by obtain ⟨m, hm⟩ := k0; exact DataW.trod_lt m _ _ _ hm
  obtain ⟨l0, rfl, hr0, hc0, wf0⟩ := Opens.slice_arg (Opens.slice (d := Kd.string) Try.underlying22 (by kernel_rfl) (Opens.string Try.underlying9)) h0
  have wf0 := strs_sized Try.underlying22 Try.underlying9 (by kernel_rfl) h0 hr0 (fun n hn => by have h_ := List.all_eq_true.1 hsz0 n (DataW.weights_mem_each (j := 0) (t := 22) (by kernel_rfl) (by rfl) n hn); simpa using h_)
  obtain ⟨a1, rfl, rfl, rfl, w1⟩ := open_int Try.underlying5 (hval 1 5 v1 rfl rfl) h1
  have hU : Facts W := Try.laysM143.s1_3 W hsh
  clear hA0 hval0 hsz0
  obtain ⟨k_, hK⟩ := Pure.TrainRight l0 a1 wf0 w1
  refine (hopperlaw12_TrainRight.calls k_ a0 cap0 l0 a1 true W hr0 hc0 hU hK).mono ?_
  rintro e W' ⟨rfl, hd_⟩
  have bel : Below W.heap.size W W' := hd_
  exact ⟨_, rfl, _, _, _, [], _, [], hW', trodAll_mk1 (shut_bool Try.underlying4 _), (trodAll_cons_mk (Below.trod laidOut (by kernel_rfl) (of_decide_eq_true (by kernel_rfl)) k0 bel lt0) (trodAll_cons_mk (shut_int Try.underlying5 w1) trodAll_mk0)), rfl, bel.frame _, fun h => by cases h⟩
theorem over : Rows.trainRightRow.holds Try.pinned (OpenSpec.ofChange Rows.trainRightSpec) :=
  OpenClaim.holds_of_wide 8 Try.f8 rfl rfl rfl rfl rfl rfl rfl ⟨rfl, rfl, rfl, rfl, rfl⟩ rfl rfl rfl rfl rfl (by kernel_rfl) Try.func8 (by kernel_rfl)
    (of_decide_eq_true (by kernel_rfl)) (by unfold Func.isWrapper; first | (rw [if_pos (by decide +kernel)]; kernel_rfl) | (rw [if_neg (by decide +kernel)]; exact ⟨rfl, rfl⟩))
    (fun os started H enc _ => lifted os started H enc)
theorem proved : Rows.TrainRightSaid := over
#print axioms proved
end Go.Proofs.Ytjodnhlfodmpeaa.trainRight
namespace Go.Proofs.Ytjodnhlfodmpeaa
/-- The row, under a short name, for the claim. -/
theorem trainRight_holds : Rows.TrainRightSaid := trainRight.proved
end Go.Proofs.Ytjodnhlfodmpeaa
