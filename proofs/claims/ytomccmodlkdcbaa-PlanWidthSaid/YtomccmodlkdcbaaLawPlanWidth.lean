/- The row of the law PlanWidth: out of its pure statement and the printed contract. -/
import Derived.Test.YtomccmodlkdcbaaRows
import Derived.Test.YtomccmodlkdcbaaQx12
import Derived.Test.YtomccmodlkdcbaaPurePlanWidth
import Derived.WalkKit
import Derived.ProofKit
import Derived.OpenShut
import Derived.ShutString
import Derived.ChangeOld
import Derived.Below
import Derived.SizedLaws
set_option linter.unusedVariables false
namespace Go.Proofs.Ytomccmodlkdcbaa.planWidth
open Go.ChangeShapes Go.WideShapes Go.ChangeAt Go.RowKit Go.Proofs.YtomccmodlkdcbaaW.PrintWords Go.Proofs.YtomccmodlkdcbaaW.PrintLast Go.Proofs.Ytomccmodlkdcbaa.Q
open Go.ChangeMaps (open_string shut_string)
theorem own : ownKnob Try.prog.godebug = none := by kernel_rfl
theorem laidOut : laidOutB Try.prog = true := by kernel_rfl
set_option maxRecDepth 100000 in
theorem lifted (os : Os) (started : os.Started) (H : Type) (enc : TypeId × Value → H) :
    ReturnsInHanded {} Try.checked os 6 .any (Rows.planWidthSpec.pre6 enc Try.prog Try.f6 Rows.planWidthRow.domain false) (Rows.planWidthSpec.post enc Try.prog Try.f6 false true false false) := by
  refine returnsInHanded_of_change_sized (C := Try.checked) own started (by kernel_rfl) Try.func6
    (ChangeSpec.witness6 (enc := enc) (C := Try.checked) false ⟨#[], #[.agg #[.int .i64 0, .string ByteArray.empty, .int .i64 0, .int .i64 0, .string ByteArray.empty, .int .i64 0, .int .i64 0, .slice none 0 0, .slice none 0 0, .slice none 0 0, .slice none 0 0, .int .i64 0, .slice none 0 0, .slice none 0 0, .slice none 0 0, .int .i64 0, .int .i64 0, .slice none 0 0], .slice none 0 0, .int .u8 0], []⟩ 8 (by kernel_rfl) (by kernel_rfl) (by kernel_rfl) (by kernel_rfl)) ?_
  intro W base args ds gs before hval0 hW hcnd hsz0 _
  have hval : ∀ (j : Nat) t v, Try.f6.params[j]? = some t → args[j]? = some v → Value.okWide Try.prog W .any base t v := hval0
  have hW' := hW
  obtain ⟨p, q, hA0, hV, rfl, hfz, hnd⟩ := hW
  have hA : DataW.TrodAll enc Try.prog W 0 (fun _ => true) true Try.f6.params.toList args.toList ds p := hA0
  rw [Try.params6] at hA hval
  obtain ⟨v0, vs0, d0, ds0, p0, q0, hargs, rfl, rfl, h0, r0⟩ := trodAll_cons hA
  obtain ⟨v1, vs1, d1, ds1, p1, q1, rfl, rfl, rfl, h1, r1⟩ := trodAll_cons r0
  obtain ⟨v2, vs2, d2, ds2, p2, q2, rfl, rfl, rfl, h2, r2⟩ := trodAll_cons r1
  obtain ⟨rfl, rfl, rfl⟩ := trodAll_nil r2
  obtain rfl : args = #[v0, v1, v2] := by cases args; simp_all
  obtain ⟨rfl, rfl⟩ := trodVars_none hV
  obtain ⟨cs0, rfl, hz0⟩ := okWide_struct Try.underlying31 (hval 0 31 v0 rfl rfl)
  have k0 := h0
  have lt0 : ∀ x ∈ p0, x.block < W.heap.size := by obtain ⟨m, hm⟩ := k0; exact DataW.trod_lt m _ _ _ hm
  obtain ⟨x0, hK0, wf0⟩ := Opens.struct_arg opens31 h0
  obtain ⟨wf0_0, wf0_1, wf0_2, wf0_3, wf0_4, wf0_5, wf0_6, wf0_7, wf0_8, wf0_9, wf0_10, wf0_11, wf0_12, wf0_13, wf0_14, wf0_15, wf0_16, wf0_17⟩ := wf31_leaves wf0
  obtain ⟨A0_7, c0_7, A0_8, c0_8, A0_9, c0_9, A0_10, c0_10, A0_12, c0_12, A0_13, c0_13, A0_14, c0_14, A0_17, c0_17, e0_, hc0_7, hr0_7, hc0_8, hr0_8, hc0_9, hr0_9, hc0_10, hr0_10, hc0_12, hr0_12, hc0_13, hr0_13, hc0_14, hr0_14, hc0_17, hr0_17⟩ := k31_open hK0
  obtain rfl : cs0 = #[.int .i64 x0.f0, .string x0.f1, .int .i64 x0.f2.f0, .int .i64 x0.f2.f1, .string x0.f2.f2, .int .i64 x0.f2.f3, .int .i64 x0.f2.f4, .slice A0_7 x0.f2.f5.length c0_7, .slice A0_8 x0.f3.length c0_8, .slice A0_9 x0.f4.length c0_9, .slice A0_10 x0.f5.length c0_10, .int .i64 x0.f6, .slice A0_12 x0.f7.length c0_12, .slice A0_13 x0.f8.length c0_13, .slice A0_14 x0.f9.length c0_14, .int .i64 x0.f10, .int .i64 x0.f11, .slice A0_17 x0.f12.length c0_17] := by rw [← Array.toList_inj]; exact e0_
  obtain ⟨a1, len1, cap1, rfl⟩ := okWide_slice Try.underlying32 (hval 1 32 v1 rfl rfl)
  have k1 := h1
  have lt1 : ∀ x ∈ p1, x.block < W.heap.size := by obtain ⟨m, hm⟩ := k1; exact DataW.trod_lt m _ _ _ hm
  obtain ⟨l1, rfl, hr1, hc1, wf1⟩ := Opens.slice_arg (Opens.slice (d := k46) Try.underlying32 (by kernel_rfl) opens46) h1
  obtain ⟨a2, rfl, rfl, rfl, w2⟩ := open_int Try.underlying5 (hval 2 5 v2 rfl rfl) h2
  clear hA0 hval0 hsz0
  obtain ⟨k_, hK⟩ := Pure.PlanWidth x0.f0 x0.f1 x0.f2.f0 x0.f2.f1 x0.f2.f2 x0.f2.f3 x0.f2.f4 x0.f2.f5 x0.f3 x0.f4 x0.f5 x0.f6 x0.f7 x0.f8 x0.f9 x0.f10 x0.f11 x0.f12 l1 a2 wf0_0 wf0_1 wf0_2 wf0_3 wf0_4 wf0_5 wf0_6 wf0_7 wf0_8 wf0_9 wf0_10 wf0_11 wf0_12 wf0_13 wf0_14 wf0_15 wf0_16 wf0_17 wf1 w2
  refine (hopperlaw25_PlanWidth.calls k_ x0.f0 x0.f1 x0.f2.f0 x0.f2.f1 x0.f2.f2 x0.f2.f3 x0.f2.f4 A0_7 c0_7 x0.f2.f5 A0_8 c0_8 x0.f3 A0_9 c0_9 x0.f4 A0_10 c0_10 x0.f5 x0.f6 A0_12 c0_12 x0.f7 A0_13 c0_13 x0.f8 A0_14 c0_14 x0.f9 x0.f10 x0.f11 A0_17 c0_17 x0.f12 a1 cap1 l1 a2 true W hr0_7 hc0_7 hr0_8 hc0_8 hr0_9 hc0_9 hr0_10 hc0_10 hr0_12 hc0_12 hr0_13 hc0_13 hr0_14 hc0_14 hr0_17 hc0_17 hr1 hc1 hK).mono ?_
  rintro e W' ⟨rfl, hd_⟩
  have bel : Below W.heap.size W W' := hd_
  exact ⟨_, rfl, _, _, _, [], _, [], hW', trodAll_mk1 (shut_bool Try.underlying4 _), (trodAll_cons_mk (Below.trod laidOut (by kernel_rfl) (of_decide_eq_true (by kernel_rfl)) k0 bel lt0) (trodAll_cons_mk (Below.trod laidOut (by kernel_rfl) (of_decide_eq_true (by kernel_rfl)) k1 bel lt1) (trodAll_cons_mk (shut_int Try.underlying5 w2) trodAll_mk0))), rfl, bel.frame _, fun h => by cases h⟩
theorem over : Rows.planWidthRow.holds Try.pinned (OpenSpec.ofChange Rows.planWidthSpec) :=
  OpenClaim.holds_of_wide 6 Try.f6 rfl rfl rfl rfl rfl rfl rfl ⟨rfl, rfl, rfl, rfl, rfl⟩ rfl rfl rfl rfl rfl (by kernel_rfl) Try.func6 (by kernel_rfl)
    (of_decide_eq_true (by kernel_rfl)) (by unfold Func.isWrapper; first | (rw [if_pos (by decide +kernel)]; kernel_rfl) | (rw [if_neg (by decide +kernel)]; exact ⟨rfl, rfl⟩))
    (fun os started H enc _ => lifted os started H enc)
theorem proved : Rows.PlanWidthSaid := over
#print axioms proved
end Go.Proofs.Ytomccmodlkdcbaa.planWidth
namespace Go.Proofs.Ytomccmodlkdcbaa
/-- The row, under a short name, for the claim. -/
theorem planWidth_holds : Rows.PlanWidthSaid := planWidth.proved
end Go.Proofs.Ytomccmodlkdcbaa
