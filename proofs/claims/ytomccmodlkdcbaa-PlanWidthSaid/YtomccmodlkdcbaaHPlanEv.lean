/- The printed functions of layer 25, in plain words: awake. -/
import Derived.Test.YtomccmodlkdcbaaHEvBase
import Derived.Test.YtomccmodlkdcbaaQx
set_option linter.unusedVariables false
set_option linter.unusedSimpArgs false
namespace Go.Proofs.Ytomccmodlkdcbaa.Pure
open Go.RowKit Go.Proofs.Ytomccmodlkdcbaa.Q Go.Proofs.YtomccmodlkdcbaaW.PrintWords Go.Proofs.YtomccmodlkdcbaaW.PrintLast Go.Proofs.YtomccmodlkdcbaaW.PrintMore
theorem sort_of {l : List ByteArray} (hl : l.length < 4611686018427387904) (h : (l.map toB).Pairwise fun x y => decide (x ≤ y) = true) : slices_Sort_string_string.f l = some l := by
  unfold slices_Sort_string_string.f sortS
  rw [if_pos hl, List.mergeSort_of_pairwise h, List.map_map]
  congr 1
  conv => rhs; rw [← List.map_id l]
  exact List.map_congr_left fun x _ => ofB_toB x
theorem sort_one (x : ByteArray) : slices_Sort_string_string.f [x] = some [x] := sort_of (by simp) (by simp)
theorem sort_tu : slices_Sort_string_string.f [⟨#[116]⟩, ⟨#[117]⟩] = some [⟨#[116]⟩, ⟨#[117]⟩] := sort_of (by simp) (by simp [toB]; decide)
theorem comp_one (x : ByteArray) : slices_Compact_string_string.f [x] = some [x] := by
  unfold slices_Compact_string_string.f compS
  rw [if_pos (by simp), Lib.compact_all _ (fun j hj => ?_)]
  · simp [ofB_toB]
  · exact Lib.keeps_lt_one _ j (by simpa using hj)
theorem comp_tu : slices_Compact_string_string.f [⟨#[116]⟩, ⟨#[117]⟩] = some [⟨#[116]⟩, ⟨#[117]⟩] := by kernel_rfl
def scanS (x : ByteArray) : S31 := ⟨1, x, ⟨0, 0, ⟨#[]⟩, 0, 0, []⟩, [], [], [], 0, [], [], [], 0, 0, []⟩
theorem tablesP_leaf (x : ByteArray) (k : Nat) : tablesP (k + 1) (scanS x) = some [x] := by
  simp [tablesP, scanS, tabsL, sort_one, comp_one]
theorem tables_tu (k : Nat) : plan_Tables.f (k + 2) 5 ⟨#[]⟩ 0 0 ⟨#[]⟩ 0 0 [] [] [] [] 1 [1] [0] [] 0 0 [scanS ⟨#[116]⟩, scanS ⟨#[117]⟩] = some [⟨#[116]⟩, ⟨#[117]⟩] := by
  unfold plan_Tables.f
  rw [tablesP]
  simp [tabsL, tablesP_leaf, sort_tu, comp_tu]
theorem awake_ev : Ev (fun k => hopperlaw25_awake.f k) true := by
  refine Ev.of (fun k => hopperlaw25_awake.mono k) (k := 40) ?_
  unfold hopperlaw25_awake.f
  rw [show hopperlaw25_scan.f (⟨#[116]⟩ : ByteArray) = some (1, ⟨#[116]⟩, 0, 0, ⟨#[]⟩, 0, 0, [], [], [], [], 0, [], [], [], 0, 0, []) from rfl, show hopperlaw25_scan.f (⟨#[117]⟩ : ByteArray) = some (1, ⟨#[117]⟩, 0, 0, ⟨#[]⟩, 0, 0, [], [], [], [], 0, [], [], [], 0, 0, []) from rfl, show hopperlaw25_scan.f (⟨#[118]⟩ : ByteArray) = some (1, ⟨#[118]⟩, 0, 0, ⟨#[]⟩, 0, 0, [], [], [], [], 0, [], [], [], 0, 0, []) from rfl]
  simp only [Option.bind_some]
  have h := tables_tu 38
  unfold scanS at h
  rw [show 38 + 2 = 40 from rfl] at h
  rw [h]
  simp only [Option.bind_some]
  decide +kernel
end Go.Proofs.Ytomccmodlkdcbaa.Pure
