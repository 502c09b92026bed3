-- PRINTED by print.py (a twelfth state) out of the translation. Not trusted: Lean checks it.
import Derived.Test.YtdojgfkcpaeacaaDoorQx0
namespace Go.Proofs.YtdojgfkcpaeacaaDoor.Q
open Go.RowKit Go.Proofs.YtdojgfkcpaeacaaDoorW.PrintWords Go.Proofs.YtdojgfkcpaeacaaDoorW.PrintLast Go.Proofs.YtdojgfkcpaeacaaDoorW.PrintMore
attribute [local go_sem] str_gtr str_geq str_leq max2_int min2_int max_two min_two max_three min_three max_four min_four
set_option linter.unusedVariables false
set_option maxHeartbeats 4000000
set_option maxRecDepth 1000000
set_option linter.unusedSimpArgs false

/-! ### api_Val: function 36 -/
-- told by hand
def api_Val.f (l0 : List (S36)) : Option (List (S36)) := if l0.length * 24 ≤ 140737488355328 then some l0 else none
theorem api_Val.calls (A0 : Option Addr) (c0 : Nat) (l0 : List (S36)) (r : List (S36)) (w : World) (hr0 : Kd.C k36 w A0 l0.length l0) (hc0 : l0.length ≤ c0) (h : api_Val.f l0 = some r) :
  Calls Tryd.prog 36 #[.slice A0 l0.length c0] w fun e w' => ∃ v0_ : Value, e = .returned (v0_) ∧ Kd.R k36 36 w' w.heap.size (fun _ => True) v0_ r ∧ Below w.heap.size w w' := by
 unfold api_Val.f at h
 by_cases hs : l0.length * 24 ≤ 140737488355328
 case neg => rw [if_neg hs] at h; cases h
 rw [if_pos hs] at h; obtain rfl := Option.some.inj h
 clear h; have HS := Aside0.mk hs; clear hs
 cases A0 with
 | none =>
  have h0 : l0 = [] := by
   cases l0 with
   | nil => rfl
   | cons x l =>
    obtain ⟨_, _, e, _⟩ := Kd.C_get hr0 z36 0 (by omega) (by simp)
    cases e
  subst h0; have hq := fun W => run_eqlNil Tryd.underlying28 none 0 c0 W
  go_enter Tryd.func36, Tryd.ntmps36
  go_wp2
  go_ret
  exact ⟨_, rfl, Kd.R_nil _ _ _ _ _, Below.refl _ _⟩
 | some ad =>
  have HR0 := Aside0.mk hr0; clear hr0; have HB := Aside0.mk (Below.refl w.heap.size w)
  have hq := fun W => run_eqlNil Tryd.underlying28 (some ad) l0.length c0 W
  go_enter Tryd.func36, Tryd.ntmps36
  go_wp2_with (first | ((with_reducible refine gate_dst (N := 5) rfl ?_); refine Kd.R_lit k36 _ 36 ?hg (N := 5) ?hd (xs := ([] : List (S36))) (inner := []) (ok := fun _ => True) (okp := fun _ => True) ?hr ?hp (fun _ hk => hk) trivial (Below.refl _ _) (Nat.le_refl _) (by simp) ?_; (case hd => rfl); (case hg => rfl); (case hr => first | (go_simp; done) | (go_simp; rfl)); (case hp => exact (Reps.none _ _)); intro v285 w20 ho21 hb hg_ hnew_; clear hg_ hnew_; have n1_ := Aside0.mk (Kd.R_lower ho21 (below_size HB.out)); have n2_ := Aside0.mk (below_step HB.out hb); clear HB; have HO286 := n1_; have HB := n2_; clear n1_ n2_; clear hb ho21) | ((with_reducible refine gate_builtin (b := .append) (xs := #[.tmp 5, .tmp 6]) rfl ?_); at_builtin; refine Kd.R_append_rows k36 (w0 := w) w.heap.size rfl (.tmp 5) (.tmp 6) 28 36 (.agg #[.bool false, .string ⟨#[]⟩]) 24 rfl Tryd.underlying28 info36 rfl (by decide) (by omega) v285 [] l0 _ _ _ (fun _ => True) (fun _ => False) rfl rfl ?aO ?aR (fun _ _ h => h) (fun _ h => h.elim) ?aF ?aB ?aS ?aL ?_; (case aR => exact Kd.C_below HR0.out HB.out); (case aB => exact HB.out); (case aF => exact (fun _ _ => trivial)); (case aO => exact HO286.out); (case aS => exact (below_size HB.out)); (case aL => have := HS.out; simp; omega); intro v288 w22 ho hb hg hat; have n1_ := Aside0.mk hb; have n2_ := Aside0.mk ho; clear HB; clear HO286; have HB := n1_; have HO289 := n2_; clear n1_ n2_; clear ho hb hg hat))
  go_ret
  exact ⟨_, rfl, by have := HO289.out; simpa using this, HB.out⟩

end Go.Proofs.YtdojgfkcpaeacaaDoor.Q
