-- PRINTED by print.py (a twelfth state) out of the translation. Not trusted: Lean checks it.
import Derived.Test.YtbgilalhjeodaaaDoorQx0
namespace Go.Proofs.YtbgilalhjeodaaaDoor.Q
open Go.RowKit Go.Proofs.YtbgilalhjeodaaaDoorW.PrintWords Go.Proofs.YtbgilalhjeodaaaDoorW.PrintLast Go.Proofs.YtbgilalhjeodaaaDoorW.PrintMore
attribute [local go_sem] str_gtr str_geq str_leq max2_int min2_int max_two min_two max_three min_three max_four min_four   -- for this text's walks alone
set_option linter.unusedVariables false
set_option linter.unusedSimpArgs false

/-! ### text_Sub: function 15 -/
-- told by hand
def text_Sub.f (a0 : ByteArray) (a1 : Int) (a2 : Int) : Option ByteArray :=
  if a2 ≤ 0 then some (⟨#[]⟩ : ByteArray) else
  if 0 ≤ (subL a0 (max a1 0) a2 a0.size 0 0 a0.size).1 ∧ (subL a0 (max a1 0) a2 a0.size 0 0 a0.size).1 ≤ (subL a0 (max a1 0) a2 a0.size 0 0 a0.size).2 ∧ (subL a0 (max a1 0) a2 a0.size 0 0 a0.size).2 ≤ (a0.size : Int) then
    some (a0.extract (subL a0 (max a1 0) a2 a0.size 0 0 a0.size).1.toNat (subL a0 (max a1 0) a2 a0.size 0 0 a0.size).2.toNat) else none
set_option maxHeartbeats 4000000 in
set_option maxRecDepth 1000000 in
theorem text_Sub.calls (a0 : ByteArray) (a1 : Int) (a2 : Int) (r : ByteArray) (w : World) (h : text_Sub.f a0 a1 a2 = some r) :
    Calls Tryd.prog 15 #[.string a0, .int .i64 a1, .int .i64 a2] w fun e w' => e = .returned (.string r) ∧ Below w.heap.size w w' := by
  unfold text_Sub.f at h
  obtain ⟨F, hF⟩ : ∃ F, max a1 0 = F := ⟨_, rfl⟩
  rw [hF] at h
  have hm : (if a1 < 0 then (0 : Int) else a1) = F := by rw [← hF]; omega
  clear hF
  by_cases c1 : a2 ≤ 0
  · rw [if_pos c1] at h
    obtain rfl := Option.some.inj h
    have c1b : decide (a2 ≤ 0) = true := decide_eq_true c1
    go_enter Tryd.func15, Tryd.ntmps15
    go_wp2
    go_ret
    exact ⟨rfl, Below.refl _ _⟩
  rw [if_neg c1] at h
  have c1b : decide (a2 ≤ 0) = false := decide_eq_false c1
  clear c1
  obtain ⟨R, hR⟩ : ∃ R, subL a0 F a2 a0.size 0 0 a0.size = R := ⟨_, rfl⟩
  rw [hR] at h
  by_cases hb : 0 ≤ R.1 ∧ R.1 ≤ R.2 ∧ R.2 ≤ (a0.size : Int)
  case neg => rw [if_neg hb] at h; cases h
  rw [if_pos hb] at h
  have HE := Aside0.mk (Option.some.inj h)
  have HBD := Aside0.mk hb
  have HRR := Aside0.mk hR
  clear h hb hR
  go_enter Tryd.func15, Tryd.ntmps15
  go_wp2
  clear hm
  go_loopw [7, 8, 9, 10] (fun v7 v8 v9 v10 w' => ∃ (pos b : Nat) (x7 x9 : Int), w' = w.iter a0 pos ∧ v7 = .int .i64 x7 ∧ v8 = .int .i64 a0.size ∧ v9 = .int .i64 x9 ∧ Aside0 (subL a0 F a2 b pos x9 x7 = R) ∧ a0.size ≤ pos + b) (fun _ _ _ _ w' => a0.size - w'.iterPos w.heap.size)
  case atStart => exact ⟨0, a0.size, _, _, rfl, rfl, rfl, rfl, HRR, by omega⟩
  case round =>
    obtain ⟨pos, b, x7, x9, rfl, rfl, rfl, rfl, HC, hb⟩ := hrel
    by_cases hp : pos < a0.size
    · have hnx : ∀ ty, (Instr.next (.pointer (some ⟨w.heap.size, 0, none⟩)) true ty).run Tryd.prog (w.iter a0 pos) = _ := fun ty => run_next_any w a0 pos ty hp
      have hwd := Lib.decode_width_pos a0 pos hp
      obtain ⟨b, rfl⟩ : ∃ b', b = b' + 1 := ⟨b - 1, by omega⟩
      have HB2 := Aside0.mk hb
      clear hb
      by_cases e1 : x9 = F
      · have e1b : (x9 == F) = true := beq_iff_eq.mpr e1
        have e2 : F ≤ x9 := by omega
        have e2b : decide (F ≤ x9) = true := decide_eq_true e2
        by_cases e3 : wrap64 (x9 - F) = a2
        · have e3b : (wrap64 (x9 - F) == a2) = true := beq_iff_eq.mpr e3
          have hq := HC.out
          rw [subL, if_pos hp, if_pos ⟨e2, e3⟩, if_pos e1] at hq
          have q1 : 0 ≤ (pos : Int) := by have := HBD.out.1; rw [← hq] at this; exact this
          have q2 : (pos : Int) ≤ (pos : Int) := by have := HBD.out.2.1; rw [← hq] at this; exact this
          have q3 : (pos : Int) ≤ (a0.size : Int) := by have := HBD.out.2.2; rw [← hq] at this; exact this
          have HQ := Aside0.mk hq
          clear hq e1 e2 e3
          go_wp2
          go_ret
          refine ⟨?_, (Below.refl _ _).alloc (Nat.le_refl _) _⟩
          rw [← HE.out, ← HQ.out]
          first | rfl | exact congrArg (fun z => Ending.returned (Value.string z)) (extract_none _ _)
        · have e3b : (wrap64 (x9 - F) == a2) = false := beq_eq_false_iff_ne.mpr e3
          have hq := HC.out
          rw [subL, if_pos hp, if_neg (fun z => e3 z.2), if_pos e1] at hq
          have HQ := Aside0.mk hq
          clear hq HC e1 e2 e3
          go_wp2
          go_roundw
          case rel => exact ⟨pos + (Utf8.decode a0 pos).2, b, (pos : Int), wrap64 (x9 + 1), rfl, rfl, rfl, by first | rfl | go_num, HQ, by have := HB2.out; omega⟩
          case measure =>
            simp
            omega
      · have e1b : (x9 == F) = false := beq_eq_false_iff_ne.mpr e1
        by_cases e2 : F ≤ x9
        · have e2b : decide (F ≤ x9) = true := decide_eq_true e2
          by_cases e3 : wrap64 (x9 - F) = a2
          · have e3b : (wrap64 (x9 - F) == a2) = true := beq_iff_eq.mpr e3
            have hq := HC.out
            rw [subL, if_pos hp, if_pos ⟨e2, e3⟩, if_neg e1] at hq
            have q1 : 0 ≤ x7 := by have := HBD.out.1; rw [← hq] at this; exact this
            have q2 : x7 ≤ (pos : Int) := by have := HBD.out.2.1; rw [← hq] at this; exact this
            have q3 : (pos : Int) ≤ (a0.size : Int) := by have := HBD.out.2.2; rw [← hq] at this; exact this
            have HQ := Aside0.mk hq
            clear hq e1 e2 e3
            go_wp2
            go_ret
            refine ⟨?_, (Below.refl _ _).alloc (Nat.le_refl _) _⟩
            rw [← HE.out, ← HQ.out]
            first | rfl | exact congrArg (fun z => Ending.returned (Value.string z)) (extract_none _ _)
          · have e3b : (wrap64 (x9 - F) == a2) = false := beq_eq_false_iff_ne.mpr e3
            have hq := HC.out
            rw [subL, if_pos hp, if_neg (fun z => e3 z.2), if_neg e1] at hq
            have HQ := Aside0.mk hq
            clear hq HC e1 e2 e3
            go_wp2
            go_roundw
            case rel => exact ⟨pos + (Utf8.decode a0 pos).2, b, x7, wrap64 (x9 + 1), rfl, rfl, rfl, by first | rfl | go_num, HQ, by have := HB2.out; omega⟩
            case measure =>
              simp
              omega
        · have e2b : decide (F ≤ x9) = false := decide_eq_false e2
          have hq := HC.out
          rw [subL, if_pos hp, if_neg (fun z => e2 z.1), if_neg e1] at hq
          have HQ := Aside0.mk hq
          clear hq HC e1 e2
          go_wp2
          go_roundw
          case rel => exact ⟨pos + (Utf8.decode a0 pos).2, b, x7, wrap64 (x9 + 1), rfl, rfl, rfl, by first | rfl | go_num, HQ, by have := HB2.out; omega⟩
          case measure =>
            simp
            omega
    · have hnx : ∀ ty, (Instr.next (.pointer (some ⟨w.heap.size, 0, none⟩)) true ty).run Tryd.prog (w.iter a0 pos) = _ := fun ty => run_next_end w a0 pos ty hp
      have hq := HC.out
      rw [subL_end a0 F a2 b pos x9 x7 hp] at hq
      have q1 : 0 ≤ x7 := by have := HBD.out.1; rw [← hq] at this; exact this
      have q2 : x7 ≤ (a0.size : Int) := by have := HBD.out.2.1; rw [← hq] at this; exact this
      have HQ := Aside0.mk hq
      clear hq
      go_wp2
      go_ret
      refine ⟨?_, (Below.refl _ _).alloc (Nat.le_refl _) _⟩
      rw [← HE.out, ← HQ.out]
      rfl

end Go.Proofs.YtbgilalhjeodaaaDoor.Q
