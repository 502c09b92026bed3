/- The plain laws of codes: encoding, decoding, counting, tables made. -/
import Derived.Test.YtpgdgofmoelgbaaHFsstEv2
set_option linter.unusedVariables false
set_option linter.unusedSimpArgs false
set_option maxHeartbeats 2000000
namespace Go.Proofs.Ytpgdgofmoelgbaa.Pure
open Go.RowKit Go.Proofs.Ytpgdgofmoelgbaa.Q Go.Proofs.YtpgdgofmoelgbaaW.PrintWords Go.Proofs.YtpgdgofmoelgbaaW.PrintLast Go.Proofs.YtpgdgofmoelgbaaW.PrintMore
open HopPure (bl cmpL Rising Table IsLongest Enc decL cntL)

theorem rdecode_l0 (t : List ByteArray) (ht : Table (TL t)) (most : Int) (l : List Int) (hb : Bytes l) (hl : l.length ≤ 100000) : ∀ (n i q : Nat) (out : ByteArray), l.length - i = n → i ≤ l.length → q ≤ i → out.size + 8 * n ≤ 1000000000 →
    Ev (fun k => hopperref11_Decode.l0 k t l most out (i : Int) (q : Int)) (bs (decL (TL t) most out.data.toList (q : Int) (l.drop i)).1, (decL (TL t) most out.data.toList (q : Int) (l.drop i)).2.1, (decL (TL t) most out.data.toList (q : Int) (l.drop i)).2.2) := by
  have hfew := ht.few
  rw [TL_length] at hfew
  intro n
  induction n using Nat.strongRecOn with
  | _ n ih =>
  intro i q out hn hi hq ho
  have hdo := dsz out
  have eq1 : Unit → wrap64 ((q : Int) + 1) = ((q + 1 : Nat) : Int) := fun _ => w64s (n := q + 1) (by omega) (by omega)
  by_cases c : i < l.length
  · have hc := hb l[i] (List.getElem_mem c)
    have ei : Unit → wrap64 ((i : Int) + 1) = ((i + 1 : Nat) : Int) := fun _ => w64s (n := l.length) c (by omega)
    have ei2 : Unit → wrap64 ((i : Int) + 2) = ((i + 2 : Nat) : Int) := fun _ => by rw [w64 (by omega) (by omega)]; omega
    have et1 : (((i + 1 : Nat) : Int)).toNat = i + 1 := by omega
    have et2 : (((i + 2 : Nat) : Int)).toNat = i + 2 := by omega
    by_cases c1 : l[i] = 255
    · by_cases c2 : i + 1 = l.length
      · refine Ev.step (fun k => by rw [hopperref11_Decode.l0]) ?_
        refine Ev.pos (by omega) ?_
        refine Ev.pos (by omega) ?_
        rw [rdn l i c, ei (), eq1 ()]
        refine Ev.pos c1 ?_
        refine Ev.pos (by omega) ?_
        refine Ev.val ?_
        rw [drop_at l i c, List.drop_eq_nil_of_le (by omega), c1, HopPure.decL_cut]; rfl
      · have c3 : i + 1 < l.length := by omega
        refine Ev.step (fun k => by rw [hopperref11_Decode.l0]) ?_
        refine Ev.pos (by omega) ?_
        refine Ev.pos (by omega) ?_
        rw [rdn l i c, ei (), ei2 (), eq1 (), et1, et2]
        have el : (l.take (i + 2)).drop (i + 1) = [l[i + 1]] := by
          rw [List.take_succ_eq_append_getElem c3, List.drop_append_of_le_length (by rw [List.length_take]; omega), List.drop_eq_nil_of_le (by rw [List.length_take]; omega)]; rfl
        rw [el, nb_str]
        have e1 : nb [l[i + 1]] = [UInt8.ofNat (l[i + 1]).toNat] := rfl
        rw [e1]
        have ea : (out ++ bs [UInt8.ofNat (l[i + 1]).toNat]).data.toList = out.data.toList ++ [UInt8.ofNat (l[i + 1]).toNat] := by rw [ba_append_list, bs_list]
        rw [drop_at l i c, drop_at l (i + 1) c3, c1, HopPure.decL_esc, hdo]
        refine Ev.pos rfl ?_
        refine Ev.neg (by omega) ?_
        refine Ev.pos (by omega) ?_
        refine Ev.pos (by omega) ?_
        refine Ev.pos (by omega) ?_
        refine Ev.pos (by rw [bs_size]; simp; omega) ?_
        rw [ba_size_append, bs_size]
        by_cases c4 : (out.size : Int) + 1 > most
        · refine Ev.pos (by simp <;> omega) ?_
          refine Ev.val ?_
          rw [if_pos c4]; simp [bs]
        · rw [if_neg c4]
          refine Ev.neg (by simp <;> omega) ?_
          have h := ih (l.length - (i + 2)) (by omega) (i + 2) (q + 1) (out ++ bs [UInt8.ofNat (l[i + 1]).toNat]) rfl (by omega) (by omega) (by rw [ba_size_append, bs_size]; simp; omega)
          rw [ea] at h
          exact h
    · refine Ev.step (fun k => by rw [hopperref11_Decode.l0]) ?_
      refine Ev.pos (by omega) ?_
      refine Ev.pos (by omega) ?_
      rw [rdn l i c, ei (), eq1 (), w64 (x := l[i]) (by omega) (by omega), drop_at l i c]
      refine Ev.neg c1 ?_
      by_cases c2 : l[i] ≥ (t.length : Int)
      · refine Ev.pos c2 ?_
        refine Ev.val ?_
        rw [HopPure.decL_form _ _ _ _ _ _ c1 (by rw [TL_length]; exact c2)]; rfl
      · obtain ⟨p, hp⟩ := Int.eq_ofNat_of_zero_le hc.1
        have hpl : p < t.length := by omega
        have hp2 : p < (TL t).length := by rw [TL_length]; exact hpl
        have hsz := (ht.sizes _ (List.getElem_mem hp2)).2
        rw [TL_get t p hpl, dsz] at hsz
        rw [hp, rdOfn _ t p hpl, HopPure.decL_sym _ _ _ _ p _ hp2 (by omega), hdo, TL_get t p hpl, dsz]
        refine Ev.neg (by omega) ?_
        refine Ev.pos (by omega) ?_
        refine Ev.pos (by omega) ?_
        refine Ev.pos (by omega) ?_
        rw [ba_size_append]
        by_cases c3 : (out.size : Int) + ((t[p]).size : Int) > most
        · refine Ev.pos (by omega) ?_
          refine Ev.val ?_
          rw [if_pos c3]; simp [bs]
        · rw [if_neg c3]
          refine Ev.neg (by omega) ?_
          have h := ih (l.length - (i + 1)) (by omega) (i + 1) (q + 1) (out ++ t[p]) rfl (by omega) (by omega) (by rw [ba_size_append]; omega)
          rw [ba_append_list] at h
          exact h
  · refine Ev.step (fun k => by rw [hopperref11_Decode.l0]) ?_
    refine Ev.neg (by omega) ?_
    refine Ev.val ?_
    rw [List.drop_eq_nil_of_le (by omega), HopPure.decL_nil, bs_of]
theorem rdecode_ev (t : List ByteArray) (ht : Table (TL t)) (most : Int) (l : List Int) (hb : Bytes l) (hl : l.length ≤ 100000) :
    Ev (fun k => hopperref11_Decode.f k t l most) (bs (decL (TL t) most [] 0 l).1, (decL (TL t) most [] 0 l).2.1, (decL (TL t) most [] 0 l).2.2) :=
  rdecode_l0 t ht most l hb hl l.length 0 0 (⟨#[]⟩ : ByteArray) rfl (by omega) (by omega) (by show 0 + _ ≤ _; omega)
end Go.Proofs.Ytpgdgofmoelgbaa.Pure
