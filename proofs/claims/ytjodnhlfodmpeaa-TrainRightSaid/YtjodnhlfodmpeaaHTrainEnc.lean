/- Encoding: what the printed function comes to. -/
import Derived.Test.YtjodnhlfodmpeaaHTrainBase
set_option linter.unusedVariables false
set_option linter.unusedSimpArgs false
set_option maxHeartbeats 2000000
namespace Go.Proofs.Ytjodnhlfodmpeaa.Pure
open Go.RowKit Go.Proofs.Ytjodnhlfodmpeaa.Q Go.Proofs.YtjodnhlfodmpeaaW.PrintWords Go.Proofs.YtjodnhlfodmpeaaW.PrintLast Go.Proofs.YtjodnhlfodmpeaaW.PrintMore
open HopPure (bl cmpL Rising Table IsLongest Enc)

theorem encode_l0 (t : List ByteArray) (ht : Table (TL t)) : ∀ (n : Nat) (s : ByteArray) (acc : List Int), s.size = n → acc.length + 2 * n ≤ 1000000000 →
    ∃ b, Ev (fun k => fsst_Encode.l0 k t s acc) (acc ++ b) ∧ Enc (TL t) s.data.toList b := by
  intro n
  induction n using Nat.strongRecOn with
  | _ n ih =>
  intro s acc hn ha
  have hd := dsz s
  by_cases c : s.size = 0
  · refine ⟨[], Ev.step (fun k => by rw [fsst_Encode.l0]) (Ev.neg (by omega) (Ev.val (by simp))), ?_⟩
    rw [List.eq_nil_of_length_eq_zero (hd.trans c)]
    exact Enc.nil
  · obtain ⟨cd, m, h1, h2⟩ := longest_ev t s ht
    rcases h2 with ⟨rfl, rfl, h3⟩ | ⟨i, hi, rfl, rfl, h3, h4⟩
    · have hs : (s.extract 1 s.size).size = s.size - 1 := by rw [← dsz, cut_from, List.length_drop, hd]
      have h0 : 0 < s.data.toList.length := by omega
      obtain ⟨c0, r0, e⟩ : ∃ c0 r0, s.data.toList = c0 :: r0 := by
        cases hh : s.data.toList with
        | nil => rw [hh] at h0; simp at h0
        | cons c0 r0 => exact ⟨c0, r0, rfl⟩
      have e2 : bt s 0 = (c0.toNat : Int) := by have := btn s 0 h0; simp only [e, List.getElem_cons_zero] at this; exact this
      obtain ⟨b, hb, he⟩ := ih (s.size - 1) (by omega) (s.extract 1 s.size) (acc ++ [255, bt s 0]) hs (by simp; omega)
      refine ⟨255 :: bt s 0 :: b, ?_, ?_⟩
      · refine Ev.step (fun k => by rw [fsst_Encode.l0]) ?_
        refine Ev.pos (by omega) ?_
        refine Ev.bind h1 ?_
        try dsimp only
        refine Ev.pos (by simp) ?_
        refine Ev.pos (by omega) ?_
        refine Ev.bind (Ev.now _) ?_
        try dsimp only
        refine Ev.pos (by simp <;> omega) ?_
        refine Ev.pos (by omega) ?_
        refine Ev.eq hb (by simp)
      · rw [cut_from] at he
        rw [e2]
        rw [e] at h3 he ⊢
        exact Enc.esc (.inl ⟨rfl, rfl, h3⟩) (by simpa using he)
    · have hsz := ht.sizes _ (List.getElem_mem hi)
      have hle := h3.length_le
      have hfew := ht.few
      have em : ((((TL t)[i]).length : Int)).toNat = ((TL t)[i]).length := by omega
      have hs : (s.extract ((TL t)[i]).length s.size).size = s.size - ((TL t)[i]).length := by rw [← dsz, cut_from, List.length_drop, hd]
      obtain ⟨b, hb, he⟩ := ih (s.size - ((TL t)[i]).length) (by omega) (s.extract ((TL t)[i]).length s.size) (acc ++ [(i : Int)]) hs (by simp; omega)
      refine ⟨(i : Int) :: b, ?_, ?_⟩
      · refine Ev.step (fun k => by rw [fsst_Encode.l0]) ?_
        refine Ev.pos (by omega) ?_
        refine Ev.bind h1 ?_
        try dsimp only
        refine Ev.neg (by simp) ?_
        refine Ev.pos (by omega) ?_
        refine Ev.pos (by simp) ?_
        refine Ev.pos (by show (((TL t)[i]).length : Int) ≤ _; omega) ?_
        show Ev (fun k => fsst_Encode.l0 k t (s.extract (((((TL t)[i]).length : Int)).toNat) s.size) (acc ++ [(i : Int) % 256])) _
        rw [em, show (i : Int) % 256 = (i : Int) by omega]
        exact Ev.eq hb (by simp)
      · rw [cut_from] at he
        exact Enc.sym hi (.inr ⟨i, hi, rfl, rfl, h3, h4⟩) he
theorem encode_ev (t : List ByteArray) (ht : Table (TL t)) (s : ByteArray) (hs : s.size ≤ 100000) : ∃ b, Ev (fun k => fsst_Encode.f k t s) b ∧ Enc (TL t) s.data.toList b := by
  obtain ⟨b, h1, h2⟩ := encode_l0 t ht s.size s [] rfl (by simp; omega)
  exact ⟨b, h1, h2⟩
end Go.Proofs.Ytjodnhlfodmpeaa.Pure
