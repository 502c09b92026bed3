/- The plain laws of codes: encoding, decoding, counting, tables made. -/
import Derived.Test.YtpgdgofmoelgbaaHFsstEv
set_option linter.unusedVariables false
set_option linter.unusedSimpArgs false
set_option maxHeartbeats 2000000
namespace Go.Proofs.Ytpgdgofmoelgbaa.Pure
open Go.RowKit Go.Proofs.Ytpgdgofmoelgbaa.Q Go.Proofs.YtpgdgofmoelgbaaW.PrintWords Go.Proofs.YtpgdgofmoelgbaaW.PrintLast Go.Proofs.YtpgdgofmoelgbaaW.PrintMore
open HopPure (bl cmpL Rising Table IsLongest Enc decL cntL)

theorem awake_ev : Ev (fun k => hopperlaw11_awake.f k) true := by
  refine Ev.of (fun k => hopperlaw11_awake.mono k) (k := 20) ?_
  decide +kernel
/-! ### encoding -/
theorem encode_l0 (t : List ByteArray) (ht : Table (TL t)) : ∀ (n : Nat) (s : ByteArray) (acc : List Int), s.size = n → acc.length + 2 * n ≤ 1000000000 →
    ∃ b, Ev (fun k => fsst_Encode.l0 k t s acc) (acc ++ b) ∧ Enc (TL t) s.data.toList b := by
  intro n
  induction n using Nat.strongRecOn with
  | _ n ih =>
  intro s acc hn ha
  have hd := dsz s
  by_cases c : s.size = 0
  · refine ⟨[], Ev.step (fun k => by rw [fsst_Encode.l0]) (Ev.neg (by omega) (Ev.val (by simp))), ?_⟩
    rw [List.eq_nil_of_length_eq_zero (hd.trans c)]
    exact Enc.nil
  · obtain ⟨cd, m, h1, h2⟩ := longest_ev t s ht
    rcases h2 with ⟨rfl, rfl, h3⟩ | ⟨i, hi, rfl, rfl, h3, h4⟩
    · have hs : (s.extract 1 s.size).size = s.size - 1 := by rw [← dsz, cut_from, List.length_drop, hd]
      have h0 : 0 < s.data.toList.length := by omega
      obtain ⟨c0, r0, e⟩ : ∃ c0 r0, s.data.toList = c0 :: r0 := by
        cases hh : s.data.toList with
        | nil => rw [hh] at h0; simp at h0
        | cons c0 r0 => exact ⟨c0, r0, rfl⟩
      have e2 : bt s 0 = (c0.toNat : Int) := by have := btn s 0 h0; simp only [e, List.getElem_cons_zero] at this; exact this
      obtain ⟨b, hb, he⟩ := ih (s.size - 1) (by omega) (s.extract 1 s.size) (acc ++ [255, bt s 0]) hs (by simp; omega)
      refine ⟨255 :: bt s 0 :: b, ?_, ?_⟩
      · refine Ev.step (fun k => by rw [fsst_Encode.l0]) ?_
        refine Ev.pos (by omega) ?_
        refine Ev.bind h1 ?_
        try dsimp only
        refine Ev.pos (by simp) ?_
        refine Ev.pos (by omega) ?_
        refine Ev.bind (Ev.now _) ?_
        try dsimp only
        refine Ev.pos (by simp <;> omega) ?_
        refine Ev.pos (by omega) ?_
        refine Ev.eq hb (by simp)
      · rw [cut_from] at he
        rw [e2]
        rw [e] at h3 he ⊢
        exact Enc.esc (.inl ⟨rfl, rfl, h3⟩) (by simpa using he)
    · have hsz := ht.sizes _ (List.getElem_mem hi)
      have hle := h3.length_le
      have hfew := ht.few
      have em : ((((TL t)[i]).length : Int)).toNat = ((TL t)[i]).length := by omega
      have hs : (s.extract ((TL t)[i]).length s.size).size = s.size - ((TL t)[i]).length := by rw [← dsz, cut_from, List.length_drop, hd]
      obtain ⟨b, hb, he⟩ := ih (s.size - ((TL t)[i]).length) (by omega) (s.extract ((TL t)[i]).length s.size) (acc ++ [(i : Int)]) hs (by simp; omega)
      refine ⟨(i : Int) :: b, ?_, ?_⟩
      · refine Ev.step (fun k => by rw [fsst_Encode.l0]) ?_
        refine Ev.pos (by omega) ?_
        refine Ev.bind h1 ?_
        try dsimp only
        refine Ev.neg (by simp) ?_
        refine Ev.pos (by omega) ?_
        refine Ev.pos (by simp) ?_
        refine Ev.pos (by show (((TL t)[i]).length : Int) ≤ _; omega) ?_
        show Ev (fun k => fsst_Encode.l0 k t (s.extract (((((TL t)[i]).length : Int)).toNat) s.size) (acc ++ [(i : Int) % 256])) _
        rw [em, show (i : Int) % 256 = (i : Int) by omega]
        exact Ev.eq hb (by simp)
      · rw [cut_from] at he
        exact Enc.sym hi (.inr ⟨i, hi, rfl, rfl, h3, h4⟩) he
theorem encode_ev (t : List ByteArray) (ht : Table (TL t)) (s : ByteArray) (hs : s.size ≤ 100000) : ∃ b, Ev (fun k => fsst_Encode.f k t s) b ∧ Enc (TL t) s.data.toList b := by
  obtain ⟨b, h1, h2⟩ := encode_l0 t ht s.size s [] rfl (by simp; omega)
  exact ⟨b, h1, h2⟩
theorem rencode_l0 (t : List ByteArray) (ht : Table (TL t)) (s : ByteArray) (hs : s.size ≤ 100000) : ∀ (n i : Nat) (acc : List Int), s.size - i = n → i ≤ s.size → acc.length + 2 * n ≤ 1000000000 →
    ∃ b, Ev (fun k => hopperref11_Encode.l0 k t s acc (i : Int)) (acc ++ b) ∧ Enc (TL t) (s.data.toList.drop i) b := by
  have hd := dsz s
  intro n
  induction n using Nat.strongRecOn with
  | _ n ih =>
  intro i acc hn hi ha
  by_cases c : i = s.size
  · refine ⟨[], Ev.step (fun k => by rw [hopperref11_Encode.l0]) (Ev.neg (by omega) (Ev.val (by simp))), ?_⟩
    rw [List.drop_eq_nil_of_le (by omega)]
    exact Enc.nil
  · have e1 : ((i : Int)).toNat = i := by omega
    obtain ⟨cd, m, h1, h2⟩ := rlongest_ev t (s.extract i s.size) ht
    rw [cut_from] at h2
    have h0 : i < s.data.toList.length := by omega
    rcases h2 with ⟨rfl, rfl, h3⟩ | ⟨p, hp, rfl, rfl, h3, h4⟩
    · obtain ⟨b, hb, he⟩ := ih (s.size - (i + 1)) (by omega) (i + 1) (acc ++ [255, bt s (i : Int)]) rfl (by omega) (by simp; omega)
      refine ⟨255 :: bt s (i : Int) :: b, ?_, ?_⟩
      · refine Ev.step (fun k => by rw [hopperref11_Encode.l0]) ?_
        refine Ev.pos (by omega) ?_
        refine Ev.pos (by omega) ?_
        refine Ev.pos (by omega) ?_
        rw [e1]
        refine Ev.bind h1 ?_
        try dsimp only
        refine Ev.neg (by simp) ?_
        refine Ev.bind (Ev.now _) ?_
        try dsimp only
        refine Ev.pos (by simp <;> omega) ?_
        rw [w64s (n := s.size) (by omega) (by omega)]
        exact Ev.eq hb (by simp)
      · rw [btn s i h0]
        rw [drop_at _ i h0] at h3 ⊢
        exact Enc.esc (.inl ⟨rfl, rfl, h3⟩) he
    · have hsz := ht.sizes _ (List.getElem_mem hp)
      have hle := h3.length_le
      rw [List.length_drop] at hle
      have hfew := ht.few
      obtain ⟨b, hb, he⟩ := ih (s.size - (i + ((TL t)[p]).length)) (by omega) (i + ((TL t)[p]).length) (acc ++ [(p : Int)]) rfl (by omega) (by simp; omega)
      refine ⟨(p : Int) :: b, ?_, ?_⟩
      · refine Ev.step (fun k => by rw [hopperref11_Encode.l0]) ?_
        refine Ev.pos (by omega) ?_
        refine Ev.pos (by omega) ?_
        refine Ev.pos (by omega) ?_
        rw [e1]
        refine Ev.bind h1 ?_
        try dsimp only
        refine Ev.pos (by simp) ?_
        refine Ev.pos (by omega) ?_
        show Ev (fun k => hopperref11_Encode.l0 k t s (acc ++ [(p : Int) % 256]) (wrap64 ((i : Int) + (((TL t)[p]).length : Int)))) _
        rw [w64 (by omega) (by omega), show (p : Int) % 256 = (p : Int) by omega, show (i : Int) + (((TL t)[p]).length : Int) = ((i + ((TL t)[p]).length : Nat) : Int) by omega]
        exact Ev.eq hb (by simp)
      · rw [← List.drop_drop] at he
        exact Enc.sym hp (.inr ⟨p, hp, rfl, rfl, h3, h4⟩) he
theorem rencode_ev (t : List ByteArray) (ht : Table (TL t)) (s : ByteArray) (hs : s.size ≤ 100000) : ∃ b, Ev (fun k => hopperref11_Encode.f k t s) b ∧ Enc (TL t) s.data.toList b := by
  obtain ⟨b, h1, h2⟩ := rencode_l0 t ht s hs s.size 0 [] rfl (by omega) (by simp; omega)
  exact ⟨b, h1, by simpa using h2⟩
/-! ### decoding -/
/-- Bytes as a string. -/
def bs (l : List UInt8) : ByteArray := ⟨l.toArray⟩
theorem bs_list (l : List UInt8) : (bs l).data.toList = l := by simp [bs]
theorem bs_size (l : List UInt8) : (bs l).size = l.length := by rw [← dsz, bs_list]
theorem bs_of (s : ByteArray) : bs s.data.toList = s := ba_ext (bs_list _)
/-- Numbers as bytes. -/
def nb (l : List Int) : List UInt8 := l.map fun x => UInt8.ofNat x.toNat
theorem nb_append (a b : List Int) : nb (a ++ b) = nb a ++ nb b := by simp [nb]
theorem nb_bytesOf (s : ByteArray) : nb (bytesOf s) = s.data.toList := by
  unfold nb bytesOf
  rw [List.map_map]
  refine (List.map_congr_left fun x _ => ?_).trans (List.map_id _)
  exact HopPure.nat_byte x
theorem nb_str (l : List Int) : strOfNums l = bs (nb l) := ba_ext (by rw [strOf_list, bs_list]; rfl)
/-- Of bytes alone. -/
def Bytes (l : List Int) : Prop := ∀ x ∈ l, 0 ≤ x ∧ x ≤ 255
theorem next_cut (t : List ByteArray) : Ev (fun k => fsst_next.f k t [255]) (bs [], 0, 2) := by
  unfold fsst_next.f
  refine Ev.pos (by simp) ?_
  refine Ev.pos rfl ?_
  refine Ev.step (fun k => by rw [fsst_next.j0]) ?_
  refine Ev.pos rfl ?_
  exact Ev.val rfl
theorem next_esc (t : List ByteArray) (x : Int) (b : List Int) : Ev (fun k => fsst_next.f k t (255 :: x :: b)) (bs [UInt8.ofNat x.toNat], 2, 0) := by
  unfold fsst_next.f
  refine Ev.pos (by simp <;> omega) ?_
  refine Ev.pos rfl ?_
  refine Ev.step (fun k => by rw [fsst_next.j0]) ?_
  refine Ev.neg (by simp <;> omega) ?_
  refine Ev.pos (by simp <;> omega) ?_
  refine Ev.pos rfl ?_
  refine Ev.pos (by omega) ?_
  refine Ev.pos (by simp <;> omega) ?_
  refine Ev.val ?_
  rw [nb_str]; rfl
theorem next_form (t : List ByteArray) (c : Int) (b : List Int) (h0 : 0 ≤ c) (h : c ≤ 255) (h1 : c ≠ 255) (h2 : c ≥ (t.length : Int)) : Ev (fun k => fsst_next.f k t (c :: b)) (bs [], 0, 3) := by
  unfold fsst_next.f
  refine Ev.pos (by simp <;> omega) ?_
  refine Ev.neg (by show ¬ rd (c :: b) 0 = 255; exact h1) ?_
  refine Ev.step (fun k => by rw [fsst_next.j0]) ?_
  refine Ev.neg (by simp) ?_
  refine Ev.pos (by simp <;> omega) ?_
  refine Ev.neg (by show ¬ rd (c :: b) 0 = 255; exact h1) ?_
  refine Ev.pos (by show wrap64 c ≥ _; rw [w64 (by omega) (by omega)]; exact h2) ?_
  exact Ev.val rfl
theorem next_sym (t : List ByteArray) (i : Nat) (b : List Int) (hi : i < t.length) (h1 : i < 255) : Ev (fun k => fsst_next.f k t ((i : Int) :: b)) (t[i], 1, 0) := by
  unfold fsst_next.f
  have e : rd ((i : Int) :: b) 0 = (i : Int) := rfl
  rw [e]
  refine Ev.pos (by simp <;> omega) ?_
  refine Ev.neg (by omega) ?_
  refine Ev.step (fun k => by rw [fsst_next.j0]) ?_
  refine Ev.neg (by simp) ?_
  refine Ev.pos (by simp <;> omega) ?_
  rw [e, w64 (by omega) (by omega), rdOfn _ t i hi]
  refine Ev.neg (by omega) ?_
  refine Ev.neg (by omega) ?_
  refine Ev.pos (by omega) ?_
  refine Ev.pos (by omega) ?_
  exact Ev.val rfl
theorem decode_l0 (t : List ByteArray) (ht : Table (TL t)) (most : Int) (hm0 : -1 ≤ most) (hm1 : most ≤ 9223372036854775807) : ∀ (n : Nat) (l : List Int) (acc : List Int) (q : Int), l.length = n → Bytes l → acc.length + 8 * n ≤ 1000000000 →
    Ev (fun k => fsst_Decode.l0 k t l most acc) (bs (decL (TL t) most (nb acc) q l).1, (decL (TL t) most (nb acc) q l).2.1) := by
  have hfew := ht.few
  rw [TL_length] at hfew
  intro n
  induction n using Nat.strongRecOn with
  | _ n ih =>
  intro l acc q hn hb ha
  have hnl : (nb acc).length = acc.length := by simp [nb]
  have hw : wrap64 (most - (acc.length : Int)) = most - (acc.length : Int) := w64 (by omega) (by omega)
  match l, hn, hb with
  | [], _, _ =>
    refine Ev.step (fun k => by rw [fsst_Decode.l0]) ?_
    refine Ev.neg (by simp) ?_
    refine Ev.val ?_
    rw [HopPure.decL_nil, nb_str]
  | c :: b, hn, hb =>
    have hc := hb c (by simp)
    simp only [List.length_cons] at hn
    by_cases c1 : c = 255
    · subst c1
      match b, hn, hb with
      | [], _, _ =>
        refine Ev.step (fun k => by rw [fsst_Decode.l0]) ?_
        refine Ev.pos (by simp) ?_
        refine Ev.bind (next_cut t) ?_
        try dsimp only
        refine Ev.neg (by simp) ?_
        refine Ev.val ?_
        rw [HopPure.decL_cut]; rfl
      | x :: b, hn, hb =>
        simp only [List.length_cons] at hn
        refine Ev.step (fun k => by rw [fsst_Decode.l0]) ?_
        refine Ev.pos (by simp <;> omega) ?_
        refine Ev.bind (next_esc t x b) ?_
        try dsimp only
        refine Ev.pos rfl ?_
        show Ev (fun k => if ((bs [UInt8.ofNat x.toNat]).size : Int) > wrap64 (most - (acc.length : Int)) then _ else _) _
        rw [hw, bs_size, HopPure.decL_esc, hnl]
        by_cases c2 : (acc.length : Int) + 1 > most
        · refine Ev.pos (by simp <;> omega) ?_
          refine Ev.val ?_
          rw [if_pos c2]; rfl
        · rw [if_neg c2]
          refine Ev.neg (by simp <;> omega) ?_
          refine Ev.pos (by simp [bs_size] <;> omega) ?_
          refine Ev.pos (by simp) ?_
          refine Ev.pos (by simp <;> omega) ?_
          have h := ih b.length (by omega) b (acc ++ bytesOf (bs [UInt8.ofNat x.toNat])) (q + 1) rfl (fun y hy => hb y (by simp [hy])) (by rw [List.length_append, bytesOf_length, bs_size]; simp; omega)
          rw [nb_append, nb_bytesOf, bs_list] at h
          exact h
    · by_cases c2 : c ≥ (t.length : Int)
      · refine Ev.step (fun k => by rw [fsst_Decode.l0]) ?_
        refine Ev.pos (by simp <;> omega) ?_
        refine Ev.bind (next_form t c b hc.1 hc.2 c1 c2) ?_
        try dsimp only
        refine Ev.neg (by simp) ?_
        refine Ev.val ?_
        rw [HopPure.decL_form _ _ _ _ _ _ c1 (by rw [TL_length]; exact c2)]; rfl
      · obtain ⟨i, rfl⟩ := Int.eq_ofNat_of_zero_le hc.1
        have hi : i < t.length := by omega
        have hi2 : i < (TL t).length := by rw [TL_length]; exact hi
        have hsz := (ht.sizes _ (List.getElem_mem hi2)).2
        rw [TL_get t i hi, dsz] at hsz
        refine Ev.step (fun k => by rw [fsst_Decode.l0]) ?_
        refine Ev.pos (by simp <;> omega) ?_
        refine Ev.bind (next_sym t i b hi (by omega)) ?_
        try dsimp only
        refine Ev.pos rfl ?_
        show Ev (fun k => if ((t[i]).size : Int) > wrap64 (most - (acc.length : Int)) then _ else _) _
        rw [hw, HopPure.decL_sym _ _ _ _ i b hi2 (by omega), hnl, TL_get t i hi, dsz]
        by_cases c3 : (acc.length : Int) + ((t[i]).size : Int) > most
        · refine Ev.pos (by omega) ?_
          refine Ev.val ?_
          rw [if_pos c3]; rfl
        · rw [if_neg c3]
          refine Ev.neg (by omega) ?_
          refine Ev.pos (by show acc.length + (t[i]).size < _; omega) ?_
          refine Ev.pos (by simp) ?_
          refine Ev.pos (by simp <;> omega) ?_
          have h := ih b.length (by omega) b (acc ++ bytesOf t[i]) (q + 1) rfl (fun y hy => hb y (by simp [hy])) (by rw [List.length_append, bytesOf_length]; omega)
          rw [nb_append, nb_bytesOf] at h
          exact h
theorem decode_ev (t : List ByteArray) (ht : Table (TL t)) (most : Int) (hm0 : -1 ≤ most) (hm1 : most ≤ 9223372036854775807) (l : List Int) (hb : Bytes l) (hl : l.length ≤ 100000) (q : Int) :
    Ev (fun k => fsst_Decode.f k t l most) (bs (decL (TL t) most [] q l).1, (decL (TL t) most [] q l).2.1) :=
  decode_l0 t ht most hm0 hm1 l.length l [] q rfl hb (by simp; omega)
end Go.Proofs.Ytpgdgofmoelgbaa.Pure
