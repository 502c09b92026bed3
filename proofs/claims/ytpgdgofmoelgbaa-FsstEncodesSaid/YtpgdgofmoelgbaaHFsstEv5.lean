/- The plain laws of codes, joined: what is there once an encoding is known. -/
import Derived.Test.YtpgdgofmoelgbaaHFsstEv3
import Derived.Test.YtpgdgofmoelgbaaHFsstEv4
import Derived.Test.YtpgdgofmoelgbaaHOpens
set_option linter.unusedVariables false
set_option linter.unusedSimpArgs false
namespace Go.Proofs.Ytpgdgofmoelgbaa.Pure
open Go.RowKit Go.Proofs.Ytpgdgofmoelgbaa.Q Go.Proofs.YtpgdgofmoelgbaaW.PrintWords Go.Proofs.YtpgdgofmoelgbaaW.PrintLast Go.Proofs.YtpgdgofmoelgbaaW.PrintMore
open HopPure (bl cmpL Rising Table IsLongest Enc decL cntL)
theorem byte_wf {x : Int} (h : (Lit.int .u8 x).wf = true) : 0 ≤ x ∧ x ≤ 255 := by
  unfold Lit.wf at h
  simp only [Bool.and_eq_true, decide_eq_true_eq] at h
  exact h
theorem i64_wf {x : Int} (h : (Lit.int .i64 x).wf = true) : -9223372036854775808 ≤ x ∧ x ≤ 9223372036854775807 := by
  unfold Lit.wf at h
  simp only [Bool.and_eq_true, decide_eq_true_eq] at h
  exact h
theorem bytes_append {a b : List Int} (ha : Bytes a) (hb : Bytes b) : Bytes (a ++ b) := fun x hx => (List.mem_append.1 hx).elim (ha x) (hb x)
/-- All that is known of codes of a string. -/
structure Coded (t : List ByteArray) (s : ByteArray) (b : List Int) : Prop where
  enc : Enc (TL t) s.data.toList b
  bytes : Bytes b
  len : b.length ≤ 2 * s.size
theorem coded {t : List ByteArray} (ht : Table (TL t)) {s : ByteArray} {b : List Int} (h : Enc (TL t) s.data.toList b) : Coded t s b := ⟨h, h.bytes ht, by have := h.length ht; rw [dsz] at this; exact this⟩
theorem encoded (t : List ByteArray) (ht : Table (TL t)) (s : ByteArray) (hs : s.size ≤ 100000) : ∃ b, Ev (fun k => fsst_Encode.f k t s) b ∧ Coded t s b := by
  obtain ⟨b, h1, h2⟩ := encode_ev t ht s hs
  exact ⟨b, h1, coded ht h2⟩
/-- Codes of two strings, joined, say the two joined. -/
theorem dec_two {t : List ByteArray} (ht : Table (TL t)) {s1 s2 : ByteArray} {b1 b2 : List Int} (h1 : Coded t s1 b1) (h2 : Coded t s2 b2) (most : Int) (hm0 : -1 ≤ most) (hm : (s1.size : Int) + s2.size ≤ most) (hm1 : most ≤ 9223372036854775807) (hl : b1.length + b2.length ≤ 100000) :
    Ev (fun k => fsst_Decode.f k t (b1 ++ b2) most) (s1 ++ s2, 0) := by
  refine Ev.eq (decode_ev t ht most hm0 hm1 (b1 ++ b2) (bytes_append h1.bytes h2.bytes) (by rw [List.length_append]; exact hl) 0) ?_
  obtain ⟨m, e1⟩ := HopPure.decL_enc ht h1.enc most [] 0 b2 (by rw [dsz]; simp; omega)
  obtain ⟨m2, e2⟩ := HopPure.decL_enc ht h2.enc most ([] ++ s1.data.toList) m [] (by rw [dsz]; simp; omega)
  rw [List.append_nil] at e2
  rw [e1, e2, HopPure.decL_nil]
  exact Prod.ext (ba_ext (by rw [bs_list, ba_append_list, List.nil_append])) rfl
theorem dec_one {t : List ByteArray} (ht : Table (TL t)) {s : ByteArray} {b : List Int} (h : Coded t s b) (most : Int) (hm : (s.size : Int) ≤ most) (hm1 : most ≤ 9223372036854775807) (hl : b.length ≤ 100000) :
    Ev (fun k => fsst_Decode.f k t b most) (s, 0) := by
  refine Ev.eq (decode_ev t ht most (by omega) hm1 b h.bytes hl 0) ?_
  obtain ⟨m, e1⟩ := HopPure.decL_enc ht h.enc most [] 0 [] (by rw [dsz]; simp; omega)
  rw [List.append_nil] at e1
  rw [e1, HopPure.decL_nil]
  exact Prod.ext (ba_ext (by rw [bs_list, List.nil_append])) rfl
theorem dec_less {t : List ByteArray} (ht : Table (TL t)) {s : ByteArray} {b : List Int} (h : Coded t s b) (hs : 0 < s.size) (hm1 : s.size ≤ 50000) :
    Ev (fun k => fsst_Decode.f k t b ((s.size : Int) - 1)) (⟨#[]⟩, 6) := by
  have := h.len
  refine Ev.eq (decode_ev t ht _ (by omega) (by omega) b h.bytes (by omega) 0) ?_
  obtain ⟨m, e1⟩ := HopPure.decL_less ht h.enc ((s.size : Int) - 1) [] 0 (by rw [dsz]; simp; omega) (by simp; omega)
  rw [e1]; rfl
theorem count_two {t : List ByteArray} (ht : Table (TL t)) {s1 : ByteArray} {b1 : List Int} (h1 : Coded t s1 b1) (b2 : List Int) : cntL (TL t) (b1 ++ b2) = cntL (TL t) b1 + cntL (TL t) b2 := HopPure.cntL_enc ht h1.enc b2
/-- Alike codes, alike strings. -/
theorem coded_same {t : List ByteArray} (ht : Table (TL t)) {s1 s2 : ByteArray} {b1 b2 : List Int} (h1 : Coded t s1 b1) (h2 : Coded t s2 b2) : nb b1 = nb b2 ↔ s1.data.toList = s2.data.toList := by
  constructor
  · intro h
    have e := nb_inj h1.bytes h2.bytes h
    subst e
    obtain ⟨m1, e1⟩ := HopPure.decL_enc ht h1.enc ((s1.data.toList.length : Int) + s2.data.toList.length) [] 0 [] (by simp; omega)
    obtain ⟨m2, e2⟩ := HopPure.decL_enc ht h2.enc ((s1.data.toList.length : Int) + s2.data.toList.length) [] 0 [] (by simp; omega)
    rw [e1, HopPure.decL_nil, HopPure.decL_nil] at e2
    exact (Prod.ext_iff.1 e2).1
  · intro h
    have h3 := h2.enc
    rw [← h] at h3
    rw [h1.enc.unique ht h3]
theorem cnt_range {T : List (List UInt8)} : ∀ (n : Nat) (l : List Int), l.length = n → 0 ≤ cntL T l ∧ cntL T l ≤ n := by
  intro n
  induction n using Nat.strongRecOn with
  | _ n ih =>
  intro l hn
  match l, hn with
  | [], _ => rw [cntL]; omega
  | c :: b, hn =>
    simp only [List.length_cons] at hn
    by_cases c1 : c = 255
    · subst c1
      match b, hn with
      | [], _ => rw [HopPure.cntL_cut]; omega
      | x :: b, hn =>
        simp only [List.length_cons] at hn
        rw [HopPure.cntL_esc]
        have := ih b.length (by omega) b rfl
        omega
    · by_cases c2 : c ≥ (T.length : Int)
      · rw [HopPure.cntL_form _ _ _ c1 c2]; omega
      · rw [HopPure.cntL_sym _ _ _ c1 c2]
        have := ih b.length (by omega) b rfl
        omega
end Go.Proofs.Ytpgdgofmoelgbaa.Pure
