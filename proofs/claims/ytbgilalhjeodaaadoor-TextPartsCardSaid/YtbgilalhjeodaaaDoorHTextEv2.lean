/- What the printed functions on strings' points compute: lengths, parts, folds, orders. -/
import Derived.Test.YtbgilalhjeodaaaDoorHTextEv
set_option linter.unusedVariables false
set_option linter.unusedSimpArgs false
namespace Go.Proofs.YtbgilalhjeodaaaDoor.Pure
open Go.RowKit Go.Proofs.YtbgilalhjeodaaaDoor.Q Go.Proofs.YtbgilalhjeodaaaDoorW.PrintWords Go.Proofs.YtbgilalhjeodaaaDoorW.PrintLast Go.Proofs.YtbgilalhjeodaaaDoorW.PrintMore
open TextPure (nth nth_lt dec point enc nums Pts cut cmpZ)
theorem awake_ev : Ev (fun k => hopperlaw08_awake.f k) true := by
  refine Ev.of (fun k => hopperlaw08_awake.mono k) (k := 20) ?_
  decide +kernel
theorem pts (s : ByteArray) : ∃ ps, Pts s.data.toList ps := TextPure.pts_exists _ _ rfl
theorem pts_inj {s t : ByteArray} {ps : List Int} (h : Pts s.data.toList ps) (h' : Pts t.data.toList ps) : s = t := ba_ext (h.inj h')
/-! ### how many -/
theorem count_from (s : ByteArray) {l : List UInt8} {ps : List Int} (h : Pts l ps) : ∀ (n pos : Nat), l = s.data.toList.drop pos → s.size ≤ pos + n → Lib.runeCountFrom s n pos = ps.length := by
  have hd := dsz s
  induction h with
  | nil =>
    intro n pos hl hn
    have := congrArg List.length hl
    rw [List.length_drop] at this
    simp at this
    rw [Lib.runeCountFrom_end s n pos (by omega)]; rfl
  | @cons l ps h hp ih =>
    intro n pos hl hn
    have hlen := congrArg List.length hl
    rw [List.length_drop] at hlen
    cases n with
    | zero => omega
    | succ n =>
      have hw := TextPure.point_width l h
      unfold Lib.runeCountFrom
      rw [if_pos (by omega), decode_drop, ← hl, TextPure.dec_width l h, ih n (pos + (point l).2) (by rw [hl, List.drop_drop]) (by omega), List.length_cons]
      omega
theorem len_f {s : ByteArray} {ps : List Int} (h : Pts s.data.toList ps) (hs : s.size ≤ 1000000) : text_Len.f s = some (ps.length : Int) := by
  unfold text_Len.f
  rw [if_pos (by omega)]
  unfold Lib.runeCount
  rw [count_from s h s.size 0 (by simp) (by omega)]
/-! ### lists of numbers -/
theorem ints_l0 (a b : List Int) (he : a.length = b.length) (ha : a.length ≤ 1000000) : ∀ (n i : Nat), a.length - i = n → i ≤ a.length → Ev (fun k => hopperref03_Ints.l0 k a b (i : Int)) (decide (a.drop i = b.drop i)) := by
  intro n
  induction n with
  | zero =>
    intro i hn hi
    refine Ev.step (fun k => by rw [hopperref03_Ints.l0]) ?_
    refine Ev.neg (by omega) ?_
    refine Ev.val ?_
    rw [List.drop_eq_nil_of_le (by omega), List.drop_eq_nil_of_le (by omega)]; rfl
  | succ n ih =>
    intro i hn hi
    have h1 : i < a.length := by omega
    have h2 : i < b.length := by omega
    refine Ev.step (fun k => by rw [hopperref03_Ints.l0]) ?_
    refine Ev.pos (by omega) ?_
    refine Ev.pos (by omega) ?_
    refine Ev.pos (by omega) ?_
    rw [rdn a i h1, rdn b i h2, w64s (n := a.length) h1 (by omega), drop_at a i h1, drop_at b i h2]
    by_cases c : a[i] = b[i]
    · refine Ev.pos c ?_
      refine Ev.eq (ih (i + 1) (by omega) (by omega)) ?_
      rw [c]
      exact decide_eq_decide.2 ⟨fun z => by rw [z], fun z => (List.cons.inj z).2⟩
    · refine Ev.neg c ?_
      refine Ev.val ?_
      rw [decide_eq_false (fun z => c (List.cons.inj z).1)]
theorem ints_ev (a b : List Int) (ha : a.length ≤ 1000000) : Ev (fun k => hopperref03_Ints.f k a b) (decide (a = b)) := by
  unfold hopperref03_Ints.f
  by_cases c : a.length = b.length
  · refine Ev.pos (by omega) ?_
    exact ints_l0 a b c ha a.length 0 rfl (by omega)
  · refine Ev.neg (by omega) ?_
    refine Ev.val ?_
    rw [decide_eq_false (fun z => c (by rw [z]))]
/-! ### parts -/
theorem subL_two (s : ByteArray) (hs : s.size ≤ 1000000) (a n : Nat) {l : List UInt8} {ps : List Int} (h : Pts l ps) : ∀ (f pos x : Nat) (b : Int), l = s.data.toList.drop pos → pos ≤ s.size → s.size ≤ pos + f → x ≤ pos → a < x → x ≤ a + n →
    subL s (a : Int) (n : Int) f pos (x : Int) b = (b, ((pos + cut ps (a + n - x) : Nat) : Int)) := by
  have hd := dsz s
  induction h with
  | nil =>
    intro f pos x b hl hps hn hx h1 h2
    have := congrArg List.length hl
    rw [List.length_drop] at this
    simp at this
    rw [subL_end s _ _ f pos _ b (by omega)]
    have : cut [] (a + n - x) = 0 := by simp [cut]
    rw [this]
    refine Prod.ext rfl ?_
    simp only; omega
  | @cons l ps h hp ih =>
    intro f pos x b hl hps hn hx h1 h2
    have hlen := congrArg List.length hl
    rw [List.length_drop] at hlen
    cases f with
    | zero => omega
    | succ f =>
      have hw := TextPure.point_width l h
      rw [subL, if_pos (by omega), w64 (x := (x : Int) - (a : Int)) (by omega) (by omega), if_neg (by omega : ¬ (x : Int) = (a : Int))]
      by_cases c : x = a + n
      · rw [if_pos (by omega)]
        subst c
        rw [Nat.sub_self, TextPure.cut_zero]; rfl
      · rw [if_neg (by omega), w64 (by omega) (by omega), decode_drop, ← hl, TextPure.dec_width l h]
        rw [show (x : Int) + 1 = ((x + 1 : Nat) : Int) by omega, ih f (pos + (point l).2) (x + 1) b (by rw [hl, List.drop_drop]) (by omega) (by omega) (by omega) (by omega) (by omega)]
        rw [show a + n - x = (a + n - (x + 1)) + 1 by omega, TextPure.cut_cons, TextPure.point_enc_length l h, Nat.add_assoc]
theorem subL_one (s : ByteArray) (hs : s.size ≤ 1000000) (a n : Nat) (ha : a ≤ 9223372036854775807) (hn0 : 0 < n) {l : List UInt8} {ps : List Int} (h : Pts l ps) : ∀ (f pos x : Nat), l = s.data.toList.drop pos → pos ≤ s.size → s.size ≤ pos + f → x ≤ pos → x ≤ a →
    subL s (a : Int) (n : Int) f pos (x : Int) (s.size : Int) = (((pos + cut ps (a - x) : Nat) : Int), ((pos + cut ps (a - x + n) : Nat) : Int)) := by
  have hd := dsz s
  induction h with
  | nil =>
    intro f pos x hl hps hn hx h1
    have := congrArg List.length hl
    rw [List.length_drop] at this
    simp at this
    rw [subL_end s _ _ f pos _ _ (by omega)]
    have e : ∀ k, cut [] k = 0 := fun k => by simp [cut]
    rw [e, e]
    refine Prod.ext ?_ ?_ <;> simp only <;> omega
  | @cons l ps h hp ih =>
    intro f pos x hl hps hn hx h1
    have hlen := congrArg List.length hl
    rw [List.length_drop] at hlen
    cases f with
    | zero => omega
    | succ f =>
      have hw := TextPure.point_width l h
      rw [subL, if_pos (by omega), w64 (x := (x : Int) - (a : Int)) (by omega) (by omega), if_neg (by omega : ¬ ((a : Int) ≤ (x : Int) ∧ (x : Int) - (a : Int) = (n : Int))), w64 (by omega) (by omega), decode_drop, ← hl, TextPure.dec_width l h, show (x : Int) + 1 = ((x + 1 : Nat) : Int) by omega]
      by_cases c : x = a
      · subst c
        rw [if_pos rfl, subL_two s hs x n hp f (pos + (point l).2) (x + 1) _ (by rw [hl, List.drop_drop]) (by omega) (by omega) (by omega) (by omega) (by omega)]
        rw [Nat.sub_self, TextPure.cut_zero, show 0 + n = (x + n - (x + 1)) + 1 by omega, TextPure.cut_cons, TextPure.point_enc_length l h, Nat.add_assoc]; rfl
      · rw [if_neg (by omega), ih f (pos + (point l).2) (x + 1) (by rw [hl, List.drop_drop]) (by omega) (by omega) (by omega) (by omega)]
        rw [show a - x = (a - (x + 1)) + 1 by omega, show a - (x + 1) + 1 + n = (a - (x + 1) + n) + 1 by omega, TextPure.cut_cons, TextPure.cut_cons, TextPure.point_enc_length l h, Nat.add_assoc, Nat.add_assoc]
theorem sub_f {s : ByteArray} {ps : List Int} (h : Pts s.data.toList ps) (hs : s.size ≤ 1000000) (a n : Int) (ha : a ≤ 9223372036854775807) :
    ∃ t, text_Sub.f s a n = some t ∧ Pts t.data.toList ((ps.drop a.toNat).take n.toNat) ∧ t.size ≤ s.size := by
  unfold text_Sub.f
  by_cases c : n ≤ 0
  · refine ⟨_, if_pos c, ?_, ?_⟩
    · rw [show n.toNat = 0 by omega, List.take_zero]
      exact Pts.nil
    · show 0 ≤ _; omega
  · rw [if_neg c]
    have e := subL_one s hs a.toNat n.toNat (by omega) (by omega) h s.size 0 0 (by simp) (by omega) (by omega) (by omega) (by omega)
    rw [show ((a.toNat : Nat) : Int) = max a 0 by omega, show ((n.toNat : Nat) : Int) = n by omega, Nat.sub_zero, Nat.zero_add, Nat.zero_add] at e
    have e' : subL s (max a 0) n s.size 0 0 (s.size : Int) = ((cut ps a.toNat : Int), (cut ps (a.toNat + n.toNat) : Int)) := e
    rw [e']
    have hd := dsz s
    have h1 := h.cut_le a.toNat
    have h2 := h.cut_le (a.toNat + n.toNat)
    have h3 := TextPure.cut_add ps a.toNat n.toNat
    rw [if_pos (by simp only; omega)]
    refine ⟨_, rfl, ?_, ?_⟩
    · have hp := h.part a.toNat n.toNat
      have e2 : (s.extract ((cut ps a.toNat : Int)).toNat ((cut ps (a.toNat + n.toNat) : Int)).toNat).data.toList = (s.data.toList.drop (cut ps a.toNat)).take (cut ps (a.toNat + n.toNat) - cut ps a.toNat) := by
        rw [Lib.extract_data]
        simp
      rw [e2]
      exact hp
    · rw [ByteArray.size_extract]; omega
theorem rsub_l0 {l : List UInt8} {ps : List Int} (h : Pts l ps) : ∀ (s out : ByteArray) (a n : Int) (x : Nat), s.data.toList = l → out.size + l.length ≤ 1000000 → x + l.length ≤ 1000000 → n ≤ 9223372036854775807 → 
    ∃ t, Ev (fun k => hopperref08_Sub.l0 k s a n out (x : Int)) t ∧ nums t.data.toList = nums out.data.toList ++ ((ps.drop (a - x).toNat).take n.toNat).flatMap enc := by
  induction h with
  | nil =>
    intro s out a n x hs ho hx hn
    have hd := dsz s
    rw [hs] at hd
    refine ⟨out, ?_, by simp⟩
    refine Ev.step (fun k => by rw [hopperref08_Sub.l0]) ?_
    refine Ev.neg (by simp at hd; omega) ?_
    exact Ev.val rfl
  | @cons l ps h hp ih =>
    intro s out a n x hs ho hx hn
    have hd := dsz s
    rw [hs] at hd
    have hw := TextPure.point_width l h
    have ew : Unit → wrap64 ((x : Int) + 1) = ((x + 1 : Nat) : Int) := fun _ => w64s (n := x + 1) (by omega) (by omega)
    have et : (((point l).2 : Nat) : Int).toNat = (point l).2 := by omega
    have hs2 : (s.extract (point l).2 s.size).data.toList = l.drop (point l).2 := by rw [cut_from, hs]
    have skip : (a - (x : Int) > 0 ∨ n ≤ 0) → ∃ t, Ev (fun k => hopperref08_Sub.l0 k (s.extract (point l).2 s.size) a n out ((x + 1 : Nat) : Int)) t ∧ nums t.data.toList = nums out.data.toList ++ ((((point l).1 :: ps).drop (a - x).toNat).take n.toNat).flatMap enc := by
      intro hc
      obtain ⟨t, h1, h2⟩ := ih (s.extract (point l).2 s.size) out a n (x + 1) hs2 (by rw [List.length_drop]; omega) (by rw [List.length_drop]; omega) hn
      refine ⟨t, h1, ?_⟩
      rw [h2]
      congr 1
      rcases hc with hc | hc
      · rw [show (a - (x : Int)).toNat = (a - ((x + 1 : Nat) : Int)).toNat + 1 by omega, List.drop_succ_cons]
      · rw [show n.toNat = 0 by omega, List.take_zero, List.take_zero]
    by_cases c1 : (x : Int) ≥ a
    · by_cases c2 : n > 0
      · have hout : (out ++ s.extract 0 (point l).2).data.toList = out.data.toList ++ l.take (point l).2 := by rw [ba_append_list, cut_to, hs]
        have hsz : (s.extract 0 (point l).2).size = (point l).2 := by rw [← dsz, cut_to, hs, List.length_take]; omega
        obtain ⟨t, h1, h2⟩ := ih (s.extract (point l).2 s.size) (out ++ s.extract 0 (point l).2) a (n - 1) (x + 1) hs2 (by rw [ba_size_append, hsz, List.length_drop]; omega) (by rw [List.length_drop]; omega) (by omega)
        refine ⟨t, ?_, ?_⟩
        · refine Ev.step (fun k => by rw [hopperref08_Sub.l0]) ?_
          refine Ev.pos (by omega) ?_
          refine Ev.bind (rpoint_ev s (by omega)) ?_
          rw [hs]
          dsimp only
          rw [et, ew ()]
          refine Ev.pos c1 ?_
          refine Ev.pos c2 ?_
          refine Ev.pos (by omega) ?_
          refine Ev.pos (by omega) ?_
          refine Ev.pos (by omega) ?_
          rw [w64 (x := n - 1) (by omega) (by omega)]
          exact h1
        · have e : ((((point l).1 :: ps).drop (a - (x : Int)).toNat).take n.toNat).flatMap enc = nums (l.take (point l).2) ++ ((ps.drop (a - ((x + 1 : Nat) : Int)).toNat).take (n - 1).toNat).flatMap enc := by
            rw [show (a - (x : Int)).toNat = 0 by omega, show (a - ((x + 1 : Nat) : Int)).toNat = 0 by omega, List.drop_zero, List.drop_zero, show n.toNat = (n - 1).toNat + 1 by omega, List.take_succ_cons, List.flatMap_cons, TextPure.point_enc l h]
          rw [h2, hout, TextPure.nums_append, List.append_assoc, e]
      · obtain ⟨t, h1, h2⟩ := skip (.inr (by omega))
        refine ⟨t, ?_, h2⟩
        refine Ev.step (fun k => by rw [hopperref08_Sub.l0]) ?_
        refine Ev.pos (by omega) ?_
        refine Ev.bind (rpoint_ev s (by omega)) ?_
        rw [hs]
        dsimp only
        rw [et, ew ()]
        refine Ev.pos c1 ?_
        refine Ev.neg c2 ?_
        refine Ev.pos (by omega) ?_
        exact Ev.pos (by omega) h1
    · obtain ⟨t, h1, h2⟩ := skip (.inl (by omega))
      refine ⟨t, ?_, h2⟩
      refine Ev.step (fun k => by rw [hopperref08_Sub.l0]) ?_
      refine Ev.pos (by omega) ?_
      refine Ev.bind (rpoint_ev s (by omega)) ?_
      rw [hs]
      dsimp only
      rw [et, ew ()]
      refine Ev.neg c1 ?_
      refine Ev.pos (by omega) ?_
      exact Ev.pos (by omega) h1
theorem rsub_ev {s : ByteArray} {ps : List Int} (h : Pts s.data.toList ps) (hs : s.size ≤ 100000) (a n : Int) (hn : n ≤ 9223372036854775807) :
    ∃ t, Ev (fun k => hopperref08_Sub.f k s a n) t ∧ nums t.data.toList = ((ps.drop a.toNat).take n.toNat).flatMap enc := by
  obtain ⟨t, h1, h2⟩ := rsub_l0 h s (⟨#[]⟩ : ByteArray) a n 0 rfl (by rw [dsz]; show 0 + _ ≤ _; omega) (by rw [dsz]; omega) hn
  refine ⟨t, h1, ?_⟩
  rw [h2, show (a - ((0 : Nat) : Int)).toNat = a.toNat by omega]
  rfl
end Go.Proofs.YtbgilalhjeodaaaDoor.Pure
