-- PRINTED by print.py (a twelfth state) out of the translation. Not trusted: Lean checks it.
import Derived.Test.YtjodnhlfodmpeaaQx0
import Derived.Test.YtjodnhlfodmpeaaQx1
import Derived.Test.YtjodnhlfodmpeaaQx2
namespace Go.Proofs.Ytjodnhlfodmpeaa.Q
open Go.RowKit Go.Proofs.YtjodnhlfodmpeaaW.PrintWords Go.Proofs.YtjodnhlfodmpeaaW.PrintLast Go.Proofs.YtjodnhlfodmpeaaW.PrintMore
attribute [local go_sem] str_gtr str_geq str_leq max2_int min2_int max_two min_two max_three min_three max_four min_four
set_option linter.unusedVariables false
set_option maxHeartbeats 8000000
set_option maxRecDepth 1000000
set_option linter.unusedSimpArgs false

/-! ### train_Round: function 16 -/
-- told by hand
abbrev Bs := List UInt8
def bsOf (s : ByteArray) : Bs := s.data.toList
/-- What is counted of a string's pieces: each, and each pair of neighbours that is not too long. -/
def spellL : List ByteArray → ByteArray → Bool → List Bs
 | [], _, _ => []
 | p :: ps, last, b => bsOf p :: (if b = true ∧ last.size + p.size ≤ 8 then bsOf (last ++ p) :: spellL ps p true else spellL ps p true)
/-- What is counted of all strings (pieces of at most 1000 bytes). -/
def spelled (g : ByteArray → Option (List ByteArray)) : List ByteArray → Option (List Bs)
 | [] => some []
 | s :: ss => (g s).bind fun ps => if (ps.all fun p => decide (p.size ≤ 1000)) = true then (spelled g ss).bind fun M => some (spellL ps ⟨#[]⟩ false ++ M) else none
def countedP (k : Nat) (t sample : List ByteArray) : Option (List Bs) := (spelled (fun s => train_pieces.f k t s) sample).bind fun M => if M.length ≤ 1000000 then some M else none
/-- A map as read holds how often each string is on a list. -/
structure CountOf (D : DataW Unit) (M : List Bs) : Prop where
 isMap : Maps.IsMap D
 at_ : ∀ s : Bs, D.atKey (.string s) (.lit (.int .i64 0)) = .lit (.int .i64 (M.count s : Nat))
 has : ∀ s : Bs, Maps.has D (.string s) = decide (s ∈ M)
theorem CountOf.start : CountOf (.map []) [] := ⟨Maps.isMap_empty, fun s => rfl, fun s => rfl⟩
theorem CountOf.put {D : DataW Unit} {M : List Bs} (h : CountOf D M) (s : Bs) {c : Int} (hc : c = ((M.count s : Nat) : Int) + 1) : CountOf (D.put (.string s) (.lit (.int .i64 c))) (M ++ [s]) := by
 subst hc; refine ⟨h.isMap.put _ _, fun u => ?_, fun u => ?_⟩
 ·by_cases e : u = s
  ·subst e; rw [Maps.atKey_put_same h.isMap (show WideAt.IsKeyLit (.string u) from trivial), List.count_append, List.count_cons_self]
   simp
  ·rw [Maps.atKey_put_other (by intro x; injection x with x; exact e x), h.at_, List.count_append, List.count_cons_of_ne (fun x => e x.symm)]
   simp
 ·by_cases e : u = s
  ·subst e; rw [Maps.has_put_same h.isMap (show WideAt.IsKeyLit (.string u) from trivial)]
   simp
  ·rw [Maps.has_put_other (by intro x; injection x with x; exact e x), h.has]
   simp [e]
theorem R_str_map {W w1 : World} {base B : Nat} {ok : Nat → Prop} {v : Value} {xs : List ByteArray} {es : Array MapEntry} {clock : Nat} (h : Kd.R Kd.string 9 W base ok v xs) (hg : W.grownBy w1 (some B)) (hB : W.heap[B]? = some (.map es clock)) : Kd.R Kd.string 9 w1 base ok v xs := by
 refine Kd.R_mono (Kd.R_move (Kd.R_bound h) (fun k hk => hg.block k hk.2.2.1 (fun he => ?_))) (fun _ hk => hk.1)
 obtain ⟨_, _, _, q, _, cells, hc⟩ := hk; obtain rfl := Option.some.inj he
 rw [hB] at hc
 cases hc
theorem map_law : Maps.Keyed Try.prog 9 := Maps.string_keyed Try.underlying9
theorem map_zero (w : World) : (zeroValue 3).run Try.prog w = .ok (.int .i64 0) w := by kernel_rfl
abbrev OwnsC (W : World) (B n : Nat) (D : DataW Unit) : Prop := W.ownsMap Try.prog 9 (plainElem (H := Unit) Try.prog 3) B n D
theorem OwnsC.block {W : World} {B n : Nat} {D : DataW Unit} (h : OwnsC W B n D) : ∃ es clock, W.heap[B]? = some (.map es clock) := by
 obtain ⟨es, clock, hb, _⟩ := h; exact ⟨es, clock, hb⟩
theorem train_counted.core (k : Nat) (A0 : Option Addr) (c0 : Nat) (t : List ByteArray) (A1 : Option Addr) (c1 : Nat) (sample : List ByteArray) (L : List Bs) (w : World) (hr0 : Kd.C Kd.string w A0 t.length t) (hc0 : t.length ≤ c0) (hr1 : Kd.C Kd.string w A1 sample.length sample) (hc1 : sample.length ≤ c1) (h : countedP k t sample = some L) :
  Calls Try.prog 25 #[.slice A0 t.length c0, .slice A1 sample.length c1] w fun e w' => ∃ n D, e = .returned (.map (some w.heap.size)) ∧ OwnsC w' w.heap.size n D ∧ CountOf D L ∧ n ≤ L.length ∧ Below w.heap.size w w' := by
 have hmm := @run_makeMap Try.prog
 unfold countedP at h
 obtain ⟨M0, hsp, h⟩ := Option.bind_eq_some_iff.1 h
 by_cases hlen : M0.length ≤ 1000000
 case neg => rw [if_neg hlen] at h; cases h
 rw [if_pos hlen] at h; obtain rfl := Option.some.inj h
 have hsn : sample.length ≤ 9223372036854775807 := hr1.2.1; have HPC := Aside0.mk (fun (s : ByteArray) (ps : List ByteArray) (hp : train_pieces.f k t s = some ps) W (hb : Below w.heap.size w W) => train_pieces.calls k A0 c0 t s ps W (Kd.C_below hr0 hb) hc0 hp)
 have HR1 := Aside0.mk hr1; have HSN := Aside0.mk hsn; have HLEN := Aside0.mk hlen; have HSP := Aside0.mk (show ([] : List Bs) ++ M0 = M0 ∧ spelled (fun s => train_pieces.f k t s) (sample.drop 0) = some M0 from ⟨rfl, hsp⟩)
 clear hr0 hc0 hr1 hc1 h hlen hsp hsn; go_enter Try.func25, Try.ntmps25
 go_wp2
 go_loopg [7, 8, 9, 10, 14, 20, 21, 22] sample.length (fun gg s7 s8 s9 s10 s14 s20 s21 s22 wr => ∃ (i n : Nat) (D : DataW Unit) (M R : List Bs), s14 = .int .i64 i ∧ i ≤ sample.length ∧ sample.length - i ≤ gg ∧ Aside0 (OwnsC wr w.heap.size n D) ∧ Aside0 (CountOf D M) ∧ Aside0 (n ≤ M.length) ∧ Aside0 (M ++ R = M0 ∧ spelled (fun s => train_pieces.f k t s) (sample.drop i) = some R) ∧ Aside0 (Below w.heap.size w wr))
 case atStart => exact ⟨0, 0, _, [], M0, rfl, Nat.zero_le _, by omega, ⟨World.ownsMap_made _ _ _ _⟩, ⟨CountOf.start⟩, ⟨Nat.le_refl _⟩, HSP, ⟨(Below.refl _ _).alloc (Nat.le_refl _) _⟩⟩
 case round =>
  clear HSP; obtain ⟨i, n, D, M, R, rfl, hin, hg0, HO, HC, HNL, HSP, HB⟩ := hrel; by_cases hlt : i < sample.length
  ·have hltz : (i : Int) < (sample.length : Int) := by omega
   have hi0 : (0 : Int) ≤ (i : Int) := by omega
   obtain ⟨hMR, hsp⟩ := HSP.out
   have hdrop : sample.drop i = rdOf ByteArray.empty sample (i : Int) :: sample.drop (i + 1) := by
    rw [drop_getE ByteArray.empty sample i hlt]; simp [rdOf]
   rw [hdrop] at hsp
   simp only [spelled] at hsp
   obtain ⟨ps, hps, hsp⟩ := Option.bind_eq_some_iff.1 hsp
   by_cases hsz : (ps.all fun p => decide (p.size ≤ 1000)) = true
   case neg => rw [if_neg hsz] at hsp; cases hsp
   rw [if_pos hsz] at hsp; obtain ⟨M2, hM2, hsp⟩ := Option.bind_eq_some_iff.1 hsp
   obtain rfl := Option.some.inj hsp
   have HPS := Aside0.mk (show train_pieces.f k t (rdOf ByteArray.empty sample (i : Int)) = some ps from hps)
   have HM2 := Aside0.mk hM2; have HSZ := Aside0.mk hsz; have HMR := Aside0.mk (show M ++ spellL (ps.drop 0) ⟨#[]⟩ (decide (0 < 0)) ++ M2 = M0 from by rw [List.append_assoc]; exact hMR)
   clear hMR hsp hdrop hps hM2 hsz HSP; obtain ⟨ad, e0, hx⟩ := Kd.at_string HR1.out (i : Int) hi0 hltz
   cases e0
   simp only [Int.toNat_natCast] at hx
   replace hx := (HB.out.cell (World.block_lt_of_cell? w _ hx)).trans hx
   go_wp2_with (first
    | (go_at_call 37; refine (HPC.out _ _ HPS.out _ HB.out).mono ?_; rintro e wp ⟨vp, rfl, hR, hb⟩; obtain ⟨Ap, cp, rfl⟩ := Kd.R_slice hR; have HPR := Aside0.mk (Kd.R_lower hR (below_size HB.out)); have HPN := Aside0.mk ((Kd.R_reads' hR).2.2.2.1 : ps.length ≤ 9223372036854775807); have n0_ := Aside0.mk (World.ownsMap.below HO.out hb); have n1_ := Aside0.mk (below_step HB.out hb); clear HO HB hR hb hx; have HO := n0_; have HB := n1_; clear n0_ n1_))
   go_loopg [8, 9, 10, 22] ps.length (fun gg s8 s9 s10 s22 ws => ∃ (j n : Nat) (D : DataW Unit) (M : List Bs) (last : ByteArray), s8 = .string last ∧ s22 = .int .i64 j ∧ j ≤ ps.length ∧ ps.length - j ≤ gg ∧ Aside0 (OwnsC ws w.heap.size n D) ∧ Aside0 (CountOf D M) ∧ Aside0 (n ≤ M.length) ∧ Aside0 (M ++ spellL (ps.drop j) last (decide (0 < j)) ++ M2 = M0) ∧ Aside0 (last.size ≤ 1000) ∧ Aside0 (Kd.R Kd.string 9 ws w.heap.size (fun _ => True) (.slice Ap ps.length cp) ps) ∧ Aside0 (Below w.heap.size w ws))
   case atStart => exact ⟨0, n, D, M, _, rfl, rfl, Nat.zero_le _, by omega, HO, HC, HNL, HMR, ⟨by decide⟩, HPR, HB⟩
   case round =>
    clear HO HC HNL HMR HPR HB; obtain ⟨j, n, D, M, last, rfl, rfl, hjn, hg1, HO, HC, HNL, HMR, HLZ, HPR, HB⟩ := hrel; have hpn := HPN.out; by_cases hlt2 : j < ps.length
    ·have hltz2 : (j : Int) < (ps.length : Int) := by omega
     have hj0 : (0 : Int) ≤ (j : Int) := by omega
     obtain ⟨p, hp⟩ : ∃ p, p = rdOf ByteArray.empty ps (j : Int) := ⟨_, rfl⟩
     have hdrop : ps.drop j = p :: ps.drop (j + 1) := by
      rw [drop_getE ByteArray.empty ps j hlt2, hp]; simp [rdOf]
     have HPZ := Aside0.mk (show p.size ≤ 1000 from of_decide_eq_true (List.all_eq_true.1 HSZ.out p (List.mem_of_mem_drop (by rw [hdrop]; exact List.mem_cons_self ..))))
     have hmr := HMR.out; rw [hdrop] at hmr
     simp only [spellL] at hmr
     obtain ⟨adp, e1, hx⟩ := Kd.at_string (Kd.R_reads' HPR.out).2.2 (j : Int) hj0 hltz2
     cases e1
     rw [← hp] at hx
     simp only [Int.toNat_natCast] at hx
     have HML0 := Aside0.mk (show M.length + 2 ≤ 1000002 from by have h1 := congrArg List.length hmr; rw [List.length_append, List.length_append] at h1; have := HLEN.out; omega)
     have HML := Aside0.mk (show M.length ≤ 1000000 from by have := HML0.out; omega)
     have HNM := Aside0.mk (show n ≤ 1000000 from Nat.le_trans HNL.out HML.out)
     have TKA : True := trivial; have TKB : True := trivial; clear hdrop hp HMR HML0; by_cases q : (decide (0 < j)) = true ∧ last.size + p.size ≤ 8
     ·rw [if_pos q] at hmr; have HMR := Aside0.mk (show (M ++ [bsOf p] ++ [bsOf (last ++ p)]) ++ spellL (ps.drop (j + 1)) p true ++ M2 = M0 from by simpa [List.append_assoc] using hmr)
      have q0 : (0 : Int) < (j : Int) := by have := of_decide_eq_true q.1; omega
      have q1 : (last.size : Int) + (p.size : Int) ≤ 8 := by have := q.2; omega
      clear hmr q
      go_wp2_with (first
       | ((with_reducible refine gate_dst (N := 29) rfl ?_); at_lookup; refine wpList_lookup_own_int _ rfl _ _ 41 rfl 9 3 .i64 map_law Try.underlying41 Try.underlying3 (map_zero _) w.heap.size n _ rfl HO.out _ _ rfl (Go.WideMaps.keyOf_string_mk Try.underlying9 (by have := HPZ.out; unfold maxLen; omega)) ?_; intro c hat hwc; have HAT := Aside0.mk hat; clear hat hwc)
       | (have tk_ := TKA; clear tk_ TKA; at_mapUpdate; refine wpList_mapUpdate_own _ rfl _ _ _ 41 rfl 9 3 map_law Try.underlying41 _ w.heap.size n _ rfl HO.out (by have := HNM.out; unfold maxLen; omega) _ _ _ rfl rfl (Go.WideMaps.keyOf_string_mk Try.underlying9 (by have := HPZ.out; unfold maxLen; omega)) _ [] (plainElem_int Try.underlying3 (wrap64_wf _)) ?_; intro wt ho hg; obtain ⟨es_, ck_, hbl_⟩ := OwnsC.block HO.out; have n0_ := Aside0.mk ho; have n1_ := Aside0.mk (HC.out.put (bsOf p) (show wrap64 (c + 1) = _ from by have h1 := HAT.out.symm.trans (HC.out.at_ (bsOf p)); injection h1 with h1; injection h1 with h1 h2; have h3 := List.count_le_length (a := bsOf p) (l := M); (try simp only [List.length_append, List.length_cons, List.length_nil] at h3); have := HML.out; rw [h2]; unfold wrap64; omega)); have n2_ := Aside0.mk (R_str_map HPR.out hg hbl_); have n3_ := Aside0.mk (HB.out.grown hg HB.out.size (fun j hj => by cases hj; exact Nat.le_refl _)); clear HO HC HPR HB HAT hbl_ es_ ck_ ho hg; have HO := n0_; have HC := n1_; have HPR := n2_; have HB := n3_; clear n0_ n1_ n2_ n3_; have m_ := Aside0.mk (show n + 1 ≤ (M ++ [bsOf p]).length from by have := HNL.out; simp; omega); clear HNL; have HNL := m_; clear m_)
       | ((with_reducible refine gate_dst (N := 45) rfl ?_); at_lookup; refine wpList_lookup_own_int _ rfl _ _ 41 rfl 9 3 .i64 map_law Try.underlying41 Try.underlying3 (map_zero _) w.heap.size (n + 1) _ rfl HO.out _ _ rfl (Go.WideMaps.keyOf_string_mk Try.underlying9 (by have := HPZ.out; have := HLZ.out; rw [ByteArray.size_append]; unfold maxLen; omega)) ?_; intro c hat hwc; have HAT := Aside0.mk hat; clear hat hwc)
       | (have tk_ := TKB; clear tk_ TKB; at_mapUpdate; refine wpList_mapUpdate_own _ rfl _ _ _ 41 rfl 9 3 map_law Try.underlying41 _ w.heap.size (n + 1) _ rfl HO.out (by have := HNM.out; unfold maxLen; omega) _ _ _ rfl rfl (Go.WideMaps.keyOf_string_mk Try.underlying9 (by have := HPZ.out; have := HLZ.out; rw [ByteArray.size_append]; unfold maxLen; omega)) _ [] (plainElem_int Try.underlying3 (wrap64_wf _)) ?_; intro wt ho hg; obtain ⟨es_, ck_, hbl_⟩ := OwnsC.block HO.out; have n0_ := Aside0.mk ho; have n1_ := Aside0.mk (HC.out.put (bsOf (last ++ p)) (show wrap64 (c + 1) = _ from by have h1 := HAT.out.symm.trans (HC.out.at_ (bsOf (last ++ p))); injection h1 with h1; injection h1 with h1 h2; have h3 := List.count_le_length (a := bsOf (last ++ p)) (l := M ++ [bsOf p]); (try simp only [List.length_append, List.length_cons, List.length_nil] at h3); have := HML.out; rw [h2]; unfold wrap64; omega)); have n2_ := Aside0.mk (R_str_map HPR.out hg hbl_); have n3_ := Aside0.mk (HB.out.grown hg HB.out.size (fun j hj => by cases hj; exact Nat.le_refl _)); clear HO HC HPR HB HAT hbl_ es_ ck_ ho hg; have HO := n0_; have HC := n1_; have HPR := n2_; have HB := n3_; clear n0_ n1_ n2_ n3_))
      have HN2 := Aside0.mk (show n + 1 + 1 ≤ (M ++ [bsOf p] ++ [bsOf (last ++ p)]).length from by have := HNL.out; simp at this ⊢; omega)
      go_roundg (ps.length - (j + 1))
      case measure => omega
      case rel => exact ⟨j + 1, _, _, _, p, rfl, by first | rfl | go_num | (congr 1; unfold wrap64; omega), by omega, by omega, ⟨HO.out⟩, HC, HN2, ⟨by rw [show decide (0 < j + 1) = true from decide_eq_true (Nat.succ_pos j)]; exact HMR.out⟩, HPZ, HPR, HB⟩
     ·rw [if_neg q] at hmr; have HMR := Aside0.mk (show (M ++ [bsOf p]) ++ spellL (ps.drop (j + 1)) p true ++ M2 = M0 from by simpa [List.append_assoc] using hmr)
      clear hmr; by_cases q0 : (0 : Int) < (j : Int)
      ·have q1 : ¬ (last.size : Int) + (p.size : Int) ≤ 8 := by
        intro x
        exact q ⟨decide_eq_true (by omega), by omega⟩
       have hlz := HLZ.out; have hpz := HPZ.out; clear q
       go_wp2_with (first
        | ((with_reducible refine gate_dst (N := 29) rfl ?_); at_lookup; refine wpList_lookup_own_int _ rfl _ _ 41 rfl 9 3 .i64 map_law Try.underlying41 Try.underlying3 (map_zero _) w.heap.size n _ rfl HO.out _ _ rfl (Go.WideMaps.keyOf_string_mk Try.underlying9 (by have := HPZ.out; unfold maxLen; omega)) ?_; intro c hat hwc; have HAT := Aside0.mk hat; clear hat hwc)
        | (have tk_ := TKA; clear tk_ TKA; at_mapUpdate; refine wpList_mapUpdate_own _ rfl _ _ _ 41 rfl 9 3 map_law Try.underlying41 _ w.heap.size n _ rfl HO.out (by have := HNM.out; unfold maxLen; omega) _ _ _ rfl rfl (Go.WideMaps.keyOf_string_mk Try.underlying9 (by have := HPZ.out; unfold maxLen; omega)) _ [] (plainElem_int Try.underlying3 (wrap64_wf _)) ?_; intro wt ho hg; obtain ⟨es_, ck_, hbl_⟩ := OwnsC.block HO.out; have n0_ := Aside0.mk ho; have n1_ := Aside0.mk (HC.out.put (bsOf p) (show wrap64 (c + 1) = _ from by have h1 := HAT.out.symm.trans (HC.out.at_ (bsOf p)); injection h1 with h1; injection h1 with h1 h2; have h3 := List.count_le_length (a := bsOf p) (l := M); (try simp only [List.length_append, List.length_cons, List.length_nil] at h3); have := HML.out; rw [h2]; unfold wrap64; omega)); have n2_ := Aside0.mk (R_str_map HPR.out hg hbl_); have n3_ := Aside0.mk (HB.out.grown hg HB.out.size (fun j hj => by cases hj; exact Nat.le_refl _)); clear HO HC HPR HB HAT hbl_ es_ ck_ ho hg; have HO := n0_; have HC := n1_; have HPR := n2_; have HB := n3_; clear n0_ n1_ n2_ n3_; have m_ := Aside0.mk (show n + 1 ≤ (M ++ [bsOf p]).length from by have := HNL.out; simp; omega); clear HNL; have HNL := m_; clear m_))
       go_roundg (ps.length - (j + 1))
       case measure => omega
       case rel => exact ⟨j + 1, _, _, _, p, rfl, by first | rfl | go_num | (congr 1; unfold wrap64; omega), by omega, by omega, ⟨HO.out⟩, HC, HNL, ⟨by rw [show decide (0 < j + 1) = true from decide_eq_true (Nat.succ_pos j)]; exact HMR.out⟩, HPZ, HPR, HB⟩
      ·clear q
       go_wp2_with (first
        | ((with_reducible refine gate_dst (N := 29) rfl ?_); at_lookup; refine wpList_lookup_own_int _ rfl _ _ 41 rfl 9 3 .i64 map_law Try.underlying41 Try.underlying3 (map_zero _) w.heap.size n _ rfl HO.out _ _ rfl (Go.WideMaps.keyOf_string_mk Try.underlying9 (by have := HPZ.out; unfold maxLen; omega)) ?_; intro c hat hwc; have HAT := Aside0.mk hat; clear hat hwc)
        | (have tk_ := TKA; clear tk_ TKA; at_mapUpdate; refine wpList_mapUpdate_own _ rfl _ _ _ 41 rfl 9 3 map_law Try.underlying41 _ w.heap.size n _ rfl HO.out (by have := HNM.out; unfold maxLen; omega) _ _ _ rfl rfl (Go.WideMaps.keyOf_string_mk Try.underlying9 (by have := HPZ.out; unfold maxLen; omega)) _ [] (plainElem_int Try.underlying3 (wrap64_wf _)) ?_; intro wt ho hg; obtain ⟨es_, ck_, hbl_⟩ := OwnsC.block HO.out; have n0_ := Aside0.mk ho; have n1_ := Aside0.mk (HC.out.put (bsOf p) (show wrap64 (c + 1) = _ from by have h1 := HAT.out.symm.trans (HC.out.at_ (bsOf p)); injection h1 with h1; injection h1 with h1 h2; have h3 := List.count_le_length (a := bsOf p) (l := M); (try simp only [List.length_append, List.length_cons, List.length_nil] at h3); have := HML.out; rw [h2]; unfold wrap64; omega)); have n2_ := Aside0.mk (R_str_map HPR.out hg hbl_); have n3_ := Aside0.mk (HB.out.grown hg HB.out.size (fun j hj => by cases hj; exact Nat.le_refl _)); clear HO HC HPR HB HAT hbl_ es_ ck_ ho hg; have HO := n0_; have HC := n1_; have HPR := n2_; have HB := n3_; clear n0_ n1_ n2_ n3_; have m_ := Aside0.mk (show n + 1 ≤ (M ++ [bsOf p]).length from by have := HNL.out; simp; omega); clear HNL; have HNL := m_; clear m_))
       go_roundg (ps.length - (j + 1))
       case measure => omega
       case rel => exact ⟨j + 1, _, _, _, p, rfl, by first | rfl | go_num | (congr 1; unfold wrap64; omega), by omega, by omega, ⟨HO.out⟩, HC, HNL, ⟨by rw [show decide (0 < j + 1) = true from decide_eq_true (Nat.succ_pos j)]; exact HMR.out⟩, HPZ, HPR, HB⟩
    ·have hltz2 : ¬ (j : Int) < (ps.length : Int) := by omega
     have hmr := HMR.out; rw [List.drop_of_length_le (by omega)] at hmr
     simp only [spellL, List.append_nil] at hmr
     have HSP := Aside0.mk (show M ++ M2 = M0 ∧ spelled (fun s => train_pieces.f k t s) (sample.drop (i + 1)) = some M2 from ⟨hmr, HM2.out⟩)
     have hsn := HSN.out; clear hmr; go_wp2
     go_roundg (sample.length - (i + 1))
     case measure => omega
     case rel => exact ⟨i + 1, n, D, M, M2, by first | rfl | go_num | (congr 1; unfold wrap64; omega), by omega, by omega, HO, HC, HNL, HSP, HB⟩
  ·have hltz : ¬ (i : Int) < (sample.length : Int) := by omega
   obtain ⟨hMR, hsp⟩ := HSP.out; rw [List.drop_of_length_le (by omega)] at hsp
   simp only [spelled] at hsp
   obtain rfl := Option.some.inj hsp
   rw [List.append_nil] at hMR
   subst hMR; have HNM := HNL; clear HSP; go_wp2
   go_ret
   exact ⟨rfl, n, D, HO.out, HC.out, HNL.out, HB.out⟩
theorem _root_.Go.Proofs.YtjodnhlfodmpeaaW.PrintWords.Grows.refl (W : World) : Grows W W := ⟨0, #[], by simp [Go.Sort.grow]; rfl⟩
theorem _root_.Go.Proofs.YtjodnhlfodmpeaaW.PrintWords.Grows.trans {W w1 w2 : World} (h1 : Grows W w1) (h2 : Grows w1 w2) : Grows W w2 := by
 obtain ⟨q, os, rfl⟩ := h1; obtain ⟨q2, os2, rfl⟩ := h2; refine ⟨q + q2, os ++ os2, ?_⟩
 rw [← World.drewN_drewN]
 simp only [Go.Sort.grow, World.drewN]
 simp [Array.append_assoc]
theorem _root_.Go.Proofs.YtjodnhlfodmpeaaW.PrintWords.Grows.alloc (W : World) (o : Obj) : Grows W (W.alloc o) := ⟨0, #[o], by show W.alloc o = ({ W with heap := W.heap ++ #[o] } : World); rw [show W.heap ++ #[o] = W.heap.push o from by simp]; rfl⟩
theorem _root_.Go.Proofs.YtjodnhlfodmpeaaW.PrintWords.Grows.drewN (W : World) (n : Nat) : Grows W (W.drewN n) := ⟨n, #[], (Go.Sort.grow_empty _).symm⟩
/-- gain: a string's count times its length. -/
theorem gain_calls (s : ByteArray) (hs : s.size ≤ 1000) (g B n : Nat) (D : DataW Unit) (c : Int) (W : World) (hbox : W.heap[g]? = some (.cells #[.map (some B)] 41 (0, 0))) (hown : OwnsC W B n D) (hc : D.atKey (.string (bsOf s)) (.lit (.int .i64 0)) = .lit (.int .i64 c)) :
  Calls Try.prog 26 #[.string s, .pointer (some ⟨g, 0, none⟩)] W fun e w' => e = .returned (.int .i64 (wrap64 (c * (s.size : Int)))) ∧ w' = W := by
 have hcz : W.cell? ⟨g, 0, none⟩ = some (.map (some B)) := cell0_of hbox; have HO := Aside0.mk hown; have HC := Aside0.mk hc; have HS := Aside0.mk hs; clear hbox hown hc hs; go_enter Try.func26, Try.ntmps26
 go_wp2_with (first
  | ((with_reducible refine gate_dst (N := 6) rfl ?_); at_lookup; refine wpList_lookup_own_int _ rfl _ _ 41 rfl 9 3 .i64 map_law Try.underlying41 Try.underlying3 (map_zero _) B n _ rfl HO.out _ _ rfl (Go.WideMaps.keyOf_string_mk Try.underlying9 (by have := HS.out; unfold maxLen; omega)) ?_; intro c2 hat hwc; have HAT := Aside0.mk hat; clear hat hwc))
 have hc2 : c2 = c := by
  have h1 := HAT.out.symm.trans HC.out; injection h1 with h1
  injection h1
 subst hc2; go_ret
 exact ⟨rfl, rfl⟩
/-- cmp.Or of two. -/
theorem or_two (x y : Int) (b : Nat) (W : World) (hb : W.heap[b]? = some (.cells #[.int .i64 x, .int .i64 y] 3 (0, 0))) :
  Calls Try.prog 29 #[.slice (some ⟨b, 0, none⟩) 2 2] W fun e w' => e = .returned (.int .i64 (if x = 0 then y else x)) ∧ w' = W := by
 have h0 : W.cell? ⟨b, 0, none⟩ = some (.int .i64 x) := blk_cells (cs := [.int .i64 x, .int .i64 y]) hb 0 _ rfl
 have h1 : W.cell? ⟨b, 1, none⟩ = some (.int .i64 y) := blk_cells (cs := [.int .i64 x, .int .i64 y]) hb 1 _ rfl
 clear hb; go_enter Try.func29, Try.ntmps29
 by_cases hx : x = 0
 ·rw [if_pos hx]
  subst hx; by_cases hy : y = 0
  ·subst hy; go_wp2
   refine wp_loop_rounds 3 ?_
   rw [rounds_succ]
   go_wp2
   rw [rounds_succ]
   go_wp2
   rw [rounds_succ]
   go_wp2
   go_ret
   exact ⟨rfl, rfl⟩
  ·have hyb : (y == 0) = false := beq_eq_false_iff_ne.mpr hy; go_wp2
   refine wp_loop_rounds 2 ?_
   rw [rounds_succ]
   go_wp2
   rw [rounds_succ]
   go_wp2
   go_ret
   exact ⟨rfl, rfl⟩
 ·rw [if_neg hx]
  have hxb : (x == 0) = false := beq_eq_false_iff_ne.mpr hx; go_wp2
  refine wp_loop_rounds 1 ?_
  rw [rounds_succ]
  go_wp2
  go_ret
  exact ⟨rfl, rfl⟩
/-- A call of a function value in a drawn region. -/
theorem goesV_ {P : Program} {ops : Array Oper} {Q : Exit → Act → World → Prop} {oi : Oper} {N : Option Tmp} {a : Act} {w : World} {K : Act → World → Prop} {f : FuncId} {fn : Func} {p : Tmp} {aop : Array Operand} {ts : Array TypeId} {cb : Array Value} (hf : P.funcs[f]? = some fn) (hname : (fn.name == "runtime.NumGoroutine") = false) (hb : fn.body.isSome = true) (args : Array Value)
  (hw : Region.wanted oi (yielded ops a.tmps) = true) (hN : oi.dst = N) (hop : oi.op = .call { callee := .value (.tmp p), args := aop, argTypes := ts }) (hp : a.eval (.tmp p) = .func (.func f) #[] cb) (hargs : aop.map a.eval ++ cb = args)
  (h : Calls P f args w fun e w' => ∃ v, e = .returned v ∧ K (a.put N v) w') : if Region.wanted oi (yielded ops a.tmps) = true then Oper.wp P oi a w K Q else K (a.put N undef) w := by
 refine call_ f args hw hN ?_ h
 have he := enters_ hf hname hb args w; have hp2 : a.eval (.tmp p) = .func (.func f) #[] cb := hp; unfold execOp
 simp only [hop, resolve, hp2]
 simp [Deferred.ofValue, invoke, hargs, he]
theorem lit2_step {P : Program} {ops : Array Oper} {Q : Exit → Act → World → Prop} {o : Oper} {a : Act} {Kc : Act → World → Prop} {W : World} {c : Array Value} (hw : Region.wanted o (yielded ops a.tmps) = true) (hrun : (execOp a.eval o).run P W = .ok (.value (.slice (some ⟨W.heap.size, 0, none⟩) 2 2)) (W.alloc (.cells c 3)))
  (h : ∀ b w1, w1.heap[b]? = some (.cells c 3 (0, 0)) → Grows W w1 → Kc (a.put o.dst (.slice (some ⟨b, 0, none⟩) 2 2)) w1) : if Region.wanted o (yielded ops a.tmps) = true then Oper.wp P o a W Kc Q else Kc (a.put o.dst undef) W :=
 event_step hw hrun (h _ _ (heap_alloc_new W _) (Grows.alloc _ _))
theorem _root_.Go.Proofs.YtjodnhlfodmpeaaW.PrintWords.Grows.block {W w' : World} {k : Nat} {o : Obj} (h : Grows W w') (hb : W.heap[k]? = some o) : w'.heap[k]? = some o := by
 obtain ⟨q, os, rfl⟩ := h; show (W.heap ++ os)[k]? = some o
 rw [Array.getElem?_append_left (Array.getElem?_eq_some_iff.1 hb).1]
 exact hb
theorem _root_.Go.Proofs.YtjodnhlfodmpeaaW.PrintWords.Grows.owns {W w' : World} {B n : Nat} {D : DataW Unit} (h : Grows W w') (hown : OwnsC W B n D) : OwnsC w' B n D := by
 obtain ⟨es, clock, hb, hr⟩ := hown; exact ⟨es, clock, h.block hb, hr⟩
/-- What the sort compares by: the greater gain first, then the lesser string. -/
def gainB (M : List Bs) (x : ByteArray) : Int := wrap64 ((M.count (bsOf x) : Nat) * (x.size : Int))
def cfB (M : List Bs) (x y : ByteArray) : Int := if Lib.compareInt (gainB M y) (gainB M x) = 0 then cmpS x y else Lib.compareInt (gainB M y) (gainB M x)
theorem closure_calls (x y : ByteArray) (hx : x.size ≤ 1000) (hy : y.size ≤ 1000) (g g8 B n : Nat) (D : DataW Unit) (M : List Bs) (W : World) (hbox : W.heap[g]? = some (.cells #[.map (some B)] 41 (0, 0))) (hfn : W.heap[g8]? = some (.cells #[.func (.func 26) #[] #[.pointer (some ⟨g, 0, none⟩)]] 43 (0, 0))) (hown : OwnsC W B n D) (hC : CountOf D M) :
  Calls Try.prog 28 #[.string x, .string y, .pointer (some ⟨g8, 0, none⟩)] W fun e w' => e = .returned (.int .i64 (cfB M x y)) ∧ Grows W w' := by
 have HG := Aside0.mk (fun (s : ByteArray) (hs : s.size ≤ 1000) (w1 : World) (h : Grows W.drew w1) => gain_calls s hs g B n D _ w1 (h.block hbox) (h.owns hown) (hC.at_ (bsOf s)))
 have HCS := Aside0.mk (fun (x y : ByteArray) (W : World) => cmpS_calls x y W)
 have HX := Aside0.mk hx; have HY := Aside0.mk hy; have HFN := Aside0.mk (show W.drew.heap[g8]? = some (.cells #[.func (.func 26) #[] #[.pointer (some ⟨g, 0, none⟩)]] 43 (0, 0)) from hfn)
 have HGW := Aside0.mk (show Grows W W.drew from Grows.drewN W 1)
 clear hx hy hbox hfn hown hC; go_enter Try.func28, Try.ntmps28
 go_wp2
 refine start_ (n := 13) (S := fun w' => Grows W.drew w') (ds := []) #[false, false, false, false, false, false, false, false, false, false, false, false, false] (by kernel_rfl) rfl rfl (Grows.refl _) (fun hHeld => ?_)
 generalize W.drew = wR at HG HFN HGW hHeld ⊢
 refine pure_ (i := 1) (N := some 7) (v := .string y) (a' := ?z1a) #[false, true, false, false, false, false, false, false, false, false, false, false, false] rfl rfl (by kernel_rfl) (fun _ _ _ h => h) (Or.inl ⟨by rfl, fun w' => ?z1y⟩) ?z1h ?z1c
 case z1y => first | (go_simp; done) | (go_simp; rfl) | (go_simp; simp; done)
 case z1h => simp only [Act.put, List.setIfInBounds_toArray, List.set_cons_zero, List.set_cons_succ, i64_w, i32_w]; rfl
 case z1c =>
 refine pure_ (i := 4) (N := some 10) (v := .string x) (a' := ?z2a) #[false, true, false, false, true, false, false, false, false, false, false, false, false] rfl rfl (by kernel_rfl) (fun _ _ _ h => h) (Or.inl ⟨by rfl, fun w' => ?z2y⟩) ?z2h ?z2c
 case z2y => first | (go_simp; done) | (go_simp; rfl) | (go_simp; simp; done)
 case z2h => simp only [Act.put, List.setIfInBounds_toArray, List.set_cons_zero, List.set_cons_succ, i64_w, i32_w]; rfl
 case z2c =>
 refine pure_ (i := 7) (N := some 13) (v := .string x) (a' := ?z3a) #[false, true, false, false, true, false, false, true, false, false, false, false, false] rfl rfl (by kernel_rfl) (fun _ _ _ h => h) (Or.inl ⟨by rfl, fun w' => ?z3y⟩) ?z3h ?z3c
 case z3y => first | (go_simp; done) | (go_simp; rfl) | (go_simp; simp; done)
 case z3h => simp only [Act.put, List.setIfInBounds_toArray, List.set_cons_zero, List.set_cons_succ, i64_w, i32_w]; rfl
 case z3c =>
 refine pure_ (i := 8) (N := some 14) (v := .string y) (a' := ?z4a) #[false, true, false, false, true, false, false, true, true, false, false, false, false] rfl rfl (by kernel_rfl) (fun _ _ _ h => h) (Or.inl ⟨by rfl, fun w' => ?z4y⟩) ?z4h ?z4c
 case z4y => first | (go_simp; done) | (go_simp; rfl) | (go_simp; simp; done)
 case z4h => simp only [Act.put, List.setIfInBounds_toArray, List.set_cons_zero, List.set_cons_succ, i64_w, i32_w]; rfl
 case z4c =>
 refine take_ (i := 0) (N := some 6) (v := .func (.func 26) #[] #[.pointer (some ⟨g, 0, none⟩)]) (a' := ?z5a) #[true, true, false, false, true, false, false, true, true, false, false, false, false] rfl rfl (by kernel_rfl) (fun _ _ _ h => h) (Or.inl ⟨by rfl, fun w' hs => ?z5y⟩) hHeld ?z5h ?z5c
 case z5y => (have hcz8 : w'.cell? ⟨g8, 0, none⟩ = some (.func (.func 26) #[] #[.pointer (some ⟨g, 0, none⟩)]) := cell0_of (hs.block HFN.out)); go_simp
 case z5h => simp only [Act.put, List.setIfInBounds_toArray, List.set_cons_zero, List.set_cons_succ, i64_w, i32_w]; rfl
 case z5c =>
 refine take_ (i := 3) (N := some 9) (v := .func (.func 26) #[] #[.pointer (some ⟨g, 0, none⟩)]) (a' := ?z6a) #[true, true, false, true, true, false, false, true, true, false, false, false, false] rfl rfl (by kernel_rfl) (fun _ _ _ h => h) (Or.inl ⟨by rfl, fun w' hs => ?z6y⟩) hHeld ?z6h ?z6c
 case z6y => (have hcz8 : w'.cell? ⟨g8, 0, none⟩ = some (.func (.func 26) #[] #[.pointer (some ⟨g, 0, none⟩)]) := cell0_of (hs.block HFN.out)); go_simp
 case z6h => simp only [Act.put, List.setIfInBounds_toArray, List.set_cons_zero, List.set_cons_succ, i64_w, i32_w]; rfl
 case z6c =>
 refine one_ (i := 2) (N := some 8) #[true, true, true, true, true, false, false, true, true, false, false, false, false] rfl rfl (by kernel_rfl) (by decide) (fun K hK => ?_)
 refine goesV_ Try.func26 (by kernel_rfl) rfl #[.string y, .pointer (some ⟨g, 0, none⟩)] (by rfl) rfl rfl rfl (by (try simp only [List.map_toArray, List.map_cons, List.map_nil, List.append_toArray, List.cons_append, List.nil_append]); first | done | rfl) ?_
 refine (HG.out y HY.out _ hHeld).mono ?_
 rintro e w1 ⟨rfl, rfl⟩
 refine ⟨_, rfl, ?_⟩
 refine hK.out _ _ hHeld (fun hHeld => ?_)
 clear hK K; refine norm_ (a' := ?z7a) ?z7h ?z7c
 case z7h => show Act.put _ (some 8) _ = _; simp only [Act.put, List.setIfInBounds_toArray, List.set_cons_zero, List.set_cons_succ, i64_w, i32_w]; rfl
 case z7c =>
 refine one_ (i := 5) (N := some 11) #[true, true, true, true, true, true, false, true, true, false, false, false, false] rfl rfl (by kernel_rfl) (by decide) (fun K hK => ?_)
 refine goesV_ Try.func26 (by kernel_rfl) rfl #[.string x, .pointer (some ⟨g, 0, none⟩)] (by rfl) rfl rfl rfl (by (try simp only [List.map_toArray, List.map_cons, List.map_nil, List.append_toArray, List.cons_append, List.nil_append]); first | done | rfl) ?_
 refine (HG.out x HX.out _ hHeld).mono ?_
 rintro e w1 ⟨rfl, rfl⟩
 refine ⟨_, rfl, ?_⟩
 refine hK.out _ _ hHeld (fun hHeld => ?_)
 clear hK K; refine norm_ (a' := ?z8a) ?z8h ?z8c
 case z8h => show Act.put _ (some 11) _ = _; simp only [Act.put, List.setIfInBounds_toArray, List.set_cons_zero, List.set_cons_succ, i64_w, i32_w]; rfl
 case z8c =>
 refine one_ (i := 6) (N := some 12) #[true, true, true, true, true, true, true, true, true, false, false, false, false] rfl rfl (by kernel_rfl) (by decide) (fun K hK => ?_)
 refine goes_ Try.func30 (by kernel_rfl) rfl #[.int .i64 (gainB M y), .int .i64 (gainB M x)] (by rfl) rfl rfl (by (try simp only [List.map_toArray, List.map_cons, List.map_nil]); first | done | rfl) ?_
 refine (Try.cmp_Compare_int _ _ _).mono ?_
 rintro e w1 ⟨rfl, rfl⟩
 refine ⟨_, rfl, ?_⟩
 refine hK.out _ _ hHeld (fun hHeld => ?_)
 clear hK K; refine norm_ (a' := ?z9a) ?z9h ?z9c
 case z9h => show Act.put _ (some 12) _ = _; simp only [Act.put, List.setIfInBounds_toArray, List.set_cons_zero, List.set_cons_succ, i64_w, i32_w]; rfl
 case z9c =>
 refine one_ (i := 9) (N := some 15) #[true, true, true, true, true, true, true, true, true, true, false, false, false] rfl rfl (by kernel_rfl) (by decide) (fun K hK => ?_)
 refine goes_ Try.func31 (by kernel_rfl) rfl #[.string x, .string y] (by rfl) rfl rfl (by (try simp only [List.map_toArray, List.map_cons, List.map_nil]); first | done | rfl) ?_
 refine (HCS.out _ _ _).mono ?_
 rintro e w1 ⟨rfl, rfl⟩
 refine ⟨_, rfl, ?_⟩
 refine hK.out _ _ hHeld (fun hHeld => ?_)
 clear hK K; refine norm_ (a' := ?z10a) ?z10h ?z10c
 case z10h => show Act.put _ (some 15) _ = _; simp only [Act.put, List.setIfInBounds_toArray, List.set_cons_zero, List.set_cons_succ, i64_w, i32_w]; rfl
 case z10c =>
 refine one_ (i := 10) (N := some 16) #[true, true, true, true, true, true, true, true, true, true, true, false, false] rfl rfl (by kernel_rfl) (by decide) (fun K hK => ?_)
 refine lit2_step (c := #[.int .i64 (Lib.compareInt (gainB M y) (gainB M x)), .int .i64 (cmpS x y)]) (by rfl) ?hr ?_
 case hr => first | (go_simp; done) | (go_simp; rfl)
 intro bb w2 hbl hg
 have hS := hHeld.trans hg; have HBL := Aside0.mk hbl; clear hHeld hbl hg; refine hK.out _ _ hS (fun hHeld => ?_)
 clear hK K hS; refine norm_ (a' := ?z11a) ?z11h ?z11c
 case z11h => show Act.put _ (some 16) _ = _; simp only [Act.put, List.setIfInBounds_toArray, List.set_cons_zero, List.set_cons_succ, i64_w, i32_w]; rfl
 case z11c =>
 refine one_ (i := 11) (N := some 17) #[true, true, true, true, true, true, true, true, true, true, true, true, false] rfl rfl (by kernel_rfl) (by decide) (fun K hK => ?_)
 refine goes_ Try.func29 (by kernel_rfl) rfl #[.slice (some ⟨bb, 0, none⟩) 2 2] (by rfl) rfl rfl (by (try simp only [List.map_toArray, List.map_cons, List.map_nil]); first | done | rfl) ?_
 refine (or_two _ _ _ _ HBL.out).mono ?_
 rintro e w1 ⟨he, rfl⟩
 have he2 : e = .returned (.int .i64 (cfB M x y)) := he; clear he; subst he2; refine ⟨_, rfl, ?_⟩
 refine hK.out _ _ hHeld (fun hHeld => ?_)
 clear hK K; refine norm_ (a' := ?z12a) ?z12h ?z12c
 case z12h => show Act.put _ (some 17) _ = _; simp only [Act.put, List.setIfInBounds_toArray, List.set_cons_zero, List.set_cons_succ, i64_w, i32_w]; rfl
 case z12c =>
 refine pure_ (i := 12) (N := some 5) (v := .int .i64 (cfB M x y)) (a' := ?z13a) #[true, true, true, true, true, true, true, true, true, true, true, true, true] rfl rfl (by kernel_rfl) (fun _ _ _ h => h) (Or.inl ⟨by rfl, fun w' => ?z13y⟩) ?z13h ?z13c
 case z13y => first | (go_simp; done) | (go_simp; rfl) | (go_simp; simp; done)
 case z13h => simp only [Act.put, List.setIfInBounds_toArray, List.set_cons_zero, List.set_cons_succ, i64_w, i32_w]; rfl
 case z13c =>
 refine done_ (by kernel_rfl) ?_
 have HE := Aside0.mk (HGW.out.trans hHeld)
 clear hHeld; go_wp2
 go_ret
 exact ⟨rfl, HE.out⟩
theorem store_map {P : Program} {ops : Array Oper} {rest : List Oper} {o : Oper} {a : Act} {Q : Exit → Act → World → Prop} {W : World} (hgd : o.guard = none) {t : TypeId} {p : Tmp} {v : Operand} (ho : o.op = .store t (.tmp p) v) (hN : o.dst = none) {g : Nat} {m : Option Nat} {u0 : Value} {t' : TypeId}
  (hp : a.eval (.tmp p) = .pointer (some ⟨g, 0, none⟩)) (hv : a.eval v = .map m) (hsz : ∀ w, (sizeOf t).run P w = .ok 1 w) (hb : W.heap[g]? = some (.cells #[u0] t' (0, 0)))
  (h : ∀ w', w'.heap[g]? = some (.cells #[.map m] t' (0, 0)) → (∀ k, k ≠ g → w'.heap[k]? = W.heap[k]?) → (∀ w : World, Below w.heap.size w W → w.heap.size ≤ g → Below w.heap.size w w') → wpList P ops Q rest a w') : wpList P ops Q (o :: rest) a W := by
 have hc : W.cell? ⟨g, 0, none⟩ = some u0 := cell0_of hb; have hf : W.frozen? ⟨g, 0, none⟩ = false := by unfold World.frozen?; simp [hb]
 have hrun : (execOp a.eval o).run P W = .ok .skip (W.setCell ⟨g, 0, none⟩ (.map m)) := by
  unfold execOp
  rw [ho]
  simp only [hp, hv]
  go_simp
 refine store_event hgd ho hN hrun (fun w' e => ?_)
 subst e; exact h _ (one_setCell hb) (fun k hk => Below.heap_setCell W _ _ k hk) (fun w hw hg => hw.setCell hg _)
theorem R_str_keep {W w1 : World} {base : Nat} {ok : Nat → Prop} {v : Value} {xs : List ByteArray} {row : Option Nat} (h : Kd.R Kd.string 9 W base ok v xs) (hg : W.grownBy w1 row) (hne : ∀ k, v.ownBlock = some k → some k ≠ row) : Kd.R Kd.string 9 w1 base ok v xs := by
 obtain ⟨h0, inner, ho, hr⟩ := h; exact ⟨h0, inner, own_move ho (fun k hk => hg.block k (own_lt ho k hk) (hne k hk)), hr⟩
theorem R_str_other {W w' : World} {base g : Nat} {ok : Nat → Prop} {v : Value} {xs : List ByteArray} {cs : Array Value} {t : TypeId} (h : Kd.R Kd.string 9 W base ok v xs) (hb : W.heap[g]? = some (.cells cs t (0, 0))) (ht : 9 ≠ t) (hoth : ∀ k, k ≠ g → w'.heap[k]? = W.heap[k]?) : Kd.R Kd.string 9 w' base ok v xs := by
 have hne := Kd.R_ne h hb ht; obtain ⟨h0, inner, ho, hr⟩ := h; exact ⟨h0, inner, own_move ho (fun k hk => hoth k (fun e => hne (by rw [hk, e]))), hr⟩
theorem owns_size {W : World} {B n : Nat} {D : DataW Unit} (h : OwnsC W B n D) : Maps.size D ≤ n := by
 obtain ⟨es, clock, _, _, hn, rfl⟩ := h; show (List.foldr DataW.insert [] _).length ≤ n
 rw [length_sorted]
 simpa using hn
theorem owns_other {W w' : World} {g B n : Nat} {D : DataW Unit} {cs : Array Value} {t : TypeId} (h : OwnsC W B n D) (hb : W.heap[g]? = some (.cells cs t (0, 0))) (hoth : ∀ k, k ≠ g → w'.heap[k]? = W.heap[k]?) : OwnsC w' B n D := by
 obtain ⟨es, clock, h1, h2⟩ := h; refine ⟨es, clock, (hoth B ?_).trans h1, h2⟩
 rintro rfl
 rw [hb] at h1
 cases h1
theorem train_Round.core (k : Nat) (A0 : Option Addr) (c0 : Nat) (t : List ByteArray) (A1 : Option Addr) (c1 : Nat) (sample : List ByteArray) (L : List Bs) (r : List ByteArray) (w : World) (hr0 : Kd.C Kd.string w A0 t.length t) (hc0 : t.length ≤ c0) (hr1 : Kd.C Kd.string w A1 sample.length sample) (hc1 : sample.length ≤ c1) (h : countedP k t sample = some L) (hL : L.length ≤ 1000000) (hz : ∀ s ∈ L, s.length ≤ 1000) (hr : symbol_Order.f k (((topL L).take 255).map ofB) = some r) :
  Calls Try.prog 16 #[.slice A0 t.length c0, .slice A1 sample.length c1] w fun e w' => ∃ v, e = .returned v ∧ Kd.R Kd.string 9 w' w.heap.size (fun _ => True) v r ∧ Below w.heap.size w w' := by
 have HCN := Aside0.mk (train_counted.core k A0 c0 t A1 c1 sample L w hr0 hc0 hr1 hc1 h)
 have HSZ := Aside0.mk (show ∀ W, (sizeOf 41).run Try.prog W = .ok 1 W from fun W => by first | exact Try.sizeOf41 | exact Try.sizeOf41 W | go_simp)
 have HL := Aside0.mk hL; have HZ := Aside0.mk hz; have HRR := Aside0.mk hr; clear hr hr0 hc0 hr1 hc1 h hL hz; go_enter Try.func16, Try.ntmps16
 go_wp2_with (first
  | (go_at_call 25; refine HCN.out.mono ?_; rintro e w1 ⟨n, D, rfl, hown, hC, hn, hb⟩; have HO := Aside0.mk hown; have HC := Aside0.mk hC; have HN := Aside0.mk hn; have HB := Aside0.mk hb; clear hown hC hn hb)
  | ((with_reducible refine gate_dst (N := 5) rfl ?_); refine box_event ?hg (N := 5) ?hd (cs := #[.map none]) (t := 41) ?hr ?_; (case hd => rfl); (case hg => rfl); (case hr => first | (go_simp; done) | (go_simp; rfl)); intro g hg w2 hbox hb; have BX := Aside0.mk hbox; have n0_ := Aside0.mk (World.ownsMap.below HO.out hb); have GE := Aside0.mk (show w.heap.size ≤ g from by rw [hg]; exact below_size HB.out); have n1_ := Aside0.mk (below_step HB.out hb); clear HO HB hbox hb hg; have HO := n0_; have HB := n1_; clear n0_ n1_)
  | ((with_reducible refine gate_store (t := 41) (p := 5) rfl ?_); refine store_map (g := g) (m := some w.heap.size) (t' := 41) rfl rfl rfl rfl rfl HSZ.out BX.out ?_; intro w3 hbx hoth hbel; have n0_ := Aside0.mk (owns_other HO.out BX.out hoth); have n1_ := Aside0.mk (hbel w HB.out GE.out); clear HO HB BX; have HO := n0_; have HB := n1_; have BX := Aside0.mk hbx; clear n0_ n1_ hoth hbel; have hcz5 : w3.cell? ⟨g, 0, none⟩ = some (.map (some w.heap.size)) := cell0_of hbx; clear hbx)
  | (at_range; refine wpList_range_own _ rfl _ 41 rfl 9 3 map_law Try.underlying41 _ w.heap.size n D rfl HO.out ?_; intro w4 hrg hg hs; have HRG := Aside0.mk hrg; have HBR := Aside0.mk hs; have GLT := Aside0.mk (show g < w3.heap.size from (Array.getElem?_eq_some_iff.1 BX.out).1); have n1_ := Aside0.mk (HB.out.grown hg HB.out.size (fun j hj => by cases hj)); have n2_ := Aside0.mk (blk_grown (g := g) (o := .cells #[.map (some w.heap.size)] 41 (0, 0)) BX.out hg (by simp)); clear HB BX hrg hg hs hcz5; have HB := n1_; have BX := n2_; clear n1_ n2_))
 have HCW := Aside0.mk (show w.heap.size < w4.heap.size ∧ w3.heap.size < w4.heap.size ∧ g < w4.heap.size ∧ g ≠ w3.heap.size ∧ w.heap.size ≤ w3.heap.size from ⟨HRG.out.owns.lt, by have := HBR.out; omega, (Array.getElem?_eq_some_iff.1 BX.out).1, Nat.ne_of_lt GLT.out, Nat.le_trans GE.out (Nat.le_of_lt GLT.out)⟩)
 have HDN := Aside0.mk (Nat.le_trans (owns_size HRG.out.owns) (Nat.le_trans HN.out HL.out))
 clear HBR GLT; go_frame
 go_loopg [6, 7] (Maps.size D + 1) (fun gg s6 s7 ws => ∃ (left : Lit → Bool) (cnt : Nat) (ss : List Bs) (v : Value), v = s6 ∧ cnt ≤ gg ∧ Aside0 (ws.ranges Try.prog 9 (plainElem (H := Unit) Try.prog 3) w.heap.size w3.heap.size n D left cnt) ∧ Aside0 (ss.length + cnt ≤ Maps.size D) ∧ Aside0 (Kd.R Kd.string 9 ws w4.heap.size (fun _ => True) v (ss.map ofB)) ∧ Aside0 (Go.Collected D left ss) ∧ Aside0 (Below w.heap.size w ws) ∧ Aside0 (ws.heap[g]? = some (.cells #[.map (some w.heap.size)] 41 (0, 0))) ∧ Aside0 (w4.heap.size ≤ ws.heap.size))
 case atStart => exact ⟨_, _, [], _, rfl, Nat.le_succ _, HRG, ⟨by simp⟩, ⟨Kd.R_nil _ _ _ _ _⟩, ⟨Go.Collected.start D⟩, HB, BX, ⟨Nat.le_refl _⟩⟩
 case round =>
  clear HRG HB BX; obtain ⟨left, cnt, ss, v, rfl, hcg, HRG, HCS, HR, HCO, HB, BX, HW4⟩ := hrel
  go_wp2_with (first
   | (at_next; refine wpList_next_ranges _ rfl _ rfl 9 map_law (plainElem (H := Unit) Try.prog 3) Go.Proofs.encStr (Value.int .i64) (fun key kl hk => by obtain ⟨x, hx, _⟩ := Maps.keyOf_str Try.underlying9 hk; exact ⟨x, hx⟩) (fun v y hv => by obtain ⟨c, rfl, _⟩ := plainElem_int_inv Try.underlying3 hv; exact ⟨c, rfl⟩) w.heap.size w3.heap.size n _ _ _ rfl HRG.out ?_ ?_))
  ·intro hc0 hl0
   have HPM := Aside0.mk (show ss.mergeSort (leG L) = topL L from topL_of L HCO.out.1 (fun x => by rw [HCO.out.2 x, hl0, HC.out.has]; simp))
   have HSL := Aside0.mk (show ss.length ≤ 1000000 from by have := HCS.out; have := HDN.out; omega)
   have HSS := Aside0.mk (show ∀ s ∈ ss, s.length ≤ 1000 from fun s hs => HZ.out s (by have h1 := (HCO.out.2 s).1 hs; rw [HC.out.has] at h1; simpa using h1.1))
   have HO4 := Aside0.mk HRG.out.owns; have HB4 := Aside0.mk (show w.heap.size ≤ wr.heap.size from HB.out.size)
   have HSF := Aside0.mk (show ∀ W, (sizeOf 43).run Try.prog W = .ok 1 W from fun W => by first | exact Try.sizeOf43 | exact Try.sizeOf43 W | go_simp)
   obtain ⟨Al, cl, el⟩ := Kd.R_slice HR.out
   rw [List.length_map] at el
   subst el; clear hc0 hl0 HRG HCO HCS hcg
   go_wp2_with (first
    | ((with_reducible refine gate_dst (N := 8) rfl ?_); refine box_event ?hg (N := 8) ?hd (cs := #[.nilFunc]) (t := 43) ?hr ?_; (case hd => rfl); (case hg => rfl); (case hr => first | (go_simp; done) | (go_simp; rfl)); intro g8 hg w7 hbox hb; have BX8 := Aside0.mk hbox; have GE8 := Aside0.mk (show wr.heap.size ≤ g8 from Nat.le_of_eq hg.symm); have n0_ := Aside0.mk (World.ownsMap.below HO4.out hb); have n1_ := Aside0.mk (below_step HB.out hb); have n2_ := Aside0.mk (blk_keep hb BX.out); have n3_ := Aside0.mk (Kd.R_below HR.out hb); clear HO4 HB BX HR hbox hb hg; have HO4 := n0_; have HB := n1_; have BX := n2_; have HR := n3_; clear n0_ n1_ n2_ n3_)
    | ((with_reducible refine gate_store (t := 43) (p := 8) rfl ?_); refine store_fn (g := g8) (t' := 43) rfl rfl rfl rfl rfl HSF.out BX8.out ?_; intro w8 hbx hoth hbel; have BF8 := Aside0.mk hbx; have n0_ := Aside0.mk (owns_other HO4.out BX8.out hoth); have n2_ := Aside0.mk (show w8.heap[g]? = _ from (hoth g (fun e => by have h1 := BX.out; rw [e, BX8.out] at h1; cases h1)).trans BX.out); have n1_ := Aside0.mk (hbel w HB.out (Nat.le_trans HB4.out GE8.out)); have n3_ := Aside0.mk (R_str_other HR.out BX8.out (by decide) hoth); clear hbx HO4 BX HB HR BX8 hoth hbel; have HO4 := n0_; have HB := n1_; have BX := n2_; have HR := n3_; clear n0_ n1_ n2_ n3_))
   have hcmp : ∀ x y : S1, ∀ W : World, (∀ k, k < w8.heap.size → some k ≠ (Value.slice Al ss.length cl).ownBlock → W.heap[k]? = w8.heap[k]?) → Calls Try.prog 28 (#[enc1 x, enc1 y] ++ #[.pointer (some ⟨g8, 0, none⟩)]) W (fun e w' => e = .returned (.int .i64 (cfL L x.1 y.1)) ∧ Grows W w') := by
    intro x y W hW
    have hb1 := Kd.R_ne HR.out BX.out (by decide)
    have hb2 := Kd.R_ne HR.out BF8.out (by decide)
    have h1 : W.heap[g]? = _ := (hW g (Array.getElem?_eq_some_iff.1 BX.out).1 hb1).trans BX.out
    have h2 : W.heap[g8]? = _ := (hW g8 (Array.getElem?_eq_some_iff.1 BF8.out).1 hb2).trans BF8.out
    have h3 : OwnsC W w.heap.size n D := by
     obtain ⟨es_, ck_, hbl_, hrest_⟩ := HO4.out; refine ⟨es_, ck_, (hW w.heap.size (Array.getElem?_eq_some_iff.1 hbl_).1 (fun e => ?_)).trans hbl_, hrest_⟩
     have := Kd.R_base HR.out w.heap.size e.symm
     have := HCW.out.1
     omega
    exact closure_calls (ofB x.1) (ofB y.1) (by simpa [ofB, ByteArray.size] using x.2) (by simpa [ofB, ByteArray.size] using y.2) g g8 w.heap.size n D L W h1 h2 h3 HC.out
   have HSC := Aside0.mk (sortF_calls 28 #[.pointer (some ⟨g8, 0, none⟩)] (cfL L) (swo_cfL L) (fun x y h => Subtype.ext (cfL_zero L _ _ h)) (fun x y h => by
    by_cases h2 : cfL L y.1 x.1 < 0
    ·exact h2
    ·have h3 := cfL_anti L x.1 y.1 (by omega) h2
     rw [h3, cfL_self] at h
     omega) ss HSS.out (by have := HSL.out; omega) Al cl w8 w4.heap.size (fun _ => True) HR.out (enters_of Try.func28 (by kernel_rfl) rfl) hcmp)
   clear hcmp; have htl : (topL L).length = ss.length := by rw [← HPM.out, List.length_mergeSort]
   have HLN := Aside0.mk (show (((topL L).take 255).map ofB).length = min 255 ss.length from by rw [List.length_map, List.length_take, htl])
   have hcl : ss.length ≤ cl := by
    have := (Kd.R_reads' HR.out).2.1
    exact this
   have HORD := Aside0.mk (show ∀ (W : World) (m : Nat), Kd.R Kd.string 9 W w4.heap.size (fun _ => True) (.slice Al ss.length cl) ((topL L).map ofB) → m = min 255 ss.length → Calls Try.prog 32 #[.slice Al m cl] W (fun e w' => ∃ v0_ : Value, e = .returned (v0_) ∧ Kd.R Kd.string 9 w' W.heap.size (fun _ => True) v0_ r ∧ Below W.heap.size W w') from fun W m hR hm => by
    subst hm; have hr18 := Kd.R_take (m := min 255 ss.length) hR (by rw [List.length_map, htl]; omega)
    have e18 : ((topL L).map ofB).take (min 255 ss.length) = ((topL L).take 255).map ofB := by
     rw [← List.map_take]
     congr 1
     by_cases h255 : 255 ≤ ss.length
     ·rw [Nat.min_eq_left h255]
     ·rw [Nat.min_eq_right (by omega), List.take_of_length_le (by omega), List.take_of_length_le (by omega)]
    rw [e18] at hr18
    have h2 := Kd.R_reads' hr18
    have h3 := symbol_Order.calls k Al cl (((topL L).take 255).map ofB) r W h2.2.2 (by rw [HLN.out]; exact h2.2.1) HRR.out
    rw [HLN.out] at h3
    exact h3)
   clear htl; have hcl2 : (ss.length : Int) ≤ (cl : Int) := by omega
   have hcl4 := eq_true hcl2; by_cases h255 : (255 : Int) < (ss.length : Int)
   ·have hcl3 : (255 : Int) ≤ (cl : Int) := by omega
    have hcl5 := eq_true hcl3; have hm := Aside0.mk (show (255 : Nat) = min 255 ss.length from by omega)
    obtain ⟨i018, hi018, _, hsz18, _⟩ := info_parts info9
    have hcut18 : ∀ W : World, (Instr.slice 22 (.slice Al ss.length cl) none (some (.int .i64 255)) none).run Try.prog W = .ok (.slice Al 255 cl) W := cut_to (P := Try.prog) 22 9 .i64 Try.underlying22 hi018 Al ss.length cl 255 (by omega) (by omega) hcl
    clear hcl hi018 hsz18
    go_wp2_with (first
     | (go_at_call 27; refine HSC.out.mono ?_; rintro e w9 ⟨rfl, hR9, hbel9⟩; have n1_ := Aside0.mk (hbel9 w HB.out (Nat.le_of_lt HCW.out.1)); have n2_ := Aside0.mk (show Kd.R Kd.string 9 w9 w4.heap.size (fun _ => True) (.slice Al ss.length cl) ((topL L).map ofB) from by rw [← HPM.out]; exact hR9); clear HO4 HB BX HR BF8 hR9 hbel9; have HB := n1_; have HR := n2_; clear n1_ n2_)
     | (go_at_call 32; (with_reducible refine (HORD.out _ _ HR.out hm.out).mono ?_); rintro e wA ⟨vA, rfl, hRA, hBA⟩; have n1_ := Aside0.mk (below_step HB.out hBA); have n2_ := Aside0.mk (Kd.R_lower hRA HB.out.size); clear HB hRA hBA; have HB := n1_; have HO9 := n2_; clear n1_ n2_))
    go_ret; exact ⟨_, rfl, HO9.out, HB.out⟩
   ·have hm := Aside0.mk (show ss.length = min 255 ss.length from by omega)
    obtain ⟨i018, hi018, _, hsz18, _⟩ := info_parts info9
    have hcut18 : ∀ W : World, (Instr.slice 22 (.slice Al ss.length cl) none (some (.int .i64 (ss.length : Int))) none).run Try.prog W = .ok (.slice Al ss.length cl) W := cut_to (P := Try.prog) 22 9 .i64 Try.underlying22 hi018 Al ss.length cl (ss.length : Int) (by omega) (by omega) hcl
    clear hcl hi018 hsz18
    go_wp2_with (first
     | (go_at_call 27; refine HSC.out.mono ?_; rintro e w9 ⟨rfl, hR9, hbel9⟩; have n1_ := Aside0.mk (hbel9 w HB.out (Nat.le_of_lt HCW.out.1)); have n2_ := Aside0.mk (show Kd.R Kd.string 9 w9 w4.heap.size (fun _ => True) (.slice Al ss.length cl) ((topL L).map ofB) from by rw [← HPM.out]; exact hR9); clear HO4 HB BX HR BF8 hR9 hbel9; have HB := n1_; have HR := n2_; clear n1_ n2_)
     | (go_at_call 32; (with_reducible refine (HORD.out _ _ HR.out hm.out).mono ?_); rintro e wA ⟨vA, rfl, hRA, hBA⟩; have n1_ := Aside0.mk (below_step HB.out hBA); have n2_ := Aside0.mk (Kd.R_lower hRA HB.out.size); clear HB hRA hBA; have HB := n1_; have HO9 := n2_; clear n1_ n2_))
    go_ret; exact ⟨_, rfl, HO9.out, HB.out⟩
  ·intro x c kl yd yp w5 cnt2 hkey hlk hv hat hrg2 hlt hg2 hs2 hen
   obtain ⟨x', ex, rfl, _⟩ := Maps.keyOf_str Try.underlying9 hkey
   obtain rfl : x = x' := Go.encStr_inj ex
   clear hs2; obtain ⟨inner_, hrow_⟩ := Kd.R_own HR.out
   have HR2 := Aside0.mk (R_str_keep HR.out hg2 (fun k hk e => Go.row_ne_iter hrow_ HRG.out (e.symm.trans hk.symm)))
   have HB2 := Aside0.mk (HB.out.grown hg2 HB.out.size (fun j hj => by cases hj; exact HCW.out.2.2.2.2))
   have BX2 := Aside0.mk (blk_grown BX.out hg2 (fun e => HCW.out.2.2.2.1 (Option.some.inj e)))
   have HCO2 := Aside0.mk (Go.Collected.step HCO.out hlk hat)
   have HRG2 := Aside0.mk hrg2; have HW5 := Aside0.mk (Nat.le_trans HW4.out hg2.size)
   have HLT := Aside0.mk hlt; clear hrow_ inner_ HR HB BX HCO HRG HW4 hg2 hrg2 hkey hlk hv hat hlt ex
   go_wp2_with (first
    | ((with_reducible refine gate_builtin (b := .append) (xs := #[.tmp 18, .tmp 20]) rfl ?_); at_builtin; refine Kd.R_append Kd.string (w0 := w5) w4.heap.size rfl (.tmp 18) (.tmp 20) 22 9 (.string ⟨#[]⟩) 16 rfl Try.underlying22 info9 rfl (by decide) (by omega) v (ss.map ofB) (ofB x) [.string (ofB x)] (fun _ => True) (fun _ => False) rfl rfl ?aP (fun _ hk => hk.elim) ?aF ?aO ?aB ?aS ?aL ?_; (case aP => rfl); (case aB => exact Below.refl _ _); (case aF => exact (fun _ _ => trivial)); (case aO => exact HR2.out); (case aS => exact HW5.out); (case aL => have := HCS.out; have := HDN.out; rw [List.length_map]; omega); intro v6 w6 ho hb hg hat6; obtain ⟨inner_, hrow_⟩ := Kd.R_own HR2.out; have n0_ := Aside0.mk (World.ranges.kept HRG2.out hg (Go.row_ne_low hrow_ HCW.out.1) (Go.row_ne_low hrow_ HCW.out.2.1)); have n1_ := Aside0.mk (show Below w.heap.size w w6 from ⟨hb.os.trans HB2.out.os, hb.tape.trans HB2.out.tape, hb.output.trans HB2.out.output, Nat.le_trans HB2.out.size hb.size, fun k_ hk_ => (hb.block k_ (by have := HCW.out.1; omega)).trans (HB2.out.block k_ hk_)⟩); have n2_ := Aside0.mk ((hb.block g HCW.out.2.2.1).trans BX2.out); have n3_ := Aside0.mk (show w4.heap.size ≤ w6.heap.size from Nat.le_trans HW5.out hg.size); have n4_ := Aside0.mk (show Kd.R Kd.string 9 w6 w4.heap.size (fun _ => True) v6 ((ss ++ [x]).map ofB) from by rw [List.map_append]; exact ho); clear HRG2 HB2 BX2 HW5 HR2 hrow_ inner_ ho hb hg hat6))
   go_roundg cnt2
   case measure => have := HLT.out; omega
   case rel => exact ⟨_, cnt2, ss ++ [x], _, rfl, Nat.le_refl _, n0_, ⟨by have := HLT.out; have := HCS.out; rw [List.length_append]; simp; omega⟩, n4_, HCO2, n1_, n2_, n3_⟩
def train_Round.f (k : Nat) (l0 : List ByteArray) (l1 : List ByteArray) : Option (List ByteArray) := (countedP k l0 l1).bind fun L => if (L.all fun s => decide (s.length ≤ 1000)) = true then symbol_Order.f k (((topL L).take 255).map ofB) else none
theorem train_Round.calls (k : Nat) (A0 : Option Addr) (c0 : Nat) (l0 : List ByteArray) (A1 : Option Addr) (c1 : Nat) (l1 : List ByteArray) (r : List ByteArray) (w : World) (hr0 : Kd.C Kd.string w A0 l0.length l0) (hc0 : l0.length ≤ c0) (hr1 : Kd.C Kd.string w A1 l1.length l1) (hc1 : l1.length ≤ c1) (h : train_Round.f k l0 l1 = some r) :
  Calls Try.prog 16 #[.slice A0 l0.length c0, .slice A1 l1.length c1] w fun e w' => ∃ v0_ : Value, e = .returned (v0_) ∧ Kd.R Kd.string 9 w' w.heap.size (fun _ => True) v0_ r ∧ Below w.heap.size w w' := by
 unfold train_Round.f at h
 obtain ⟨L, hL, h⟩ := Option.bind_eq_some_iff.1 h
 by_cases hz : (L.all fun s => decide (s.length ≤ 1000)) = true
 ·rw [if_pos hz] at h; refine train_Round.core k A0 c0 l0 A1 c1 l1 L r w hr0 hc0 hr1 hc1 hL ?_ (fun s hs => by simpa using List.all_eq_true.1 hz s hs) h
  unfold countedP at hL
  obtain ⟨M, _, hL⟩ := Option.bind_eq_some_iff.1 hL
  by_cases hm : M.length ≤ 1000000
  ·rw [if_pos hm] at hL; obtain rfl := Option.some.inj hL
   exact hm
  ·rw [if_neg hm] at hL; cases hL
 ·rw [if_neg hz] at h; cases h

/-! ### train_Train: function 18 -/
def train_Train.l0 : Nat → List ByteArray → List ByteArray → Int → Int → Option (List ByteArray)
 | 0, _, _, _, _ => none
 | k + 1, x0, x5, x8, x9 => if x9 < x8 then ((train_Round.f k x5 x0).bind fun t136 => (train_Train.l0 k x0 t136 x8 (wrap64 (x9 + 1)))) else (some x5)
def train_Train.f (k : Nat) (l0 : List ByteArray) (a1 : Int) : Option (List ByteArray) := train_Train.l0 k l0 ([] : List ByteArray) (mn (mx a1 0) 8) 0
theorem train_Train.calls (k : Nat) (A0 : Option Addr) (c0 : Nat) (l0 : List ByteArray) (a1 : Int) (r : List ByteArray) (w : World) (hr0 : Kd.C Kd.string w A0 l0.length l0) (hc0 : l0.length ≤ c0) (h : train_Train.f k l0 a1 = some r) :
  Calls Try.prog 18 #[.slice A0 l0.length c0, .int .i64 a1] w fun e w' => ∃ v0_ : Value, e = .returned (v0_) ∧ Kd.R Kd.string 9 w' w.heap.size (fun _ => True) v0_ r ∧ Below w.heap.size w w' := by
 have HR0 := Aside0.mk hr0; have HC0 := Aside0.mk hc0; clear hr0 hc0; have HB := Aside0.mk (Below.refl w.heap.size w)
 have H : (train_Train.l0 k l0 ([] : List ByteArray) (mn (mx a1 0) 8) 0) = some r := h; clear h; obtain ⟨ji3, hji3⟩ : ∃ j_ : Int, (mx a1 0) = j_ := ⟨_, rfl⟩
 replace H : (train_Train.l0 k l0 ([] : List ByteArray) (mn (ji3) 8) 0) = some r := by first | (rw [hji3] at H; exact H) | (simp only [hji3] at H ⊢; exact H)
 (try (have hji3l : 0 ≤ ji3 := by (rw [← hji3]; unfold mx; (repeat' split) <;> omega)))
 (try (have hji3m : 0 ≤ ji3 := by omega))
 have hji3_ : (if a1 < 0 then 0 else a1) = ji3 := hji3; obtain ⟨ji4, hji4⟩ : ∃ j_ : Int, (mn (ji3) 8) = j_ := ⟨_, rfl⟩
 replace H : (train_Train.l0 k l0 ([] : List ByteArray) ji4 0) = some r := by first | (rw [hji4] at H; exact H) | (simp only [hji4] at H ⊢; exact H)
 have hji4_ : (if 8 < (ji3) then 8 else (ji3)) = ji4 := hji4; have H' := Aside0.mk H
 clear H; go_enter Try.func18, Try.ntmps18
 go_wp2
 go_loopg [5, 9] k (fun kq v5 v9 w' => ∃ (x5_1 : List ByteArray) (x9_1 : Int), v9 = .int .i64 x9_1 ∧ Aside0 (train_Train.l0 kq l0 x5_1 ji4 x9_1 = some r) ∧ Aside0 (kq ≤ k) ∧ Aside0 (Kd.R Kd.string 9 w' w.heap.size (fun _ => True) v5 x5_1) ∧ Aside0 (Below w.heap.size w w'))
 case atStart => exact ⟨(([] : List ByteArray)), (0), (by first | rfl | (simp; done) | (simp [*]; done)), H', ⟨Nat.le_refl _⟩, ⟨by first | exact Kd.R_nil _ _ _ _ _ | exact Kd.N_nil _ _ _ _ _ | exact Kd.V_nil _ _ _ _ _ | exact Kd.Q_nil _ _ _ _ _ | exact Kd.S_nil _ _ _ _ _⟩, ⟨mvB HB.out⟩⟩
 case round =>
  clear H'; try clear c1
  try clear p2
  obtain ⟨x5_1, x9_1, rfl, HA, HK1, HO_5, HB⟩ := hrel
  cases gk with
  | zero => exact absurd HA.out (by simp [train_Train.l0])
  | succ k1 =>
   have H := HA.out; clear HA; simp only [train_Train.l0] at H
   by_cases c5 : x9_1 < ji4
   ·rw [if_pos c5] at H; have c5b0 : decide (x9_1 < ji4) = true := decide_eq_true c5; clear c5; replace H := Option.bind_eq_some_iff.mp H; obtain ⟨t136, A60, H⟩ := H; replace H : (train_Train.l0 k1 l0 t136 ji4 (wrap64 (x9_1 + 1))) = some r := H
    have A6 := Aside0.mk A60; clear A60; have H' := Aside0.mk H
    clear H; obtain ⟨Ao7, co7, eo7⟩ := Kd.R_slice HO_5.out
    subst eo7; go_wp2_with (first | ((with_reducible refine gate_callee (f := 16) rfl ?_); refine goesL_ (some 13) rfl rfl Try.func16 (by kernel_rfl) rfl #[.slice Ao7 x5_1.length co7, .slice A0 l0.length c0] rfl (by (try simp only [List.map_toArray, List.map_cons, List.map_nil]); first | done | rfl | (simp only [List.length_drop, List.length_take]; rfl)) ?_; (with_reducible refine (train_Round.calls k1 _ _ x5_1 _ _ l0 t136 _ ?side1 ?side2 ?side3 ?side4 A6.out).mono ?_); (case side1 => repeat (first | exact (Kd.R_reads' HO_5.out).2.2 | (with_reducible refine Kd.C_alloc ?_ _) | (with_reducible refine Kd.C_drewN ?_ _) | (with_reducible refine Kd.C_drew ?_))); (case side2 => exact (Kd.R_reads' HO_5.out).2.1); (case side3 => repeat (first | exact (Kd.C_below HR0.out HB.out) | (with_reducible refine Kd.C_alloc ?_ _) | (with_reducible refine Kd.C_drewN ?_ _) | (with_reducible refine Kd.C_drew ?_))); (case side4 => exact HC0.out); rintro e w8 ⟨v137, rfl, ho0, hb⟩; refine ⟨_, rfl, ?_⟩; have n0_ := Aside0.mk (Kd.R_elder' (mvR HO_5.out) (Kd.R_base ho0) hb); have n1_ := Aside0.mk (Kd.R_lower (Kd.R_new' ho0 (Kd.R_lt (mvR HO_5.out))) (below_size (mvB HB.out))); have n2_ := Aside0.mk (below_step (mvB HB.out) hb); clear HO_5; clear HB; have HO_5 := n0_; have HO138 := n1_; have HB := n2_; clear n0_ n1_ n2_; (try clear hb); (try clear hb2); (try clear hk); (try clear hi); (try clear ho0)))
    go_roundg k1
    case measure => have := HK1.out; omega
    case rel => exact ⟨(t136), (wrap64 (x9_1 + 1)), (by first | rfl | (simp; done) | (simp [*]; done)), H', ⟨by have := HK1.out; omega⟩, ⟨by (with_reducible repeat (first | apply Kd.R_alloc | apply Kd.R_drewN | apply Kd.R_drew)); exact Kd.R_mono HO138.out (fun _ hk => trivial)⟩, ⟨mvB HB.out⟩⟩
   ·rw [if_neg c5] at H; have c5b0 : decide (x9_1 < ji4) = false := decide_eq_false c5; clear c5; obtain rfl := Option.some.inj H
    go_wp2
    go_ret
    exact ⟨_, by first | rfl | (simp [errW_none, errW_some] <;> rfl) | (simp only [← hji3, ← hji4]; first | rfl | (simp [errW_none, errW_some] <;> rfl)) | (simp [*, errW_none, errW_some] <;> rfl) | exact congrArg (fun b_ => Ending.returned (.bool b_)) (decide_eq_decide.2 (by unfold wrap64; omega)), by (with_reducible repeat (first | apply Kd.R_alloc | apply Kd.R_drewN | apply Kd.R_drew)); exact HO_5.out, mvB HB.out⟩

/-! ### hopperlaw12_awake: function 9 -/
def hopperlaw12_awake.f (k : Nat)  : Option (Bool) := (train_Round.f k ([] : List ByteArray) (([(⟨#[97, 98, 97, 98]⟩ : ByteArray)] : List ByteArray))).bind fun t142 => ((hopperref07_Same.f k t142 (([(⟨#[97]⟩ : ByteArray), (⟨#[97, 98]⟩ : ByteArray), (⟨#[98]⟩ : ByteArray), (⟨#[98, 97]⟩ : ByteArray)] : List ByteArray))).bind fun t148 => (if t148 = true then ((train_Sample.f k (([(⟨#[120]⟩ : ByteArray), (⟨#[121]⟩ : ByteArray)] : List ByteArray)) (([3, (-2)] : List Int))).bind fun t155 => ((hopperref07_Same.f k t155 (([(⟨#[121]⟩ : ByteArray), (⟨#[120]⟩ : ByteArray)] : List ByteArray))).bind fun t161 => (if t161 = true then ((train_Train.f k (([(⟨#[97, 98]⟩ : ByteArray)] : List ByteArray)) 0).bind fun t165 => (some ((t165.length : Int) == 0))) else (none)))) else (none)))
theorem hopperlaw12_awake.calls (k : Nat)  (r : Bool) (w : World) (h : hopperlaw12_awake.f k  = some r) :
  Calls Try.prog 9 #[] w fun e w' => e = .returned (.bool r) ∧ Below w.heap.size w w' := by
 have HB := Aside0.mk (Below.refl w.heap.size w)
 have H : ((train_Round.f k ([] : List ByteArray) (([(⟨#[97, 98, 97, 98]⟩ : ByteArray)] : List ByteArray))).bind fun t142 => ((hopperref07_Same.f k t142 (([(⟨#[97]⟩ : ByteArray), (⟨#[97, 98]⟩ : ByteArray), (⟨#[98]⟩ : ByteArray), (⟨#[98, 97]⟩ : ByteArray)] : List ByteArray))).bind fun t148 => (if t148 = true then ((train_Sample.f k (([(⟨#[120]⟩ : ByteArray), (⟨#[121]⟩ : ByteArray)] : List ByteArray)) (([3, (-2)] : List Int))).bind fun t155 => ((hopperref07_Same.f k t155 (([(⟨#[121]⟩ : ByteArray), (⟨#[120]⟩ : ByteArray)] : List ByteArray))).bind fun t161 => (if t161 = true then ((train_Train.f k (([(⟨#[97, 98]⟩ : ByteArray)] : List ByteArray)) 0).bind fun t165 => (some ((t165.length : Int) == 0))) else (none)))) else (none)))) = some r := h; clear h; obtain ⟨y139, hy139⟩ : ∃ y_ : List ByteArray, y_ = (([(⟨#[97, 98, 97, 98]⟩ : ByteArray)] : List ByteArray)) := ⟨_, rfl⟩
 replace H : ((train_Round.f k ([] : List ByteArray) y139).bind fun t142 => ((hopperref07_Same.f k t142 (([(⟨#[97]⟩ : ByteArray), (⟨#[97, 98]⟩ : ByteArray), (⟨#[98]⟩ : ByteArray), (⟨#[98, 97]⟩ : ByteArray)] : List ByteArray))).bind fun t148 => (if t148 = true then ((train_Sample.f k (([(⟨#[120]⟩ : ByteArray), (⟨#[121]⟩ : ByteArray)] : List ByteArray)) (([3, (-2)] : List Int))).bind fun t155 => ((hopperref07_Same.f k t155 (([(⟨#[121]⟩ : ByteArray), (⟨#[120]⟩ : ByteArray)] : List ByteArray))).bind fun t161 => (if t161 = true then ((train_Train.f k (([(⟨#[97, 98]⟩ : ByteArray)] : List ByteArray)) 0).bind fun t165 => (some ((t165.length : Int) == 0))) else (none)))) else (none)))) = some r := by first | (rw [hy139]; with_reducible exact H) | (have H2_ := (Option.bind_some _ _).symm.trans H; rw [hy139]; with_reducible exact H2_) | (have H2_ := (Option.bind_some _ _).symm.trans H; with_reducible exact H2_) | with_reducible exact H | (rw [hy139]; exact H) | exact H
 have Ny139 := Aside0.mk hy139; clear hy139; replace H := Option.bind_eq_some_iff.mp H; obtain ⟨t142, A10, H⟩ := H; replace H : ((hopperref07_Same.f k t142 (([(⟨#[97]⟩ : ByteArray), (⟨#[97, 98]⟩ : ByteArray), (⟨#[98]⟩ : ByteArray), (⟨#[98, 97]⟩ : ByteArray)] : List ByteArray))).bind fun t148 => (if t148 = true then ((train_Sample.f k (([(⟨#[120]⟩ : ByteArray), (⟨#[121]⟩ : ByteArray)] : List ByteArray)) (([3, (-2)] : List Int))).bind fun t155 => ((hopperref07_Same.f k t155 (([(⟨#[121]⟩ : ByteArray), (⟨#[120]⟩ : ByteArray)] : List ByteArray))).bind fun t161 => (if t161 = true then ((train_Train.f k (([(⟨#[97, 98]⟩ : ByteArray)] : List ByteArray)) 0).bind fun t165 => (some ((t165.length : Int) == 0))) else (none)))) else (none))) = some r := H
 have A1 := Aside0.mk A10; clear A10; obtain ⟨y145, hy145⟩ : ∃ y_ : List ByteArray, y_ = (([(⟨#[97]⟩ : ByteArray), (⟨#[97, 98]⟩ : ByteArray), (⟨#[98]⟩ : ByteArray), (⟨#[98, 97]⟩ : ByteArray)] : List ByteArray)) := ⟨_, rfl⟩
 replace H : ((hopperref07_Same.f k t142 y145).bind fun t148 => (if t148 = true then ((train_Sample.f k (([(⟨#[120]⟩ : ByteArray), (⟨#[121]⟩ : ByteArray)] : List ByteArray)) (([3, (-2)] : List Int))).bind fun t155 => ((hopperref07_Same.f k t155 (([(⟨#[121]⟩ : ByteArray), (⟨#[120]⟩ : ByteArray)] : List ByteArray))).bind fun t161 => (if t161 = true then ((train_Train.f k (([(⟨#[97, 98]⟩ : ByteArray)] : List ByteArray)) 0).bind fun t165 => (some ((t165.length : Int) == 0))) else (none)))) else (none))) = some r := by first | (rw [hy145]; with_reducible exact H) | (have H2_ := (Option.bind_some _ _).symm.trans H; rw [hy145]; with_reducible exact H2_) | (have H2_ := (Option.bind_some _ _).symm.trans H; with_reducible exact H2_) | with_reducible exact H | (rw [hy145]; exact H) | exact H
 have Ny145 := Aside0.mk hy145; clear hy145; replace H := Option.bind_eq_some_iff.mp H; obtain ⟨t148, A20, H⟩ := H; replace H : (if t148 = true then ((train_Sample.f k (([(⟨#[120]⟩ : ByteArray), (⟨#[121]⟩ : ByteArray)] : List ByteArray)) (([3, (-2)] : List Int))).bind fun t155 => ((hopperref07_Same.f k t155 (([(⟨#[121]⟩ : ByteArray), (⟨#[120]⟩ : ByteArray)] : List ByteArray))).bind fun t161 => (if t161 = true then ((train_Train.f k (([(⟨#[97, 98]⟩ : ByteArray)] : List ByteArray)) 0).bind fun t165 => (some ((t165.length : Int) == 0))) else (none)))) else (none)) = some r := H
 have A2 := Aside0.mk A20; clear A20; by_cases c3 : t148 = true
 ·subst c3; have H1 : ((train_Sample.f k (([(⟨#[120]⟩ : ByteArray), (⟨#[121]⟩ : ByteArray)] : List ByteArray)) (([3, (-2)] : List Int))).bind fun t155 => ((hopperref07_Same.f k t155 (([(⟨#[121]⟩ : ByteArray), (⟨#[120]⟩ : ByteArray)] : List ByteArray))).bind fun t161 => (if t161 = true then ((train_Train.f k (([(⟨#[97, 98]⟩ : ByteArray)] : List ByteArray)) 0).bind fun t165 => (some ((t165.length : Int) == 0))) else (none)))) = some r := by rw [if_pos rfl] at H; exact H
  clear H; have H := H1; clear H1; obtain ⟨y149, hy149⟩ : ∃ y_ : List ByteArray, y_ = (([(⟨#[120]⟩ : ByteArray), (⟨#[121]⟩ : ByteArray)] : List ByteArray)) := ⟨_, rfl⟩
  replace H : ((train_Sample.f k y149 (([3, (-2)] : List Int))).bind fun t155 => ((hopperref07_Same.f k t155 (([(⟨#[121]⟩ : ByteArray), (⟨#[120]⟩ : ByteArray)] : List ByteArray))).bind fun t161 => (if t161 = true then ((train_Train.f k (([(⟨#[97, 98]⟩ : ByteArray)] : List ByteArray)) 0).bind fun t165 => (some ((t165.length : Int) == 0))) else (none)))) = some r := by first | (rw [hy149]; with_reducible exact H) | (have H2_ := (Option.bind_some _ _).symm.trans H; rw [hy149]; with_reducible exact H2_) | (have H2_ := (Option.bind_some _ _).symm.trans H; with_reducible exact H2_) | with_reducible exact H | (rw [hy149]; exact H) | exact H
  have Ny149 := Aside0.mk hy149; clear hy149; obtain ⟨y152, hy152⟩ : ∃ y_ : List Int, y_ = (([3, (-2)] : List Int)) := ⟨_, rfl⟩
  replace H : ((train_Sample.f k y149 y152).bind fun t155 => ((hopperref07_Same.f k t155 (([(⟨#[121]⟩ : ByteArray), (⟨#[120]⟩ : ByteArray)] : List ByteArray))).bind fun t161 => (if t161 = true then ((train_Train.f k (([(⟨#[97, 98]⟩ : ByteArray)] : List ByteArray)) 0).bind fun t165 => (some ((t165.length : Int) == 0))) else (none)))) = some r := by first | (rw [hy152]; with_reducible exact H) | (have H2_ := (Option.bind_some _ _).symm.trans H; rw [hy152]; with_reducible exact H2_) | (have H2_ := (Option.bind_some _ _).symm.trans H; with_reducible exact H2_) | with_reducible exact H | (rw [hy152]; exact H) | exact H
  have Ny152 := Aside0.mk hy152; clear hy152; replace H := Option.bind_eq_some_iff.mp H; obtain ⟨t155, A40, H⟩ := H; replace H : ((hopperref07_Same.f k t155 (([(⟨#[121]⟩ : ByteArray), (⟨#[120]⟩ : ByteArray)] : List ByteArray))).bind fun t161 => (if t161 = true then ((train_Train.f k (([(⟨#[97, 98]⟩ : ByteArray)] : List ByteArray)) 0).bind fun t165 => (some ((t165.length : Int) == 0))) else (none))) = some r := H
  have A4 := Aside0.mk A40; clear A40; obtain ⟨y158, hy158⟩ : ∃ y_ : List ByteArray, y_ = (([(⟨#[121]⟩ : ByteArray), (⟨#[120]⟩ : ByteArray)] : List ByteArray)) := ⟨_, rfl⟩
  replace H : ((hopperref07_Same.f k t155 y158).bind fun t161 => (if t161 = true then ((train_Train.f k (([(⟨#[97, 98]⟩ : ByteArray)] : List ByteArray)) 0).bind fun t165 => (some ((t165.length : Int) == 0))) else (none))) = some r := by first | (rw [hy158]; with_reducible exact H) | (have H2_ := (Option.bind_some _ _).symm.trans H; rw [hy158]; with_reducible exact H2_) | (have H2_ := (Option.bind_some _ _).symm.trans H; with_reducible exact H2_) | with_reducible exact H | (rw [hy158]; exact H) | exact H
  have Ny158 := Aside0.mk hy158; clear hy158; replace H := Option.bind_eq_some_iff.mp H; obtain ⟨t161, A50, H⟩ := H; replace H : (if t161 = true then ((train_Train.f k (([(⟨#[97, 98]⟩ : ByteArray)] : List ByteArray)) 0).bind fun t165 => (some ((t165.length : Int) == 0))) else (none)) = some r := H
  have A5 := Aside0.mk A50; clear A50; by_cases c6 : t161 = true
  ·subst c6; have H1 : ((train_Train.f k (([(⟨#[97, 98]⟩ : ByteArray)] : List ByteArray)) 0).bind fun t165 => (some ((t165.length : Int) == 0))) = some r := by rw [if_pos rfl] at H; exact H
   clear H; have H := H1; clear H1; obtain ⟨y162, hy162⟩ : ∃ y_ : List ByteArray, y_ = (([(⟨#[97, 98]⟩ : ByteArray)] : List ByteArray)) := ⟨_, rfl⟩
   replace H : ((train_Train.f k y162 0).bind fun t165 => (some ((t165.length : Int) == 0))) = some r := by first | (rw [hy162]; with_reducible exact H) | (have H2_ := (Option.bind_some _ _).symm.trans H; rw [hy162]; with_reducible exact H2_) | (have H2_ := (Option.bind_some _ _).symm.trans H; with_reducible exact H2_) | with_reducible exact H | (rw [hy162]; exact H) | exact H
   have Ny162 := Aside0.mk hy162; clear hy162; replace H := Option.bind_eq_some_iff.mp H; obtain ⟨t165, A70, H⟩ := H; replace H : (some ((t165.length : Int) == 0)) = some r := H
   have A7 := Aside0.mk A70; clear A70; obtain rfl := Option.some.inj H
   go_enter Try.func9, Try.ntmps9
   go_wp2_with (first | ((with_reducible refine gate_dst (N := 1) rfl ?_); (try (refine gate_guard (by rfl) ?_; dsimp only)); refine Kd.R_lit Kd.string _ 9 ?hg (N := 1) ?hd (xs := ([(⟨#[97, 98, 97, 98]⟩ : ByteArray)] : List ByteArray)) (inner := [.string (⟨#[97, 98, 97, 98]⟩ : ByteArray)]) (ok := fun _ => True) (okp := fun _ => True) ?hr ?hp (fun _ hk => hk) trivial (Below.refl _ _) (Nat.le_refl _) (by simp) ?_; (case hd => rfl); (case hg => rfl); (case hr => first | (go_simp; done) | (go_simp; rfl) | (go_simp; simp (disch := omega) only [Go.u8_and63, Go.u8_and31, Go.u8_and15, Go.u8_and7, Go.u8_or128, Go.u8_or192, Go.u8_or224, Go.u8_or240, m64]; done)); (case hp => exact (Reps.one (show Kd.M Kd.string _ _ _ (⟨#[97, 98, 97, 98]⟩ : ByteArray) [.string (⟨#[97, 98, 97, 98]⟩ : ByteArray)] from rfl) (Reps.none _ _))); intro v140 w8 ho9 hb hg_ hnew_; clear hg_ hnew_; (first | rw [← Ny139.out] at ho9 | (simp only [Int.reduceToNat] at ho9; rw [← Ny139.out] at ho9)); have n0_ := Aside0.mk (Kd.R_lower ho9 (below_size (mvB HB.out))); have n1_ := Aside0.mk (below_step (mvB HB.out) hb); clear HB; have HO141 := n0_; have HB := n1_; clear n0_ n1_; clear hb ho9; obtain ⟨Ao10, co10, eo10⟩ := Kd.R_slice HO141.out; subst eo10) | ((with_reducible refine gate_callee (f := 16) rfl ?_); refine goesL_ (some 2) rfl rfl Try.func16 (by kernel_rfl) rfl #[.slice none 0 0, .slice Ao10 y139.length co10] rfl (by (try simp only [List.map_toArray, List.map_cons, List.map_nil]); first | done | rfl | (simp only [List.length_drop, List.length_take]; rfl)) ?_; (refine (train_Round.calls k _ _ ([] : List ByteArray) _ _ y139 t142 _ ?side1 ?side2 ?side3 ?side4 A1.out).mono ?_); (case side1 => exact Kd.C_nil _ _); (case side2 => exact Nat.le_refl _); (case side3 => repeat (first | exact (Kd.R_reads' HO141.out).2.2 | (with_reducible refine Kd.C_alloc ?_ _) | (with_reducible refine Kd.C_drewN ?_ _) | (with_reducible refine Kd.C_drew ?_))); (case side4 => exact (Kd.R_reads' HO141.out).2.1); rintro e w11 ⟨v143, rfl, ho0, hb⟩; refine ⟨_, rfl, ?_⟩; have n0_ := Aside0.mk (Kd.R_elder' (mvR HO141.out) (Kd.R_base ho0) hb); have n1_ := Aside0.mk (Kd.R_lower (Kd.R_new' ho0 (Kd.R_lt (mvR HO141.out))) (below_size (mvB HB.out))); have n2_ := Aside0.mk (below_step (mvB HB.out) hb); clear HO141; clear HB; have HO141 := n0_; have HO144 := n1_; have HB := n2_; clear n0_ n1_ n2_; (try clear hb); (try clear hb2); (try clear hk); (try clear hi); (try clear ho0)) | ((with_reducible refine gate_dst (N := 3) rfl ?_); (try (refine gate_guard (by rfl) ?_; dsimp only)); refine Kd.R_lit Kd.string _ 9 ?hg (N := 3) ?hd (xs := ([(⟨#[97]⟩ : ByteArray), (⟨#[97, 98]⟩ : ByteArray), (⟨#[98]⟩ : ByteArray), (⟨#[98, 97]⟩ : ByteArray)] : List ByteArray)) (inner := [.string (⟨#[97]⟩ : ByteArray), .string (⟨#[97, 98]⟩ : ByteArray), .string (⟨#[98]⟩ : ByteArray), .string (⟨#[98, 97]⟩ : ByteArray)]) (ok := fun _ => True) (okp := fun _ => True) ?hr ?hp (fun _ hk => hk) trivial (Below.refl _ _) (Nat.le_refl _) (by simp) ?_; (case hd => rfl); (case hg => rfl); (case hr => first | (go_simp; done) | (go_simp; rfl) | (go_simp; simp (disch := omega) only [Go.u8_and63, Go.u8_and31, Go.u8_and15, Go.u8_and7, Go.u8_or128, Go.u8_or192, Go.u8_or224, Go.u8_or240, m64]; done)); (case hp => exact (Reps.one (show Kd.M Kd.string _ _ _ (⟨#[97]⟩ : ByteArray) [.string (⟨#[97]⟩ : ByteArray)] from rfl) (Reps.one (show Kd.M Kd.string _ _ _ (⟨#[97, 98]⟩ : ByteArray) [.string (⟨#[97, 98]⟩ : ByteArray)] from rfl) (Reps.one (show Kd.M Kd.string _ _ _ (⟨#[98]⟩ : ByteArray) [.string (⟨#[98]⟩ : ByteArray)] from rfl) (Reps.one (show Kd.M Kd.string _ _ _ (⟨#[98, 97]⟩ : ByteArray) [.string (⟨#[98, 97]⟩ : ByteArray)] from rfl) (Reps.none _ _)))))); intro v146 w12 ho13 hb hg_ hnew_; clear hg_ hnew_; (first | rw [← Ny145.out] at ho13 | (simp only [Int.reduceToNat] at ho13; rw [← Ny145.out] at ho13)); have n0_ := Aside0.mk (Kd.R_elder' (mvR HO141.out) (Kd.R_base ho13) hb); have n1_ := Aside0.mk (Kd.R_elder' (mvR HO144.out) (Kd.R_base ho13) hb); have n2_ := Aside0.mk (Kd.R_lower (Kd.R_new' (Kd.R_new' ho13 (Kd.R_lt (mvR HO141.out))) (Kd.R_lt (mvR HO144.out))) (below_size (mvB HB.out))); have n3_ := Aside0.mk (below_step (mvB HB.out) hb); clear HO141; clear HO144; clear HB; have HO141 := n0_; have HO144 := n1_; have HO147 := n2_; have HB := n3_; clear n0_ n1_ n2_ n3_; clear hb ho13; obtain ⟨Ao14, co14, eo14⟩ := Kd.R_slice HO144.out; subst eo14; obtain ⟨Ao15, co15, eo15⟩ := Kd.R_slice HO147.out; subst eo15) | ((with_reducible refine gate_callee (f := 11) rfl ?_); refine goesL_ (some 4) rfl rfl Try.func11 (by kernel_rfl) rfl #[.slice Ao14 t142.length co14, .slice Ao15 y145.length co15] rfl (by (try simp only [List.map_toArray, List.map_cons, List.map_nil]); first | done | rfl | (simp only [List.length_drop, List.length_take]; rfl)) ?_; (with_reducible refine (hopperref07_Same.calls k _ _ t142 _ _ y145 true _ ?side1 ?side2 ?side3 ?side4 A2.out).mono ?_); (case side1 => repeat (first | exact (Kd.R_reads' HO144.out).2.2 | (with_reducible refine Kd.C_alloc ?_ _) | (with_reducible refine Kd.C_drewN ?_ _) | (with_reducible refine Kd.C_drew ?_))); (case side2 => exact (Kd.R_reads' HO144.out).2.1); (case side3 => repeat (first | exact (Kd.R_reads' HO147.out).2.2 | (with_reducible refine Kd.C_alloc ?_ _) | (with_reducible refine Kd.C_drewN ?_ _) | (with_reducible refine Kd.C_drew ?_))); (case side4 => exact (Kd.R_reads' HO147.out).2.1); rintro e w' ⟨rfl, ⟨nd, rfl⟩⟩; refine ⟨_, rfl, ?_⟩) | ((with_reducible refine gate_dst (N := 6) rfl ?_); (try (refine gate_guard (by rfl) ?_; dsimp only)); refine Kd.R_lit Kd.string _ 9 ?hg (N := 6) ?hd (xs := ([(⟨#[120]⟩ : ByteArray), (⟨#[121]⟩ : ByteArray)] : List ByteArray)) (inner := [.string (⟨#[120]⟩ : ByteArray), .string (⟨#[121]⟩ : ByteArray)]) (ok := fun _ => True) (okp := fun _ => True) ?hr ?hp (fun _ hk => hk) trivial (Below.refl _ _) (Nat.le_refl _) (by simp) ?_; (case hd => rfl); (case hg => rfl); (case hr => first | (go_simp; done) | (go_simp; rfl) | (go_simp; simp (disch := omega) only [Go.u8_and63, Go.u8_and31, Go.u8_and15, Go.u8_and7, Go.u8_or128, Go.u8_or192, Go.u8_or224, Go.u8_or240, m64]; done)); (case hp => exact (Reps.one (show Kd.M Kd.string _ _ _ (⟨#[120]⟩ : ByteArray) [.string (⟨#[120]⟩ : ByteArray)] from rfl) (Reps.one (show Kd.M Kd.string _ _ _ (⟨#[121]⟩ : ByteArray) [.string (⟨#[121]⟩ : ByteArray)] from rfl) (Reps.none _ _)))); intro v150 w16 ho17 hb hg_ hnew_; clear hg_ hnew_; (first | rw [← Ny149.out] at ho17 | (simp only [Int.reduceToNat] at ho17; rw [← Ny149.out] at ho17)); have n0_ := Aside0.mk (Kd.R_elder' (mvR HO141.out) (Kd.R_base ho17) hb); have n1_ := Aside0.mk (Kd.R_elder' (mvR HO144.out) (Kd.R_base ho17) hb); have n2_ := Aside0.mk (Kd.R_elder' (mvR HO147.out) (Kd.R_base ho17) hb); have n3_ := Aside0.mk (Kd.R_lower (Kd.R_new' (Kd.R_new' (Kd.R_new' ho17 (Kd.R_lt (mvR HO141.out))) (Kd.R_lt (mvR HO144.out))) (Kd.R_lt (mvR HO147.out))) (below_size (mvB HB.out))); have n4_ := Aside0.mk (below_step (mvB HB.out) hb); clear HO141; clear HO144; clear HO147; clear HB; have HO141 := n0_; have HO144 := n1_; have HO147 := n2_; have HO151 := n3_; have HB := n4_; clear n0_ n1_ n2_ n3_ n4_; clear hb ho17) | ((with_reducible refine gate_dst (N := 7) rfl ?_); (try (refine gate_guard (by rfl) ?_; dsimp only)); refine Kd.R_lit (Kd.int .i64) _ 3 ?hg (N := 7) ?hd (xs := ([3, (-2)] : List Int)) (inner := [.int .i64 3, .int .i64 (-2)]) (ok := fun _ => True) (okp := fun _ => True) ?hr ?hp (fun _ hk => hk) trivial (Below.refl _ _) (Nat.le_refl _) (by simp) ?_; (case hd => rfl); (case hg => rfl); (case hr => first | (go_simp; done) | (go_simp; rfl) | (go_simp; simp (disch := omega) only [Go.u8_and63, Go.u8_and31, Go.u8_and15, Go.u8_and7, Go.u8_or128, Go.u8_or192, Go.u8_or224, Go.u8_or240, m64]; done)); (case hp => exact (Reps.one (show Kd.M (Kd.int .i64) _ _ _ 3 [.int .i64 3] from rfl) (Reps.one (show Kd.M (Kd.int .i64) _ _ _ (-2) [.int .i64 (-2)] from rfl) (Reps.none _ _)))); intro v153 w18 ho19 hb hg_ hnew_; clear hg_ hnew_; (first | rw [← Ny152.out] at ho19 | (simp only [Int.reduceToNat] at ho19; rw [← Ny152.out] at ho19)); have n0_ := Aside0.mk (Kd.R_below (mvR HO141.out) hb); have n1_ := Aside0.mk (Kd.R_below (mvR HO144.out) hb); have n2_ := Aside0.mk (Kd.R_below (mvR HO147.out) hb); have n3_ := Aside0.mk (Kd.R_below (mvR HO151.out) hb); have n4_ := Aside0.mk (Kd.R_lower ho19 (below_size (mvB HB.out))); have n5_ := Aside0.mk (below_step (mvB HB.out) hb); clear HO141; clear HO144; clear HO147; clear HO151; clear HB; have HO141 := n0_; have HO144 := n1_; have HO147 := n2_; have HO151 := n3_; have HO154 := n4_; have HB := n5_; clear n0_ n1_ n2_ n3_ n4_ n5_; clear hb ho19; obtain ⟨Ao20, co20, eo20⟩ := Kd.R_slice HO151.out; subst eo20; obtain ⟨Ao21, co21, eo21⟩ := Kd.R_slice HO154.out; subst eo21) | (go_at_call 12; (with_reducible refine (train_Sample.calls k _ _ y149 _ _ y152 t155 _ ?side1 ?side2 ?side3 ?side4 A4.out).mono ?_); (case side1 => repeat (first | exact (Kd.R_reads' HO151.out).2.2 | (with_reducible refine Kd.C_alloc ?_ _) | (with_reducible refine Kd.C_drewN ?_ _) | (with_reducible refine Kd.C_drew ?_))); (case side2 => exact (Kd.R_reads' HO151.out).2.1); (case side3 => repeat (first | exact (Kd.R_reads' HO154.out).2.2 | (with_reducible refine Kd.C_alloc ?_ _) | (with_reducible refine Kd.C_drewN ?_ _) | (with_reducible refine Kd.C_drew ?_))); (case side4 => exact (Kd.R_reads' HO154.out).2.1); rintro e w22 ⟨v156, rfl, ho0, hb⟩; have n0_ := Aside0.mk (Kd.R_elder' (mvR HO141.out) (Kd.R_base ho0) hb); have n1_ := Aside0.mk (Kd.R_elder' (mvR HO144.out) (Kd.R_base ho0) hb); have n2_ := Aside0.mk (Kd.R_elder' (mvR HO147.out) (Kd.R_base ho0) hb); have n3_ := Aside0.mk (Kd.R_elder' (mvR HO151.out) (Kd.R_base ho0) hb); have n4_ := Aside0.mk (Kd.R_below (mvR HO154.out) hb); have n5_ := Aside0.mk (Kd.R_lower (Kd.R_new' (Kd.R_new' (Kd.R_new' (Kd.R_new' ho0 (Kd.R_lt (mvR HO141.out))) (Kd.R_lt (mvR HO144.out))) (Kd.R_lt (mvR HO147.out))) (Kd.R_lt (mvR HO151.out))) (below_size (mvB HB.out))); have n6_ := Aside0.mk (below_step (mvB HB.out) hb); clear HO141; clear HO144; clear HO147; clear HO151; clear HO154; clear HB; have HO141 := n0_; have HO144 := n1_; have HO147 := n2_; have HO151 := n3_; have HO154 := n4_; have HO157 := n5_; have HB := n6_; clear n0_ n1_ n2_ n3_ n4_ n5_ n6_; (try clear hb); (try clear hb2); (try clear hk); (try clear hi); (try clear ho0)) | ((with_reducible refine gate_dst (N := 9) rfl ?_); (try (refine gate_guard (by rfl) ?_; dsimp only)); refine Kd.R_lit Kd.string _ 9 ?hg (N := 9) ?hd (xs := ([(⟨#[121]⟩ : ByteArray), (⟨#[120]⟩ : ByteArray)] : List ByteArray)) (inner := [.string (⟨#[121]⟩ : ByteArray), .string (⟨#[120]⟩ : ByteArray)]) (ok := fun _ => True) (okp := fun _ => True) ?hr ?hp (fun _ hk => hk) trivial (Below.refl _ _) (Nat.le_refl _) (by simp) ?_; (case hd => rfl); (case hg => rfl); (case hr => first | (go_simp; done) | (go_simp; rfl) | (go_simp; simp (disch := omega) only [Go.u8_and63, Go.u8_and31, Go.u8_and15, Go.u8_and7, Go.u8_or128, Go.u8_or192, Go.u8_or224, Go.u8_or240, m64]; done)); (case hp => exact (Reps.one (show Kd.M Kd.string _ _ _ (⟨#[121]⟩ : ByteArray) [.string (⟨#[121]⟩ : ByteArray)] from rfl) (Reps.one (show Kd.M Kd.string _ _ _ (⟨#[120]⟩ : ByteArray) [.string (⟨#[120]⟩ : ByteArray)] from rfl) (Reps.none _ _)))); intro v159 w23 ho24 hb hg_ hnew_; clear hg_ hnew_; (first | rw [← Ny158.out] at ho24 | (simp only [Int.reduceToNat] at ho24; rw [← Ny158.out] at ho24)); have n0_ := Aside0.mk (Kd.R_elder' (mvR HO141.out) (Kd.R_base ho24) hb); have n1_ := Aside0.mk (Kd.R_elder' (mvR HO144.out) (Kd.R_base ho24) hb); have n2_ := Aside0.mk (Kd.R_elder' (mvR HO147.out) (Kd.R_base ho24) hb); have n3_ := Aside0.mk (Kd.R_elder' (mvR HO151.out) (Kd.R_base ho24) hb); have n4_ := Aside0.mk (Kd.R_below (mvR HO154.out) hb); have n5_ := Aside0.mk (Kd.R_elder' (mvR HO157.out) (Kd.R_base ho24) hb); have n6_ := Aside0.mk (Kd.R_lower (Kd.R_new' (Kd.R_new' (Kd.R_new' (Kd.R_new' (Kd.R_new' ho24 (Kd.R_lt (mvR HO141.out))) (Kd.R_lt (mvR HO144.out))) (Kd.R_lt (mvR HO147.out))) (Kd.R_lt (mvR HO151.out))) (Kd.R_lt (mvR HO157.out))) (below_size (mvB HB.out))); have n7_ := Aside0.mk (below_step (mvB HB.out) hb); clear HO141; clear HO144; clear HO147; clear HO151; clear HO154; clear HO157; clear HB; have HO141 := n0_; have HO144 := n1_; have HO147 := n2_; have HO151 := n3_; have HO154 := n4_; have HO157 := n5_; have HO160 := n6_; have HB := n7_; clear n0_ n1_ n2_ n3_ n4_ n5_ n6_ n7_; clear hb ho24; obtain ⟨Ao25, co25, eo25⟩ := Kd.R_slice HO157.out; subst eo25; obtain ⟨Ao26, co26, eo26⟩ := Kd.R_slice HO160.out; subst eo26) | (go_at_call 11; (with_reducible refine (hopperref07_Same.calls k _ _ t155 _ _ y158 true _ ?side1 ?side2 ?side3 ?side4 A5.out).mono ?_); (case side1 => repeat (first | exact (Kd.R_reads' HO157.out).2.2 | (with_reducible refine Kd.C_alloc ?_ _) | (with_reducible refine Kd.C_drewN ?_ _) | (with_reducible refine Kd.C_drew ?_))); (case side2 => exact (Kd.R_reads' HO157.out).2.1); (case side3 => repeat (first | exact (Kd.R_reads' HO160.out).2.2 | (with_reducible refine Kd.C_alloc ?_ _) | (with_reducible refine Kd.C_drewN ?_ _) | (with_reducible refine Kd.C_drew ?_))); (case side4 => exact (Kd.R_reads' HO160.out).2.1); rintro e w' ⟨rfl, ⟨nd, rfl⟩⟩) | ((with_reducible refine gate_dst (N := 13) rfl ?_); (try (refine gate_guard (by rfl) ?_; dsimp only)); refine Kd.R_lit Kd.string _ 9 ?hg (N := 13) ?hd (xs := ([(⟨#[97, 98]⟩ : ByteArray)] : List ByteArray)) (inner := [.string (⟨#[97, 98]⟩ : ByteArray)]) (ok := fun _ => True) (okp := fun _ => True) ?hr ?hp (fun _ hk => hk) trivial (Below.refl _ _) (Nat.le_refl _) (by simp) ?_; (case hd => rfl); (case hg => rfl); (case hr => first | (go_simp; done) | (go_simp; rfl) | (go_simp; simp (disch := omega) only [Go.u8_and63, Go.u8_and31, Go.u8_and15, Go.u8_and7, Go.u8_or128, Go.u8_or192, Go.u8_or224, Go.u8_or240, m64]; done)); (case hp => exact (Reps.one (show Kd.M Kd.string _ _ _ (⟨#[97, 98]⟩ : ByteArray) [.string (⟨#[97, 98]⟩ : ByteArray)] from rfl) (Reps.none _ _))); intro v163 w27 ho28 hb hg_ hnew_; clear hg_ hnew_; (first | rw [← Ny162.out] at ho28 | (simp only [Int.reduceToNat] at ho28; rw [← Ny162.out] at ho28)); have n0_ := Aside0.mk (Kd.R_elder' (mvR HO141.out) (Kd.R_base ho28) hb); have n1_ := Aside0.mk (Kd.R_elder' (mvR HO144.out) (Kd.R_base ho28) hb); have n2_ := Aside0.mk (Kd.R_elder' (mvR HO147.out) (Kd.R_base ho28) hb); have n3_ := Aside0.mk (Kd.R_elder' (mvR HO151.out) (Kd.R_base ho28) hb); have n4_ := Aside0.mk (Kd.R_below (mvR HO154.out) hb); have n5_ := Aside0.mk (Kd.R_elder' (mvR HO157.out) (Kd.R_base ho28) hb); have n6_ := Aside0.mk (Kd.R_elder' (mvR HO160.out) (Kd.R_base ho28) hb); have n7_ := Aside0.mk (Kd.R_lower (Kd.R_new' (Kd.R_new' (Kd.R_new' (Kd.R_new' (Kd.R_new' (Kd.R_new' ho28 (Kd.R_lt (mvR HO141.out))) (Kd.R_lt (mvR HO144.out))) (Kd.R_lt (mvR HO147.out))) (Kd.R_lt (mvR HO151.out))) (Kd.R_lt (mvR HO157.out))) (Kd.R_lt (mvR HO160.out))) (below_size (mvB HB.out))); have n8_ := Aside0.mk (below_step (mvB HB.out) hb); clear HO141; clear HO144; clear HO147; clear HO151; clear HO154; clear HO157; clear HO160; clear HB; have HO141 := n0_; have HO144 := n1_; have HO147 := n2_; have HO151 := n3_; have HO154 := n4_; have HO157 := n5_; have HO160 := n6_; have HO164 := n7_; have HB := n8_; clear n0_ n1_ n2_ n3_ n4_ n5_ n6_ n7_ n8_; clear hb ho28; obtain ⟨Ao29, co29, eo29⟩ := Kd.R_slice HO164.out; subst eo29) | (go_at_call 18; (with_reducible refine (train_Train.calls k _ _ y162 0 t165 _ ?side1 ?side2 A7.out).mono ?_); (case side1 => repeat (first | exact (Kd.R_reads' HO164.out).2.2 | (with_reducible refine Kd.C_alloc ?_ _) | (with_reducible refine Kd.C_drewN ?_ _) | (with_reducible refine Kd.C_drew ?_))); (case side2 => exact (Kd.R_reads' HO164.out).2.1); rintro e w30 ⟨v166, rfl, ho0, hb⟩; have n0_ := Aside0.mk (Kd.R_elder' (mvR HO141.out) (Kd.R_base ho0) hb); have n1_ := Aside0.mk (Kd.R_elder' (mvR HO144.out) (Kd.R_base ho0) hb); have n2_ := Aside0.mk (Kd.R_elder' (mvR HO147.out) (Kd.R_base ho0) hb); have n3_ := Aside0.mk (Kd.R_elder' (mvR HO151.out) (Kd.R_base ho0) hb); have n4_ := Aside0.mk (Kd.R_below (mvR HO154.out) hb); have n5_ := Aside0.mk (Kd.R_elder' (mvR HO157.out) (Kd.R_base ho0) hb); have n6_ := Aside0.mk (Kd.R_elder' (mvR HO160.out) (Kd.R_base ho0) hb); have n7_ := Aside0.mk (Kd.R_elder' (mvR HO164.out) (Kd.R_base ho0) hb); have n8_ := Aside0.mk (Kd.R_lower (Kd.R_new' (Kd.R_new' (Kd.R_new' (Kd.R_new' (Kd.R_new' (Kd.R_new' (Kd.R_new' ho0 (Kd.R_lt (mvR HO141.out))) (Kd.R_lt (mvR HO144.out))) (Kd.R_lt (mvR HO147.out))) (Kd.R_lt (mvR HO151.out))) (Kd.R_lt (mvR HO157.out))) (Kd.R_lt (mvR HO160.out))) (Kd.R_lt (mvR HO164.out))) (below_size (mvB HB.out))); have n9_ := Aside0.mk (below_step (mvB HB.out) hb); clear HO141; clear HO144; clear HO147; clear HO151; clear HO154; clear HO157; clear HO160; clear HO164; clear HB; have HO141 := n0_; have HO144 := n1_; have HO147 := n2_; have HO151 := n3_; have HO154 := n4_; have HO157 := n5_; have HO160 := n6_; have HO164 := n7_; have HO167 := n8_; have HB := n9_; clear n0_ n1_ n2_ n3_ n4_ n5_ n6_ n7_ n8_ n9_; (try clear hb); (try clear hb2); (try clear hk); (try clear hi); (try clear ho0); obtain ⟨Ao31, co31, eo31⟩ := Kd.R_slice HO167.out; subst eo31))
   go_ret
   exact exB (mvB HB.out)
  ·replace c6 := Bool.eq_false_iff.mpr c6; subst c6; have H1 : (none) = some r := by rw [if_neg (show ¬ (false = true) by decide)] at H; exact H
   clear H; have H := H1; clear H1; cases H
 ·replace c3 := Bool.eq_false_iff.mpr c3; subst c3; have H1 : (none) = some r := by rw [if_neg (show ¬ (false = true) by decide)] at H; exact H
  clear H; have H := H1; clear H1; cases H
end Go.Proofs.Ytjodnhlfodmpeaa.Q
