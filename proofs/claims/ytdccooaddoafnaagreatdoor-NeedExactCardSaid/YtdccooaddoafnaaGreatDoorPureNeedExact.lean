/- A Has that asks for three bytes which no row has, with exact filters, skips all; so does what has it in an And. Of the package-level variables that it reaches: utf8's two tables are laid, bytealg.MaxLen holds a number. -/
import Derived.Test.YtdccooaddoafnaaGreatDoorHNeedAwake
import Derived.Test.YtdccooaddoafnaaGreatDoorHNeedRt1
import Derived.Test.YtdccooaddoafnaaGreatDoorHPredSmall
import Derived.Test.YtdccooaddoafnaaGreatDoorHNeedSays2
import Derived.Test.YtdccooaddoafnaaGreatDoorHNeedSkip1
set_option linter.unusedVariables false
set_option linter.unusedSimpArgs false
namespace Go.Proofs.YtdccooaddoafnaaGreatDoor.Pure
open Go.RowKit Go.Proofs.YtdccooaddoafnaaGreatDoor.Q Go.Proofs.YtdccooaddoafnaaGreatDoorW.PrintWords Go.Proofs.YtdccooaddoafnaaGreatDoorW.PrintLast Go.Proofs.YtdccooaddoafnaaGreatDoorW.PrintMore
open Go.Lib (index occAt)
theorem take3 (l : List UInt8) (i : Nat) (h : i + 3 ≤ l.length) : (l.drop i).take 3 = [l[i], l[i + 1], l[i + 2]] := by
  rw [List.drop_eq_getElem_cons (by omega), List.drop_eq_getElem_cons (by omega), List.drop_eq_getElem_cons (by omega)]
  rfl
theorem gr_eq_iff (x y : ByteArray) (i j : Nat) (hi : i + 3 ≤ x.size) (hj : j + 3 ≤ y.size) : gr x i = gr y j ↔ (x.data.toList.drop i).take 3 = (y.data.toList.drop j).take 3 := by
  have hx := dsz x
  have hy := dsz y
  rw [take3 _ i (by omega), take3 _ j (by omega)]
  unfold gr
  rw [btn x i (by omega), btn x (i + 1) (by omega), btn x (i + 2) (by omega), btn y j (by omega), btn y (j + 1) (by omega), btn y (j + 2) (by omega)]
  generalize x.data.toList[i] = a
  generalize x.data.toList[i + 1] = b
  generalize x.data.toList[i + 2] = c
  generalize y.data.toList[j] = a'
  generalize y.data.toList[j + 1] = b'
  generalize y.data.toList[j + 2] = c'
  have := a.toNat_lt; have := b.toNat_lt; have := c.toNat_lt; have := a'.toNat_lt; have := b'.toNat_lt; have := c'.toNat_lt
  constructor
  · intro h
    have e1 : a = a' := UInt8.toNat.inj (by omega)
    have e2 : b = b' := UInt8.toNat.inj (by omega)
    have e3 : c = c' := UInt8.toNat.inj (by omega)
    rw [e1, e2, e3]
  · intro h
    injection h with e1 h
    injection h with e2 h
    injection h with e3 h
    rw [e1, e2, e3]
/-- Three bytes of a string stand in another one just if their gram does. -/
theorem tri_part (s v : ByteArray) (i : Nat) (hi : i + 3 ≤ s.size) : (index v.data.toList (s.extract i (i + 3)).data.toList ≥ 0) ↔ gr s i ∈ rawG v := by
  have hs := dsz s
  have hv := dsz v
  have ex : (s.extract i (i + 3)).data.toList = (s.data.toList.drop i).take 3 := by
    rw [Lib.extract_data, show i + 3 - i = 3 from by omega]
  rw [index_ex, mem_rawG, ex]
  have hl : ((s.data.toList.drop i).take 3).length = 3 := by rw [take3 _ i (by omega)]; rfl
  constructor
  · rintro ⟨j, hj, hp⟩
    have h1 := hp.length_le
    rw [hl, List.length_drop] at h1
    refine ⟨j, by omega, (gr_eq_iff s v i j hi (by omega)).2 ?_⟩
    have := List.prefix_iff_eq_take.1 hp
    rw [hl] at this
    exact this
  · rintro ⟨j, hj, e⟩
    refine ⟨j, by omega, ?_⟩
    rw [(gr_eq_iff s v i j hi hj).1 e]
    exact List.take_prefix _ _
/-- Has a row three bytes in its first column? -/
noncomputable def hit (g : ByteArray) (row : List S38) : Bool := !(rd_T38 row 0).f0 && decide (index (rd_T38 row 0).f1.data.toList g.data.toList ≥ 0)
theorem hit_ev (g : ByteArray) (hg : g.size ≤ 4096) (row : List S38) (h0 : 0 < row.length) (hs : ∀ v, v ∈ row → v.f1.size ≤ 100) : ∃ x, Ev (fun k => hopperref16_Says.f k 9 0 g 0 0 [] row) x ∧ (x == 1) = hit g row := by
  have hv : rd_T38 row 0 = row[0] := rdV row 0 h0
  have hsz := hs _ (List.getElem_mem h0)
  unfold hit
  rw [hv]
  have step : ∀ x, Ev (fun k => refLeaf k (⟨9, 0, g, 0, 0, []⟩ : S24) row[0]) x → Ev (fun k => hopperref16_Says.f k 9 0 g 0 0 [] row) x := fun x h => by
    refine Ev.step (fun k => by rw [hopperref16_Says.f, refSaysP]) (Ev.neg (show ¬ ((12 : Int) ≤ 9 ∧ (9 : Int) ≤ 14) by decide) (Ev.pos (show (0 : Int) ≤ 0 by decide) (Ev.pos (show (0 : Int) < (row.length : Int) by omega) ?_)))
    show Ev (fun k => refLeaf k (⟨9, 0, g, 0, 0, []⟩ : S24) (rd_T38 row 0)) x
    rw [hv]; exact h
  generalize row[0] = v at step hsz
  obtain ⟨vn, vs⟩ := v
  cases vn with
  | true => exact ⟨2, step 2 (by unfold refLeaf; exact Ev.neg (show ¬ (9 : Int) = 11 by decide) (Ev.pos rfl (Ev.pos (show (9 : Int) < 12 by decide) (Ev.val rfl)))), by simp⟩
  | false =>
    refine ⟨bitS (decide (index vs.data.toList g.data.toList ≥ 0)), step _ ?_, ?_⟩
    · unfold refLeaf
      exact Ev.neg (show ¬ (9 : Int) = 11 by decide) (Ev.neg (by simp) (Ev.neg (show ¬ (9 : Int) = 7 by decide) (Ev.neg (show ¬ (9 : Int) = 8 by decide) (Ev.pos rfl (Ev.mapE bitS (has_ev' vs g (by simpa using Nat.le_trans hsz (by decide)) (by omega)))))))
    · unfold bitS
      cases decide (index vs.data.toList g.data.toList ≥ 0) <;> rfl
section
variable (s : ByteArray) (rows : List (List S38)) (cols : Int) (f : List S53) (o : S24)
/-- Is a gram of the string nowhere, from a place on? -/
noncomputable def missB (i : Nat) : Bool := !(rows.any (hit (s.extract i (i + 3))))
theorem exact_l1 (hl : rows.length ≤ 100) (hr : ∀ r, r ∈ rows → 0 < r.length ∧ ∀ v, v ∈ r → v.f1.size ≤ 100) (hs : s.size ≤ 60) (mis : Bool) (i : Nat) (hi : i + 3 ≤ s.size) (R : Bool) :
    ∀ (n j : Nat) (fd : Bool), rows.length - j = n → (Ev (fun k => if mis = true then hopperlaw16_NeedExact.l0 k s rows cols f true (wrap64 ((i : Int) + 1)) o.f0 o.f1 o.f2 o.f3 o.f4 o.f5 9 0 s 0 0 else hopperlaw16_NeedExact.l0 k s rows cols f (!(fd || (rows.drop j).any (hit (s.extract i (i + 3))))) (wrap64 ((i : Int) + 1)) o.f0 o.f1 o.f2 o.f3 o.f4 o.f5 9 0 s 0 0) R) →
      Ev (fun k => hopperlaw16_NeedExact.l1 k s rows cols f mis (i : Int) fd (j : Int) o.f0 o.f1 o.f2 o.f3 o.f4 o.f5 9 0 s 0 0) R := by
  intro n
  induction n with
  | zero =>
    intro j fd hn h
    rw [List.drop_of_length_le (by omega), List.any_nil, Bool.or_false] at h
    exact Ev.step (fun k => by rw [hopperlaw16_NeedExact.l1]) (Ev.neg (by omega) h)
  | succ n ih =>
    intro j fd hn h
    have hj : j < rows.length := by omega
    rw [List.drop_eq_getElem_cons hj, List.any_cons] at h
    refine Ev.step (fun k => by rw [hopperlaw16_NeedExact.l1]) (Ev.pos (by omega) ?_)
    rw [w64s hj (by omega)]
    cases fd with
    | true => exact Ev.pos rfl (ih (j + 1) true (by omega) (by simpa using h))
    | false =>
      have e3 : wrap64 ((i : Int) + 3) = ((i + 3 : Nat) : Int) := by rw [w64 (by omega) (by omega)]; omega
      rw [e3]
      obtain ⟨h0, hv⟩ := hr _ (List.getElem_mem hj)
      obtain ⟨x, hx, ex⟩ := hit_ev (s.extract i (i + 3)) (by rw [ByteArray.size_extract]; omega) rows[j] h0 hv
      refine Ev.neg (by decide) (Ev.pos (by omega) (Ev.pos (by omega) (Ev.pos (by omega) (Ev.pos (by omega) ?_))))
      rw [rdLL rows j hj, Int.toNat_natCast, Int.toNat_natCast]
      refine Ev.bind hx ?_
      rw [ex]
      exact ih (j + 1) (hit (s.extract i (i + 3)) rows[j]) (by omega) (by simpa using h)
theorem exact_l0 (hl : rows.length ≤ 100) (hr : ∀ r, r ∈ rows → 0 < r.length ∧ ∀ v, v ∈ r → v.f1.size ≤ 100) (hs : s.size ≤ 60)
    (hfin : Ev (fun k => (need_Skip.f k 9 0 s 0 0 ([] : List (S24)) f).bind fun t418 => (if (t418 != ((List.range (s.size - 2)).any (missB s rows))) = true then (none) else ((some (([(⟨o.f0, o.f1, o.f2, o.f3, o.f4, o.f5⟩ : S24), (⟨9, 0, s, 0, 0, ([] : List (S24))⟩ : S24)] : List (S24)) : List (S24))).bind fun y419 => ((need_Right.f k 12 0 (⟨#[]⟩ : ByteArray) 0 0 y419 cols).bind fun t423 => (if t423 = true then (if ((List.range (s.size - 2)).any (missB s rows)) = true then ((need_Skip.f k 12 0 (⟨#[]⟩ : ByteArray) 0 0 y419 f).bind fun t424 => (some t424)) else (some true)) else (some true)))))) true) :
    ∀ (n i : Nat) (mis : Bool), s.size - i = n → i ≤ s.size → (mis || ((List.range (s.size - 2)).drop i).any (missB s rows)) = (List.range (s.size - 2)).any (missB s rows) →
      Ev (fun k => hopperlaw16_NeedExact.l0 k s rows cols f mis (i : Int) o.f0 o.f1 o.f2 o.f3 o.f4 o.f5 9 0 s 0 0) true := by
  intro n
  induction n with
  | zero =>
    intro i mis hn hi he
    rw [List.drop_of_length_le (by rw [List.length_range]; omega), List.any_nil, Bool.or_false] at he
    rw [← he] at hfin
    exact Ev.step (fun k => by rw [hopperlaw16_NeedExact.l0]) (Ev.neg (by rw [w64 (by omega) (by omega)]; omega) hfin)
  | succ n ih =>
    intro i mis hn hi he
    have e3 : wrap64 ((i : Int) + 3) = ((i + 3 : Nat) : Int) := by rw [w64 (by omega) (by omega)]; omega
    by_cases c : i + 3 ≤ s.size
    · have hir : i < (List.range (s.size - 2)).length := by rw [List.length_range]; omega
      rw [List.drop_eq_getElem_cons hir, List.any_cons, List.getElem_range] at he
      refine Ev.step (fun k => by rw [hopperlaw16_NeedExact.l0, e3]) (Ev.pos (by omega) ?_)
      have L := exact_l1 s rows cols f o hl hr hs mis i c true _ 0 false rfl
      have L2 : _ → Ev (fun k => hopperlaw16_NeedExact.l1 k s rows cols f mis (i : Int) false 0 o.f0 o.f1 o.f2 o.f3 o.f4 o.f5 9 0 s 0 0) true := L
      refine L2 ?_
      rw [List.drop_zero, Bool.false_or, w64s (i := i) (n := s.size) (by omega) (by omega)]
      cases mis with
      | true => exact Ev.pos rfl (ih (i + 1) true (by omega) (by omega) (by simpa using he))
      | false => exact Ev.neg (by decide) (ih (i + 1) _ (by omega) (by omega) (by simpa [missB] using he))
    · rw [List.drop_of_length_le (by rw [List.length_range]; omega), List.any_nil, Bool.or_false] at he
      rw [← he] at hfin
      exact Ev.step (fun k => by rw [hopperlaw16_NeedExact.l0, e3]) (Ev.neg (by omega) hfin)
end
theorem NeedExact : hopperlaw16_NeedExact.Pure := by
  intro s rows cols a0 a1 a2 a3 a4 l5 _ _ _ _ _ _ _ _ _
  refine Ev.rounds ?_
  unfold hopperlaw16_NeedExact.f
  have bad : Ev (fun k => hopperlaw16_NeedExact.j0 k s rows cols true a0 a1 a2 a3 a4 l5) true := Ev.step (fun k => by rw [hopperlaw16_NeedExact.j0]) (Ev.pos rfl (Ev.bind awake_ev (Ev.val rfl)))
  refine Ev.bind awake_ev (Ev.pos rfl ?_)
  obtain ⟨c, hc, hS⟩ := rows_ev rows cols
  refine Ev.bind hc ?_
  cases c with
  | false => exact Ev.neg (by decide) bad
  | true =>
  refine Ev.pos rfl ?_
  by_cases c3 : (s.size : Int) < 3
  · exact Ev.pos c3 bad
  refine Ev.neg c3 ?_
  by_cases c60 : (s.size : Int) > 60
  · exact Ev.pos c60 bad
  refine Ev.neg c60 ?_
  obtain ⟨b, hb, _⟩ := small_ev24 21 ⟨a0, a1, a2, a3, a4, l5⟩ 20 (by omega) (by omega) (by omega)
  refine Ev.bind hb ?_
  cases b with
  | false => exact bad
  | true =>
  refine Ev.step (fun k => by rw [hopperlaw16_NeedExact.j0]) (Ev.neg (by decide) ?_)
  have S := hS rfl
  obtain ⟨f, f1, f2, f3⟩ := filters_ev rows cols 0 S.a1 S.a8 (by omega) (by omega) S.len (fun r hr => ⟨(S.row r hr).1, fun v hv => ((S.row r hr).2 v hv).1⟩)
  refine Ev.bind f1 ?_
  have hf0 : 0 < f.length := by have := S.a1; omega
  have hM := f3 0 hf0
  have hskip := leafSkip_ev (cols := cols) (⟨9, 0, s, 0, 0, []⟩ : S24) (show (9 : Int) ≤ 11 by decide) (show (0 : Int) ≤ 0 by decide) (show (0 : Int) < cols by have := S.a1; omega) (show s.size ≤ 4096 by omega) f f2 0 rfl hf0 hM.1
  have hneeds : needs (⟨9, 0, s, 0, 0, []⟩ : S24) = [s] := rfl
  have hr : ∀ r, r ∈ rows → 0 < r.length ∧ ∀ v, v ∈ r → v.f1.size ≤ 100 := fun r hr => ⟨by have := (S.row r hr).1; have := S.a1; omega, fun v hv => ((S.row r hr).2 v hv).1⟩
  have hcol : ∀ (i : Nat), i + 3 ≤ s.size → (hasB f[0] (gr s i) = !missB s rows i) := fun i hi => by
    unfold missB
    rw [Bool.not_not, Bool.eq_iff_iff, List.any_eq_true]
    constructor
    · intro h
      obtain ⟨t, ht, hg⟩ := hM.2.2 rfl _ h
      obtain ⟨r, hrm, e⟩ := List.mem_filterMap.1 ht
      split at e
      · cases e
      · rename_i hn
        obtain rfl := Option.some.inj e
        refine ⟨r, hrm, ?_⟩
        unfold hit
        rw [Bool.and_eq_true]
        exact ⟨by simpa using hn, decide_eq_true ((tri_part s _ i hi).2 hg)⟩
    · rintro ⟨r, hrm, h⟩
      unfold hit at h
      rw [Bool.and_eq_true] at h
      have hn : (rd_T38 r 0).f0 = false := by simpa using h.1
      refine hM.2.1 (rd_T38 r 0).f1 (List.mem_filterMap.2 ⟨r, hrm, ?_⟩) _ ((tri_part s _ i hi).1 (of_decide_eq_true h.2))
      show (if (rd_T38 r 0).f0 = true then none else some (rd_T38 r 0).f1) = _
      rw [if_neg (by rw [hn]; decide)]
  have hval : ((needs (⟨9, 0, s, 0, 0, []⟩ : S24)).any fun t => !mayB f[0] t) = (List.range (s.size - 2)).any (missB s rows) := by
    rw [hneeds, List.any_cons, List.any_nil, Bool.or_false]
    unfold mayB rawG
    rw [Bool.eq_iff_iff, List.any_eq_true, Bool.not_eq_true', List.all_eq_false]
    constructor
    · rintro ⟨g, hg, hh⟩
      obtain ⟨i, hi, rfl⟩ := List.mem_map.1 hg
      have := List.mem_range.1 hi
      refine ⟨i, hi, ?_⟩
      rw [hcol i (by omega)] at hh
      simpa using hh
    · rintro ⟨i, hi, hh⟩
      have := List.mem_range.1 hi
      refine ⟨gr s i, List.mem_map_of_mem hi, ?_⟩
      rw [hcol i (by omega), hh]
      decide
  rw [hval] at hskip
  have hskip2 : Ev (fun k => need_Skip.f k 9 0 s 0 0 ([] : List (S24)) f) ((List.range (s.size - 2)).any (missB s rows)) := hskip
  have key : Ev (fun k => hopperlaw16_NeedExact.l0 k s rows cols f false ((0 : Nat) : Int) a0 a1 a2 a3 a4 l5 9 0 s 0 0) true := by
    refine exact_l0 s rows cols f ⟨a0, a1, a2, a3, a4, l5⟩ S.len hr (by omega) ?_ _ 0 false rfl (Nat.zero_le _) (by simp)
    refine Ev.bind hskip2 (Ev.neg (by simp) (Ev.bind (Ev.now _) ?_))
    obtain ⟨rb, r1, hrt⟩ := right_ev cols (⟨12, 0, ⟨#[]⟩, 0, 0, [⟨a0, a1, a2, a3, a4, l5⟩, ⟨9, 0, s, 0, 0, []⟩]⟩ : S24) 12 (by omega) (by omega)
    refine Ev.bind (a := rb) (by unfold need_Right.f; exact Ev.bind r1 (Ev.val rfl)) ?_
    cases rb with
    | false => exact Ev.neg (by decide) (Ev.val rfl)
    | true =>
    refine Ev.pos rfl ?_
    by_cases cm : (List.range (s.size - 2)).any (missB s rows) = true
    · refine Ev.pos cm ?_
      rw [cm] at hskip
      have hq : ∀ q, q ∈ ([⟨a0, a1, a2, a3, a4, l5⟩, ⟨9, 0, s, 0, 0, []⟩] : List (S24)) → Rt cols q := by
        have h := hrt rfl
        cases h with
        | leaf _ _ h2 => exact absurd (show (12 : Int) ≤ 11 from h2) (by decide)
        | node _ _ _ _ _ _ h => exact h
      obtain ⟨b1, hb1, _⟩ := skip1_ev (hq ⟨a0, a1, a2, a3, a4, l5⟩ (by simp)) f f2 (fun x hx => by obtain ⟨j, hj, rfl⟩ := List.getElem_of_mem hx; exact (f3 j hj).1)
      refine Ev.bind (a := true) ?_ (Ev.val rfl)
      refine Ev.step (fun k => by rw [need_Skip.f, skipP]) (Ev.pos rfl ?_)
      refine Ev.congr (fun k => by rw [anyE]) (Ev.bind hb1 ?_)
      cases b1 with
      | true => exact Ev.pos rfl (Ev.val rfl)
      | false =>
        refine Ev.neg (by decide) (Ev.congr (fun k => by rw [anyE]) (Ev.bind hskip ?_))
        exact Ev.pos rfl (Ev.val rfl)
    · exact Ev.neg cm (Ev.val rfl)
  exact key
end Go.Proofs.YtdccooaddoafnaaGreatDoor.Pure
