/- Own text, for this claim: the scanner as a plain function of the text: what token and Scan answer. -/
import Derived.Test.YtkfdninngcakpaaDoorZQLexx4
import Derived.Laws.BitsLemmas
namespace Go.Proofs.YtkfdninngcakpaaDoor.Pure
open Go.RowKit Go.Proofs.YtkfdninngcakpaaDoor.PLex Go.Proofs.YtkfdninngcakpaaDoorW.PrintWords Go.Proofs.YtkfdninngcakpaaDoorW.PrintLast Go.Proofs.YtkfdninngcakpaaDoorW.PrintMore
set_option linter.unusedVariables false
set_option linter.unusedSimpArgs false
def Bs (l : List UInt8) : ByteArray := ⟨l.toArray⟩
theorem Bs_of (s : ByteArray) : s = Bs s.data.toList := by cases s; simp [Bs]
theorem ba_ext {a b : ByteArray} (h : a.data.toList = b.data.toList) : a = b := by
 rw [Bs_of a, Bs_of b, h]
def runB (c : Int) : Bool := digitB c || smallB c || bigB c || (c == 95)
def blankB (c : Int) : Bool := c == 32 || c == 9 || c == 10 || c == 13
theorem digit_is (c : Int) : lex_digit.f c = some (digitB c) := by unfold lex_digit.f digitB; by_cases h : c ≥ 48 <;> simp [h]
theorem small_is (c : Int) : lex_small.f c = some (smallB c) := by unfold lex_small.f smallB; by_cases h : c ≥ 97 <;> simp [h]
theorem big_is (c : Int) : lex_big.f c = some (bigB c) := by unfold lex_big.f bigB; by_cases h : c ≥ 65 <;> simp [h]
theorem run_is (c : Int) : lex_run.f c = some (runB c) := by
 unfold lex_run.f runB
 rw [digit_is, small_is, big_is]
 simp only [Option.bind_some]
 cases digitB c <;> cases smallB c <;> cases bigB c <;> simp
theorem ext_size (s : ByteArray) (a b : Nat) : (s.extract a b).size = min b s.size - a := ByteArray.size_extract
theorem bt_nat (s : ByteArray) (i : Nat) : bt s (i : Int) = ((s.data.toList[i]?.getD 0).toNat : Int) := by
 unfold bt
 rw [Int.toNat_natCast]
 split
 ·rename_i h
  rw [List.getElem?_eq_getElem (by rw [data_length]; exact h)]
  rfl
 ·rename_i h
  rw [List.getElem?_eq_none (by rw [data_length]; omega)]
  rfl
theorem bt_ext (s : ByteArray) (a b i : Nat) (h : a + i < b) : bt (s.extract a b) (i : Int) = bt s ((a + i : Nat) : Int) := by
 rw [bt_nat, bt_nat, ByteArray.data_extract, Array.toList_extract, List.extract_eq_take_drop, List.getElem?_take_of_lt (by omega), List.getElem?_drop]
theorem bt_ext0 (s : ByteArray) (b i : Nat) (h : i < b) : bt (s.extract 0 b) (i : Int) = bt s (i : Int) := by
 have := bt_ext s 0 b i (by omega)
 rwa [Nat.zero_add] at this
theorem ext_ext (s : ByteArray) (a b c d : Nat) : (s.extract a b).extract c d = s.extract (a + c) (min (a + d) b) := by
 apply ba_ext
 simp only [ByteArray.data_extract, Array.toList_extract, List.extract_eq_take_drop]
 rw [List.drop_take, List.take_take, List.drop_drop]
 congr 1
 omega
theorem ext_all (s : ByteArray) (b : Nat) (h : s.size ≤ b) : s.extract 0 b = s := by
 apply ba_ext
 simp only [ByteArray.data_extract, Array.toList_extract, List.extract_eq_take_drop, List.drop_zero, Nat.sub_zero]
 rw [List.take_of_length_le (by rw [data_length]; exact h)]
def spanAt (p : Int → Bool) (s : ByteArray) : Nat → Nat → Nat
 | 0, i => i
 | n + 1, i => if p (bt s (i : Int)) = true then spanAt p s n (i + 1) else i
def Span (p : Int → Bool) (s : ByteArray) (i m : Nat) : Prop := i ≤ m ∧ m ≤ s.size ∧ (∀ j : Nat, i ≤ j → j < m → p (bt s (j : Int)) = true) ∧ (m < s.size → p (bt s (m : Int)) = false)
theorem span_spec (p : Int → Bool) (s : ByteArray) : ∀ n i, i + n = s.size → Span p s i (spanAt p s n i) := by
 intro n
 induction n with
 | zero => intro i h; exact ⟨Nat.le_refl _, by simp only [spanAt]; omega, fun j h1 h2 => by simp only [spanAt] at h2; omega, fun h2 => by simp only [spanAt] at h2; omega⟩
 | succ n ih =>
  intro i h
  rw [spanAt]
  split
  ·rename_i hp
   obtain ⟨h1, h2, h3, h4⟩ := ih (i + 1) (by omega)
   refine ⟨by omega, h2, fun j hj1 hj2 => ?_, h4⟩
   by_cases e : j = i
   ·rw [e]; exact hp
   ·exact h3 j (by omega) hj2
  ·rename_i hp
   exact ⟨Nat.le_refl _, by omega, fun j h1 h2 => by omega, fun _ => Bool.eq_false_iff.mpr hp⟩
def runN (s : ByteArray) : Nat := spanAt runB s s.size 0
theorem runN_spec (s : ByteArray) : Span runB s 0 (runN s) := span_spec runB s s.size 0 (by omega)
def digN (s : ByteArray) : Nat := spanAt digitB s s.size 0
theorem digN_spec (s : ByteArray) : Span digitB s 0 (digN s) := span_spec digitB s s.size 0 (by omega)
def errR (at_ e : Int) : TokR := (0, (⟨#[]⟩ : ByteArray), 0, 0, 0, 0, 0, 0, 0, at_, e)
def numberOf (s : ByteArray) : TokR :=
 if (atoiOf (s.extract 0 (digN s)).data.toList).2 ≠ 0 then errR 0 62
 else if bt s 0 = 48 ∧ (digN s : Int) > 1 then errR 0 62
 else if (digN s : Int) = s.size then (3, s, 0, (atoiOf (s.extract 0 (digN s)).data.toList).1, 0, 0, 0, 0, 0, 0, 0)
 else if (digN s : Int) + 1 = s.size ∧ (digN s : Int) ≤ 3 ∧ bt s 0 ≠ 48 ∧ unitOf (bt s (digN s)) > 0 then (5, s, 0, 0, 0, 0, 0, (atoiOf (s.extract 0 (digN s)).data.toList).1, unitOf (bt s (digN s)), 0, 0)
 else errR 0 62
theorem number_l0 (s : ByteArray) (hs : s.size ≤ 140737488355328) (r : TokR) (h : Ev (fun k => lex_number.j1 k s (digN s : Int)) r) : ∀ n i, i + n = s.size → spanAt digitB s n i = digN s → Ev (fun k => lex_number.l0 k s (i : Int)) r := by
 intro n
 induction n with
 | zero =>
  intro i hi he
  simp only [spanAt] at he
  refine Ev.step (fun k => lex_number.l0.eq_2 ..) (Ev.neg (by omega) ?_)
  rw [he]; exact h
 | succ n ih =>
  intro i hi he
  rw [spanAt] at he
  refine Ev.step (fun k => lex_number.l0.eq_2 ..) (Ev.pos (by omega) (Ev.pos (by omega) (Ev.call (digit_is _) ?_)))
  by_cases hd : digitB (bt s (i : Int)) = true
  ·rw [if_pos hd] at he
   refine Ev.pos hd ?_
   rw [show wrap64 ((i : Int) + 1) = ((i + 1 : Nat) : Int) by rw [w64 (by omega)]; omega]
   exact ih (i + 1) (by omega) he
  ·rw [if_neg hd] at he
   refine Ev.neg hd ?_
   rw [he]; exact h
theorem number_ev (s : ByteArray) (hs : s.size ≤ 140737488355328) (h0 : 0 < s.size) : Ev (fun k => lex_number.f k s) (numberOf s) := by
 unfold lex_number.f
 refine number_l0 s hs (numberOf s) ?_ s.size 0 (by omega) rfl
 obtain ⟨-, hd, -, -⟩ := digN_spec s
 have hA : strconv_Atoi_56.f (s.extract 0 ((digN s : Nat) : Int).toNat) = some (atoiOf (s.extract 0 (digN s)).data.toList) := by
  unfold strconv_Atoi_56.f
  rw [Int.toNat_natCast, if_pos (by rw [ext_size]; omega)]
 refine Ev.step (fun k => lex_number.j1.eq_2 ..) (Ev.pos (by omega) (Ev.pos (by omega) (Ev.call hA (Ev.pos (by omega) ?_))))
 obtain ⟨a, ha⟩ : ∃ a, a = atoiOf (s.extract 0 (digN s)).data.toList := ⟨_, rfl⟩
 have key : ∀ b : Bool, (b = true → numberOf s = errR 0 62) → (b = false → a.2 = 0 ∧ ¬(bt s 0 = 48 ∧ (digN s : Int) > 1)) → Ev (fun k => lex_number.j2 k s (digN s : Int) a.1 ((bt s 0) == 48) b) (numberOf s) := by
  intro b h1 h2
  refine Ev.step (fun k => lex_number.j2.eq_2 ..) ?_
  cases b with
  | true => exact Ev.pos rfl (Ev.ret (h1 rfl).symm)
  | false =>
   obtain ⟨g1, g2⟩ := h2 rfl
   refine Ev.neg (by decide) ?_
   have hN : numberOf s = (if (digN s : Int) = s.size then (3, s, 0, a.1, 0, 0, 0, 0, 0, 0, 0)
     else if (digN s : Int) + 1 = s.size ∧ (digN s : Int) ≤ 3 ∧ bt s 0 ≠ 48 ∧ unitOf (bt s (digN s)) > 0 then (5, s, 0, 0, 0, 0, 0, a.1, unitOf (bt s (digN s)), 0, 0) else errR 0 62) := by
    unfold numberOf; rw [← ha, if_neg (fun h => h g1), if_neg g2]
   by_cases e1 : (digN s : Int) = s.size
   ·exact Ev.pos e1 (Ev.ret (hN.trans (if_pos e1)).symm)
   ·replace hN := hN.trans (if_neg e1)
    refine Ev.neg e1 ?_
    rw [show wrap64 ((digN s : Int) + 1) = (digN s : Int) + 1 from w64 (by omega)]
    by_cases e2 : (digN s : Int) + 1 = s.size
    ·refine Ev.pos e2 ?_
     by_cases e3 : (digN s : Int) ≤ 3
     ·refine Ev.pos e3 ?_
      by_cases e4 : bt s 0 = 48
      ·exact Ev.pos (beq_iff_eq.mpr e4) (Ev.ret (hN.trans (if_neg (fun h => h.2.2.1 e4))).symm)
      ·refine Ev.neg (by rw [beq_eq_false_iff_ne.mpr e4]; decide) (Ev.call rfl (Ev.pos (by omega) (Ev.pos (by omega) ?_)))
       by_cases e5 : unitOf (bt s (digN s : Int)) > 0
       ·exact Ev.pos e5 (Ev.call rfl (Ev.ret (hN.trans (if_pos ⟨e2, e3, e4, e5⟩)).symm))
       ·exact Ev.neg e5 (Ev.ret (hN.trans (if_neg (fun h => e5 h.2.2.2))).symm)
     ·exact Ev.neg e3 (Ev.ret (hN.trans (if_neg (fun h => e3 h.2.1))).symm)
    ·exact Ev.neg e2 (Ev.ret (hN.trans (if_neg (fun h => e2 h.1))).symm)
 rw [← ha]
 by_cases h2 : a.2 = 0
 ·refine Ev.pos h2 ?_
  by_cases h3 : bt s 0 = 48
  ·refine Ev.pos h3 (key _ (fun h => ?_) (fun h => ⟨h2, fun g => ?_⟩))
   ·unfold numberOf; rw [← ha, if_neg (by omega), if_pos ⟨h3, yN h⟩]
   ·exact of_decide_eq_false h g.2
  ·exact Ev.neg h3 (key _ (fun h => by cases h) (fun h => ⟨h2, fun g => h3 g.1⟩))
 ·refine Ev.neg h2 (key _ (fun h => ?_) (fun h => ?_))
  ·unfold numberOf; rw [← ha, if_pos h2]
  ·rw [bne_iff_ne.mpr h2] at h; cases h
def okD (s : ByteArray) (i : Nat) : Bool := if i = 4 ∨ i = 7 then bt s (i : Int) == 45 else digitB (bt s (i : Int))
def formF (s : ByteArray) : Nat → Nat → Bool
 | 0, _ => true
 | d + 1, i => okD s i && formF s d (i + 1)
def datedB (s : ByteArray) : Bool := decide (10 ≤ s.size) && (decide (s.size = 10) || !runB (bt s 10)) && formF s 10 0
theorem dated_l0 (s : ByteArray) (h : 10 ≤ s.size) : ∀ d i : Nat, i + d = 10 → Ev (fun k => lex_dated.l0 k s (i : Int)) (formF s d i) := by
 intro d
 induction d with
 | zero => intro i hi; exact Ev.step (fun k => lex_dated.l0.eq_2 ..) (Ev.neg (by omega) (Ev.ret rfl))
 | succ d ih =>
  intro i hi
  have nxt := ih (i + 1) (by omega)
  have hw : wrap64 ((i : Int) + 1) = ((i + 1 : Nat) : Int) := by rw [w64 (by omega)]; omega
  rw [formF, okD]
  refine Ev.step (fun k => lex_dated.l0.eq_2 ..) (Ev.pos (by omega) ?_)
  have dash : i = 4 ∨ i = 7 → Ev (fun k => lex_dated.j2 k s (i : Int) (i : Int) true) ((if i = 4 ∨ i = 7 then bt s (i : Int) == 45 else digitB (bt s (i : Int))) && formF s d (i + 1)) := by
   intro h47
   rw [if_pos h47]
   refine Ev.step (fun k => lex_dated.j2.eq_2 ..) (Ev.pos rfl (Ev.pos (by omega) (Ev.pos (by omega) ?_)))
   by_cases e : bt s (i : Int) = 45
   ·rw [beq_iff_eq.mpr e, Bool.true_and]
    refine Ev.pos e ?_
    rw [hw]; exact nxt
   ·rw [beq_eq_false_iff_ne.mpr e, Bool.false_and]
    exact Ev.neg e (Ev.ret rfl)
  by_cases h4 : i = 4
  ·exact Ev.pos (by omega) (dash (.inl h4))
  ·refine Ev.neg (by omega) ?_
   by_cases h7 : i = 7
   ·rw [show ((i : Int) == 7) = true from beq_iff_eq.mpr (by omega)]
    exact dash (.inr h7)
   ·rw [show ((i : Int) == 7) = false from beq_eq_false_iff_ne.mpr (by omega), if_neg (by omega)]
    refine Ev.step (fun k => lex_dated.j2.eq_2 ..) (Ev.neg (by decide) (Ev.pos (by omega) (Ev.pos (by omega) (Ev.call (digit_is _) ?_))))
    cases e : digitB (bt s (i : Int)) with
    | true =>
     rw [Bool.true_and]
     refine Ev.pos rfl ?_
     rw [hw]; exact nxt
    | false => rw [Bool.false_and]; exact Ev.neg (by decide) (Ev.ret rfl)
theorem dated_ev (s : ByteArray) : Ev (fun k => lex_dated.f k s) (datedB s) := by
 unfold lex_dated.f datedB
 by_cases h : (s.size : Int) < 10
 ·refine Ev.pos h (Ev.step (fun k => lex_dated.j0.eq_2 ..) (Ev.pos rfl (Ev.ret ?_)))
  rw [yM (show ¬ 10 ≤ s.size by omega)]; rfl
 ·rw [yL (show 10 ≤ s.size by omega), Bool.true_and]
  refine Ev.neg h ?_
  have l0 := dated_l0 s (by omega) 10 0 (by omega)
  by_cases h2 : (s.size : Int) > 10
  ·rw [yM (show ¬ s.size = 10 by omega), Bool.false_or]
   refine Ev.pos h2 (Ev.pos (by omega) (Ev.call (run_is _) (Ev.step (fun k => lex_dated.j0.eq_2 ..) ?_)))
   cases runB (bt s 10) with
   | true => exact Ev.pos rfl (Ev.ret rfl)
   | false => exact Ev.neg (by decide) (by simpa using l0)
  ·rw [yL (show s.size = 10 by omega), Bool.true_or, Bool.true_and]
   exact Ev.neg h2 (Ev.step (fun k => lex_dated.j0.eq_2 ..) (Ev.neg (by decide) l0))
theorem form_at (s : ByteArray) : ∀ d i, formF s d i = true → ∀ j, i ≤ j → j < i + d → okD s j = true := by
 intro d
 induction d with
 | zero => intro i _ j h1 h2; omega
 | succ d ih =>
  intro i h j h1 h2
  rw [formF, Bool.and_eq_true] at h
  by_cases e : j = i
  ·rw [e]; exact h.1
  ·exact ih (i + 1) h.2 j (by omega) (by omega)
theorem dig_bd {c : Int} (h : digitB c = true) : 48 ≤ c ∧ c ≤ 57 := by
 unfold digitB at h
 rw [Bool.and_eq_true] at h
 exact ⟨yN h.1, yN h.2⟩
theorem form_date (s : ByteArray) (h : 10 ≤ s.size) (hf : formF s 10 0 = true) : DateForm (s.extract 0 10) := by
 have g := form_at s 10 0 hf
 have e : ∀ j : Nat, j < 10 → bt (s.extract 0 10) (j : Int) = bt s (j : Int) := fun j hj => bt_ext0 s 10 j hj
 have dd : ∀ j : Nat, j < 10 → j ≠ 4 → j ≠ 7 → 48 ≤ bt (s.extract 0 10) (j : Int) ∧ bt (s.extract 0 10) (j : Int) ≤ 57 := by
  intro j hj h4 h7
  have := g j (by omega) (by omega)
  rw [okD, if_neg (by omega)] at this
  rw [e j hj]; exact dig_bd this
 have dsh : ∀ j : Nat, j = 4 ∨ j = 7 → bt (s.extract 0 10) (j : Int) = 45 := by
  intro j hj
  have := g j (by omega) (by omega)
  rw [okD, if_pos hj] at this
  rw [e j (by omega)]; exact beq_iff_eq.mp this
 exact ⟨by rw [ext_size]; omega, dsh 4 (.inl rfl), dsh 7 (.inr rfl), dd 0 (by omega) (by omega) (by omega), dd 1 (by omega) (by omega) (by omega), dd 2 (by omega) (by omega) (by omega), dd 3 (by omega) (by omega) (by omega), dd 5 (by omega) (by omega) (by omega), dd 6 (by omega) (by omega) (by omega), dd 8 (by omega) (by omega) (by omega), dd 9 (by omega) (by omega) (by omega)⟩
theorem tup (x : TokR) : ((x.1, x.2.1, x.2.2.1, x.2.2.2.1, x.2.2.2.2.1, x.2.2.2.2.2.1, x.2.2.2.2.2.2.1, x.2.2.2.2.2.2.2.1, x.2.2.2.2.2.2.2.2.1, x.2.2.2.2.2.2.2.2.2.1, x.2.2.2.2.2.2.2.2.2.2) : TokR) = x := rfl
def dateR (s : ByteArray) : TokR := if exB (dateY s) (dateM s) (dateD s) = true then (4, s, 0, 0, dateY s, dateM s, dateD s, 0, 0, 0, 0) else errR 0 62
def tokA (s : ByteArray) : TokR :=
 if datedB s = true then dateR (s.extract 0 10)
 else if digitB (bt s 0) = true then numberOf (s.extract 0 (runN s))
 else if smallB (bt s 0) = true then wordOf smallB 1 (s.extract 0 (runN s))
 else if bigB (bt s 0) = true then wordOf bigB 2 (s.extract 0 (runN s))
 else if markOf s > 0 then (6, s.extract 0 (markOf s).toNat, 0, 0, 0, 0, 0, 0, 0, 0, 0)
 else errR 0 61
theorem token_l0 (s : ByteArray) (hs : s.size ≤ 140737488355328) (r : TokR) (h : Ev (fun k => lex_token.j1 k s (runN s : Int)) r) : ∀ n i, i + n = s.size → spanAt runB s n i = runN s → Ev (fun k => lex_token.l0 k s (i : Int)) r := by
 intro n
 induction n with
 | zero =>
  intro i hi he
  simp only [spanAt] at he
  refine Ev.step (fun k => lex_token.l0.eq_2 ..) (Ev.neg (by omega) ?_)
  rw [he]; exact h
 | succ n ih =>
  intro i hi he
  rw [spanAt] at he
  refine Ev.step (fun k => lex_token.l0.eq_2 ..) (Ev.pos (by omega) (Ev.pos (by omega) (Ev.call (run_is _) ?_)))
  by_cases hd : runB (bt s (i : Int)) = true
  ·rw [if_pos hd] at he
   refine Ev.pos hd ?_
   rw [show wrap64 ((i : Int) + 1) = ((i + 1 : Nat) : Int) by rw [w64 (by omega)]; omega]
   exact ih (i + 1) (by omega) he
  ·rw [if_neg hd] at he
   refine Ev.neg hd ?_
   rw [he]; exact h
theorem run_of_digit {c : Int} (h : digitB c = true) : runB c = true := by unfold runB; rw [h]; rfl
theorem run_of_small {c : Int} (h : smallB c = true) : runB c = true := by unfold runB; rw [h]; simp
theorem run_of_big {c : Int} (h : bigB c = true) : runB c = true := by unfold runB; rw [h]; simp
theorem runN_pos {s : ByteArray} (h0 : 0 < s.size) (h : runB (bt s 0) = true) : 0 < runN s := by
 obtain ⟨-, -, -, h4⟩ := runN_spec s
 rcases Nat.eq_zero_or_pos (runN s) with e | e
 ·have := h4 (by omega); rw [e] at this; rw [show ((0 : Nat) : Int) = 0 from rfl, h] at this; cases this
 ·exact e
theorem mark_le {s : ByteArray} (h0 : 0 < s.size) : 0 ≤ markOf s ∧ markOf s ≤ s.size := by
 unfold markOf
 split
 ·rename_i h; omega
 ·split <;> omega
theorem token_ev (s : ByteArray) (hs : s.size ≤ 140737488355328) (h0 : 0 < s.size) : Ev (fun k => lex_token.f k s) (tokA s) := by
 unfold lex_token.f
 refine Ev.bind (dated_ev s) ?_
 by_cases hd : datedB s = true
 ·refine Ev.pos hd (Ev.pos (by omega) ?_)
  have h10 : 10 ≤ s.size ∧ formF s 10 0 = true := by
   unfold datedB at hd
   rw [Bool.and_eq_true, Bool.and_eq_true] at hd
   exact ⟨yN hd.1.1, hd.2⟩
  refine Ev.pos (by omega) ?_
  have hp : cal_Parse.f (s.extract 0 10) = if exB (dateY (s.extract 0 10)) (dateM (s.extract 0 10)) (dateD (s.extract 0 10)) = true then some (dateY (s.extract 0 10), dateM (s.extract 0 10), dateD (s.extract 0 10), 0) else some (0, 0, 0, 21) := by
   unfold cal_Parse.f
   rw [if_pos (form_date s h10.1 h10.2)]
  unfold tokA
  rw [if_pos hd, dateR]
  split
  ·rename_i hx
   rw [if_pos hx] at hp
   exact Ev.call hp (Ev.pos rfl (Ev.ret rfl))
  ·rename_i hx
   rw [if_neg hx] at hp
   exact Ev.call hp (Ev.neg (by decide) (Ev.ret rfl))
 ·refine Ev.neg hd (token_l0 s hs (tokA s) ?_ s.size 0 (by omega) rfl)
  obtain ⟨-, hr, -, -⟩ := runN_spec s
  refine Ev.step (fun k => lex_token.j1.eq_2 ..) (Ev.pos (by omega) (Ev.call (digit_is _) ?_))
  have hT : tokA s = (if digitB (bt s 0) = true then numberOf (s.extract 0 (runN s)) else if smallB (bt s 0) = true then wordOf smallB 1 (s.extract 0 (runN s)) else if bigB (bt s 0) = true then wordOf bigB 2 (s.extract 0 (runN s)) else if markOf s > 0 then (6, s.extract 0 (markOf s).toNat, 0, 0, 0, 0, 0, 0, 0, 0, 0) else errR 0 61) := by unfold tokA; rw [if_neg hd]
  by_cases g1 : digitB (bt s 0) = true
  ·rw [hT.trans (if_pos g1)]
   have hp := runN_pos h0 (run_of_digit g1)
   refine Ev.pos g1 (Ev.pos (by omega) (Ev.pos (by omega) ?_))
   rw [Int.toNat_natCast]
   exact Ev.bind (number_ev _ (by rw [ext_size]; omega) (by rw [ext_size]; omega)) (Ev.ret (tup _))
  ·replace hT := hT.trans (if_neg g1)
   refine Ev.neg g1 (Ev.call (small_is _) ?_)
   by_cases g2 : smallB (bt s 0) = true
   ·rw [hT.trans (if_pos g2)]
    refine Ev.pos g2 (Ev.pos (by omega) (Ev.pos (by omega) ?_))
    rw [Int.toNat_natCast]
    refine Ev.call (a := wordOf smallB 1 (s.extract 0 (runN s))) ?_ (Ev.ret (tup _))
    unfold lex_word.f
    rw [if_pos (by rw [ext_size]; omega), if_pos rfl]
   ·replace hT := hT.trans (if_neg g2)
    refine Ev.neg g2 (Ev.call (big_is _) ?_)
    by_cases g3 : bigB (bt s 0) = true
    ·rw [hT.trans (if_pos g3)]
     refine Ev.pos g3 (Ev.pos (by omega) (Ev.pos (by omega) ?_))
     rw [Int.toNat_natCast]
     refine Ev.call (a := wordOf bigB 2 (s.extract 0 (runN s))) ?_ (Ev.ret (tup _))
     unfold lex_word.f
     rw [if_pos (by rw [ext_size]; omega), if_neg (by decide)]
    ·replace hT := hT.trans (if_neg g3)
     have hm := mark_le h0
     refine Ev.neg g3 (Ev.call (a := markOf s) (by unfold lex_mark.f; rw [if_pos h0]) ?_)
     by_cases g4 : markOf s > 0
     ·rw [hT.trans (if_pos g4)]
      exact Ev.pos g4 (Ev.pos hm.1 (Ev.pos hm.2 (Ev.ret rfl)))
     ·replace hT := hT.trans (if_neg g4)
      exact Ev.neg g4 (Ev.ret hT.symm)
end Go.Proofs.YtkfdninngcakpaaDoor.Pure
