/- Own text, for this claim: the reference's scanner: plain laws. -/
import Derived.Test.YtkfdninngcakpaaDoorZRefTok2
import Derived.Test.YtkfdninngcakpaaDoorZLexScanP
import Derived.SizedLaws
namespace Go.Proofs.YtkfdninngcakpaaDoor.Pure
open Go.RowKit Go.Proofs.YtkfdninngcakpaaDoor.PLex Go.Proofs.YtkfdninngcakpaaDoorW.PrintWords Go.Proofs.YtkfdninngcakpaaDoorW.PrintLast Go.Proofs.YtkfdninngcakpaaDoorW.PrintMore
set_option linter.unusedVariables false
set_option linter.unusedSimpArgs false
def stepD (a : Nat) (c : UInt8) : Nat := a * 10 + (c.toNat - 48)
def valD (a : Nat) (l : List UInt8) : Nat := l.foldl stepD a
theorem valD_cons (a : Nat) (c : UInt8) (r : List UInt8) : valD a (c :: r) = valD (a * 10 + (c.toNat - 48)) r := List.foldl_cons ..
theorem valD_nil (a : Nat) : valD a [] = a := List.foldl_nil
theorem valD_ge (l : List UInt8) : ∀ a : Nat, a ≤ valD a l := by
 induction l with
 | nil => intro a; exact Nat.le_of_eq (valD_nil a).symm
 | cons c r ih =>
  intro a
  exact Nat.le_trans (Nat.le_trans (Nat.le_mul_of_pos_right a (by decide)) (Nat.le_add_right _ _)) (ih (a * 10 + (c.toNat - 48)))
def isD (c : UInt8) : Prop := 48 ≤ c.toNat ∧ c.toNat ≤ 57
theorem parse_valD : ∀ (l : List UInt8) (a : Nat), (∀ c ∈ l, isD c) → a < 18446744073709551616 → Lib.parseUint10 a l = if valD a l < 18446744073709551616 then .ok (valD a l) else .range := by
 intro l
 induction l with
 | nil => intro a _ ha; rw [Lib.parseUint10, valD_nil, if_pos ha]
 | cons c r ih =>
  intro a hd ha
  have hc : 48 ≤ c.toNat ∧ c.toNat ≤ 57 := hd c (List.mem_cons_self ..)
  rw [Lib.parseUint10, if_pos hc, valD_cons]
  have hg := valD_ge r (a * 10 + (c.toNat - 48))
  by_cases h1 : 1844674407370955162 ≤ a
  ·rw [if_pos h1, if_neg (by omega)]
  rw [if_neg h1]
  by_cases h2 : 18446744073709551616 ≤ a * 10 + (c.toNat - 48)
  ·rw [if_pos h2, if_neg (by omega)]
  rw [if_neg h2]
  exact ih _ (fun x hx => hd x (List.mem_cons_of_mem _ hx)) (by omega)
theorem atoi_valD {l : List UInt8} (hl : l ≠ []) (hd : ∀ c ∈ l, isD c) : (valD 0 l < 9223372036854775808 → atoiOf l = (((valD 0 l : Nat) : Int), 0)) ∧ (¬ valD 0 l < 9223372036854775808 → (atoiOf l).2 = 1) := by
 cases l with
 | nil => exact absurd rfl hl
 | cons c r =>
  have hc : 48 ≤ c.toNat ∧ c.toNat ≤ 57 := hd c (List.mem_cons_self ..)
  have hp := parse_valD (c :: r) 0 hd (by omega)
  have hm : Lib.parseMag (c :: r) = Lib.parseUint10 0 (c :: r) := by rw [Lib.parseMag, if_neg (by simp)]
  unfold atoiOf
  rw [Lib.atoiAll_plain c r (by omega) (by omega), hm, hp]
  constructor
  ·intro h
   rw [if_pos (by omega), Lib.signless, if_neg (by omega)]
  ·intro h
   by_cases h2 : valD 0 (c :: r) < 18446744073709551616
   ·rw [if_pos h2, Lib.signless, if_pos (by omega)]
   ·rw [if_neg h2]; rfl
theorem rdigit_is (c : Int) : payoffref06_digit.f c = some (digitB c) := by unfold payoffref06_digit.f digitB; by_cases h : c ≥ 48 <;> simp [h]
theorem rsmall_is (c : Int) : payoffref06_small.f c = some (smallB c) := by unfold payoffref06_small.f smallB; by_cases h : c ≥ 97 <;> simp [h]
theorem rcap_is (c : Int) : payoffref06_capital.f c = some (bigB c) := by unfold payoffref06_capital.f bigB; by_cases h : c ≥ 65 <;> simp [h]
theorem rruns_is (c : Int) : payoffref06_runs.f c = some (runB c) := by
 unfold payoffref06_runs.f runB
 rw [rdigit_is, rsmall_is, rcap_is]
 simp only [Option.bind_some]
 cases digitB c <;> cases smallB c <;> cases bigB c <;> simp
theorem w64s (i : Nat) (h : i ≤ 140737488355328) : wrap64 ((i : Int) + 1) = ((i + 1 : Nat) : Int) := by rw [w64 (by omega)]; omega
def allD (s : ByteArray) : Bool := decide (0 < s.size) && decide (digN s = s.size)
theorem rdigits_ev (s : ByteArray) (hs : s.size ≤ 140737488355328) : Ev (fun k => payoffref06_digits.f k s) (allD s) := by
 have key : ∀ n i : Nat, i + n = s.size → spanAt digitB s n i = digN s → Ev (fun k => payoffref06_digits.l0 k s (i : Int)) (allD s) := by
  intro n
  induction n with
  | zero =>
   intro i hi he
   simp only [spanAt] at he
   refine Ev.step (fun k => payoffref06_digits.l0.eq_2 ..) (Ev.neg (by omega) (Ev.ret ?_))
   unfold allD
   rw [show digN s = s.size by omega, yL (show s.size = s.size from rfl), Bool.and_true]
   by_cases h : 0 < s.size
   ·rw [yL h, yL (by omega)]
   ·rw [yM h, yM (by omega)]
  | succ n ih =>
   intro i hi he
   rw [spanAt] at he
   refine Ev.step (fun k => payoffref06_digits.l0.eq_2 ..) (Ev.pos (by omega) (Ev.pos (by omega) (Ev.call (rdigit_is _) ?_)))
   by_cases hd : digitB (bt s (i : Int)) = true
   ·rw [if_pos hd] at he
    refine Ev.pos hd ?_
    rw [w64s i (by omega)]
    exact ih (i + 1) (by omega) he
   ·rw [if_neg hd] at he
    refine Ev.neg hd (Ev.ret ?_)
    unfold allD
    rw [yM (show ¬ digN s = s.size by omega), Bool.and_false]
 exact key s.size 0 (by omega) rfl
def numV (s : ByteArray) : Int := if valD 0 s.data.toList < 9223372036854775808 then ((valD 0 s.data.toList : Nat) : Int) else -1
theorem over_iff {v d : Int} (hv : 0 ≤ v) (hd : 0 ≤ d ∧ d ≤ 9) : v > (9223372036854775807 - d) / 10 ↔ 9223372036854775807 < v * 10 + d := by omega
theorem bt_digit {s : ByteArray} {i : Nat} (h : i < s.size) (hd : digitB (bt s (i : Int)) = true) : ∃ c : UInt8, s.data.toList[i]? = some c ∧ isD c ∧ bt s (i : Int) = (c.toNat : Int) := by
 have hl : i < s.data.toList.length := by rw [data_length]; exact h
 refine ⟨s.data.toList[i], List.getElem?_eq_getElem hl, ?_, ?_⟩
 ·have hb := dig_bd hd
  rw [bt_nat, List.getElem?_eq_getElem hl, Option.getD_some] at hb
  unfold isD; omega
 ·rw [bt_nat, List.getElem?_eq_getElem hl, Option.getD_some]
theorem num_step {v d : Int} (h0 : 0 ≤ v) (hd : 0 ≤ d ∧ d ≤ 9) (h : v * 10 + d ≤ 9223372036854775807) : wrap64 (wrap64 (10 * v) + d) = v * 10 + d := by
 rw [w64 (n := 10 * v) (by omega), w64 (by omega)]; omega
theorem rnumber_ev (s : ByteArray) (hs : s.size ≤ 140737488355328) (h : ∀ j : Nat, j < s.size → digitB (bt s (j : Int)) = true) : Ev (fun k => payoffref06_number.f k s) (numV s) := by
 have key : ∀ n i v : Nat, i + n = s.size → v < 9223372036854775808 → valD v (s.data.toList.drop i) = valD 0 s.data.toList → Ev (fun k => payoffref06_number.l0 k s (v : Int) (i : Int)) (numV s) := by
  intro n
  induction n with
  | zero =>
   intro i v hi hv he
   rw [List.drop_of_length_le (by rw [data_length]; omega), valD_nil] at he
   refine Ev.step (fun k => payoffref06_number.l0.eq_2 ..) (Ev.neg (by omega) (Ev.ret ?_))
   unfold numV
   rw [← he, if_pos hv]
  | succ n ih =>
   intro i v hi hv he
   obtain ⟨c, hc, hcd, hb⟩ := bt_digit (s := s) (i := i) (by omega) (h i (by omega))
   have hl : i < s.data.toList.length := by rw [data_length]; omega
   rw [List.getElem?_eq_getElem hl] at hc
   rw [List.drop_eq_getElem_cons hl, Option.some.inj hc, valD_cons] at he
   obtain ⟨d, hdd⟩ : ∃ d : Nat, c.toNat - 48 = d := ⟨_, rfl⟩
   have hcd' : 48 ≤ c.toNat ∧ c.toNat ≤ 57 := hcd
   have hmod : (bt s (i : Int) - 48) % 256 = (d : Int) := by rw [hb]; omega
   have hd9 : (0 : Int) ≤ (d : Int) ∧ (d : Int) ≤ 9 := by omega
   rw [hdd] at he
   refine Ev.step (fun k => payoffref06_number.l0.eq_2 ..) (Ev.pos (by omega) (Ev.pos (by omega) ?_))
   rw [hmod]
   by_cases ho : (9223372036854775807 : Int) < (v : Int) * 10 + (d : Int)
   ·refine Ev.pos ((over_iff (by omega) hd9).2 ho) (Ev.ret ?_)
    unfold numV
    have := valD_ge (s.data.toList.drop (i + 1)) (v * 10 + d)
    rw [he] at this
    rw [if_neg (by omega)]
   ·refine Ev.neg (fun g => ho ((over_iff (by omega) hd9).1 g)) ?_
    rw [num_step (by omega) hd9 (by omega), w64s i (by omega), show (v : Int) * 10 + (d : Int) = ((v * 10 + d : Nat) : Int) by omega]
    exact ih (i + 1) (v * 10 + d) (by omega) (by omega) he
 have h0 := key s.size 0 0 (by omega) (by omega) rfl
 exact h0
theorem bt_from (x : ByteArray) (i j : Nat) (h : i + j < x.size) : bt (x.extract i x.size) (j : Int) = bt x ((i + j : Nat) : Int) := bt_ext x i x.size j h
theorem rrun_ev (x : ByteArray) (i : Nat) (hx : x.size ≤ 140737488355328) (hi : i ≤ x.size) : Ev (fun k => payoffref06_run.f k x (i : Int)) ((x.extract i x.size).extract 0 (runN (x.extract i x.size))) := by
 have hsz : (x.extract i x.size).size = x.size - i := by rw [ext_size]; omega
 have hr := (runN_spec (x.extract i x.size)).2.1
 have he : (x.extract i x.size).extract 0 (runN (x.extract i x.size)) = x.extract i (i + runN (x.extract i x.size)) := by
  rw [ext_ext, Nat.add_zero, Nat.min_eq_left (by omega)]
 rw [he]
 have key : ∀ n j : Nat, i + j + n = x.size → spanAt runB (x.extract i x.size) n j = runN (x.extract i x.size) → Ev (fun k => payoffref06_run.l0 k x (i : Int) ((i + j : Nat) : Int)) (x.extract i (i + runN (x.extract i x.size))) := by
  intro n
  induction n with
  | zero =>
   intro j hj hs
   simp only [spanAt] at hs
   refine Ev.step (fun k => payoffref06_run.l0.eq_2 ..) (Ev.neg (by omega) (Ev.pos (by omega) (Ev.pos (by omega) (Ev.pos (by omega) (Ev.ret ?_)))))
   rw [Int.toNat_natCast, Int.toNat_natCast, hs]
  | succ n ih =>
   intro j hj hs
   rw [spanAt, bt_from x i j (by omega)] at hs
   refine Ev.step (fun k => payoffref06_run.l0.eq_2 ..) (Ev.pos (by omega) (Ev.pos (by omega) (Ev.call (rruns_is _) ?_)))
   by_cases hd : runB (bt x ((i + j : Nat) : Int)) = true
   ·rw [if_pos hd] at hs
    refine Ev.pos hd ?_
    rw [w64s (i + j) (by omega), show i + j + 1 = i + (j + 1) by omega]
    exact ih (j + 1) (by omega) hs
   ·rw [if_neg hd] at hs
    refine Ev.neg hd (Ev.pos (by omega) (Ev.pos (by omega) (Ev.pos (by omega) (Ev.ret ?_))))
    rw [Int.toNat_natCast, Int.toNat_natCast, hs]
 have h0 := key (x.size - i) 0 (by omega) (by unfold runN; rw [hsz])
 exact h0
theorem allD_iff (s : ByteArray) : allD s = true ↔ 0 < s.size ∧ ∀ j : Nat, j < s.size → digitB (bt s (j : Int)) = true := by
 unfold allD
 rw [Bool.and_eq_true, decide_eq_true_iff, decide_eq_true_iff]
 obtain ⟨-, h2, h3, h4⟩ := digN_spec s
 constructor
 ·rintro ⟨a, b⟩
  exact ⟨a, fun j hj => h3 j (Nat.zero_le _) (by omega)⟩
 ·rintro ⟨a, b⟩
  refine ⟨a, ?_⟩
  by_cases h : digN s < s.size
  ·have := h4 h
   rw [b _ h] at this; cases this
  ·omega
theorem allD_ext (x : ByteArray) (a b : Nat) (hb : b ≤ x.size) (hab : a < b) : allD (x.extract a b) = true ↔ ∀ j : Nat, a ≤ j → j < b → digitB (bt x (j : Int)) = true := by
 have hs : (x.extract a b).size = b - a := by rw [ext_size]; omega
 rw [allD_iff, hs]
 constructor
 ·rintro ⟨-, h⟩ j h1 h2
  have := h (j - a) (by omega)
  rw [bt_ext x a b (j - a) (by omega), show a + (j - a) = j by omega] at this; exact this
 ·intro h
  exact ⟨by omega, fun j hj => by rw [bt_ext x a b j (by omega)]; exact h (a + j) (by omega) (by omega)⟩
theorem form_iff (s : ByteArray) : formF s 10 0 = true ↔ ∀ j : Nat, j < 10 → okD s j = true := by
 constructor
 ·exact fun h j hj => form_at s 10 0 h j (Nat.zero_le _) (by omega)
 ·intro h
  have key : ∀ d i : Nat, i + d = 10 → formF s d i = true := by
   intro d
   induction d with
   | zero => intro i _; rfl
   | succ d ih => intro i hi; rw [formF, h i (by omega), ih (i + 1) (by omega)]; rfl
  exact key 10 0 rfl
end Go.Proofs.YtkfdninngcakpaaDoor.Pure
