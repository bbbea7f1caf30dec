/- Own text: what Scan answers to the texts of numbers. -/
import Derived.Test.YtkfdninngcakpaaDoorLexScanP
import Derived.Lib.AtoiAllCases
import Derived.Lib.ItoaMem
namespace Go.Proofs.YtkfdninngcakpaaDoor.Pure
open Go.RowKit Go.Proofs.YtkfdninngcakpaaDoor.PLex Go.Proofs.YtkfdninngcakpaaDoorW.PrintWords Go.Proofs.YtkfdninngcakpaaDoorW.PrintLast Go.Proofs.YtkfdninngcakpaaDoorW.PrintMore
set_option linter.unusedVariables false
set_option linter.unusedSimpArgs false
theorem small_bd {c : Int} (h : smallB c = true) : 97 ≤ c ∧ c ≤ 122 := by
  unfold smallB at h; simp only [Bool.and_eq_true, decide_eq_true_eq] at h; exact h
theorem big_bd {c : Int} (h : bigB c = true) : 65 ≤ c ∧ c ≤ 90 := by
  unfold bigB at h; simp only [Bool.and_eq_true, decide_eq_true_eq] at h; exact h
theorem not_digit {c : Int} (h : 65 ≤ c) : digitB c = false := by
  rw [Bool.eq_false_iff]; intro g; have := dig_bd g; omega

/-! Decimal numerals, and what reading them answers -/
abbrev DD (u : Nat) : List UInt8 := Lib.decDigits u
def DG (c : UInt8) : Prop := 48 ≤ c.toNat ∧ c.toNat ≤ 57
theorem dd_small {u : Nat} (h : u < 10) : DD u = [UInt8.ofNat (48 + u)] := Lib.decDigits_one h
theorem dd_big {u : Nat} (h : ¬ u < 10) : DD u = DD (u / 10) ++ [UInt8.ofNat (48 + u % 10)] := by
  show Lib.decDigits u = _
  rw [Lib.decDigits, dif_neg h]
theorem dd_chr {d : Nat} (h : d < 10) : (UInt8.ofNat (48 + d)).toNat = 48 + d := by rw [UInt8.toNat_ofNat']; omega
theorem dd_ind {P : Nat → Prop} (h0 : ∀ u, u < 10 → P u) (h1 : ∀ u, ¬ u < 10 → P (u / 10) → P u) : ∀ u, P u := by
  intro u
  induction u using Nat.strongRecOn with
  | ind u ih =>
    by_cases h : u < 10
    · exact h0 u h
    · exact h1 u h (ih (u / 10) (by omega))
theorem dd_digits : ∀ u, ∀ c ∈ DD u, DG c := by
  refine dd_ind (fun u h c hc => ?_) (fun u h ih c hc => ?_)
  · rw [dd_small h, List.mem_singleton] at hc
    subst hc; rw [DG, dd_chr h]; omega
  · rw [dd_big h, List.mem_append, List.mem_singleton] at hc
    rcases hc with hc | hc
    · exact ih c hc
    · subst hc; rw [DG, dd_chr (by omega)]; omega
theorem dd_pos : ∀ u, 1 ≤ (DD u).length := by
  refine dd_ind (fun u h => by rw [dd_small h]; simp) (fun u h ih => by rw [dd_big h]; simp)
theorem dd_head : ∀ u, 1 ≤ u → ((DD u)[0]?.getD 0).toNat ≠ 48 := by
  refine dd_ind (fun u h h1 => ?_) (fun u h ih h1 => ?_)
  · rw [dd_small h]
    show (UInt8.ofNat (48 + u)).toNat ≠ 48
    rw [dd_chr h]; omega
  · rw [dd_big h, List.getElem?_append_left (dd_pos _)]
    exact ih (by omega)
theorem dd_short {u : Nat} (h : u ≤ 999) : (DD u).length ≤ 3 := by
  by_cases a : u < 10
  · rw [dd_small a]; simp
  · rw [dd_big a]
    by_cases b : u / 10 < 10
    · rw [dd_small b]; simp
    · rw [dd_big b, dd_small (by omega)]; simp
theorem dd_long {u : Nat} (h : ¬ u ≤ 999) : 4 ≤ (DD u).length := by
  have p := dd_pos (u / 10 / 10 / 10)
  rw [dd_big (by omega), dd_big (by omega), dd_big (by omega)]
  simp; omega

abbrev SB (l : List UInt8) : ByteArray := ⟨l.toArray⟩
theorem sb_list (l : List UInt8) : (SB l).data.toList = l := by simp [SB]
theorem sb_size (l : List UInt8) : (SB l).size = l.length := by rw [← data_length, sb_list]
theorem sb_app (a b : List UInt8) : SB a ++ SB b = SB (a ++ b) := by
  apply ba_ext; rw [ByteArray.data_append, Array.toList_append, sb_list, sb_list, sb_list]
theorem sb_bt (l : List UInt8) (j : Nat) : bt (SB l) (j : Int) = ((l[j]?.getD 0).toNat : Int) := by rw [bt_nat, sb_list]
theorem sb_take (l : List UInt8) (n : Nat) : (SB l).extract 0 n = SB (l.take n) := by
  apply ba_ext; rw [ByteArray.data_extract, Array.toList_extract, sb_list, sb_list, List.extract_eq_take_drop, List.drop_zero, Nat.sub_zero]
theorem sb_drop (l : List UInt8) (n : Nat) : (SB l).extract n (SB l).size = SB (l.drop n) := by
  apply ba_ext; rw [ByteArray.data_extract, Array.toList_extract, sb_list, sb_list, sb_size, List.extract_eq_take_drop, List.take_of_length_le (by simp)]
theorem dig_not {c : Int} (h : digitB c = true) : c ≠ 45 ∧ blankB c = false ∧ c ≠ 35 := by
  have := dig_bd h
  refine ⟨by omega, ?_, by omega⟩
  rw [Bool.eq_false_iff]; unfold blankB
  simp only [ne_eq, Bool.or_eq_true, beq_iff_eq]; omega
theorem scan_tok {s : ByteArray} (h0 : 0 < s.size) (hb : blankB (bt s 0) = false) (hh : bt s 0 ≠ 35) (he : errOf (tokA s) = 0) (ht : (tokA s).2.1.size = s.size) : Sc s 0 [] ([mkT (tokA s) 0], 0, 0) := by
  have e : s.extract 0 s.size = s := ext_all s s.size (Nat.le_refl _)
  refine Sc.tok 0 [] _ h0 hb hh (by rw [e]; exact he) ?_
  rw [e]
  exact Sc.done _ _ (by omega)
theorem scan_err {s : ByteArray} (h0 : 0 < s.size) (hb : blankB (bt s 0) = false) (hh : bt s 0 ≠ 35) (h : tokA s = errR 0 62) : Sc s 0 [] ([], 0, 62) := by
  have e : s.extract 0 s.size = s := ext_all s s.size (Nat.le_refl _)
  have := Sc.err (x := s) 0 [] h0 hb hh (by rw [e, h]; decide)
  rw [e, h] at this
  exact this
theorem minus_drop (u : Nat) : (SB (45 :: DD u)).extract 1 (SB (45 :: DD u)).size = SB (DD u) := by rw [sb_drop]; rfl

end Go.Proofs.YtkfdninngcakpaaDoor.Pure
