/- Own text: what Scan answers to the texts of numbers. -/
import Derived.Test.YtkfdninngcakpaaDoorLexScanP
import Derived.Lib.AtoiAllCases
import Derived.Lib.ItoaMem
namespace Go.Proofs.YtkfdninngcakpaaDoor.Pure
open Go.RowKit Go.Proofs.YtkfdninngcakpaaDoor.PLex Go.Proofs.YtkfdninngcakpaaDoorW.PrintWords Go.Proofs.YtkfdninngcakpaaDoorW.PrintLast Go.Proofs.YtkfdninngcakpaaDoorW.PrintMore
set_option linter.unusedVariables false
set_option linter.unusedSimpArgs false
theorem small_bd {c : Int} (h : smallB c = true) : 97 ≤ c ∧ c ≤ 122 := by
  unfold smallB at h; simp only [Bool.and_eq_true, decide_eq_true_eq] at h; exact h
theorem big_bd {c : Int} (h : bigB c = true) : 65 ≤ c ∧ c ≤ 90 := by
  unfold bigB at h; simp only [Bool.and_eq_true, decide_eq_true_eq] at h; exact h
theorem not_digit {c : Int} (h : 65 ≤ c) : digitB c = false := by
  rw [Bool.eq_false_iff]; intro g; have := dig_bd g; omega

/-! Decimal numerals, and what reading them answers -/
abbrev DD (u : Nat) : List UInt8 := Lib.decDigits u
def DG (c : UInt8) : Prop := 48 ≤ c.toNat ∧ c.toNat ≤ 57
theorem dd_small {u : Nat} (h : u < 10) : DD u = [UInt8.ofNat (48 + u)] := Lib.decDigits_one h
theorem dd_big {u : Nat} (h : ¬ u < 10) : DD u = DD (u / 10) ++ [UInt8.ofNat (48 + u % 10)] := by
  show Lib.decDigits u = _
  rw [Lib.decDigits, dif_neg h]
theorem dd_chr {d : Nat} (h : d < 10) : (UInt8.ofNat (48 + d)).toNat = 48 + d := by rw [UInt8.toNat_ofNat']; omega
theorem dd_ind {P : Nat → Prop} (h0 : ∀ u, u < 10 → P u) (h1 : ∀ u, ¬ u < 10 → P (u / 10) → P u) : ∀ u, P u := by
  intro u
  induction u using Nat.strongRecOn with
  | ind u ih =>
    by_cases h : u < 10
    · exact h0 u h
    · exact h1 u h (ih (u / 10) (by omega))
theorem dd_digits : ∀ u, ∀ c ∈ DD u, DG c := by
  refine dd_ind (fun u h c hc => ?_) (fun u h ih c hc => ?_)
  · rw [dd_small h, List.mem_singleton] at hc
    subst hc; rw [DG, dd_chr h]; omega
  · rw [dd_big h, List.mem_append, List.mem_singleton] at hc
    rcases hc with hc | hc
    · exact ih c hc
    · subst hc; rw [DG, dd_chr (by omega)]; omega
theorem dd_pos : ∀ u, 1 ≤ (DD u).length := by
  refine dd_ind (fun u h => by rw [dd_small h]; simp) (fun u h ih => by rw [dd_big h]; simp)
theorem dd_head : ∀ u, 1 ≤ u → ((DD u)[0]?.getD 0).toNat ≠ 48 := by
  refine dd_ind (fun u h h1 => ?_) (fun u h ih h1 => ?_)
  · rw [dd_small h]
    show (UInt8.ofNat (48 + u)).toNat ≠ 48
    rw [dd_chr h]; omega
  · rw [dd_big h, List.getElem?_append_left (dd_pos _)]
    exact ih (by omega)
theorem dd_short {u : Nat} (h : u ≤ 999) : (DD u).length ≤ 3 := by
  by_cases a : u < 10
  · rw [dd_small a]; simp
  · rw [dd_big a]
    by_cases b : u / 10 < 10
    · rw [dd_small b]; simp
    · rw [dd_big b, dd_small (by omega)]; simp
theorem dd_long {u : Nat} (h : ¬ u ≤ 999) : 4 ≤ (DD u).length := by
  have p := dd_pos (u / 10 / 10 / 10)
  rw [dd_big (by omega), dd_big (by omega), dd_big (by omega)]
  simp; omega
theorem parse_snoc : ∀ (l : List UInt8) (a v : Nat) (c : UInt8), Lib.parseUint10 a l = .ok v → DG c → v * 10 + (c.toNat - 48) < 18446744073709551616 → Lib.parseUint10 a (l ++ [c]) = .ok (v * 10 + (c.toNat - 48)) := by
  intro l
  induction l with
  | nil =>
    intro a v c h hc hv
    simp only [Lib.parseUint10] at h
    injection h with h
    subst h
    rw [List.nil_append, Lib.parseUint10, if_pos (show 48 ≤ c.toNat ∧ c.toNat ≤ 57 from hc), if_neg (by omega), if_neg (by omega), Lib.parseUint10]
  | cons x l ih =>
    intro a v c h hc hv
    rw [List.cons_append, Lib.parseUint10]
    rw [Lib.parseUint10] at h
    split at h
    · rename_i g
      rw [if_pos g]
      split at h
      · cases h
      · rename_i g1
        rw [if_neg g1]
        split at h
        · cases h
        · rename_i g2
          rw [if_neg g2]
          exact ih _ v c h hc hv
    · cases h
theorem parse_dd : ∀ u, u < 18446744073709551616 → Lib.parseUint10 0 (DD u) = .ok u := by
  refine dd_ind (fun u h hu => ?_) (fun u h ih hu => ?_)
  · have e := parse_snoc [] 0 0 (UInt8.ofNat (48 + u)) rfl (by rw [DG, dd_chr h]; omega) (by rw [dd_chr h]; omega)
    rw [dd_chr h, List.nil_append] at e
    rw [dd_small h, e]; congr 1; omega
  · have e := parse_snoc (DD (u / 10)) 0 (u / 10) (UInt8.ofNat (48 + u % 10)) (ih (by omega)) (by rw [DG, dd_chr (by omega)]; omega) (by rw [dd_chr (by omega)]; omega)
    rw [dd_chr (by omega)] at e
    rw [dd_big h, e]; congr 1; omega
theorem mag_dd {u : Nat} (h : u < 18446744073709551616) : Lib.parseMag (DD u) = .ok u := by
  rw [Lib.parseMag, if_neg (fun g => by have := dd_pos u; rw [g] at this; simp at this), parse_dd u h]
theorem atoi_dd {u : Nat} (h : u < 18446744073709551616) : atoiOf (DD u) = if u < 9223372036854775808 then ((u : Int), 0) else (Lib.atoiSat (DD u), 1) := by
  have hp := dd_pos u
  have hd := dd_digits u
  have hm := mag_dd h
  cases hl : DD u with
  | nil => rw [hl] at hp; simp at hp
  | cons c r =>
    rw [hl] at hd hm
    have hc := hd c (by simp)
    unfold DG at hc
    unfold atoiOf
    rw [Lib.atoiAll_plain c r (by omega) (by omega), hm]
    by_cases g : u < 9223372036854775808
    · rw [if_pos g, Lib.signless, if_neg (by omega)]
    · rw [if_neg g, Lib.signless, if_pos (by omega)]

abbrev SB (l : List UInt8) : ByteArray := ⟨l.toArray⟩
theorem sb_list (l : List UInt8) : (SB l).data.toList = l := by simp [SB]
theorem sb_size (l : List UInt8) : (SB l).size = l.length := by rw [← data_length, sb_list]
theorem sb_app (a b : List UInt8) : SB a ++ SB b = SB (a ++ b) := by
  apply ba_ext; rw [ByteArray.data_append, Array.toList_append, sb_list, sb_list, sb_list]
theorem sb_bt (l : List UInt8) (j : Nat) : bt (SB l) (j : Int) = ((l[j]?.getD 0).toNat : Int) := by rw [bt_nat, sb_list]
theorem sb_take (l : List UInt8) (n : Nat) : (SB l).extract 0 n = SB (l.take n) := by
  apply ba_ext; rw [ByteArray.data_extract, Array.toList_extract, sb_list, sb_list, List.extract_eq_take_drop, List.drop_zero, Nat.sub_zero]
theorem sb_drop (l : List UInt8) (n : Nat) : (SB l).extract n (SB l).size = SB (l.drop n) := by
  apply ba_ext; rw [ByteArray.data_extract, Array.toList_extract, sb_list, sb_list, sb_size, List.extract_eq_take_drop, List.take_of_length_le (by simp)]
theorem dg_digit {c : UInt8} (h : DG c) : digitB ((c.toNat : Nat) : Int) = true := by
  unfold DG at h; unfold digitB; rw [decide_eq_true (by omega), decide_eq_true (by omega)]; rfl
theorem sb_digit {l : List UInt8} {n : Nat} (hn : n ≤ l.length) (h : ∀ c ∈ l.take n, DG c) (j : Nat) (hj : j < n) : digitB (bt (SB l) (j : Int)) = true := by
  rw [sb_bt, List.getElem?_eq_getElem (by omega), Option.getD_some]
  refine dg_digit (h _ ?_)
  rw [List.mem_iff_getElem]
  exact ⟨j, by rw [List.length_take]; omega, by rw [List.getElem_take]⟩
theorem dig_not {c : Int} (h : digitB c = true) : c ≠ 45 ∧ blankB c = false ∧ c ≠ 35 := by
  have := dig_bd h
  refine ⟨by omega, ?_, by omega⟩
  rw [Bool.eq_false_iff]; unfold blankB
  simp only [ne_eq, Bool.or_eq_true, beq_iff_eq]; omega
/-- A text of digits, and of one small letter behind them at most. -/
structure NumT (s : ByteArray) (n : Nat) : Prop where
  pos : 1 ≤ n
  digs : ∀ j : Nat, j < n → digitB (bt s (j : Int)) = true
  last : s.size = n ∨ (s.size = n + 1 ∧ smallB (bt s (n : Int)) = true)
theorem NumT.dig {s : ByteArray} {n : Nat} (h : NumT s n) : digN s = n := by
  have := h.last
  refine span_unique (digN_spec s) ⟨by omega, by omega, fun j _ j2 => h.digs j j2, fun g => ?_⟩
  rcases h.last with e | e
  · omega
  · have := small_bd e.2
    exact not_digit (by omega)
theorem NumT.run {s : ByteArray} {n : Nat} (h : NumT s n) : runN s = s.size := by
  refine span_unique (runN_spec s) ⟨by omega, Nat.le_refl _, fun j _ j2 => ?_, fun g => absurd g (Nat.lt_irrefl _)⟩
  by_cases g : j < n
  · exact run_of_digit (h.digs j g)
  · rcases h.last with e | e
    · omega
    · rw [show j = n by omega]; exact run_of_small e.2
theorem NumT.tok {s : ByteArray} {n : Nat} (h : NumT s n) : tokA s = numberOf s := by
  have d0 : digitB (bt s 0) = true := h.digs 0 h.pos
  have hp := h.pos
  have nd : ¬ datedB s = true := fun g => by
    obtain ⟨g1, g2, g3⟩ := dated_parts g
    have g4 := form_at s 10 0 g3 4 (by omega) (by omega)
    rw [okD, if_pos (.inl rfl), beq_iff_eq] at g4
    by_cases k : 4 < n
    · exact (dig_not (h.digs 4 k)).1 g4
    · rcases h.last with e | e
      · omega
      · omega
  unfold tokA
  rw [if_neg nd, if_pos d0, h.run, ext_all s s.size (Nat.le_refl _)]
theorem numT_dd (u : Nat) : NumT (SB (DD u)) (DD u).length :=
  ⟨dd_pos u, sb_digit (Nat.le_refl _) (fun c hc => dd_digits u c (List.mem_of_mem_take hc)), .inl (sb_size _)⟩
theorem numT_zero (u : Nat) : NumT (SB (48 :: DD u)) ((DD u).length + 1) :=
  ⟨by omega, sb_digit (by simp) (fun c hc => by
    have := List.mem_of_mem_take hc
    rw [List.mem_cons] at this
    rcases this with rfl | h
    · exact ⟨by decide, by decide⟩
    · exact dd_digits u c h), .inl (by rw [sb_size]; rfl)⟩
theorem numT_unit (u : Nat) (c : UInt8) (hc : smallB ((c.toNat : Nat) : Int) = true) : NumT (SB (DD u ++ [c])) (DD u).length :=
  ⟨dd_pos u, sb_digit (by simp) (fun x hx => by rw [List.take_left] at hx; exact dd_digits u x hx), .inr ⟨by rw [sb_size]; simp, by rw [sb_bt]; simpa using hc⟩⟩
theorem dd_zero_len {u : Nat} (h : ((DD u)[0]?.getD 0).toNat = 48) : (DD u).length = 1 := by
  by_cases g : 1 ≤ u
  · exact absurd h (dd_head u g)
  · rw [dd_small (by omega)]; rfl
theorem num_plain {u : Nat} (h : u < 9223372036854775808) : tokA (SB (DD u)) = (3, SB (DD u), 0, (u : Int), 0, 0, 0, 0, 0, 0, 0) := by
  have T := numT_dd u
  rw [T.tok]
  unfold numberOf
  rw [T.dig, sb_take, List.take_of_length_le (Nat.le_refl _), sb_list, atoi_dd (by omega), if_pos h, if_neg (by simp), if_neg (fun g => ?_), if_pos (by rw [sb_size])]
  have := dd_zero_len (u := u) (by have := g.1; rw [bt_zero, sb_bt] at this; omega)
  omega
theorem num_range {u : Nat} (h : ¬ u < 9223372036854775808) (h' : u < 18446744073709551616) : tokA (SB (DD u)) = errR 0 62 := by
  have T := numT_dd u
  rw [T.tok]
  unfold numberOf
  rw [T.dig, sb_take, List.take_of_length_le (Nat.le_refl _), sb_list, atoi_dd h', if_neg h, if_pos (by show ¬ (1 : Int) = 0; decide)]
theorem num_zero (u : Nat) : tokA (SB (48 :: DD u)) = errR 0 62 := by
  have T := numT_zero u
  have p := dd_pos u
  rw [T.tok]
  unfold numberOf
  rw [T.dig]
  by_cases g : (atoiOf ((SB (48 :: DD u)).extract 0 ((DD u).length + 1)).data.toList).2 ≠ 0
  · rw [if_pos g]
  · rw [if_neg g, if_pos ⟨by rw [bt_zero, sb_bt]; rfl, by omega⟩]
theorem num_unit {u : Nat} (h : u < 9223372036854775808) (c : UInt8) (hc : smallB ((c.toNat : Nat) : Int) = true) (hu : unitOf ((c.toNat : Nat) : Int) > 0) :
    tokA (SB (DD u ++ [c])) = if 1 ≤ u ∧ u ≤ 999 then (5, SB (DD u ++ [c]), 0, 0, 0, 0, 0, (u : Int), unitOf ((c.toNat : Nat) : Int), 0, 0) else errR 0 62 := by
  have T := numT_unit u c hc
  have p := dd_pos u
  have sz : (SB (DD u ++ [c])).size = (DD u).length + 1 := by rw [sb_size]; simp
  have b0 : bt (SB (DD u ++ [c])) 0 = (((DD u)[0]?.getD 0).toNat : Int) := by rw [bt_zero, sb_bt, List.getElem?_append_left p]
  have bn : bt (SB (DD u ++ [c])) ((DD u).length : Int) = ((c.toNat : Nat) : Int) := by rw [sb_bt]; simp
  rw [T.tok]
  unfold numberOf
  rw [T.dig, sb_take, List.take_left, sb_list, atoi_dd (by omega), if_pos h, if_neg (by simp), if_neg (fun g => by
    have := dd_zero_len (u := u) (by have := g.1; rw [b0] at this; omega)
    omega), if_neg (by omega), bn, b0]
  by_cases g : 1 ≤ u ∧ u ≤ 999
  · rw [if_pos g, if_pos ⟨by omega, by have := dd_short g.2; omega, by have := dd_head u g.1; omega, hu⟩]
  · rw [if_neg g, if_neg (fun k => ?_)]
    by_cases g1 : 1 ≤ u
    · have := dd_long (u := u) (by omega)
      omega
    · obtain rfl : u = 0 := by omega
      exact k.2.2.1 (by rw [dd_small (by omega)]; rfl)
/-! What Scan answers to one token, and to a minus with digits behind it -/
theorem scan_tok {s : ByteArray} (h0 : 0 < s.size) (hb : blankB (bt s 0) = false) (hh : bt s 0 ≠ 35) (he : errOf (tokA s) = 0) (ht : (tokA s).2.1.size = s.size) : Sc s 0 [] ([mkT (tokA s) 0], 0, 0) := by
  have e : s.extract 0 s.size = s := ext_all s s.size (Nat.le_refl _)
  refine Sc.tok 0 [] _ h0 hb hh (by rw [e]; exact he) ?_
  rw [e]
  exact Sc.done _ _ (by omega)
theorem scan_err {s : ByteArray} (h0 : 0 < s.size) (hb : blankB (bt s 0) = false) (hh : bt s 0 ≠ 35) (h : tokA s = errR 0 62) : Sc s 0 [] ([], 0, 62) := by
  have e : s.extract 0 s.size = s := ext_all s s.size (Nat.le_refl _)
  have := Sc.err (x := s) 0 [] h0 hb hh (by rw [e, h]; decide)
  rw [e, h] at this
  exact this
theorem minus_tok (u : Nat) : tokA (SB (45 :: DD u)) = (6, SB [45], 0, 0, 0, 0, 0, 0, 0, 0, 0) := by
  have p := dd_pos u
  have b0 : bt (SB (45 :: DD u)) 0 = 45 := by rw [bt_zero, sb_bt]; rfl
  have d1 : digitB (bt (SB (45 :: DD u)) 1) = true := by
    rw [show bt (SB (45 :: DD u)) 1 = bt (SB (DD u)) ((0 : Nat) : Int) by rw [show bt (SB (45 :: DD u)) 1 = bt (SB (45 :: DD u)) ((1 : Nat) : Int) from rfl, sb_bt, sb_bt]; rfl]
    exact (numT_dd u).digs 0 (dd_pos u)
  have sz : (SB (45 :: DD u)).size = (DD u).length + 1 := by rw [sb_size]; rfl
  have hm : markOf (SB (45 :: DD u)) = 1 := by
    unfold markOf
    rw [if_neg (fun g => ?_), b0, if_pos (by decide)]
    have := (pair_first g.1 g.2).2.1
    rw [run_of_digit d1] at this; cases this
  have nd : ¬ datedB (SB (45 :: DD u)) = true := fun g => by
    have := form_digit (dated_parts g).2.2 0 (by omega) (by omega) (by omega)
    rw [show bt (SB (45 :: DD u)) ((0 : Nat) : Int) = 45 from b0] at this
    exact absurd this (by decide)
  unfold tokA
  rw [if_neg nd, b0, if_neg (by decide), if_neg (by decide), if_neg (by decide), hm, if_pos (by decide), show (1 : Int).toNat = 1 from rfl, sb_take]
  rfl
theorem minus_at (u : Nat) {r : List S32 × Int × Int} (k : Sc (SB (45 :: DD u)) 1 [mkT (6, SB [45], 0, 0, 0, 0, 0, 0, 0, 0, 0) 0] r) : Sc (SB (45 :: DD u)) 0 [] r := by
  have sz : (SB (45 :: DD u)).size = (DD u).length + 1 := by rw [sb_size]; rfl
  have b0 : bt (SB (45 :: DD u)) ((0 : Nat) : Int) = 45 := by rw [sb_bt]; rfl
  have e : (SB (45 :: DD u)).extract 0 (SB (45 :: DD u)).size = SB (45 :: DD u) := ext_all _ _ (Nat.le_refl _)
  refine Sc.tok 0 [] r (by omega) (by rw [b0]; decide) (by rw [b0]; decide) (by rw [e, minus_tok]) ?_
  rw [e, minus_tok]
  exact k
theorem minus_bt (u : Nat) : digitB (bt (SB (45 :: DD u)) ((1 : Nat) : Int)) = true := by
  rw [show bt (SB (45 :: DD u)) ((1 : Nat) : Int) = bt (SB (DD u)) ((0 : Nat) : Int) by rw [sb_bt, sb_bt]; rfl]
  exact (numT_dd u).digs 0 (dd_pos u)
theorem minus_drop (u : Nat) : (SB (45 :: DD u)).extract 1 (SB (45 :: DD u)).size = SB (DD u) := by rw [sb_drop]; rfl
theorem scan_minus {u : Nat} (h : u < 9223372036854775808) : Sc (SB (45 :: DD u)) 0 [] ([mkT (6, SB [45], 0, 0, 0, 0, 0, 0, 0, 0, 0) 0, mkT (tokA (SB (DD u))) 1], 0, 0) := by
  have sz : (SB (45 :: DD u)).size = (DD u).length + 1 := by rw [sb_size]; rfl
  have p := dd_pos u
  have b := dig_not (minus_bt u)
  refine minus_at u (Sc.tok 1 _ _ (by omega) b.2.1 b.2.2 (by rw [minus_drop, num_plain h]) ?_)
  rw [minus_drop]
  refine Sc.done _ _ ?_
  rw [num_plain h]
  show 1 + (SB (DD u)).size = _
  rw [sb_size, sz]; omega
theorem scan_least : Sc (SB (45 :: DD 9223372036854775808)) 0 [] ([mkT (6, SB [45], 0, 0, 0, 0, 0, 0, 0, 0, 0) 0], 1, 62) := by
  have sz : (SB (45 :: DD 9223372036854775808)).size = (DD 9223372036854775808).length + 1 := by rw [sb_size]; rfl
  have p := dd_pos 9223372036854775808
  have b := dig_not (minus_bt 9223372036854775808)
  have t := num_range (u := 9223372036854775808) (by omega) (by omega)
  have := Sc.err (x := SB (45 :: DD 9223372036854775808)) 1 [mkT (6, SB [45], 0, 0, 0, 0, 0, 0, 0, 0, 0) 0] (by omega) b.2.1 b.2.2 (by rw [minus_drop, t]; decide)
  rw [minus_drop, t] at this
  exact minus_at _ this

end Go.Proofs.YtkfdninngcakpaaDoor.Pure
