/- Own text, for this claim: what Scan answers, as a relation over the text; tokens of a text that is cut off. -/
import Derived.Test.YtkfdninngcakpaaDoorZLexPure
namespace Go.Proofs.YtkfdninngcakpaaDoor.Pure
open Go.RowKit Go.Proofs.YtkfdninngcakpaaDoor.PLex Go.Proofs.YtkfdninngcakpaaDoorW.PrintWords Go.Proofs.YtkfdninngcakpaaDoorW.PrintLast Go.Proofs.YtkfdninngcakpaaDoorW.PrintMore
set_option linter.unusedVariables false
set_option linter.unusedSimpArgs false
abbrev errOf (r : TokR) : Int := r.2.2.2.2.2.2.2.2.2.2
abbrev placeOf (r : TokR) : Int := r.2.2.2.2.2.2.2.2.2.1
theorem bt_zero (s : ByteArray) : bt s 0 = bt s ((0 : Nat) : Int) := rfl
theorem toList_data (s : ByteArray) : s.toList = s.data.toList := ByteArray.toList_eq s
theorem pair_first {s : ByteArray} (h1 : 1 < s.size) (hp : (s.extract 0 2).toList ∈ KP) : runB (bt s 0) = false ∧ runB (bt s 1) = false ∧ bt s 1 ≠ 10 := by
 have e : (s.extract 0 2).toList = s.data.toList.take 2 := by
  rw [toList_data, ByteArray.data_extract, Array.toList_extract, List.extract_eq_take_drop]; rfl
 rw [e] at hp
 have b0 := bt_nat s 0
 have b1 := bt_nat s 1
 have hl := data_length s
 rw [bt_zero, b0, show bt s 1 = bt s ((1 : Nat) : Int) from rfl, b1]
 cases hd : s.data.toList with
 | nil => rw [hd] at hl; simp at hl; omega
 | cons a t =>
  cases t with
  | nil => rw [hd] at hl; simp at hl; omega
  | cons b t =>
   rw [hd] at hp
   simp only [List.take_succ_cons, List.take_zero, KP, List.mem_cons, List.cons.injEq, and_true, List.not_mem_nil, or_false] at hp
   simp only [List.getElem?_cons_zero, List.getElem?_cons_succ, Option.getD_some]
   rcases hp with h | h | h | h | h | h | h <;> obtain ⟨rfl, rfl⟩ := h <;> decide
theorem one_not : ∀ c ∈ ONE, runB c = false := by decide
theorem number_text (u : ByteArray) (h : errOf (numberOf u) = 0) : (numberOf u).2.1 = u := by
 unfold numberOf at h ⊢
 by_cases g1 : (atoiOf (u.extract 0 (digN u)).data.toList).2 ≠ 0
 ·rw [if_pos g1] at h; exact absurd h (by decide)
 ·rw [if_neg g1] at h ⊢
  by_cases g2 : bt u 0 = 48 ∧ (digN u : Int) > 1
  ·rw [if_pos g2] at h; exact absurd h (by decide)
  ·rw [if_neg g2] at h ⊢
   by_cases g3 : (digN u : Int) = u.size
   ·rw [if_pos g3]
   ·rw [if_neg g3] at h ⊢
    by_cases g4 : (digN u : Int) + 1 = u.size ∧ (digN u : Int) ≤ 3 ∧ bt u 0 ≠ 48 ∧ unitOf (bt u (digN u)) > 0
    ·rw [if_pos g4]
    ·rw [if_neg g4] at h; exact absurd h (by decide)
theorem word_text (L : Int → Bool) (q : Int) (u : ByteArray) (h : errOf (wordOf L q u) = 0) : (wordOf L q u).2.1 = u := by
 unfold wordOf at h ⊢
 split at h
 ·exact absurd h (by show ¬ (61 : Int) = 0; decide)
 ·rename_i h1
  split at h
  ·exact absurd h (by show ¬ (6 : Int) = 0; decide)
  ·rename_i h2; rw [if_neg h1, if_neg h2]
theorem dated_parts {s : ByteArray} (h : datedB s = true) : 10 ≤ s.size ∧ (s.size = 10 ∨ runB (bt s 10) = false) ∧ formF s 10 0 = true := by
 unfold datedB at h
 rw [Bool.and_eq_true, Bool.and_eq_true, Bool.or_eq_true] at h
 refine ⟨yN h.1.1, ?_, h.2⟩
 rcases h.1.2 with g | g
 ·exact .inl (yN g)
 ·exact .inr (by simpa using g)
theorem tok_ok (s : ByteArray) (h0 : 0 < s.size) (he : errOf (tokA s) = 0) :
  ∃ m : Nat, 1 ≤ m ∧ m ≤ s.size ∧ (tokA s).2.1 = s.extract 0 m ∧ (m < s.size → runB (bt s ((m - 1 : Nat) : Int)) = true → runB (bt s (m : Int)) = false) ∧ (datedB s = true → m = 10) ∧ (1 < s.size → (s.extract 0 2).toList ∈ KP → 2 ≤ m) := by
 obtain ⟨-, hr, hr3, hr4⟩ := runN_spec s
 unfold tokA at he ⊢
 by_cases hd : datedB s = true
 ·obtain ⟨d1, d2, d3⟩ := dated_parts hd
  rw [if_pos hd] at he ⊢
  refine ⟨10, by omega, d1, ?_, fun h _ => ?_, fun _ => rfl, fun _ _ => by omega⟩
  ·unfold dateR at he ⊢
   split at he
   ·rename_i hx; rw [if_pos hx]
   ·exact absurd he (by decide)
  ·rcases d2 with g | g
   ·omega
   ·exact g
 ·rw [if_neg hd] at he ⊢
  have run : ∀ hb : runB (bt s 0) = true, ∀ T : TokR, T.2.1 = s.extract 0 (runN s) → ∃ m : Nat, 1 ≤ m ∧ m ≤ s.size ∧ T.2.1 = s.extract 0 m ∧ (m < s.size → runB (bt s ((m - 1 : Nat) : Int)) = true → runB (bt s (m : Int)) = false) ∧ (datedB s = true → m = 10) ∧ (1 < s.size → (s.extract 0 2).toList ∈ KP → 2 ≤ m) := by
   intro hb T hT
   exact ⟨runN s, runN_pos h0 hb, hr, hT, fun h _ => hr4 h, fun h => absurd h hd, fun g1 g2 => by have := (pair_first g1 g2).1; rw [hb] at this; cases this⟩
  by_cases g1 : digitB (bt s 0) = true
  ·rw [if_pos g1] at he ⊢
   exact run (run_of_digit g1) _ (number_text _ he)
  ·rw [if_neg g1] at he ⊢
   by_cases g2 : smallB (bt s 0) = true
   ·rw [if_pos g2] at he ⊢
    exact run (run_of_small g2) _ (word_text _ _ _ he)
   ·rw [if_neg g2] at he ⊢
    by_cases g3 : bigB (bt s 0) = true
    ·rw [if_pos g3] at he ⊢
     exact run (run_of_big g3) _ (word_text _ _ _ he)
    ·rw [if_neg g3] at he ⊢
     by_cases g4 : markOf s > 0
     ·rw [if_pos g4] at he ⊢
      have hm := mark_le h0
      refine ⟨(markOf s).toNat, by omega, by omega, rfl, fun h hb => ?_, fun h => absurd h hd, fun p1 p2 => ?_⟩
      ·exfalso
       unfold markOf at g4 h hb
       split at g4
       ·rename_i hp
        rw [if_pos hp] at hb
        have := (pair_first hp.1 hp.2).2.1
        rw [show (((2 : Int).toNat - 1 : Nat) : Int) = 1 from rfl, this] at hb; cases hb
       ·rename_i hp
        rw [if_neg hp] at hb
        split at g4
        ·rename_i ho
         rw [if_pos ho] at hb
         have := one_not _ ho
         rw [show (((1 : Int).toNat - 1 : Nat) : Int) = 0 from rfl, this] at hb; cases hb
        ·omega
      ·unfold markOf; rw [if_pos ⟨p1, p2⟩]; decide
     ·rw [if_neg g4] at he
      exact absurd he (by decide)
theorem bad_ge (L : Int → Bool) (s : ByteArray) : ∀ n (i : Int), i ≤ badAt L s n i := by
 intro n
 induction n with
 | zero => intro i; exact Int.le_refl _
 | succ n ih =>
  intro i
  rw [badAt]
  split
  ·have := ih (i + 1); omega
  ·exact Int.le_refl _
theorem word_place (L : Int → Bool) (q : Int) (u : ByteArray) (h : errOf (wordOf L q u) ≠ 0) (h0 : 0 < u.size) : 0 ≤ placeOf (wordOf L q u) ∧ placeOf (wordOf L q u) < u.size := by
 have hg := bad_ge L u u.size 0
 unfold wordOf at h ⊢
 split
 ·rename_i h1; exact ⟨hg, h1⟩
 ·split
  ·exact ⟨by decide, by show (0 : Int) < _; omega⟩
  ·rename_i h1 h2; rw [if_neg h1, if_neg h2] at h; exact absurd rfl h
theorem number_place (u : ByteArray) : placeOf (numberOf u) = 0 := by
 unfold numberOf
 repeat' split
 all_goals rfl
theorem tok_err (s : ByteArray) (h0 : 0 < s.size) (he : errOf (tokA s) ≠ 0) : 0 ≤ placeOf (tokA s) ∧ placeOf (tokA s) < s.size := by
 obtain ⟨-, hr, hr3, hr4⟩ := runN_spec s
 have z : (0 : Int) ≤ 0 ∧ (0 : Int) < s.size := ⟨by decide, by omega⟩
 unfold tokA at he ⊢
 by_cases hd : datedB s = true
 ·rw [if_pos hd]; unfold dateR; split <;> exact z
 ·rw [if_neg hd] at he ⊢
  by_cases g1 : digitB (bt s 0) = true
  ·rw [if_pos g1, number_place]; exact z
  ·rw [if_neg g1] at he ⊢
   have sz : ∀ hb : runB (bt s 0) = true, 0 < (s.extract 0 (runN s)).size ∧ (s.extract 0 (runN s)).size ≤ s.size := by
    intro hb; have := runN_pos h0 hb; rw [ext_size]; omega
   by_cases g2 : smallB (bt s 0) = true
   ·rw [if_pos g2] at he ⊢
    obtain ⟨z1, z2⟩ := sz (run_of_small g2)
    have := word_place _ _ _ he z1
    omega
   ·rw [if_neg g2] at he ⊢
    by_cases g3 : bigB (bt s 0) = true
    ·rw [if_pos g3] at he ⊢
     obtain ⟨z1, z2⟩ := sz (run_of_big g3)
     have := word_place _ _ _ he z1
     omega
    ·rw [if_neg g3] at he ⊢
     by_cases g4 : markOf s > 0
     ·rw [if_pos g4]; exact z
     ·rw [if_neg g4]; exact z
def mkT (r : TokR) (i : Int) : S32 := ⟨r.1, r.2.1, i, r.2.2.2.1, ⟨r.2.2.2.2.1, r.2.2.2.2.2.1, r.2.2.2.2.2.2.1⟩, ⟨r.2.2.2.2.2.2.2.1, r.2.2.2.2.2.2.2.2.1⟩⟩
def nlP (c : Int) : Bool := !(c == 10)
def nlAt (x : ByteArray) (i : Nat) : Nat := spanAt nlP x (x.size - i) i
theorem nl_spec {x : ByteArray} {i : Nat} (h : i ≤ x.size) : Span nlP x i (nlAt x i) := span_spec nlP x (x.size - i) i (by omega)
inductive Sc (x : ByteArray) : Nat → List S32 → (List S32 × Int × Int) → Prop
 | done (i : Nat) (l : List S32) (h : i = x.size) : Sc x i l (l, 0, 0)
 | blank (i : Nat) (l : List S32) (r : List S32 × Int × Int) (h : i < x.size) (hb : blankB (bt x (i : Int)) = true) (k : Sc x (i + 1) l r) : Sc x i l r
 | hash (i : Nat) (l : List S32) (r : List S32 × Int × Int) (h : i < x.size) (hb : bt x (i : Int) = 35) (k : Sc x (nlAt x i) l r) : Sc x i l r
 | tok (i : Nat) (l : List S32) (r : List S32 × Int × Int) (h : i < x.size) (hb : blankB (bt x (i : Int)) = false) (hh : bt x (i : Int) ≠ 35) (he : errOf (tokA (x.extract i x.size)) = 0)
   (k : Sc x (i + (tokA (x.extract i x.size)).2.1.size) (l ++ [mkT (tokA (x.extract i x.size)) i]) r) : Sc x i l r
 | err (i : Nat) (l : List S32) (h : i < x.size) (hb : blankB (bt x (i : Int)) = false) (hh : bt x (i : Int) ≠ 35) (he : errOf (tokA (x.extract i x.size)) ≠ 0) : Sc x i l (l, (i : Int) + placeOf (tokA (x.extract i x.size)), errOf (tokA (x.extract i x.size)))
theorem blank_not35 {c : Int} (h : c = 35) : blankB c = false := by subst h; decide
theorem tok_len {x : ByteArray} {i : Nat} (h : i < x.size) (he : errOf (tokA (x.extract i x.size)) = 0) : 1 ≤ (tokA (x.extract i x.size)).2.1.size ∧ i + (tokA (x.extract i x.size)).2.1.size ≤ x.size := by
 obtain ⟨m, m1, m2, m3, -⟩ := tok_ok (x.extract i x.size) (by rw [ext_size]; omega) he
 rw [ext_size] at m2
 rw [m3, ext_size, ext_size]; omega
theorem nl_gt {x : ByteArray} {i : Nat} (h : i < x.size) (hb : bt x (i : Int) = 35) : i + 1 ≤ nlAt x i ∧ nlAt x i ≤ x.size := by
 obtain ⟨a, b, c, d⟩ := nl_spec (x := x) (i := i) (by omega)
 refine ⟨?_, b⟩
 rcases Nat.lt_or_ge i (nlAt x i) with g | g
 ·exact g
 ·have e : nlAt x i = i := by omega
  have := d (by omega)
  rw [e, hb] at this; exact absurd this (by decide)
theorem sc_total (x : ByteArray) : ∀ d i l, i ≤ x.size → x.size - i ≤ d → ∃ r, Sc x i l r := by
 intro d
 induction d with
 | zero => intro i l h1 h2; exact ⟨_, Sc.done i l (by omega)⟩
 | succ d ih =>
  intro i l h1 h2
  by_cases h : i = x.size
  ·exact ⟨_, Sc.done i l h⟩
  ·by_cases hb : blankB (bt x (i : Int)) = true
   ·obtain ⟨r, hr⟩ := ih (i + 1) l (by omega) (by omega)
    exact ⟨r, Sc.blank i l r (by omega) hb hr⟩
   ·replace hb := Bool.eq_false_iff.mpr hb
    by_cases hh : bt x (i : Int) = 35
    ·have g := nl_gt (x := x) (i := i) (by omega) hh
     obtain ⟨r, hr⟩ := ih (nlAt x i) l (by omega) (by omega)
     exact ⟨r, Sc.hash i l r (by omega) hh hr⟩
    ·by_cases he : errOf (tokA (x.extract i x.size)) = 0
     ·have g := tok_len (x := x) (i := i) (by omega) he
      obtain ⟨r, hr⟩ := ih (i + (tokA (x.extract i x.size)).2.1.size) (l ++ [mkT (tokA (x.extract i x.size)) i]) (by omega) (by omega)
      exact ⟨r, Sc.tok i l r (by omega) hb hh he hr⟩
     ·exact ⟨_, Sc.err i l (by omega) hb hh he⟩
theorem sc_len {x : ByteArray} {i : Nat} {l : List S32} {r : List S32 × Int × Int} (h : Sc x i l r) (hl : l.length ≤ i) (hi : i ≤ x.size) : r.1.length ≤ x.size := by
 induction h with
 | done i l h => simpa using by omega
 | blank i l r h hb k ih => exact ih (by omega) (by omega)
 | hash i l r h hb k ih => have := nl_gt h hb; exact ih (by omega) (by omega)
 | tok i l r h hb hh he k ih => have := tok_len h he; exact ih (by simp; omega) (by omega)
 | err i l h hb hh he => simpa using by omega
theorem scan_head (x : ByteArray) (i : Nat) (l : List S32) (r : List S32 × Int × Int) (h : i < x.size) (k : Ev (fun k => lex_Scan.j1 k x l (i : Int) (bt x (i : Int)) (blankB (bt x (i : Int)))) r) : Ev (fun k => lex_Scan.l0 k x l (i : Int)) r := by
 refine Ev.step (fun k => lex_Scan.l0.eq_2 ..) (Ev.pos (by omega) (Ev.pos (by omega) ?_))
 by_cases h1 : bt x (i : Int) = 32
 ·refine Ev.pos h1 ?_
  rw [show (bt x (i : Int) == 32) = blankB (bt x (i : Int)) by rw [h1]; decide]; exact k
 ·refine Ev.neg h1 ?_
  by_cases h2 : bt x (i : Int) = 9
  ·refine Ev.pos h2 ?_
   rw [show (bt x (i : Int) == 9) = blankB (bt x (i : Int)) by rw [h2]; decide]; exact k
  ·refine Ev.neg h2 ?_
   by_cases h3 : bt x (i : Int) = 10
   ·refine Ev.pos h3 ?_
    rw [show (bt x (i : Int) == 10) = blankB (bt x (i : Int)) by rw [h3]; decide]; exact k
   ·refine Ev.neg h3 ?_
    rw [show (bt x (i : Int) == 13) = blankB (bt x (i : Int)) by unfold blankB; rw [beq_eq_false_iff_ne.mpr h1, beq_eq_false_iff_ne.mpr h2, beq_eq_false_iff_ne.mpr h3]; rfl]; exact k
theorem scan_l1 (x : ByteArray) (hx : x.size ≤ 65536) (l : List S32) (r : List S32 × Int × Int) (N : Nat) (k : Ev (fun k => lex_Scan.l0 k x l (N : Int)) r) : ∀ n i, i + n = x.size → spanAt nlP x n i = N → Ev (fun k => lex_Scan.l1 k x l (i : Int)) r := by
 intro n
 induction n with
 | zero =>
  intro i hi he
  simp only [spanAt] at he
  refine Ev.step (fun k => lex_Scan.l1.eq_2 ..) (Ev.neg (by omega) ?_)
  rw [he]; exact k
 | succ n ih =>
  intro i hi he
  rw [spanAt] at he
  refine Ev.step (fun k => lex_Scan.l1.eq_2 ..) (Ev.pos (by omega) (Ev.pos (by omega) ?_))
  by_cases h : bt x (i : Int) = 10
  ·rw [if_neg (by rw [h]; decide)] at he
   refine Ev.pos h ?_
   rw [he]; exact k
  ·rw [if_pos (by unfold nlP; rw [beq_eq_false_iff_ne.mpr h]; rfl)] at he
   refine Ev.neg h ?_
   rw [show wrap64 ((i : Int) + 1) = ((i + 1 : Nat) : Int) by rw [w64 (by omega)]; omega]
   exact ih (i + 1) (by omega) he
theorem scan_l0 {x : ByteArray} (hx : x.size ≤ 65536) {i : Nat} {l : List S32} {r : List S32 × Int × Int} (h : Sc x i l r) (hl : l.length ≤ i) (hi : i ≤ x.size) : Ev (fun k => lex_Scan.l0 k x l (i : Int)) r := by
 induction h with
 | done i l h => exact Ev.step (fun k => lex_Scan.l0.eq_2 ..) (Ev.neg (by omega) (Ev.ret rfl))
 | blank i l r h hb k ih =>
  refine scan_head x i l r h ?_
  rw [hb]
  refine Ev.step (fun k => lex_Scan.j1.eq_2 ..) (Ev.pos rfl ?_)
  rw [show wrap64 ((i : Int) + 1) = ((i + 1 : Nat) : Int) by rw [w64 (by omega)]; omega]
  exact ih (by omega) (by omega)
 | hash i l r h hb k ih =>
  have g := nl_gt h hb
  refine scan_head x i l r h ?_
  rw [blank_not35 hb]
  refine Ev.step (fun k => lex_Scan.j1.eq_2 ..) (Ev.neg (by decide) (Ev.pos hb ?_))
  exact scan_l1 x hx l r _ (ih (by omega) (by omega)) (x.size - i) i (by omega) rfl
 | tok i l r h hb hh he k ih =>
  have g := tok_len h he
  refine scan_head x i l r h ?_
  rw [hb]
  refine Ev.step (fun k => lex_Scan.j1.eq_2 ..) (Ev.neg (by decide) (Ev.neg hh (Ev.pos (by omega) (Ev.pos (by omega) ?_))))
  rw [Int.toNat_natCast]
  refine Ev.bind (token_ev (x.extract i x.size) (by rw [ext_size]; omega) (by rw [ext_size]; omega)) (Ev.pos he (Ev.pos (by omega) ?_))
  rw [show wrap64 ((i : Int) + ((tokA (x.extract i x.size)).2.1.size : Int)) = ((i + (tokA (x.extract i x.size)).2.1.size : Nat) : Int) by rw [w64 (by omega)]; omega]
  exact ih (by simp; omega) (by omega)
 | err i l h hb hh he =>
  have g := tok_err (x.extract i x.size) (by rw [ext_size]; omega) he
  rw [ext_size] at g
  refine scan_head x i l _ h ?_
  rw [hb]
  refine Ev.step (fun k => lex_Scan.j1.eq_2 ..) (Ev.neg (by decide) (Ev.neg hh (Ev.pos (by omega) (Ev.pos (by omega) ?_))))
  rw [Int.toNat_natCast]
  refine Ev.bind (token_ev (x.extract i x.size) (by rw [ext_size]; omega) (by rw [ext_size]; omega)) (Ev.neg he (Ev.ret ?_))
  have hw : wrap64 ((i : Int) + placeOf (tokA (x.extract i x.size))) = (i : Int) + placeOf (tokA (x.extract i x.size)) := w64 (by omega)
  show (l, wrap64 ((i : Int) + placeOf (tokA (x.extract i x.size))), errOf (tokA (x.extract i x.size))) = _
  rw [hw]
theorem scan_ev (x : ByteArray) (hx : x.size ≤ 65536) (r : List S32 × Int × Int) (h : Sc x 0 [] r) : Ev (fun k => lex_Scan.f k x) r := by
 unfold lex_Scan.f
 exact Ev.neg (by omega) (scan_l0 hx h (Nat.le_refl _) (Nat.zero_le _))
theorem sameT_l0 (l : List S32) (hl : l.length ≤ 1000000000000) : ∀ (d i : Nat), i + d = l.length → Ev (fun k => payofflaw06_sameTokens.l0 k l l (i : Int)) true := by
 intro d
 induction d with
 | zero => intro i h; exact Ev.step (fun k => payofflaw06_sameTokens.l0.eq_2 ..) (Ev.neg (by omega) (Ev.ret rfl))
 | succ d ih =>
  intro i h
  refine Ev.step (fun k => payofflaw06_sameTokens.l0.eq_2 ..) (Ev.pos (by omega) (Ev.pos (by omega) (Ev.pos (by omega) (Ev.neg (by simp) ?_))))
  rw [show wrap64 ((i : Int) + 1) = ((i + 1 : Nat) : Int) by rw [w64 (by omega)]; omega]
  exact ih (i + 1) (by omega)
theorem sameT (l : List S32) (hl : l.length ≤ 1000000000000) : Ev (fun k => payofflaw06_sameTokens.f k l l) true := Ev.pos rfl (sameT_l0 l hl l.length 0 (by omega))
end Go.Proofs.YtkfdninngcakpaaDoor.Pure
