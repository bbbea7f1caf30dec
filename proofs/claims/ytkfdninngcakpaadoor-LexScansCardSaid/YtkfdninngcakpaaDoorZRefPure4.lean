/- Own text, for this claim: the reference's scanner answers as the program's: plain laws (4). -/
import Derived.Test.YtkfdninngcakpaaDoorZQLexrs
import Derived.Test.YtkfdninngcakpaaDoorZRefPure3
namespace Go.Proofs.YtkfdninngcakpaaDoor.Pure
open Go.RowKit Go.Proofs.YtkfdninngcakpaaDoor.PLex Go.Proofs.YtkfdninngcakpaaDoorW.PrintWords Go.Proofs.YtkfdninngcakpaaDoorW.PrintLast Go.Proofs.YtkfdninngcakpaaDoorW.PrintMore
set_option linter.unusedVariables false
set_option linter.unusedSimpArgs false
theorem rblank_l1 (x : ByteArray) (hx : x.size ≤ 65536) (N : Nat) (r : Int) (k : Ev (fun k => payoffref06_blanks.l0 k x (N : Int)) r) : ∀ n i, i + n = x.size → spanAt nlP x n i = N → Ev (fun k => payoffref06_blanks.l1 k x (i : Int)) r := by
 intro n
 induction n with
 | zero =>
  intro i hi he
  simp only [spanAt] at he
  refine Ev.step (fun k => payoffref06_blanks.l1.eq_2 ..) (Ev.neg (by omega) ?_)
  rw [he]; exact k
 | succ n ih =>
  intro i hi he
  rw [spanAt] at he
  refine Ev.step (fun k => payoffref06_blanks.l1.eq_2 ..) (Ev.pos (by omega) (Ev.pos (by omega) ?_))
  by_cases h : bt x (i : Int) = 10
  ·rw [if_neg (by rw [h]; decide)] at he
   refine Ev.pos h ?_
   rw [he]; exact k
  ·rw [if_pos (by unfold nlP; rw [beq_eq_false_iff_ne.mpr h]; rfl)] at he
   refine Ev.neg h ?_
   rw [w64s i (by omega)]
   exact ih (i + 1) (by omega) he
theorem rblank_stay (x : ByteArray) (i : Nat) (h : i < x.size) (hb : blankB (bt x (i : Int)) = false) (hh : bt x (i : Int) ≠ 35) : Ev (fun k => payoffref06_blanks.l0 k x (i : Int)) (i : Int) := by
 unfold blankB at hb
 simp only [Bool.or_eq_false_iff, beq_eq_false_iff_ne, ne_eq] at hb
 exact Ev.step (fun k => payoffref06_blanks.l0.eq_2 ..) (Ev.pos (by omega) (Ev.pos (by omega) (Ev.neg hh (Ev.neg hb.1.1.1 (Ev.neg hb.1.1.2 (Ev.neg hb.1.2 (Ev.neg hb.2 (Ev.ret rfl))))))))
theorem rT_ok {i : Int} {r : TokR} (h : errOf r = 0) : rT i r = (r.1, r.2.1, i, r.2.2.2.1, r.2.2.2.2.1, r.2.2.2.2.2.1, r.2.2.2.2.2.2.1, r.2.2.2.2.2.2.2.1, r.2.2.2.2.2.2.2.2.1, 0, 0) := by unfold rT; rw [if_pos h]
theorem rT_bad {i : Int} {r : TokR} (h : errOf r ≠ 0) : rT i r = errAt (i + placeOf r) (errOf r) := by unfold rT; rw [if_neg h]
theorem rtok_f {x : ByteArray} {i : Nat} (hx : x.size ≤ 65536) (h : i < x.size) : payoffref06_token.f x (i : Int) = some (rT (i : Int) (tokA (x.extract i x.size))) := by
 unfold payoffref06_token.f
 rw [if_pos ⟨by omega, by omega, hx⟩, Int.toNat_natCast]
theorem rscan_l0 {x : ByteArray} (hx : x.size ≤ 65536) {i : Nat} {l : List S32} {r : List S32 × Int × Int} (h : Sc x i l r) (hl : l.length ≤ i) (hi : i ≤ x.size) : ∃ j : Nat, Ev (fun k => payoffref06_blanks.l0 k x (i : Int)) (j : Int) ∧ Ev (fun k => payoffref06_Scan.l0 k x l (j : Int)) r := by
 induction h with
 | done i l h =>
  exact ⟨i, Ev.step (fun k => payoffref06_blanks.l0.eq_2 ..) (Ev.neg (by omega) (Ev.ret rfl)), Ev.step (fun k => payoffref06_Scan.l0.eq_2 ..) (Ev.neg (by omega) (Ev.ret rfl))⟩
 | blank i l r h hb k ih =>
  obtain ⟨j, hj, hs⟩ := ih (by omega) (by omega)
  refine ⟨j, ?_, hs⟩
  unfold blankB at hb
  simp only [Bool.or_eq_true, beq_iff_eq] at hb
  refine Ev.step (fun k => payoffref06_blanks.l0.eq_2 ..) (Ev.pos (by omega) (Ev.pos (by omega) (Ev.neg (by omega) ?_)))
  rw [w64s i (by omega)]
  by_cases h1 : bt x (i : Int) = 32
  ·exact Ev.pos h1 hj
  refine Ev.neg h1 ?_
  by_cases h2 : bt x (i : Int) = 9
  ·exact Ev.pos h2 hj
  refine Ev.neg h2 ?_
  by_cases h3 : bt x (i : Int) = 10
  ·exact Ev.pos h3 hj
  exact Ev.neg h3 (Ev.pos (by omega) hj)
 | hash i l r h hb k ih =>
  have g := nl_gt h hb
  obtain ⟨j, hj, hs⟩ := ih (by omega) (by omega)
  refine ⟨j, ?_, hs⟩
  refine Ev.step (fun k => payoffref06_blanks.l0.eq_2 ..) (Ev.pos (by omega) (Ev.pos (by omega) (Ev.pos hb ?_)))
  exact rblank_l1 x hx (nlAt x i) (j : Int) hj (x.size - i) i (by omega) rfl
 | tok i l r h hb hh he k ih =>
  have g := tok_len h he
  obtain ⟨j, hj, hs⟩ := ih (by simp; omega) (by omega)
  refine ⟨i, rblank_stay x i h hb hh, ?_⟩
  refine Ev.step (fun k => payoffref06_Scan.l0.eq_2 ..) (Ev.pos (by omega) (Ev.call (rtok_f hx h) ?_))
  rw [rT_ok he]
  refine Ev.pos rfl (Ev.pos (by omega) ?_)
  rw [show wrap64 ((i : Int) + ((tokA (x.extract i x.size)).2.1.size : Int)) = ((i + (tokA (x.extract i x.size)).2.1.size : Nat) : Int) by rw [w64 (by omega)]; omega]
  exact Ev.bind hj hs
 | err i l h hb hh he =>
  refine ⟨i, rblank_stay x i h hb hh, ?_⟩
  refine Ev.step (fun k => payoffref06_Scan.l0.eq_2 ..) (Ev.pos (by omega) (Ev.call (rtok_f hx h) ?_))
  rw [rT_bad he]
  exact Ev.neg he (Ev.ret rfl)
theorem rscan_ev (x : ByteArray) (hx : x.size ≤ 65536) (r : List S32 × Int × Int) (h : Sc x 0 [] r) : Ev (fun k => payoffref06_Scan.f k x) r := by
 unfold payoffref06_Scan.f
 obtain ⟨j, hj, hs⟩ := rscan_l0 hx h (Nat.le_refl _) (Nat.zero_le _)
 exact Ev.neg (by omega) (Ev.bind hj hs)
end Go.Proofs.YtkfdninngcakpaaDoor.Pure
