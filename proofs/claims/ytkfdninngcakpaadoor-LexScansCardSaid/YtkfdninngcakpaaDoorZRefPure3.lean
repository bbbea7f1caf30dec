/- Own text, for this claim: the reference's scanner: plain laws (3). -/
import Derived.Test.YtkfdninngcakpaaDoorZRefPure2
import Derived.Test.YtkfdninngcakpaaDoorZQLexrk
namespace Go.Proofs.YtkfdninngcakpaaDoor.Pure
open Go.RowKit Go.Proofs.YtkfdninngcakpaaDoor.PLex Go.Proofs.YtkfdninngcakpaaDoorW.PrintWords Go.Proofs.YtkfdninngcakpaaDoorW.PrintLast Go.Proofs.YtkfdninngcakpaaDoorW.PrintMore
set_option linter.unusedVariables false
set_option linter.unusedSimpArgs false
theorem ev_ex {α : Type} {f : Nat → Option α} {r : α} (h : Ev f r) : ∃ k, f k = some r := by
 obtain ⟨n, hn⟩ := h
 exact ⟨n, hn n (Nat.le_refl n)⟩
theorem form_parts {x : ByteArray} {i : Nat} (h : i + 10 ≤ x.size) : formF (x.extract i x.size) 10 0 = true ↔ bt x ((i + 4 : Nat) : Int) = 45 ∧ bt x ((i + 7 : Nat) : Int) = 45 ∧ allD (x.extract i (i + 4)) = true ∧ allD (x.extract (i + 5) (i + 7)) = true ∧ allD (x.extract (i + 8) (i + 10)) = true := by
 rw [form_iff, allD_ext x i (i + 4) (by omega) (by omega), allD_ext x (i + 5) (i + 7) (by omega) (by omega), allD_ext x (i + 8) (i + 10) (by omega) (by omega)]
 have dash : ∀ j : Nat, j < 10 → (j = 4 ∨ j = 7) → (okD (x.extract i x.size) j = true ↔ bt x ((i + j : Nat) : Int) = 45) := by
  intro j hj h47
  rw [okD, if_pos h47, bt_from x i j (by omega), beq_iff_eq]
 have dig : ∀ j : Nat, j < 10 → ¬ (j = 4 ∨ j = 7) → (okD (x.extract i x.size) j = true ↔ digitB (bt x ((i + j : Nat) : Int)) = true) := by
  intro j hj h47
  rw [okD, if_neg h47, bt_from x i j (by omega)]
 constructor
 ·intro g
  refine ⟨(dash 4 (by omega) (.inl rfl)).1 (g 4 (by omega)), (dash 7 (by omega) (.inr rfl)).1 (g 7 (by omega)), ?_, ?_, ?_⟩
  all_goals
   intro j h1 h2
   have := (dig (j - i) (by omega) (by omega)).1 (g (j - i) (by omega))
   rwa [show i + (j - i) = j by omega] at this
 ·rintro ⟨g4, g7, ga, gb, gc⟩ j hj
  by_cases e4 : j = 4
  ·subst e4; exact (dash 4 hj (.inl rfl)).2 g4
  by_cases e7 : j = 7
  ·subst e7; exact (dash 7 hj (.inr rfl)).2 g7
  refine (dig j hj (by omega)).2 ?_
  by_cases l4 : j < 4
  ·exact ga (i + j) (by omega) (by omega)
  by_cases l7 : j < 7
  ·exact gb (i + j) (by omega) (by omega)
  ·exact gc (i + j) (by omega) (by omega)
theorem rdated_ev (x : ByteArray) (i : Nat) (hx : x.size ≤ 65536) (hi : i < x.size) : Ev (fun k => payoffref06_dated.f k x (i : Int)) (datedB (x.extract i x.size)) := by
 have w4 : wrap64 ((i : Int) + 4) = ((i + 4 : Nat) : Int) := by rw [w64 (by omega)]; omega
 have w5 : wrap64 ((i : Int) + 5) = ((i + 5 : Nat) : Int) := by rw [w64 (by omega)]; omega
 have w7 : wrap64 ((i : Int) + 7) = ((i + 7 : Nat) : Int) := by rw [w64 (by omega)]; omega
 have w8 : wrap64 ((i : Int) + 8) = ((i + 8 : Nat) : Int) := by rw [w64 (by omega)]; omega
 have w10 : wrap64 ((i : Int) + 10) = ((i + 10 : Nat) : Int) := by rw [w64 (by omega)]; omega
 have hsz : (x.extract i x.size).size = x.size - i := by rw [ext_size]; omega
 unfold payoffref06_dated.f
 rw [w10, w4, w7]
 by_cases h : x.size < i + 10
 ·refine Ev.pos (by omega) (Ev.step (fun k => payoffref06_dated.j0.eq_2 ..) (Ev.pos rfl (Ev.ret ?_)))
  unfold datedB
  rw [yM (show ¬ 10 ≤ (x.extract i x.size).size by omega)]; rfl
 have hF := form_parts (x := x) (i := i) (by omega)
 have hD : datedB (x.extract i x.size) = ((decide (x.size = i + 10) || !runB (bt (x.extract i x.size) 10)) && formF (x.extract i x.size) 10 0) := by
  unfold datedB
  rw [yL (show 10 ≤ (x.extract i x.size).size by omega), Bool.true_and]
  congr 2
  rw [Bool.eq_iff_iff, decide_eq_true_iff, decide_eq_true_iff]; omega
 have no : formF (x.extract i x.size) 10 0 ≠ true → Ev (fun k => payoffref06_dated.j0 k x (i : Int) true) (datedB (x.extract i x.size)) := by
  intro g
  refine Ev.step (fun k => payoffref06_dated.j0.eq_2 ..) (Ev.pos rfl (Ev.ret ?_))
  rw [hD, Bool.eq_false_iff.mpr g, Bool.and_false]
 refine Ev.neg (by omega) (Ev.pos (by omega) (Ev.pos (by omega) ?_))
 by_cases h4 : bt x ((i + 4 : Nat) : Int) = 45
 ·refine Ev.pos h4 (Ev.pos (by omega) (Ev.pos (by omega) ?_))
  by_cases h7 : bt x ((i + 7 : Nat) : Int) = 45
  ·rw [show (bt x ((i + 7 : Nat) : Int) != 45) = false from bne_eq_false_iff_eq.mpr h7]
   refine Ev.step (fun k => payoffref06_dated.j0.eq_2 ..) (Ev.neg (by decide) ?_)
   rw [w10]
   have J : Ev (fun k => payoffref06_dated.j1 k x (i : Int) false) (formF (x.extract i x.size) 10 0) := by
    refine Ev.step (fun k => payoffref06_dated.j1.eq_2 ..) (Ev.neg (by decide) ?_)
    rw [w4, w5, w7, w8, w10]
    simp only [Int.toNat_natCast]
    have s1 := rdigits_ev (x.extract i (i + 4)) (by rw [ext_size]; omega)
    have s2 := rdigits_ev (x.extract (i + 5) (i + 7)) (by rw [ext_size]; omega)
    have s3 := rdigits_ev (x.extract (i + 8) (i + 10)) (by rw [ext_size]; omega)
    refine Ev.pos (by omega) (Ev.pos (by omega) (Ev.pos (by omega) (Ev.bind s1 ?_)))
    by_cases g1 : allD (x.extract i (i + 4)) = true
    ·refine Ev.pos g1 (Ev.pos (by omega) (Ev.pos (by omega) (Ev.pos (by omega) (Ev.bind s2 ?_))))
     by_cases g2 : allD (x.extract (i + 5) (i + 7)) = true
     ·refine Ev.pos g2 (Ev.pos (by omega) (Ev.pos (by omega) (Ev.pos (by omega) (Ev.bind s3 (Ev.ret ?_)))))
      rw [Bool.eq_iff_iff, hF]
      exact ⟨fun g => ⟨h4, h7, g1, g2, g⟩, fun g => g.2.2.2.2⟩
     ·exact Ev.neg g2 (Ev.ret (Bool.eq_false_iff.mpr (fun g => g2 (hF.1 g).2.2.2.1)).symm)
    ·exact Ev.neg g1 (Ev.ret (Bool.eq_false_iff.mpr (fun g => g1 (hF.1 g).2.2.1)).symm)
   by_cases h10 : i + 10 < x.size
   ·refine Ev.pos (by omega) (Ev.pos (by omega) (Ev.pos (by omega) (Ev.call (rruns_is _) ?_)))
    have hb : bt (x.extract i x.size) 10 = bt x ((i + 10 : Nat) : Int) := bt_from x i 10 h10
    rw [hD, hb, yM (show ¬ x.size = i + 10 by omega), Bool.false_or]
    cases hr : runB (bt x ((i + 10 : Nat) : Int)) with
    | true => exact Ev.step (fun k => payoffref06_dated.j1.eq_2 ..) (Ev.pos rfl (Ev.ret rfl))
    | false => rw [Bool.not_false, Bool.true_and]; exact J
   ·refine Ev.neg (by omega) ?_
    rw [hD, yL (show x.size = i + 10 by omega), Bool.true_or, Bool.true_and]
    exact J
  ·rw [show (bt x ((i + 7 : Nat) : Int) != 45) = true from bne_iff_ne.mpr h7]
   exact no (fun g => h7 (hF.1 g).2.1)
 ·exact Ev.neg h4 (no (fun g => h4 (hF.1 g).1))
theorem rlength_is (y m : Int) : ∃ L, payoffref06_length.f y m = some L ∧ (1 ≤ m → m ≤ 12 → L = lenOf y m) := by
 unfold payoffref06_length.f lenOf leapB
 by_cases h2 : m = 2
 ·subst h2
  rw [if_pos rfl]
  by_cases a : Int.tmod y 4 = 0
  ·rw [if_pos a, if_pos a]
   by_cases b : Int.tmod y 100 = 0
   ·rw [if_pos b, if_pos b]
    by_cases c : Int.tmod y 400 = 0
    ·rw [if_pos c, beq_iff_eq.mpr c]; exact ⟨29, rfl, fun _ _ => rfl⟩
    ·rw [if_neg c, beq_eq_false_iff_ne.mpr c]; exact ⟨28, rfl, fun _ _ => rfl⟩
   ·rw [if_neg b, if_neg b]; exact ⟨29, rfl, fun _ _ => rfl⟩
  ·rw [if_neg a, if_neg a]; exact ⟨28, rfl, fun _ _ => rfl⟩
 ·rw [if_neg h2]
  have e0 : (if m = 2 ∧ (if Int.tmod y 4 = 0 then (if Int.tmod y 100 = 0 then (Int.tmod y 400) == 0 else true) else false) = true then (29 : Int) else monthsL.getD (m - 1).toNat 0) = monthsL.getD (m - 1).toNat 0 := if_neg (fun g => h2 g.1)
  rw [e0]
  by_cases h4 : m = 4
  ·subst h4; exact ⟨30, rfl, fun _ _ => rfl⟩
  rw [if_neg h4]
  by_cases h6 : m = 6
  ·subst h6; exact ⟨30, rfl, fun _ _ => rfl⟩
  rw [if_neg h6]
  by_cases h9 : m = 9
  ·subst h9; exact ⟨30, rfl, fun _ _ => rfl⟩
  rw [if_neg h9]
  by_cases h11 : m = 11
  ·subst h11; exact ⟨30, rfl, fun _ _ => rfl⟩
  rw [if_neg h11]
  refine ⟨31, rfl, fun g1 g2 => ?_⟩
  have : m = 1 ∨ m = 3 ∨ m = 5 ∨ m = 7 ∨ m = 8 ∨ m = 10 ∨ m = 12 := by omega
  rcases this with rfl | rfl | rfl | rfl | rfl | rfl | rfl <;> rfl
def TWO : List ByteArray := [(⟨#[46, 46]⟩ : ByteArray), (⟨#[60, 61]⟩ : ByteArray), (⟨#[62, 61]⟩ : ByteArray), (⟨#[61, 61]⟩ : ByteArray), (⟨#[33, 61]⟩ : ByteArray), (⟨#[38, 38]⟩ : ByteArray), (⟨#[124, 124]⟩ : ByteArray)]
def ONEs : ByteArray := (⟨#[40, 41, 123, 125, 91, 93, 44, 59, 61, 43, 45, 42, 47, 37, 60, 62, 33, 63, 58]⟩ : ByteArray)
theorem two_at (j : Nat) (hj : j < 7) : (rdOf ByteArray.empty TWO (j : Int)).toList = KP.getD j [] := by
 have : j = 0 ∨ j = 1 ∨ j = 2 ∨ j = 3 ∨ j = 4 ∨ j = 5 ∨ j = 6 := by omega
 rcases this with rfl | rfl | rfl | rfl | rfl | rfl | rfl <;> (rw [ByteArray.toList_eq]; rfl)
theorem one_at : ∀ j : Nat, j < 19 → bt ONEs (j : Int) = ONE.getD j 0 := by decide
theorem one_ext (s : ByteArray) (j : Nat) (h : j < s.data.toList.length) : (s.extract j (j + 1)).data.toList = [s.data.toList[j]] := by
 rw [ByteArray.data_extract, Array.toList_extract, List.extract_eq_take_drop, Nat.add_sub_cancel_left, List.drop_eq_getElem_cons h]
 rfl
theorem one_same {s t : ByteArray} {i j : Nat} (hi : i < s.size) (hj : j < t.size) (h : bt s (i : Int) = bt t (j : Int)) : t.extract j (j + 1) = s.extract i (i + 1) := by
 have li : i < s.data.toList.length := by rw [data_length]; exact hi
 have lj : j < t.data.toList.length := by rw [data_length]; exact hj
 rw [bt_nat, bt_nat, List.getElem?_eq_getElem li, List.getElem?_eq_getElem lj, Option.getD_some, Option.getD_some] at h
 apply ba_ext
 rw [one_ext s i li, one_ext t j lj, UInt8.toNat_inj.1 (Int.ofNat_inj.1 h)]
def markT (s : ByteArray) : ByteArray := if markOf s > 0 then s.extract 0 (markOf s).toNat else ⟨#[]⟩
theorem rmarks_ev (x : ByteArray) (i : Nat) (hx : x.size ≤ 65536) (hi : i < x.size) : Ev (fun k => payoffref06_marks.f k x (i : Int)) (markT (x.extract i x.size)) := by
 have w2 : wrap64 ((i : Int) + 2) = ((i + 2 : Nat) : Int) := by rw [w64 (by omega)]; omega
 have hsz : (x.extract i x.size).size = x.size - i := by rw [ext_size]; omega
 have h0 : bt (x.extract i x.size) 0 = bt x (i : Int) := bt_from x i 0 (by omega)
 obtain ⟨s, hs⟩ : ∃ s, s = x.extract i x.size := ⟨_, rfl⟩
 have e2 : x.extract i (i + 2) = s.extract 0 2 ∨ ¬ i + 2 ≤ x.size := by
  by_cases g : i + 2 ≤ x.size
  ·refine .inl ?_
   rw [hs, ext_ext, Nat.min_eq_left g]; rfl
  ·exact .inr g
 have L1 : ¬ (1 < s.size ∧ (s.extract 0 2).toList ∈ KP) → Ev (fun k => payoffref06_marks.l1 k x (i : Int) ONEs 0) (markT s) := by
  intro hno
  have hm : markOf s = if bt x (i : Int) ∈ ONE then 1 else 0 := by
   unfold markOf; rw [if_neg hno, hs, h0]
  have key : ∀ n j : Nat, j + n = 19 → (∀ q : Nat, q < j → bt x (i : Int) ≠ bt ONEs (q : Int)) → Ev (fun k => payoffref06_marks.l1 k x (i : Int) ONEs (j : Int)) (markT s) := by
   intro n
   induction n with
   | zero =>
    intro j hj hq
    have hnot : bt x (i : Int) ∉ ONE := by
     intro g
     obtain ⟨q, hql, hqe⟩ := List.mem_iff_getElem.1 g
     have hq19 : q < 19 := hql
     refine hq q (by omega) ?_
     rw [one_at q hq19, List.getD_eq_getElem?_getD, List.getElem?_eq_getElem hql, Option.getD_some, hqe]
    refine Ev.step (fun k => payoffref06_marks.l1.eq_2 ..) (Ev.neg ?_ (Ev.ret ?_))
    ·show ¬ (j : Int) < ((19 : Nat) : Int); omega
    ·unfold markT; rw [hm, if_neg hnot]; rfl
   | succ n ih =>
    intro j hj hq
    refine Ev.step (fun k => payoffref06_marks.l1.eq_2 ..) (Ev.pos ?_ (Ev.pos (by omega) (Ev.pos (by omega) (Ev.pos (by omega) ?_))))
    ·show (j : Int) < ((19 : Nat) : Int); omega
    by_cases g : bt x (i : Int) = bt ONEs (j : Int)
    ·refine Ev.pos g ?_
     rw [show wrap64 ((j : Int) + 1) = ((j + 1 : Nat) : Int) by rw [w64 (by omega)]; omega]
     refine Ev.pos (by omega) (Ev.pos ?_ (Ev.ret ?_))
     ·show ((j + 1 : Nat) : Int) ≤ ((19 : Nat) : Int); omega
     ·rw [Int.toNat_natCast, Int.toNat_natCast, one_same (s := x) (t := ONEs) hi (show j < 19 by omega) g]
      have hin : bt x (i : Int) ∈ ONE := by
       rw [g, one_at j (by omega)]
       have hl : j < ONE.length := show j < 19 by omega
       rw [List.getD_eq_getElem?_getD, List.getElem?_eq_getElem hl, Option.getD_some]
       exact List.getElem_mem hl
      unfold markT
      rw [hm, if_pos hin, if_pos (by decide), hs]
      show x.extract i (i + 1) = (x.extract i x.size).extract 0 1
      rw [ext_ext, Nat.min_eq_left (by omega)]; rfl
    ·refine Ev.neg g ?_
     rw [show wrap64 ((j : Int) + 1) = ((j + 1 : Nat) : Int) by rw [w64 (by omega)]; omega]
     refine ih (j + 1) (by omega) (fun q hql => ?_)
     by_cases e : q = j
     ·subst e; exact g
     ·exact hq q (by omega)
  exact key 19 0 rfl (fun q hq => absurd hq (Nat.not_lt_zero q))
 have key : ∀ n j : Nat, j + n = 7 → (∀ q : Nat, q < j → i + 2 ≤ x.size → (s.extract 0 2).toList ≠ KP.getD q []) → Ev (fun k => payoffref06_marks.l0 k x (i : Int) TWO (j : Int)) (markT s) := by
  intro n
  induction n with
  | zero =>
   intro j hj hq
   refine Ev.step (fun k => payoffref06_marks.l0.eq_2 ..) (Ev.neg ?_ (L1 ?_))
   ·show ¬ (j : Int) < ((7 : Nat) : Int); omega
   ·rintro ⟨g1, g2⟩
    obtain ⟨q, hql, hqe⟩ := List.mem_iff_getElem.1 g2
    have hq7 : q < 7 := hql
    refine hq q (by omega) (by rw [hs] at g1; omega) ?_
    rw [List.getD_eq_getElem?_getD, List.getElem?_eq_getElem hql, Option.getD_some, hqe]
  | succ n ih =>
   intro j hj hq
   have nxt : (i + 2 ≤ x.size → (s.extract 0 2).toList ≠ KP.getD j []) → Ev (fun k => payoffref06_marks.l0 k x (i : Int) TWO (wrap64 ((j : Int) + 1))) (markT s) := by
    intro g
    rw [show wrap64 ((j : Int) + 1) = ((j + 1 : Nat) : Int) by rw [w64 (by omega)]; omega]
    refine ih (j + 1) (by omega) (fun q hql => ?_)
    by_cases e : q = j
    ·subst e; exact g
    ·exact hq q (by omega)
   refine Ev.step (fun k => payoffref06_marks.l0.eq_2 ..) (Ev.pos ?_ ?_)
   ·show (j : Int) < ((7 : Nat) : Int); omega
   rw [w2]
   by_cases g : i + 2 ≤ x.size
   ·refine Ev.pos (by omega) (Ev.pos (by omega) (Ev.pos (by omega) (Ev.pos (by omega) (Ev.pos (by omega) ?_))))
    rw [Int.toNat_natCast, Int.toNat_natCast]
    have e3 : x.extract i (i + 2) = s.extract 0 2 := by
     rcases e2 with e2 | e2
     ·exact e2
     ·exact absurd g e2
    rw [e3, two_at j (by omega)]
    by_cases m : (s.extract 0 2).toList = KP.getD j []
    ·refine Ev.pos m (Ev.ret ?_)
     have hr : rdOf ByteArray.empty TWO (j : Int) = s.extract 0 2 := by
      apply ba_ext
      rw [← toList_data, ← toList_data, two_at j (by omega), m]
     rw [hr]
     have hl : j < KP.length := show j < 7 by omega
     have hin : 1 < s.size ∧ (s.extract 0 2).toList ∈ KP := by
      refine ⟨by rw [hs]; omega, ?_⟩
      rw [m, List.getD_eq_getElem?_getD, List.getElem?_eq_getElem hl, Option.getD_some]
      exact List.getElem_mem hl
     have hmk : markOf s = 2 := by unfold markOf; rw [if_pos hin]
     unfold markT
     rw [hmk, if_pos (by decide)]
     rfl
    ·exact Ev.neg m (nxt (fun _ => m))
   ·exact Ev.neg (by omega) (nxt (fun g' => absurd g' g))
 rw [← hs]
 exact key 7 0 rfl (fun q hq => absurd hq (Nat.not_lt_zero q))
theorem rtok_any (x : ByteArray) (i : Nat) (hx : x.size ≤ 65536) (hi : i < x.size) (w : World) : Calls Tryd.prog 23 #[.string x, .int .i64 (i : Int)] w fun e w' => e = .returned (tokV (rT (i : Int) (tokA (x.extract i x.size)))) ∧ Below w.heap.size w w' := by
 have hsz : (x.extract i x.size).size = x.size - i := by rw [ext_size]; omega
 have hdt := ev_ex (rdated_ev x i hx hi)
 have hrun := ev_ex (rrun_ev x i (by omega) (by omega))
 have hmk := ev_ex (rmarks_ev x i hx hi)
 obtain ⟨T, hT⟩ : ∃ T, T = rT (i : Int) (tokA (x.extract i x.size)) := ⟨_, rfl⟩
 obtain ⟨s, hs⟩ : ∃ s, s = x.extract i x.size := ⟨_, rfl⟩
 rw [← hs] at hdt hrun hmk hT hsz ⊢
 rw [← hT]
 by_cases hd : datedB s = true
 ·obtain ⟨d1, -, d3⟩ := dated_parts hd
  have h10 : i + 10 ≤ x.size := by omega
  rw [hd] at hdt
  rw [hs] at d3
  obtain ⟨-, -, a1, a2, a3⟩ := (form_parts h10).1 d3
  obtain ⟨-, b1⟩ := (allD_iff _).1 a1
  obtain ⟨-, b2⟩ := (allD_iff _).1 a2
  obtain ⟨-, b3⟩ := (allD_iff _).1 a3
  have n1 := rnumber_ev (x.extract i (i + 4)) (by rw [ext_size]; omega) b1
  have n2 := rnumber_ev (x.extract (i + 5) (i + 7)) (by rw [ext_size]; omega) b2
  have n3 := rnumber_ev (x.extract (i + 8) (i + 10)) (by rw [ext_size]; omega) b3
  have sub : ∀ j : Nat, j < 10 → bt (s.extract 0 10) (j : Int) = bt x ((i + j : Nat) : Int) := fun j hj => by
   rw [bt_ext0 s 10 j hj, hs]; exact bt_from x i j (by omega)
  have eY : numV (x.extract i (i + 4)) = dateY (s.extract 0 10) := by
   rw [numV_4 (by rw [ext_size]; omega) b1]
   unfold dateY
   rw [show bt (x.extract i (i + 4)) 0 = bt (s.extract 0 10) 0 from (bt_ext x i (i + 4) 0 (by omega)).trans (sub 0 (by omega)).symm,
    show bt (x.extract i (i + 4)) 1 = bt (s.extract 0 10) 1 from (bt_ext x i (i + 4) 1 (by omega)).trans (sub 1 (by omega)).symm,
    show bt (x.extract i (i + 4)) 2 = bt (s.extract 0 10) 2 from (bt_ext x i (i + 4) 2 (by omega)).trans (sub 2 (by omega)).symm,
    show bt (x.extract i (i + 4)) 3 = bt (s.extract 0 10) 3 from (bt_ext x i (i + 4) 3 (by omega)).trans (sub 3 (by omega)).symm]
  have eM : numV (x.extract (i + 5) (i + 7)) = dateM (s.extract 0 10) := by
   rw [numV_2 (by rw [ext_size]; omega) b2]
   unfold dateM
   rw [show bt (x.extract (i + 5) (i + 7)) 0 = bt (s.extract 0 10) 5 from (bt_ext x (i + 5) (i + 7) 0 (by omega)).trans (sub 5 (by omega)).symm,
    show bt (x.extract (i + 5) (i + 7)) 1 = bt (s.extract 0 10) 6 from (bt_ext x (i + 5) (i + 7) 1 (by omega)).trans (sub 6 (by omega)).symm]
  have eD : numV (x.extract (i + 8) (i + 10)) = dateD (s.extract 0 10) := by
   rw [numV_2 (by rw [ext_size]; omega) b3]
   unfold dateD
   rw [show bt (x.extract (i + 8) (i + 10)) 0 = bt (s.extract 0 10) 8 from (bt_ext x (i + 8) (i + 10) 0 (by omega)).trans (sub 8 (by omega)).symm,
    show bt (x.extract (i + 8) (i + 10)) 1 = bt (s.extract 0 10) 9 from (bt_ext x (i + 8) (i + 10) 1 (by omega)).trans (sub 9 (by omega)).symm]
  rw [eY] at n1
  rw [eM] at n2
  rw [eD] at n3
  obtain ⟨L, hL, hL2⟩ := rlength_is (dateY (s.extract 0 10)) (dateM (s.extract 0 10))
  have hx2 := exB_bad (dateY (s.extract 0 10)) (dateM (s.extract 0 10)) (dateD (s.extract 0 10)) L hL2
  have e10 : x.extract i (i + 10) = s.extract 0 10 := by rw [hs, ext_ext, Nat.min_eq_left (by omega)]; rfl
  have hTd : T = rT (i : Int) (dateR (s.extract 0 10)) := by rw [hT]; unfold tokA; rw [if_pos hd]
  refine tok_dated x i hx h10 _ _ _ L hdt (ev_ex n1) (ev_ex n2) (ev_ex n3) hL T (fun hb => ?_) (fun hb => ?_) w
  ·rw [hTd]; unfold dateR
   rw [if_neg (fun g => (hx2.1 g) hb)]
   exact rT_err i 62 (by decide)
  ·rw [hTd, e10]; unfold dateR
   rw [if_pos (hx2.2 hb)]
   rfl
 ·rw [Bool.eq_false_iff.mpr hd] at hdt
  obtain ⟨-, r2, r3, r4⟩ := runN_spec s
  obtain ⟨u, hu⟩ : ∃ u, u = s.extract 0 (runN s) := ⟨_, rfl⟩
  have husz : u.size = runN s := by rw [hu, ext_size]; omega
  rw [← hu] at hrun
  have hT2 : T = rT (i : Int) (if digitB (bt s 0) = true then numberOf u else if smallB (bt s 0) = true then wordOf smallB 1 u else if bigB (bt s 0) = true then wordOf bigB 2 u else if markOf s > 0 then (6, s.extract 0 (markOf s).toNat, 0, 0, 0, 0, 0, 0, 0, 0, 0) else errR 0 61) := by
   rw [hT]; unfold tokA; rw [if_neg hd, ← hu]
  have hu0 : 0 < u.size → bt u 0 = bt s 0 := fun g => by rw [hu]; exact bt_ext0 s _ 0 (by omega)
  have hur : ∀ j : Nat, j < u.size → runB (bt u (j : Int)) = true := fun j hj => by rw [hu, bt_ext0 s _ j (by omega)]; exact r3 j (Nat.zero_le _) (by omega)
  refine tok_plain x i hdt u hrun T.1 T.2.1 T.2.2.1 T.2.2.2.1 T.2.2.2.2.1 T.2.2.2.2.2.1 T.2.2.2.2.2.2.1 T.2.2.2.2.2.2.2.1 T.2.2.2.2.2.2.2.2.1 T.2.2.2.2.2.2.2.2.2.1 T.2.2.2.2.2.2.2.2.2.2
   T.1 T.2.1 T.2.2.1 T.2.2.2.1 T.2.2.2.2.1 T.2.2.2.2.2.1 T.2.2.2.2.2.2.1 T.2.2.2.2.2.2.2.1 T.2.2.2.2.2.2.2.2.1 T.2.2.2.2.2.2.2.2.2.1 T.2.2.2.2.2.2.2.2.2.2 (markT s) hmk T (fun g1 g2 => ?_) (fun g1 g2 g3 => ?_) (fun g => ?_) w
  ·rw [hu0 g1] at g2
   rw [if_pos g2] at hT2
   refine ⟨(tup T).symm, fun w1 => ?_⟩
   have hn : u.size = (u.size - 1) + 1 := by omega
   have hxs : (u.extract 0 (u.size - 1)).size ≤ 140737488355328 := by rw [ext_size]; omega
   obtain ⟨v, hv⟩ := rnumber_tot u (by omega)
   obtain ⟨v2, hv2⟩ := rnumber_tot (u.extract 0 (u.size - 1)) hxs
   have uniq : ∀ {t : ByteArray} {a : Int}, t.size ≤ 140737488355328 → Ev (fun k => payoffref06_number.f k t) a → allD t = true → a = numV t := by
    intro t a ht h1 h2
    obtain ⟨n1, h1⟩ := h1
    obtain ⟨n2, h2⟩ := rnumber_ev t ht ((allD_iff t).1 h2).2
    have e1 := h1 (n1 + n2) (by omega)
    have e2 := h2 (n1 + n2) (by omega)
    exact Option.some.inj (e1.symm.trans e2)
   have hc := nums_any u (i : Int) (u.size - 1) hn (by omega) _ v _ v2 (ev_ex (rdigits_ev u (by omega))) (ev_ex hv) (ev_ex (rdigits_ev (u.extract 0 (u.size - 1)) hxs)) (ev_ex hv2) w1
   rw [rnums_is u (u.size - 1) hn (by rw [hu0 g1]; exact g2) (i : Int) v v2 (uniq (by omega) hv) (uniq hxs hv2), ← hT2] at hc
   exact hc
  ·rw [hu0 g1] at g2 g3
   have hr0 := hur 0 g1
   rw [show ((0 : Nat) : Int) = 0 from rfl, hu0 g1] at hr0
   rw [if_neg (by rw [g2]; decide)] at hT2
   refine ⟨(tup T).symm, fun w1 => ?_⟩
   have hc := name_any u (i : Int) g1 (by omega) _ rfl w1
   rw [rname_is _ u i (by omega) (by omega) hur, hu0 g1] at hc
   have e : T = rT (i : Int) (wordOf (if bigB (bt s 0) = true then bigB else smallB) (if bigB (bt s 0) = true then 2 else 1) u) := by
    rw [hT2]
    by_cases q1 : smallB (bt s 0) = true
    ·have q2 : ¬ bigB (bt s 0) = true := by
      intro q2
      unfold smallB bigB at *
      simp only [Bool.and_eq_true, decide_eq_true_eq] at q1 q2
      omega
     rw [if_pos q1, if_neg q2, if_neg q2]
    ·rw [if_neg q1]
     have q2 : bigB (bt s 0) = true := by
      unfold runB at hr0
      rw [g2, Bool.eq_false_iff.mpr q1, beq_eq_false_iff_ne.mpr g3] at hr0
      simpa using hr0
     rw [if_pos q2, if_pos q2, if_pos q2]
   rw [← e] at hc
   exact hc
  ·have hno : digitB (bt s 0) = false ∧ smallB (bt s 0) = false ∧ bigB (bt s 0) = false := by
    by_cases g0 : 0 < u.size
    ·obtain ⟨g1, g2⟩ := g g0
     rw [hu0 g0] at g2
     rw [g2]; decide
    ·have h0 := r4 (by omega)
     rw [show runN s = 0 by omega, show ((0 : Nat) : Int) = 0 from rfl] at h0
     unfold runB at h0
     simp only [Bool.or_eq_false_iff] at h0
     exact ⟨h0.1.1.1, h0.1.1.2, h0.1.2⟩
   rw [if_neg (by rw [hno.1]; decide), if_neg (by rw [hno.2.1]; decide), if_neg (by rw [hno.2.2]; decide)] at hT2
   rw [hT2]
   have hml := mark_le (s := s) (by omega)
   unfold markT
   by_cases gm : markOf s > 0
   ·rw [if_pos gm, if_pos gm, if_neg (by rw [ext_size]; omega)]
    rfl
   ·rw [if_neg gm, if_neg gm, if_pos (show (⟨#[]⟩ : ByteArray).size = 0 from rfl)]
    exact rT_err i 61 (by decide)
end Go.Proofs.YtkfdninngcakpaaDoor.Pure
namespace Go.Proofs.YtkfdninngcakpaaDoor.PLex
open Go.RowKit Go.Proofs.YtkfdninngcakpaaDoorW.PrintWords Go.Proofs.YtkfdninngcakpaaDoorW.PrintLast Go.Proofs.YtkfdninngcakpaaDoorW.PrintMore
def payoffref06_token.f (a0 : ByteArray) (a1 : Int) : Option (Int × ByteArray × Int × Int × Int × Int × Int × Int × Int × Int × Int) :=
 if 0 ≤ a1 ∧ a1 < a0.size ∧ a0.size ≤ 65536 then some (Pure.rT a1 (Pure.tokA (a0.extract a1.toNat a0.size))) else none
theorem payoffref06_token.calls (a0 : ByteArray) (a1 : Int) (r1 : Int) (r2 : ByteArray) (r3 : Int) (r4 : Int) (r5 : Int) (r6 : Int) (r7 : Int) (r8 : Int) (r9 : Int) (r10 : Int) (r11 : Int) (w : World) (h : payoffref06_token.f a0 a1 = some (r1, r2, r3, r4, r5, r6, r7, r8, r9, r10, r11)) :
  Calls Tryd.prog 23 #[.string a0, .int .i64 a1] w fun e w' => e = .returned (.tuple #[.agg #[.int .i64 r1, .string r2, .int .i64 r3, .int .i64 r4, .int .i64 r5, .int .i64 r6, .int .i64 r7, .int .i64 r8, .int .i64 r9], .int .i64 r10, .int .i64 r11]) ∧ Below w.heap.size w w' := by
 unfold payoffref06_token.f at h
 split at h
 ·rename_i hc
  have hz : ((a1.toNat : Nat) : Int) = a1 := Int.toNat_of_nonneg hc.1
  have := Pure.rtok_any a0 a1.toNat (by omega) (by omega) w
  rw [hz, Option.some.inj h] at this
  exact this
 ·cases h
end Go.Proofs.YtkfdninngcakpaaDoor.PLex
