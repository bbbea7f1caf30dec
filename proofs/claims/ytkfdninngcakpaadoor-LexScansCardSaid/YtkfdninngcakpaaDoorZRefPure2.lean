/- Own text, for this claim: the reference's scanner: plain laws (2). -/
import Derived.Test.YtkfdninngcakpaaDoorZRefPure
namespace Go.Proofs.YtkfdninngcakpaaDoor.Pure
open Go.RowKit Go.Proofs.YtkfdninngcakpaaDoor.PLex Go.Proofs.YtkfdninngcakpaaDoorW.PrintWords Go.Proofs.YtkfdninngcakpaaDoorW.PrintLast Go.Proofs.YtkfdninngcakpaaDoorW.PrintMore
set_option linter.unusedVariables false
set_option linter.unusedSimpArgs false
def rT (i : Int) (r : TokR) : TokR := if errOf r = 0 then (r.1, r.2.1, i, r.2.2.2.1, r.2.2.2.2.1, r.2.2.2.2.2.1, r.2.2.2.2.2.2.1, r.2.2.2.2.2.2.2.1, r.2.2.2.2.2.2.2.2.1, 0, 0) else errAt (i + placeOf r) (errOf r)
theorem rT_err (i e : Int) (he : e ≠ 0) : rT i (errR 0 e) = errAt i e := by
 unfold rT
 rw [if_neg (show ¬ errOf (errR 0 e) = 0 from he)]
 show errAt (i + 0) e = errAt i e
 rw [Int.add_zero]
theorem rnumber_tot (s : ByteArray) (hs : s.size ≤ 140737488355328) : ∃ v, Ev (fun k => payoffref06_number.f k s) v := by
 have key : ∀ n i : Nat, ∀ v : Int, i + n = s.size → 0 ≤ v → v ≤ 9223372036854775807 → ∃ r, Ev (fun k => payoffref06_number.l0 k s v (i : Int)) r := by
  intro n
  induction n with
  | zero =>
   intro i v hi h0 hv
   exact ⟨v, Ev.step (fun k => payoffref06_number.l0.eq_2 ..) (Ev.neg (by omega) (Ev.ret rfl))⟩
  | succ n ih =>
   intro i v hi h0 hv
   obtain ⟨d, hd⟩ : ∃ d : Int, (bt s (i : Int) - 48) % 256 = d := ⟨_, rfl⟩
   have hd2 : 0 ≤ d ∧ d ≤ 255 := by omega
   by_cases ho : v > (9223372036854775807 - d) / 10
   ·refine ⟨-1, Ev.step (fun k => payoffref06_number.l0.eq_2 ..) (Ev.pos (by omega) (Ev.pos (by omega) ?_))⟩
    rw [hd]
    exact Ev.pos ho (Ev.ret rfl)
   ·have hle : v * 10 + d ≤ 9223372036854775807 := by omega
    obtain ⟨r, hr⟩ := ih (i + 1) (v * 10 + d) (by omega) (by omega) hle
    refine ⟨r, Ev.step (fun k => payoffref06_number.l0.eq_2 ..) (Ev.pos (by omega) (Ev.pos (by omega) ?_))⟩
    rw [hd]
    refine Ev.neg ho ?_
    rw [show wrap64 (wrap64 (10 * v) + d) = v * 10 + d by rw [w64 (n := 10 * v) (by omega), w64 (by omega)]; omega, w64s i (by omega)]
    exact hr
 exact key s.size 0 0 (by omega) (by omega) (by omega)
theorem isD_all {s : ByteArray} (h : ∀ j : Nat, j < s.size → digitB (bt s (j : Int)) = true) : ∀ c ∈ s.data.toList, isD c := by
 intro c hc
 obtain ⟨i, hi, he⟩ := List.mem_iff_getElem.mp hc
 have hl : i < s.size := by rw [data_length] at hi; exact hi
 obtain ⟨d, hd, h2, -⟩ := bt_digit hl (h i hl)
 rw [List.getElem?_eq_getElem hi, he] at hd
 exact Option.some.inj hd ▸ h2
theorem atoi_num {s : ByteArray} (h0 : 0 < s.size) (h : ∀ j : Nat, j < s.size → digitB (bt s (j : Int)) = true) : (numV s < 0 → (atoiOf s.data.toList).2 ≠ 0) ∧ (¬ numV s < 0 → atoiOf s.data.toList = (numV s, 0)) := by
 have hne : s.data.toList ≠ [] := by
  intro g
  have := data_length s
  rw [g] at this; simp at this; omega
 obtain ⟨h1, h2⟩ := atoi_valD hne (isD_all h)
 unfold numV
 by_cases hv : valD 0 s.data.toList < 9223372036854775808
 ·rw [if_pos hv]
  exact ⟨fun g => by omega, fun _ => h1 hv⟩
 ·rw [if_neg hv]
  exact ⟨fun _ => by rw [h2 hv]; decide, fun g => absurd (by decide) g⟩
theorem valD_lt : ∀ (l : List UInt8) (a : Nat), (∀ c ∈ l, isD c) → valD a l < (a + 1) * 10 ^ l.length := by
 intro l
 induction l with
 | nil => intro a _; rw [valD_nil]; simp
 | cons c r ih =>
  intro a h
  have hc : 48 ≤ c.toNat ∧ c.toNat ≤ 57 := h c (List.mem_cons_self ..)
  have hr := ih (a * 10 + (c.toNat - 48)) (fun x hx => h x (List.mem_cons_of_mem _ hx))
  rw [valD_cons, List.length_cons, Nat.pow_succ]
  refine Nat.lt_of_lt_of_le hr ?_
  have hp : a * 10 + (c.toNat - 48) + 1 ≤ (a + 1) * 10 := by omega
  refine Nat.le_trans (Nat.mul_le_mul_right _ hp) ?_
  rw [Nat.mul_assoc, Nat.mul_comm 10]
  exact Nat.le_refl _
theorem num_short {s : ByteArray} (hs : s.size ≤ 3) (h : ∀ j : Nat, j < s.size → digitB (bt s (j : Int)) = true) : ¬ numV s < 0 := by
 have h1 := valD_lt s.data.toList 0 (isD_all h)
 rw [data_length] at h1
 have h2 : 10 ^ s.size ≤ 10 ^ 3 := Nat.pow_le_pow_right (by decide) hs
 unfold numV
 rw [if_pos (by omega)]; omega
theorem rnums_is (s : ByteArray) (n : Nat) (h0 : s.size = n + 1) (hd : digitB (bt s 0) = true) (i v v2 : Int) (hv : allD s = true → v = numV s) (hv2 : allD (s.extract 0 n) = true → v2 = numV (s.extract 0 n)) : rnums (allD s) v (allD (s.extract 0 n)) v2 s n i = rT i (numberOf s) := by
 obtain ⟨-, d2, d3, d4⟩ := digN_spec s
 have d1 : 1 ≤ digN s := by
  rcases Nat.eq_zero_or_pos (digN s) with e | e
  ·have := d4 (by omega); rw [e, show ((0 : Nat) : Int) = 0 from rfl, hd] at this; cases this
  ·exact e
 unfold rnums numberOf
 by_cases hA : allD s = true
 ·obtain ⟨-, hall⟩ := (allD_iff s).1 hA
  have hN : digN s = s.size := by
   rcases Nat.lt_or_ge (digN s) s.size with g | g
   ·have := d4 g; rw [hall _ g] at this; cases this
   ·omega
  obtain ⟨a1, a2⟩ := atoi_num (by omega) hall
  rw [if_pos hA, hN, ext_all s s.size (Nat.le_refl _), hv hA]
  by_cases hneg : numV s < 0
  ·rw [if_pos (.inl hneg), if_pos (a1 hneg)]; exact (rT_err i 62 (by decide)).symm
  ·have hat := a2 hneg
   rw [if_neg (show ¬ (atoiOf s.data.toList).2 ≠ 0 by rw [hat]; exact fun g => g rfl)]
   by_cases hz : bt s 0 = 48 ∧ (s.size : Int) > 1
   ·rw [if_pos (.inr ⟨by omega, hz.1⟩), if_pos hz]; exact (rT_err i 62 (by decide)).symm
   ·rw [if_neg hz, if_neg (show ¬ (numV s < 0 ∨ (1 < n + 1 ∧ bt s 0 = 48)) from fun g => by rcases g with g | g; exact hneg g; exact hz ⟨g.2, by omega⟩), if_pos rfl, hat]
    rfl
 ·have hN : digN s ≠ s.size := by
   intro g
   exact hA ((allD_iff s).2 ⟨by omega, fun j hj => d3 j (Nat.zero_le _) (by omega)⟩)
  have hsz : (s.extract 0 n).size = n := by rw [ext_size]; omega
  have hdz : (s.extract 0 (digN s)).size = digN s := by rw [ext_size]; omega
  rw [if_neg hA, if_neg (show ¬ (digN s : Int) = s.size by omega)]
  have hdd : ∀ j : Nat, j < (s.extract 0 (digN s)).size → digitB (bt (s.extract 0 (digN s)) (j : Int)) = true := fun j hj => by
   rw [bt_ext0 s _ j (by omega)]; exact d3 j (Nat.zero_le _) (by omega)
  obtain ⟨a1, a2⟩ := atoi_num (by omega) hdd
  have h2 : allD (s.extract 0 n) = true ↔ digN s = n := by
   rw [allD_iff, hsz]
   constructor
   ·rintro ⟨g0, g⟩
    rcases Nat.lt_or_ge (digN s) n with q | q
    ·have := g _ q
     rw [bt_ext0 s _ _ q, d4 (by omega)] at this; cases this
    ·omega
   ·intro g
    exact ⟨by omega, fun j hj => by rw [bt_ext0 s _ _ hj]; exact d3 j (Nat.zero_le _) (by omega)⟩
  by_cases hG : allD (s.extract 0 n) = false ∨ 3 < n ∨ bt s 0 = 48 ∨ unitOf (bt s (n : Int)) = 0
  ·rw [if_pos hG]
   by_cases g1 : (atoiOf (s.extract 0 (digN s)).data.toList).2 ≠ 0
   ·rw [if_pos g1]; exact (rT_err i 62 (by decide)).symm
   ·rw [if_neg g1]
    by_cases g2 : bt s 0 = 48 ∧ (digN s : Int) > 1
    ·rw [if_pos g2]; exact (rT_err i 62 (by decide)).symm
    ·rw [if_neg g2, if_neg]
     ·exact (rT_err i 62 (by decide)).symm
     ·rintro ⟨e1, e2, e3, e4⟩
      have en : digN s = n := by omega
      rw [en] at e4
      rcases hG with q | q | q | q
      ·rw [h2.2 en] at q; cases q
      ·omega
      ·exact e3 q
      ·omega
  ·rw [if_neg hG]
   have hAn : allD (s.extract 0 n) = true := by
    cases g : allD (s.extract 0 n) with
    | true => rfl
    | false => exact absurd (.inl g) hG
   have en : digN s = n := h2.1 hAn
   have n3 : ¬ 3 < n := fun g => hG (.inr (.inl g))
   have n4 : ¬ bt s 0 = 48 := fun g => hG (.inr (.inr (.inl g)))
   have n5 : ¬ unitOf (bt s (n : Int)) = 0 := fun g => hG (.inr (.inr (.inr g)))
   have n6 : unitOf (bt s (n : Int)) > 0 := by
    unfold unitOf at n5 ⊢
    repeat' split
    all_goals first | decide | (exact absurd rfl n5) | (simp_all; done) | omega
   rw [en] at a2 hdd hdz
   have hat := a2 (num_short (by omega) hdd)
   rw [en, hat, if_neg (fun g => g rfl), if_neg (fun g => n4 g.1), if_pos ⟨by omega, by omega, n4, n6⟩, hv2 hAn]
   rfl
theorem run_other (q : Bool) {c : Int} (h : runB c = true) : Lq q c = !okB (if q = true then bigB else smallB) c := by
 unfold runB at h
 cases q
 ·show bigB c = !okB smallB c
  unfold okB
  unfold digitB smallB bigB at *
  simp only [Bool.or_eq_true, Bool.and_eq_true, decide_eq_true_eq, beq_iff_eq] at h
  rw [Bool.eq_iff_iff]
  simp only [Bool.or_eq_true, Bool.and_eq_true, decide_eq_true_eq, beq_iff_eq, Bool.not_eq_true', Bool.or_eq_false_iff, Bool.and_eq_false_iff, decide_eq_false_iff_not, beq_eq_false_iff_ne, ne_eq]
  omega
 ·show smallB c = !okB bigB c
  unfold okB
  unfold digitB smallB bigB at *
  simp only [Bool.or_eq_true, Bool.and_eq_true, decide_eq_true_eq, beq_iff_eq] at h
  rw [Bool.eq_iff_iff]
  simp only [Bool.or_eq_true, Bool.and_eq_true, decide_eq_true_eq, beq_iff_eq, Bool.not_eq_true', Bool.or_eq_false_iff, Bool.and_eq_false_iff, decide_eq_false_iff_not, beq_eq_false_iff_ne, ne_eq]
  omega
theorem oth_bad (q : Bool) (s : ByteArray) (hr : ∀ j : Nat, j < s.size → runB (bt s (j : Int)) = true) : ∀ n i : Nat, i + n ≤ s.size → othAt (Lq q) s n (i : Int) = badAt (if q = true then bigB else smallB) s n (i : Int) := by
 intro n
 induction n with
 | zero => intro i _; rfl
 | succ n ih =>
  intro i hi
  rw [othAt, badAt, run_other q (hr i (by omega))]
  cases hk : okB (if q = true then bigB else smallB) (bt s (i : Int)) with
  | true =>
   rw [if_neg (by decide), if_pos rfl]
   exact ih (i + 1) (by omega)
  | false => rw [if_pos (by decide), if_neg (by decide)]
theorem rname_is (q : Bool) (s : ByteArray) (i : Nat) (hi : i ≤ 65536) (hs : s.size ≤ 65536) (hr : ∀ j : Nat, j < s.size → runB (bt s (j : Int)) = true) : rname q s (i : Int) = rT (i : Int) (wordOf (if q = true then bigB else smallB) (if q = true then 2 else 1) s) := by
 unfold rname wordOf
 have he := oth_bad q s hr s.size 0 (by omega)
 rw [show ((0 : Nat) : Int) = 0 from rfl] at he
 rw [he]
 have hb := bad_ge (if q = true then bigB else smallB) s s.size 0
 by_cases h1 : badAt (if q = true then bigB else smallB) s s.size 0 < s.size
 ·rw [if_pos h1, if_pos h1, w64 (by omega)]
  rfl
 ·rw [if_neg h1, if_neg h1]
  by_cases h2 : (s.size : Int) > 31
  ·rw [if_pos h2, if_pos h2]; exact (rT_err i 6 (by decide)).symm
  ·rw [if_neg h2, if_neg h2]; rfl
theorem numV_2 {s : ByteArray} (hs : s.size = 2) (h : ∀ j : Nat, j < s.size → digitB (bt s (j : Int)) = true) : numV s = 10 * (bt s 0 - 48) + (bt s 1 - 48) := by
 have hl := data_length s
 have b0 := bt_nat s 0
 have b1 := bt_nat s 1
 have hD := isD_all h
 rcases hd : s.data.toList with _ | ⟨a, _ | ⟨b, _ | ⟨c, t⟩⟩⟩
 all_goals (rw [hd, hs] at hl; simp at hl)
 rw [hd] at b0 b1 hD
 have ha : 48 ≤ a.toNat ∧ a.toNat ≤ 57 := hD a (by simp)
 have hb : 48 ≤ b.toNat ∧ b.toNat ≤ 57 := hD b (by simp)
 simp only [List.getElem?_cons_zero, List.getElem?_cons_succ, Option.getD_some] at b0 b1
 rw [show bt s 0 = _ from b0, show bt s 1 = _ from b1]
 unfold numV
 rw [hd]
 simp only [valD_cons, valD_nil]
 rw [if_pos (by omega)]
 omega
theorem numV_4 {s : ByteArray} (hs : s.size = 4) (h : ∀ j : Nat, j < s.size → digitB (bt s (j : Int)) = true) : numV s = 1000 * (bt s 0 - 48) + 100 * (bt s 1 - 48) + 10 * (bt s 2 - 48) + (bt s 3 - 48) := by
 have hl := data_length s
 have b0 := bt_nat s 0
 have b1 := bt_nat s 1
 have b2 := bt_nat s 2
 have b3 := bt_nat s 3
 have hD := isD_all h
 rcases hd : s.data.toList with _ | ⟨a, _ | ⟨b, _ | ⟨c, _ | ⟨d, _ | ⟨e, t⟩⟩⟩⟩⟩
 all_goals (rw [hd, hs] at hl; simp at hl)
 rw [hd] at b0 b1 b2 b3 hD
 have ha : 48 ≤ a.toNat ∧ a.toNat ≤ 57 := hD a (by simp)
 have hb : 48 ≤ b.toNat ∧ b.toNat ≤ 57 := hD b (by simp)
 have hc : 48 ≤ c.toNat ∧ c.toNat ≤ 57 := hD c (by simp)
 have hdd : 48 ≤ d.toNat ∧ d.toNat ≤ 57 := hD d (by simp)
 simp only [List.getElem?_cons_zero, List.getElem?_cons_succ, Option.getD_some] at b0 b1 b2 b3
 rw [show bt s 0 = _ from b0, show bt s 1 = _ from b1, show bt s 2 = _ from b2, show bt s 3 = _ from b3]
 unfold numV
 rw [hd]
 simp only [valD_cons, valD_nil]
 rw [if_pos (by omega)]
 omega
theorem exB_bad (Y M D L : Int) (hL : 1 ≤ M → M ≤ 12 → L = lenOf Y M) : exB Y M D = true ↔ ¬ badD Y M D L := by
 unfold exB badD
 simp only [Bool.and_eq_true, decide_eq_true_eq]
 by_cases hM : 1 ≤ M ∧ M ≤ 12
 ·rw [hL hM.1 hM.2]; omega
 ·omega
end Go.Proofs.YtkfdninngcakpaaDoor.Pure
