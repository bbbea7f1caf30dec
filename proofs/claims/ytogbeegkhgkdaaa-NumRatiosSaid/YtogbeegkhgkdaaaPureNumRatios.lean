/- NumRatios: for every three 64-bit numbers and every mode, Ratio answers as the reference does by the digits of the product and their division; no condition. -/
import Derived.Test.YtogbeegkhgkdaaaQNumRatiosx5
namespace Go.Proofs.Ytogbeegkhgkdaaa.Pure
open Go.RowKit Go.Proofs.Ytogbeegkhgkdaaa.PNumRatios Go.Proofs.YtogbeegkhgkdaaaW.PrintWords Go.Proofs.YtogbeegkhgkdaaaW.PrintLast Go.Proofs.YtogbeegkhgkdaaaW.PrintMore
set_option linter.unusedVariables false
set_option linter.unusedSimpArgs false

/-! Rounds: an answer that stands from some number of rounds on -/
theorem Ev.pos {α : Type} {c : Prop} [Decidable c] {a b : Nat → Option α} {r : α} (h : c) (k : Ev a r) : Ev (fun n => if c then a n else b n) r := by
  simpa only [if_pos h] using k
theorem Ev.neg {α : Type} {c : Prop} [Decidable c] {a b : Nat → Option α} {r : α} (h : ¬c) (k : Ev b r) : Ev (fun n => if c then a n else b n) r := by
  simpa only [if_neg h] using k
/-- A call without rounds. -/
theorem Ev.call {α β : Type} {x : Option α} {f : Nat → α → Option β} {a : α} {r : β} (h : x = some a) (k : Ev (fun n => f n a) r) : Ev (fun n => x.bind (f n)) r := by
  subst h; simpa only [Option.bind_some] using k
theorem Ev.ret {α : Type} {r s : α} (h : s = r) : Ev (fun _ => some s) r := ⟨0, fun _ _ => by rw [h]⟩
theorem w64 {n : Int} (h : -9223372036854775808 ≤ n ∧ n ≤ 9223372036854775807) : wrap64 n = n := by unfold wrap64; omega
theorem wu64 {n : Int} (h : 0 ≤ n ∧ n ≤ 18446744073709551615) : IntKind.u64.wrap n = n := by
  simp only [IntKind.wrap, IntKind.bits, IntKind.signed]; simp; omega
theorem wf64 {a : Int} (h : (Lit.int .i64 a).wf = true) : -9223372036854775808 ≤ a ∧ a ≤ 9223372036854775807 := by
  simp only [Lit.wf, IntKind.min, IntKind.max, IntKind.signed, IntKind.bits, Bool.and_eq_true, decide_eq_true_eq, if_true] at h
  omega
theorem wfu64 {a : Int} (h : (Lit.int .u64 a).wf = true) : 0 ≤ a ∧ a ≤ 18446744073709551615 := by
  simp only [Lit.wf, IntKind.min, IntKind.max, IntKind.signed, IntKind.bits, Bool.and_eq_true, decide_eq_true_eq] at h
  simp at h
  omega
theorem wf8 {a : Int} (h : (Lit.int .u8 a).wf = true) : 0 ≤ a ∧ a ≤ 255 := by
  simp only [Lit.wf, IntKind.min, IntKind.max, IntKind.signed, IntKind.bits, Bool.and_eq_true, decide_eq_true_eq] at h
  simp at h
  omega

/-! The range, and what a call answers by its true answer -/
def In (n : Int) : Prop := -9223372036854775808 ≤ n ∧ n ≤ 9223372036854775807
instance (n : Int) : Decidable (In n) := by unfold In; infer_instance
/-- What a call answers whose true answer is n. -/
def fit (n : Int) : Int × Int := if In n then (n, 0) else (0, 1)
theorem fit_in {n : Int} (h : In n) : fit n = (n, 0) := by rw [fit, if_pos h]
theorem fit_out {n : Int} (h : ¬In n) : fit n = (0, 1) := by rw [fit, if_neg h]

/-! Lists of decimal digits, the lowest first -/
def val : List Int → Int
  | [] => 0
  | d :: t => d + 10 * val t
def Dg (l : List Int) : Prop := ∀ x ∈ l, 0 ≤ x ∧ x ≤ 9
/-- Digits, without a 0 at the end. -/
def Norm (l : List Int) : Prop := Dg l ∧ ∀ h : l ≠ [], l.getLast h ≠ 0
theorem Dg.nil : Dg [] := fun x h => by simp at h
theorem Dg.cons {d : Int} {t : List Int} (h : 0 ≤ d ∧ d ≤ 9) (ht : Dg t) : Dg (d :: t) := fun x hx => by
  rcases List.mem_cons.1 hx with rfl | hx
  · exact h
  · exact ht x hx
theorem Dg.append {a b : List Int} (ha : Dg a) (hb : Dg b) : Dg (a ++ b) := fun x hx => by
  rcases List.mem_append.1 hx with hx | hx
  · exact ha x hx
  · exact hb x hx
theorem Dg.drop {l : List Int} (h : Dg l) (n : Nat) : Dg (l.drop n) := fun x hx => h x (List.mem_of_mem_drop hx)
theorem Dg.take {l : List Int} (h : Dg l) (n : Nat) : Dg (l.take n) := fun x hx => h x (List.mem_of_mem_take hx)
theorem Dg.at {l : List Int} (h : Dg l) (i : Int) : 0 ≤ rd l i ∧ rd l i ≤ 9 := by
  unfold rd
  rw [List.getD_eq_getElem?_getD]
  cases e : l[i.toNat]? with
  | none => simp
  | some x => exact h x (List.mem_of_getElem? e)
theorem Norm.dg {l : List Int} (h : Norm l) : Dg l := h.1
theorem Norm.nil : Norm [] := ⟨Dg.nil, fun h => (h rfl).elim⟩
theorem rd_nat (l : List Int) (i : Nat) : rd l (i : Int) = l.getD i 0 := by simp [rd]
theorem rd_out {l : List Int} {i : Int} (h : (l.length : Int) ≤ i) : rd l i = 0 := by
  unfold rd
  rw [List.getD_eq_getElem?_getD, List.getElem?_eq_none (by omega)]; rfl
theorem val_nonneg {l : List Int} (h : Dg l) : 0 ≤ val l := by
  induction l with
  | nil => simp [val]
  | cons d t ih =>
    have h1 := h d (by simp)
    have h2 := ih (fun x hx => h x (by simp [hx]))
    simp only [val]; omega
theorem val_lt {l : List Int} (h : Dg l) : val l < 10 ^ l.length := by
  induction l with
  | nil => simp [val]
  | cons d t ih =>
    have h1 := h d (by simp)
    have h2 := ih (fun x hx => h x (by simp [hx]))
    rw [List.length_cons, Int.pow_succ]
    simp only [val]
    generalize (10 : Int) ^ t.length = p at *
    omega
theorem val_append (a b : List Int) : val (a ++ b) = val a + 10 ^ a.length * val b := by
  induction a with
  | nil => simp [val]
  | cons d t ih =>
    simp only [List.cons_append, val, List.length_cons, Int.pow_succ, ih]
    rw [Int.mul_add, Int.mul_right_comm, Int.mul_comm ((10 : Int) ^ t.length * val b)]
    omega
theorem val_drop (l : List Int) (i : Nat) : val (l.drop i) = rd l (i : Int) + 10 * val (l.drop (i + 1)) := by
  by_cases h : i < l.length
  · rw [List.drop_eq_getElem_cons h, rd_nat, List.getD_eq_getElem?_getD, List.getElem?_eq_getElem h]; rfl
  · rw [List.drop_eq_nil_of_le (by omega), List.drop_eq_nil_of_le (by omega), rd_out (by omega)]; rfl
theorem pow10_pos (n : Nat) : (0 : Int) < 10 ^ n := Int.pow_pos (by decide)
theorem pow10_mono {m n : Nat} (h : m ≤ n) : (10 : Int) ^ m ≤ 10 ^ n := by
  have := Nat.pow_le_pow_right (show 10 > 0 by decide) h
  exact_mod_cast this
theorem Norm.lo {l : List Int} (h : Norm l) (hl : l ≠ []) : 10 ^ (l.length - 1) ≤ val l := by
  have h1 := List.dropLast_concat_getLast hl
  have hd := h.1 _ (List.getLast_mem hl)
  have hn := h.2 hl
  have e := val_append l.dropLast [l.getLast hl]
  rw [h1, List.length_dropLast] at e
  have h2 := val_nonneg (l := l.dropLast) (fun x hx => h.1 x ((List.dropLast_sublist l).subset hx))
  rw [e]
  simp only [val]
  have h3 := pow10_pos (l.length - 1)
  have h4 := Int.mul_le_mul_of_nonneg_left (show (1 : Int) ≤ l.getLast hl + 10 * 0 by omega) (Int.le_of_lt h3)
  omega
theorem Norm.length_le {l : List Int} {n : Nat} (h : Norm l) (hv : val l < 10 ^ n) : l.length ≤ n := by
  by_cases hl : l = []
  · simp [hl]
  · have h1 := h.lo hl
    have h2 : l.length - 1 < n := by
      apply Classical.byContradiction
      intro hc
      have := pow10_mono (show n ≤ l.length - 1 by omega)
      omega
    omega
theorem Norm.zero {l : List Int} (h : Norm l) (hv : val l = 0) : l = [] := by
  apply Classical.byContradiction
  intro hl
  have h1 := h.lo hl
  have h2 := pow10_pos (l.length - 1)
  omega
theorem Norm.pos_iff {l : List Int} (h : Norm l) : (l.length : Int) > 0 ↔ 0 < val l := by
  constructor
  · intro hl
    have h1 : l ≠ [] := by intro e; rw [e] at hl; simp at hl
    have := h.lo h1
    have := pow10_pos (l.length - 1)
    omega
  · intro hv
    cases l with
    | nil => simp [val] at hv
    | cons d t => simp
theorem Norm.lt_of_length {a b : List Int} (ha : Norm a) (hb : Norm b) (h : a.length < b.length) : val a < val b := by
  have h1 := val_lt ha.1
  have h2 := hb.lo (by intro e; rw [e] at h; simp at h)
  have h3 := pow10_mono (show a.length ≤ b.length - 1 by omega)
  omega
/-- The first number of a list decides its parity. -/
theorem val_rd0 (l : List Int) : val l = rd l 0 + 10 * val (l.drop 1) := by
  have := val_drop l 0
  simpa using this

/-! payoffref01: the school's ways, by what the digits come to -/
theorem ref_at (l : List Int) (i : Int) (h : 0 ≤ i) : payoffref01_at.f l i = some (rd l i) := by
  unfold payoffref01_at.f
  by_cases h1 : i < (l.length : Int)
  · rw [if_pos h1, if_pos h]
  · rw [if_neg h1, rd_out (by omega)]
theorem ref_trim_l0 (l : List Int) (hl : l.length ≤ 1000000) : ∀ n : Nat, n ≤ l.length → val (l.drop n) = 0 → Dg l →
    ∃ c, Ev (fun k => payoffref01_trim.l0 k l (n : Int)) c ∧ Norm c ∧ val c = val l ∧ c.length ≤ l.length := by
  intro n
  induction n with
  | zero =>
    intro _ h0 hd
    refine ⟨[], ?_, Norm.nil, ?_, by simp⟩
    · refine Ev.step (fun k => payoffref01_trim.l0.eq_2 _ _ _) ?_
      refine Ev.neg (by omega) (Ev.pos (by omega) (Ev.pos (by omega) (Ev.ret ?_)))
      simp
    · simpa [val] using h0.symm
  | succ n ih =>
    intro hn h0 hd
    have hw : wrap64 (((n + 1 : Nat) : Int) - 1) = (n : Int) := by rw [w64 (by omega)]; omega
    have hv := val_drop l n
    by_cases hz : rd l (n : Int) = 0
    · obtain ⟨c, h1, h2⟩ := ih (by omega) (by rw [hv, hz, h0]; rfl) hd
      refine ⟨c, ?_, h2⟩
      refine Ev.step (fun k => payoffref01_trim.l0.eq_2 _ _ _) ?_
      rw [hw]
      exact Ev.pos (by omega) (Ev.pos (by omega) (Ev.pos (by omega) (Ev.pos hz h1)))
    · refine ⟨l.take (n + 1), ?_, ⟨hd.take _, ?_⟩, ?_, by rw [List.length_take]; omega⟩
      · refine Ev.step (fun k => payoffref01_trim.l0.eq_2 _ _ _) ?_
        rw [hw]
        refine Ev.pos (by omega) (Ev.pos (by omega) (Ev.pos (by omega) (Ev.neg hz (Ev.pos (by omega) (Ev.pos (by omega) (Ev.ret ?_))))))
        rw [Int.toNat_natCast]
      · intro h
        rw [List.getLast_eq_getElem]
        have hlen : (l.take (n + 1)).length - 1 = n := by rw [List.length_take]; omega
        have hr : rd l (n : Int) = l[n]'(by omega) := by rw [rd_nat, List.getD_eq_getElem?_getD, List.getElem?_eq_getElem (by omega)]; rfl
        rw [hr] at hz
        have : ∀ (m : Nat) (hm : m < (l.take (n + 1)).length), m = n → (l.take (n + 1))[m] = l[n]'(by omega) := by
          intro m hm e; subst e; exact List.getElem_take
        rw [this _ _ hlen]; exact hz
      · have h3 := val_append (l.take (n + 1)) (l.drop (n + 1))
        rw [List.take_append_drop, h0, Int.mul_zero] at h3
        omega
theorem ref_trim (l : List Int) (hl : l.length ≤ 1000000) (hd : Dg l) :
    ∃ c, Ev (fun k => payoffref01_trim.f k l) c ∧ Norm c ∧ val c = val l ∧ c.length ≤ l.length := by
  unfold payoffref01_trim.f
  exact ref_trim_l0 l hl l.length (by omega) (by rw [List.drop_length]; rfl) hd
theorem ref_from_l0 : ∀ (d : Nat) (v : Int) (neg : Bool) (out : List Int), -9223372036854775808 ≤ v → v ≤ 9223372036854775807 → Dg out → out.length + d ≤ 1000 → (v.natAbs : Int) < 10 ^ d → (v = 0 → ∀ h : out ≠ [], out.getLast h ≠ 0) →
    ∃ c, Ev (fun k => payoffref01_From.l0 k v neg out) (neg, c) ∧ Norm c ∧ val c = val out + 10 ^ out.length * (v.natAbs : Int) ∧ c.length ≤ out.length + d := by
  intro d
  induction d with
  | zero =>
    intro v neg out h0 h1 hd hl hp hn
    have : v = 0 := by simp at hp; omega
    subst this
    refine ⟨out, ?_, ⟨hd, hn rfl⟩, by simp, by omega⟩
    exact Ev.step (fun k => payoffref01_From.l0.eq_2 _ _ _ _) (Ev.pos rfl (Ev.ret rfl))
  | succ d ih =>
    intro v neg out h0 h1 hd hl hp hn
    by_cases hv : v = 0
    · subst hv
      refine ⟨out, ?_, ⟨hd, hn rfl⟩, by simp, by omega⟩
      exact Ev.step (fun k => payoffref01_From.l0.eq_2 _ _ _ _) (Ev.pos rfl (Ev.ret rfl))
    have hq : (Int.tdiv v 10).natAbs = v.natAbs / 10 := Int.natAbs_tdiv v 10
    have hr : (Int.tmod v 10).natAbs = v.natAbs % 10 := Int.natAbs_tmod v 10
    have hqb : -9223372036854775808 ≤ Int.tdiv v 10 ∧ Int.tdiv v 10 ≤ 9223372036854775807 := by omega
    have key : ∀ e : Int, e = (v.natAbs % 10 : Nat) → ∃ c, Ev (fun k => payoffref01_From.l0 k (Int.tdiv v 10) neg (out ++ [e])) (neg, c) ∧ Norm c ∧ val c = val out + 10 ^ out.length * (v.natAbs : Int) ∧ c.length ≤ out.length + (d + 1) := by
      intro e he
      obtain ⟨c, g1, g2, g3, g4⟩ := ih (Int.tdiv v 10) neg (out ++ [e]) hqb.1 hqb.2 (hd.append (Dg.cons (by omega) Dg.nil)) (by simp; omega) (by
        rw [Int.pow_succ] at hp
        generalize (10 : Int) ^ d = p at *
        omega) (by
        intro hz h
        rw [List.getLast_append_of_ne_nil _ (by simp)]
        simp
        omega)
      refine ⟨c, g1, g2, ?_, by simp at g4; omega⟩
      rw [g3, val_append, hq]
      simp only [List.length_append, List.length_cons, List.length_nil, val, Int.pow_succ, Int.pow_zero, Nat.zero_add]
      have hsplit : (v.natAbs : Int) = (v.natAbs % 10 : Nat) + 10 * (v.natAbs / 10 : Nat) := by omega
      rw [← he] at hsplit
      generalize (10 : Int) ^ out.length = p at *
      grind
    refine Exists.imp (fun c h => ?_) (key _ rfl)
    refine ⟨Ev.step (fun k => payoffref01_From.l0.eq_2 _ _ _ _) (Ev.neg hv ?_), h.2⟩
    by_cases hs : Int.tmod v 10 < 0
    · refine Ev.pos hs (Ev.pos (by omega) ?_)
      rw [w64 hqb, w64 (by omega)]
      have : -(Int.tmod v 10) = ((v.natAbs % 10 : Nat) : Int) := by omega
      rw [this]; exact h.1
    · refine Ev.neg hs (Ev.pos (by omega) ?_)
      rw [w64 hqb]
      have : Int.tmod v 10 = ((v.natAbs % 10 : Nat) : Int) := by omega
      rw [this]; exact h.1
theorem ref_from (v : Int) (h : In v) : ∃ c, Ev (fun k => payoffref01_From.f k v) (decide (v < 0), c) ∧ Norm c ∧ val c = v.natAbs ∧ c.length ≤ 19 := by
  unfold In at h
  obtain ⟨c, h1, h2, h3, h4⟩ := ref_from_l0 19 v (decide (v < 0)) [] h.1 h.2 Dg.nil (by simp) (by simp; omega) (fun _ h => (h rfl).elim)
  exact ⟨c, h1, h2, by simpa [val] using h3, by simpa using h4⟩

theorem ref_above_l0 (a b : List Int) (hl : a.length ≤ 1000000) (hab : a.length = b.length) (ha : Dg a) (hb : Dg b) : ∀ n : Nat, n ≤ a.length → val (a.drop n) = val (b.drop n) →
    Ev (fun k => payoffref01_above.l0 k a b ((n : Int) - 1)) (decide (val a > val b)) := by
  intro n
  induction n with
  | zero =>
    intro _ h
    refine Ev.step (fun k => payoffref01_above.l0.eq_2 _ _ _ _) (Ev.neg (by omega) (Ev.ret ?_))
    simp only [List.drop_zero] at h
    simp [h]
  | succ n ih =>
    intro hn h
    rw [show ((n + 1 : Nat) : Int) - 1 = (n : Int) by omega]
    refine Ev.step (fun k => payoffref01_above.l0.eq_2 _ _ _ _) (Ev.pos (by omega) (Ev.pos (by omega) (Ev.pos (by omega) (Ev.pos (by omega) ?_))))
    have hva := val_drop a n
    have hvb := val_drop b n
    by_cases he : rd a (n : Int) = rd b (n : Int)
    · refine Ev.pos he ?_
      rw [w64 (by omega)]
      exact ih (by omega) (by omega)
    · refine Ev.neg he (Ev.ret ?_)
      rw [decide_eq_decide]
      have h1 := val_append (a.take n) (a.drop n)
      have h2 := val_append (b.take n) (b.drop n)
      rw [List.take_append_drop] at h1 h2
      have l1 : (a.take n).length = n := by rw [List.length_take]; omega
      have l2 : (b.take n).length = n := by rw [List.length_take]; omega
      rw [l1, hva] at h1
      rw [l2, hvb] at h2
      have g1 := val_lt (ha.take n)
      have g2 := val_lt (hb.take n)
      have g3 := val_nonneg (ha.take n)
      have g4 := val_nonneg (hb.take n)
      rw [l1] at g1
      rw [l2] at g2
      rw [h] at h1
      have hp := pow10_pos n
      generalize (10 : Int) ^ n = p at *
      generalize val (b.drop (n + 1)) = r at *
      generalize rd a (n : Int) = x at *
      generalize rd b (n : Int) = y at *
      rw [h1, h2]
      constructor
      · intro hxy
        have : p * (y + 10 * r + 1) ≤ p * (x + 10 * r) := Int.mul_le_mul_of_nonneg_left (by omega) (by omega)
        rw [Int.mul_add, Int.mul_one] at this
        omega
      · intro hxy
        apply Classical.byContradiction
        intro hc
        have : p * (x + 10 * r + 1) ≤ p * (y + 10 * r) := Int.mul_le_mul_of_nonneg_left (by omega) (by omega)
        rw [Int.mul_add, Int.mul_one] at this
        omega
theorem ref_above (a b : List Int) (hl : a.length ≤ 1000000) (ha : Norm a) (hb : Norm b) : Ev (fun k => payoffref01_above.f k a b) (decide (val a > val b)) := by
  unfold payoffref01_above.f
  by_cases h : (a.length : Int) = (b.length : Int)
  · refine Ev.pos h ?_
    rw [w64 (by omega)]
    have := ref_above_l0 a b hl (by omega) ha.1 hb.1 a.length (by omega) (by rw [List.drop_length, List.drop_eq_nil_of_le (by omega)])
    exact this
  · refine Ev.neg h (Ev.ret ?_)
    rw [decide_eq_decide]
    constructor
    · intro h1
      exact hb.lt_of_length ha (by omega)
    · intro h1
      apply Classical.byContradiction
      intro h2
      have := ha.lt_of_length hb (by omega)
      omega
theorem ref_plus_l0 (a b : List Int) (m : Nat) (hm : m ≤ 100000) (hla : a.length ≤ m) (hlb : b.length ≤ m) (ha : Dg a) (hb : Dg b) : ∀ (d : Nat) (i : Nat) (out : List Int) (c : Int), out.length = i → i + d = m + 1 → Dg out → 0 ≤ c → c ≤ 1 → (c = 1 → i ≤ m) →
    ∃ r, Ev (fun k => payoffref01_plus.l0 k a b out c (i : Int)) r ∧ Norm r ∧ val r = val out + 10 ^ i * (c + val (a.drop i) + val (b.drop i)) ∧ r.length ≤ m + 1 := by
  intro d
  induction d with
  | zero =>
    intro i out c ho hd hg h0 h1 hc
    have hc0 : c = 0 := by omega
    subst hc0
    obtain ⟨r, g1, g2, g3, g4⟩ := ref_trim out (by omega) hg
    refine ⟨r, ?_, g2, ?_, by omega⟩
    · refine Ev.step (fun k => payoffref01_plus.l0.eq_2 _ _ _ _ _ _) (Ev.neg (by omega) (Ev.neg (by omega) ?_))
      refine Ev.step (fun k => payoffref01_plus.j1.eq_2 _ _ _ _ _ _ _) (Ev.neg (by decide) ?_)
      exact Ev.bind g1 (Ev.ret rfl)
    · rw [g3, List.drop_eq_nil_of_le (by omega), List.drop_eq_nil_of_le (by omega)]; simp [val]
  | succ d ih =>
    intro i out c ho hd hg h0 h1 hc
    have ga := ha.at (i : Int)
    have gb := hb.at (i : Int)
    have hva := val_drop a i
    have hvb := val_drop b i
    have key : ∀ {r : List Int}, (∃ r, Ev (fun k => payoffref01_plus.j1 k a b out c (i : Int) true) r ∧ Norm r ∧ val r = val out + 10 ^ i * (c + val (a.drop i) + val (b.drop i)) ∧ r.length ≤ m + 1) := by
      intro _
      obtain ⟨r, g1, g2, g3, g4⟩ := ih (i + 1) (out ++ [(rd a (i : Int) + rd b (i : Int) + c) % 10]) ((rd a (i : Int) + rd b (i : Int) + c) / 10) (by simp; omega) (by omega) (hg.append (Dg.cons (by omega) Dg.nil)) (by omega) (by omega) (by
        intro h
        apply Classical.byContradiction
        intro hn
        rw [rd_out (by omega), rd_out (by omega)] at h
        omega)
      refine ⟨r, ?_, g2, ?_, g4⟩
      · refine Ev.step (fun k => payoffref01_plus.j1.eq_2 _ _ _ _ _ _ _) (Ev.pos rfl (Ev.call (ref_at _ _ (by omega)) (Ev.call (ref_at _ _ (by omega)) (Ev.pos (by omega) ?_))))
        rw [w64 (n := rd a (i : Int) + rd b (i : Int)) (by omega), w64 (n := rd a (i : Int) + rd b (i : Int) + c) (by omega), Int.tdiv_eq_ediv_of_nonneg (by omega), Int.tmod_eq_emod_of_nonneg (by omega), w64 (n := (i : Int) + 1) (by omega), w64 (by omega)]
        exact g1
      · rw [g3, val_append, ho, hva, hvb, Int.pow_succ]
        simp only [val]
        have hs : (rd a (i : Int) + rd b (i : Int) + c) = (rd a (i : Int) + rd b (i : Int) + c) % 10 + 10 * ((rd a (i : Int) + rd b (i : Int) + c) / 10) := by omega
        generalize (rd a (i : Int) + rd b (i : Int) + c) % 10 = u at *
        generalize (rd a (i : Int) + rd b (i : Int) + c) / 10 = v at *
        grind
    by_cases hA : (i : Int) < a.length
    · obtain ⟨r, g1, g2⟩ := key (r := [])
      exact ⟨r, Ev.step (fun k => payoffref01_plus.l0.eq_2 _ _ _ _ _ _) (Ev.pos hA g1), g2⟩
    by_cases hB : (i : Int) < b.length
    · obtain ⟨r, g1, g2⟩ := key (r := [])
      exact ⟨r, Ev.step (fun k => payoffref01_plus.l0.eq_2 _ _ _ _ _ _) (Ev.neg hA (Ev.pos hB g1)), g2⟩
    by_cases hC : c > 0
    · obtain ⟨r, g1, g2⟩ := key (r := [])
      exact ⟨r, Ev.step (fun k => payoffref01_plus.l0.eq_2 _ _ _ _ _ _) (Ev.neg hA (Ev.neg hB (by rw [decide_eq_true hC]; exact g1))), g2⟩
    have hc0 : c = 0 := by omega
    subst hc0
    obtain ⟨r, g1, g2, g3, g4⟩ := ref_trim out (by omega) hg
    refine ⟨r, ?_, g2, ?_, by omega⟩
    · refine Ev.step (fun k => payoffref01_plus.l0.eq_2 _ _ _ _ _ _) (Ev.neg (by omega) (Ev.neg (by omega) ?_))
      refine Ev.step (fun k => payoffref01_plus.j1.eq_2 _ _ _ _ _ _ _) (Ev.neg (by decide) ?_)
      exact Ev.bind g1 (Ev.ret rfl)
    · rw [g3, List.drop_eq_nil_of_le (by omega), List.drop_eq_nil_of_le (by omega)]; simp [val]
theorem ref_plus (a b : List Int) (m : Nat) (hm : m ≤ 100000) (hla : a.length ≤ m) (hlb : b.length ≤ m) (ha : Dg a) (hb : Dg b) :
    ∃ r, Ev (fun k => payoffref01_plus.f k a b) r ∧ Norm r ∧ val r = val a + val b ∧ r.length ≤ m + 1 := by
  unfold payoffref01_plus.f
  obtain ⟨r, g1, g2, g3, g4⟩ := ref_plus_l0 a b m hm hla hlb ha hb (m + 1) 0 [] 0 rfl (by omega) Dg.nil (by omega) (by omega) (by omega)
  refine ⟨r, g1, g2, ?_, g4⟩
  rw [g3]; simp [val]

theorem ref_minus_l0 (a b : List Int) (hla : a.length ≤ 100000) (ha : Dg a) (hb : Dg b) : ∀ (d : Nat) (i : Nat) (out : List Int) (c : Int), out.length = i → i + d = a.length → Dg out → 0 ≤ c → c ≤ 1 → c + val (b.drop i) ≤ val (a.drop i) →
    ∃ r, Ev (fun k => payoffref01_minus.l0 k a b out c (i : Int)) r ∧ Norm r ∧ val r = val out + 10 ^ i * (val (a.drop i) - val (b.drop i) - c) ∧ r.length ≤ a.length := by
  intro d
  induction d with
  | zero =>
    intro i out c ho hd hg h0 h1 hle
    obtain ⟨r, g1, g2, g3, g4⟩ := ref_trim out (by omega) hg
    refine ⟨r, ?_, g2, ?_, by omega⟩
    · refine Ev.step (fun k => payoffref01_minus.l0.eq_2 _ _ _ _ _ _) (Ev.neg (by omega) ?_)
      exact Ev.bind g1 (Ev.ret rfl)
    · have := val_nonneg (hb.drop i)
      rw [List.drop_eq_nil_of_le (show a.length ≤ i by omega)] at hle ⊢
      simp only [val] at hle ⊢
      rw [g3, show 0 - val (b.drop i) - c = 0 by omega]; omega
  | succ d ih =>
    intro i out c ho hd hg h0 h1 hle
    have ga := ha.at (i : Int)
    have gb := hb.at (i : Int)
    have hva := val_drop a i
    have hvb := val_drop b i
    by_cases hs : rd a (i : Int) - rd b (i : Int) - c < 0
    · obtain ⟨r, g1, g2, g3, g4⟩ := ih (i + 1) (out ++ [rd a (i : Int) - rd b (i : Int) - c + 10]) 1 (by simp; omega) (by omega) (hg.append (Dg.cons (by omega) Dg.nil)) (by omega) (by omega) (by omega)
      refine ⟨r, ?_, g2, ?_, g4⟩
      · refine Ev.step (fun k => payoffref01_minus.l0.eq_2 _ _ _ _ _ _) (Ev.pos (by omega) (Ev.pos (by omega) (Ev.call (ref_at _ _ (by omega)) ?_)))
        rw [w64 (n := rd a (i : Int) - rd b (i : Int)) (by omega), w64 (n := rd a (i : Int) - rd b (i : Int) - c) (by omega), w64 (n := rd a (i : Int) - rd b (i : Int) - c + 10) (by omega), w64 (n := (i : Int) + 1) (by omega)]
        exact Ev.pos hs (Ev.pos (by omega) g1)
      · rw [g3, val_append, ho, hva, hvb, Int.pow_succ]
        simp only [val]
        grind
    · obtain ⟨r, g1, g2, g3, g4⟩ := ih (i + 1) (out ++ [rd a (i : Int) - rd b (i : Int) - c]) 0 (by simp; omega) (by omega) (hg.append (Dg.cons (by omega) Dg.nil)) (by omega) (by omega) (by omega)
      refine ⟨r, ?_, g2, ?_, g4⟩
      · refine Ev.step (fun k => payoffref01_minus.l0.eq_2 _ _ _ _ _ _) (Ev.pos (by omega) (Ev.pos (by omega) (Ev.call (ref_at _ _ (by omega)) ?_)))
        rw [w64 (n := rd a (i : Int) - rd b (i : Int)) (by omega), w64 (n := rd a (i : Int) - rd b (i : Int) - c) (by omega), w64 (n := (i : Int) + 1) (by omega)]
        exact Ev.neg hs (Ev.pos (by omega) g1)
      · rw [g3, val_append, ho, hva, hvb, Int.pow_succ]
        simp only [val]
        grind
theorem ref_minus (a b : List Int) (hla : a.length ≤ 100000) (ha : Dg a) (hb : Dg b) (h : val b ≤ val a) :
    ∃ r, Ev (fun k => payoffref01_minus.f k a b) r ∧ Norm r ∧ val r = val a - val b ∧ r.length ≤ a.length := by
  unfold payoffref01_minus.f
  obtain ⟨r, g1, g2, g3, g4⟩ := ref_minus_l0 a b hla ha hb a.length 0 [] 0 rfl (by omega) Dg.nil (by omega) (by omega) (by simpa using h)
  refine ⟨r, g1, g2, ?_, g4⟩
  rw [g3]; simp [val]

/-- What a sign and digits stand for. -/
def bv (neg : Bool) (l : List Int) : Int := if neg = true then -val l else val l
theorem ref_out_l0 (neg : Bool) (l : List Int) (hl : l.length ≤ 100000) (hd : Dg l) (hv : val l ≤ 9223372036854775808) (hn : In (bv neg l)) : ∀ (n : Nat), n ≤ l.length →
    Ev (fun k => payoffref01_Out.l0 k (-val (l.drop n)) ((n : Int) - 1) neg l) (bv neg l, 0) := by
  intro n
  induction n with
  | zero =>
    intro _
    refine Ev.step (fun k => payoffref01_Out.l0.eq_2 _ _ _ _ _) (Ev.neg (by omega) ?_)
    rw [List.drop_zero]
    by_cases h : neg = true
    · have hb : bv neg l = -val l := if_pos h
      rw [hb]; exact Ev.pos h (Ev.ret rfl)
    · have hb : bv neg l = val l := if_neg h
      rw [hb] at hn ⊢
      refine Ev.neg h (Ev.ret ?_)
      unfold In at hn
      rw [w64 (by omega), Int.neg_neg]
  | succ n ih =>
    intro hn
    rw [show ((n + 1 : Nat) : Int) - 1 = (n : Int) by omega]
    have h1 := val_drop l n
    have h2 := hd.at (n : Int)
    have h3 := val_nonneg (hd.drop n)
    have h4 := val_nonneg (hd.drop (n + 1))
    have h5 : val (l.drop n) ≤ val l := by
      have e := val_append (l.take n) (l.drop n)
      rw [List.take_append_drop] at e
      have := val_nonneg (hd.take n)
      have := Int.mul_le_mul_of_nonneg_right (show (1 : Int) ≤ 10 ^ (l.take n).length from pow10_pos _) h3
      omega
    refine Ev.step (fun k => payoffref01_Out.l0.eq_2 _ _ _ _ _) (Ev.pos (by omega) (Ev.pos (by omega) (Ev.pos (by omega) ?_)))
    rw [w64 (n := -val (l.drop (n + 1)) * 10) (by omega), w64 (n := -val (l.drop (n + 1)) * 10 - rd l (n : Int)) (by omega), w64 (n := (n : Int) - 1) (by omega)]
    rw [show -val (l.drop (n + 1)) * 10 - rd l (n : Int) = -val (l.drop n) by omega]
    exact ih (by omega)
theorem ref_out_j0 (neg : Bool) (l : List Int) (hl : l.length ≤ 100000) (hd : Dg l) (b : Bool) (hb : b = !decide (In (bv neg l))) :
    Ev (fun k => payoffref01_Out.j0 k b neg l) (fit (bv neg l)) := by
  refine Ev.step (fun k => payoffref01_Out.j0.eq_2 _ _ _ _) ?_
  by_cases h : In (bv neg l)
  · rw [fit_in h, hb]
    refine Ev.neg (by simp [h]) ?_
    rw [w64 (by omega)]
    have hv := val_nonneg hd
    have := ref_out_l0 neg l hl hd (by unfold In bv at h; split at h <;> omega) h l.length (by omega)
    rw [List.drop_length] at this
    exact this
  · rw [fit_out h, hb]
    exact Ev.pos (by simp [h]) (Ev.ret rfl)
theorem ref_out (neg : Bool) (l : List Int) (hl : l.length ≤ 100000) (hn : Norm l) : Ev (fun k => payoffref01_Out.f k neg l) (fit (bv neg l)) := by
  unfold payoffref01_Out.f
  obtain ⟨c, c1, c2, c3, c4⟩ := ref_from 4611686018427387904 (by unfold In; omega)
  refine Ev.bind c1 (Ev.bind c1 ?_)
  obtain ⟨r, r1, r2, r3, r4⟩ := ref_plus c c 19 (by omega) c4 c4 c2.1 c2.1
  refine Ev.bind r1 ?_
  rw [c3] at r3
  have r3 : val r = 9223372036854775808 := by rw [r3]; decide
  refine Ev.bind (ref_above l r (by omega) hn r2) ?_
  rw [r3]
  have hv := val_nonneg hn.1
  by_cases h : val l > 9223372036854775808
  · refine Ev.pos (by simpa using h) (ref_out_j0 neg l hl hn.1 _ ?_)
    have : ¬ In (bv neg l) := by unfold In bv; split <;> omega
    simp [this]
  · refine Ev.neg (by simpa using h) ?_
    by_cases hneg : neg = true
    · refine Ev.pos hneg (ref_out_j0 neg l hl hn.1 _ ?_)
      have : In (bv neg l) := by unfold In bv; rw [if_pos hneg]; omega
      simp [this]
    · refine Ev.neg hneg (Ev.bind (ref_above r l (by omega) r2 hn) (ref_out_j0 neg l hl hn.1 _ ?_))
      rw [r3]
      have : decide (9223372036854775808 > val l) = decide (In (bv neg l)) := by
        rw [decide_eq_decide]; unfold In bv; rw [if_neg hneg]; omega
      rw [this]
theorem ref_sign (neg : Bool) (l : List Int) (hn : Norm l) : ∃ s, payoffref01_sign.f neg l = some (s, l) ∧ bv s l = bv neg l ∧ (s = true → bv neg l < 0) ∧ (s = false → 0 ≤ bv neg l) := by
  unfold payoffref01_sign.f
  have hv := val_nonneg hn.1
  have hp := hn.pos_iff
  by_cases h : neg = true
  · refine ⟨_, by rw [if_pos h], ?_, ?_, ?_⟩
    · unfold bv
      rw [if_pos h]
      split
      · rfl
      · rename_i hd
        simp only [decide_eq_true_eq] at hd
        omega
    · intro hd
      simp only [decide_eq_true_eq] at hd
      unfold bv; rw [if_pos h]; omega
    · intro hd
      simp only [decide_eq_false_iff_not] at hd
      unfold bv; rw [if_pos h]; omega
  · refine ⟨_, by rw [if_neg h], ?_, ?_, ?_⟩
    · unfold bv; rw [if_neg h, if_neg (by decide)]
    · intro hd; cases hd
    · intro _; unfold bv; rw [if_neg h]; exact hv

theorem ref_from' (v : Int) (h : In v) : ∃ s c, Ev (fun k => payoffref01_From.f k v) (s, c) ∧ Norm c ∧ bv s c = v ∧ s = decide (v < 0) ∧ val c = v.natAbs ∧ c.length ≤ 19 := by
  obtain ⟨c, h1, h2, h3, h4⟩ := ref_from v h
  refine ⟨_, c, h1, h2, ?_, rfl, h3, h4⟩
  unfold bv
  rw [h3]
  by_cases hn : v < 0
  · rw [if_pos (by simpa using hn)]; omega
  · rw [if_neg (by simpa using hn)]; omega

theorem rd_set {l : List Int} {i : Nat} {x : Int} (h : i < l.length) : rd (l.set i x) (i : Int) = x := by
  rw [rd_nat, List.getD_eq_getElem?_getD, List.getElem?_set_self h]; rfl
theorem val_set (l : List Int) (i : Nat) (x : Int) (h : i < l.length) : val (l.set i x) = val l + 10 ^ i * (x - rd l (i : Int)) := by
  have h1 := val_append ((l.set i x).take i) ((l.set i x).drop i)
  have h2 := val_append (l.take i) (l.drop i)
  rw [List.take_append_drop] at h1 h2
  rw [val_drop] at h1 h2
  rw [rd_set h, List.take_set_of_le (Nat.le_refl i), List.drop_set_of_lt (by omega)] at h1
  have hl : (l.take i).length = i := by rw [List.length_take]; omega
  rw [hl] at h1 h2
  rw [h1, h2]
  generalize (10 : Int) ^ i = p at *
  grind
theorem Dg.set {l : List Int} (h : Dg l) (i : Nat) {x : Int} (hx : 0 ≤ x ∧ x ≤ 9) : Dg (l.set i x) := fun y hy => by
  rcases List.mem_or_eq_of_mem_set hy with hy | rfl
  · exact h y hy
  · exact hx

theorem ref_times_l1 (a b : List Int) (hla : a.length ≤ 1000) (hlb : b.length ≤ 1000) (ha : Dg a) (hb : Dg b) (i : Nat) (hi : i < a.length) (V : Int) (hV : V < 10 ^ (i + b.length + 1)) (Q : List Int → Prop)
    (hR : ∀ out : List Int, out.length = a.length + b.length + 1 → Dg out → val out = V → ∃ R, Ev (fun k => payoffref01_times.l0 k a b out ((i : Int) + 1)) R ∧ Q R) :
    ∀ (d j : Nat) (out : List Int) (c : Int), out.length = a.length + b.length + 1 → Dg out → 0 ≤ c → c ≤ 9 → j + d = b.length + 2 → val out + 10 ^ (i + j) * (c + rd a (i : Int) * val (b.drop j)) = V →
    ∃ R, Ev (fun k => payoffref01_times.l1 k a b out (i : Int) c (j : Int)) R ∧ Q R := by
  intro d
  induction d with
  | zero =>
    intro j out c ho hd h0 h1 hj hv
    have hbz : val (b.drop j) = 0 := by rw [List.drop_eq_nil_of_le (by omega)]; rfl
    rw [hbz, Int.mul_zero, Int.add_zero] at hv
    have hvo := val_nonneg hd
    have hc : c = 0 := by
      apply Classical.byContradiction
      intro hc
      have hm := pow10_mono (show i + b.length + 1 ≤ i + j by omega)
      have := Int.mul_le_mul_of_nonneg_left (show (1 : Int) ≤ c by omega) (Int.le_of_lt (pow10_pos (i + j)))
      omega
    subst hc
    rw [Int.mul_zero, Int.add_zero] at hv
    obtain ⟨R, r1, r2⟩ := hR out ho hd hv
    refine ⟨R, Ev.step (fun k => payoffref01_times.l1.eq_2 _ _ _ _ _ _ _) (Ev.neg (by omega) (Ev.neg (by omega) ?_)), r2⟩
    rw [w64 (by omega)]
    exact r1
  | succ d ih =>
    intro j out c ho hd h0 h1 hj hv
    have gai := ha.at (i : Int)
    have gbj := hb.at (j : Int)
    have gop := hd.at ((i : Int) + (j : Int))
    have hprod : 0 ≤ rd a (i : Int) * rd b (j : Int) ∧ rd a (i : Int) * rd b (j : Int) ≤ 81 :=
      ⟨Int.mul_nonneg gai.1 gbj.1, Int.le_trans (Int.mul_le_mul gai.2 gbj.2 gbj.1 (by omega)) (by omega)⟩
    have hvb := val_drop b j
    have step : i + j < out.length → ∀ k, (if 0 ≤ (wrap64 ((i : Int) + (j : Int))) then (if (wrap64 ((i : Int) + (j : Int))) < (out.length : Int) then (if 0 ≤ (i : Int) then (if (i : Int) < (a.length : Int) then ((payoffref01_at.f b (j : Int)).bind fun t130 => (payoffref01_times.l1 k a b (out.set ((wrap64 ((i : Int) + (j : Int))) : Int).toNat (Int.tmod (wrap64 ((wrap64 ((rd out (wrap64 ((i : Int) + (j : Int)))) + (wrap64 ((rd a (i : Int)) * t130)))) + c)) 10)) (i : Int) (wrap64 (Int.tdiv (wrap64 ((wrap64 ((rd out (wrap64 ((i : Int) + (j : Int)))) + (wrap64 ((rd a (i : Int)) * t130)))) + c)) 10)) (wrap64 ((j : Int) + 1)))) else (none)) else (none)) else (none)) else (none))
        = payoffref01_times.l1 k a b (out.set (i + j) ((rd out ((i : Int) + (j : Int)) + rd a (i : Int) * rd b (j : Int) + c) % 10)) (i : Int) ((rd out ((i : Int) + (j : Int)) + rd a (i : Int) * rd b (j : Int) + c) / 10) (((j + 1 : Nat) : Int)) := by
      intro hij k
      rw [w64 (n := (i : Int) + (j : Int)) (by omega), if_pos (by omega), if_pos (by omega), if_pos (by omega), if_pos (by omega), ref_at _ _ (by omega), Option.bind_some]
      rw [w64 (n := rd a (i : Int) * rd b (j : Int)) (by omega), w64 (n := rd out ((i : Int) + (j : Int)) + rd a (i : Int) * rd b (j : Int)) (by omega),
        w64 (n := rd out ((i : Int) + (j : Int)) + rd a (i : Int) * rd b (j : Int) + c) (by omega), Int.tdiv_eq_ediv_of_nonneg (by omega), Int.tmod_eq_emod_of_nonneg (by omega), w64 (n := (j : Int) + 1) (by omega), w64 (by omega)]
      rw [show ((i : Int) + (j : Int)).toNat = i + j by omega]; rfl
    have next : i + j < out.length → ∃ R, Ev (fun k => payoffref01_times.l1 k a b (out.set (i + j) ((rd out ((i : Int) + (j : Int)) + rd a (i : Int) * rd b (j : Int) + c) % 10)) (i : Int) ((rd out ((i : Int) + (j : Int)) + rd a (i : Int) * rd b (j : Int) + c) / 10) (((j + 1 : Nat) : Int))) R ∧ Q R := by
      intro hij
      refine ih (j + 1) _ _ (by rw [List.length_set]; exact ho) (hd.set _ (by omega)) (by omega) (by omega) (by omega) ?_
      rw [val_set _ _ _ hij, ← hv, hvb, show ((i + j : Nat) : Int) = (i : Int) + (j : Int) by omega, show i + (j + 1) = (i + j) + 1 by omega, Int.pow_succ]
      have hs : rd out ((i : Int) + (j : Int)) + rd a (i : Int) * rd b (j : Int) + c = (rd out ((i : Int) + (j : Int)) + rd a (i : Int) * rd b (j : Int) + c) % 10 + 10 * ((rd out ((i : Int) + (j : Int)) + rd a (i : Int) * rd b (j : Int) + c) / 10) := by omega
      generalize (rd out ((i : Int) + (j : Int)) + rd a (i : Int) * rd b (j : Int) + c) % 10 = u at *
      generalize (rd out ((i : Int) + (j : Int)) + rd a (i : Int) * rd b (j : Int) + c) / 10 = v at *
      generalize (10 : Int) ^ (i + j) = p at *
      grind
    by_cases hjb : (j : Int) < b.length
    · obtain ⟨R, r1, r2⟩ := next (by omega)
      exact ⟨R, Ev.step (fun k => payoffref01_times.l1.eq_2 _ _ _ _ _ _ _) (Ev.pos hjb (Ev.congr (step (by omega)) r1)), r2⟩
    · by_cases hc : c > 0
      · have hij : i + j < out.length := by
          apply Classical.byContradiction
          intro hn
          have hbz : val (b.drop j) = 0 := by rw [List.drop_eq_nil_of_le (by omega)]; rfl
          rw [hbz, Int.mul_zero, Int.add_zero] at hv
          have hvo := val_nonneg hd
          have hm := pow10_mono (show i + b.length + 1 ≤ i + j by omega)
          have := Int.mul_le_mul_of_nonneg_left (show (1 : Int) ≤ c by omega) (Int.le_of_lt (pow10_pos (i + j)))
          omega
        obtain ⟨R, r1, r2⟩ := next hij
        exact ⟨R, Ev.step (fun k => payoffref01_times.l1.eq_2 _ _ _ _ _ _ _) (Ev.neg hjb (Ev.pos hc (Ev.congr (step hij) r1))), r2⟩
      · have hc0 : c = 0 := by omega
        subst hc0
        have hbz : val (b.drop j) = 0 := by rw [List.drop_eq_nil_of_le (by omega)]; rfl
        rw [hbz, Int.mul_zero, Int.add_zero, Int.mul_zero, Int.add_zero] at hv
        obtain ⟨R, r1, r2⟩ := hR out ho hd hv
        refine ⟨R, Ev.step (fun k => payoffref01_times.l1.eq_2 _ _ _ _ _ _ _) (Ev.neg hjb (Ev.neg hc ?_)), r2⟩
        rw [w64 (by omega)]
        exact r1
theorem ref_times_l0 (a b : List Int) (hla : a.length ≤ 1000) (hlb : b.length ≤ 1000) (ha : Dg a) (hb : Dg b) (W : Int) : ∀ (d i : Nat) (out : List Int), i + d = a.length →
    out.length = a.length + b.length + 1 → Dg out → val out < 10 ^ (i + b.length) → W = val out + 10 ^ i * (val (a.drop i) * val b) →
    ∃ R, Ev (fun k => payoffref01_times.l0 k a b out (i : Int)) R ∧ Norm R ∧ val R = W ∧ R.length ≤ a.length + b.length + 1 := by
  intro d
  induction d with
  | zero =>
    intro i out hi ho hd hlt hW
    obtain ⟨r, g1, g2, g3, g4⟩ := ref_trim out (by omega) hd
    refine ⟨r, Ev.step (fun k => payoffref01_times.l0.eq_2 _ _ _ _ _) (Ev.neg (by omega) (Ev.bind g1 (Ev.ret rfl))), g2, ?_, by omega⟩
    rw [g3, hW, List.drop_eq_nil_of_le (by omega)]; simp [val]
  | succ d ih =>
    intro i out hi ho hd hlt hW
    have gai := ha.at (i : Int)
    have hvb := val_nonneg hb
    have hvo := val_nonneg hd
    have hbl := val_lt hb
    have hp := pow10_pos i
    have hV : val out + 10 ^ i * (rd a (i : Int) * val b) < 10 ^ (i + b.length + 1) := by
      have h1 : rd a (i : Int) * val b ≤ 9 * val b := Int.mul_le_mul_of_nonneg_right gai.2 hvb
      have h2 : 10 ^ i * (rd a (i : Int) * val b) ≤ 10 ^ i * (9 * (10 ^ b.length - 1)) := Int.mul_le_mul_of_nonneg_left (by omega) (by omega)
      rw [Int.pow_succ, Int.pow_add] 
      rw [Int.pow_add] at hlt
      generalize (10 : Int) ^ i = p at *
      generalize (10 : Int) ^ b.length = q at *
      have h3 : p * (9 * (q - 1)) = 9 * (p * q) - 9 * p := by grind
      omega
    have hva := val_drop a i
    obtain ⟨R, r1, r2⟩ := ref_times_l1 a b hla hlb ha hb i (by omega) (val out + 10 ^ i * (rd a (i : Int) * val b)) hV (fun R => Norm R ∧ val R = W ∧ R.length ≤ a.length + b.length + 1) (by
      intro o2 ho2 hd2 hv2
      refine ih (i + 1) o2 (by omega) ho2 hd2 ?_ ?_
      · rw [hv2, show i + 1 + b.length = i + b.length + 1 by omega]; exact hV
      · rw [hW, hv2, hva, Int.pow_succ]
        generalize (10 : Int) ^ i = p at *
        grind) (b.length + 2) 0 out 0 ho hd (by omega) (by omega) (by omega) (by simp)
    exact ⟨R, Ev.step (fun k => payoffref01_times.l0.eq_2 _ _ _ _ _) (Ev.pos (by omega) r1), r2⟩
theorem ref_times (a b : List Int) (hla : a.length ≤ 1000) (hlb : b.length ≤ 1000) (ha : Dg a) (hb : Dg b) :
    ∃ R, Ev (fun k => payoffref01_times.f k a b) R ∧ Norm R ∧ val R = val a * val b ∧ R.length ≤ a.length + b.length + 1 := by
  unfold payoffref01_times.f
  have hn : ((a.length : Int) + (b.length : Int) + 1).toNat = a.length + b.length + 1 := by omega
  rw [w64 (n := (a.length : Int) + (b.length : Int)) (by omega), w64 (n := (a.length : Int) + (b.length : Int) + 1) (by omega), hn]
  have hz : ∀ n, val (List.replicate n 0) = 0 := by
    intro n
    induction n with
    | zero => rfl
    | succ n ih => simp [List.replicate_succ, val, ih]
  obtain ⟨R, r1, r2⟩ := ref_times_l0 a b hla hlb ha hb (val a * val b) a.length 0 (List.replicate (a.length + b.length + 1) 0) (by omega) (by simp) (fun x hx => by
    rw [(List.mem_replicate.1 hx).2]; omega) (by rw [hz]; exact pow10_pos _) (by rw [hz]; simp)
  exact ⟨R, Ev.pos (by omega) (Ev.pos (by omega) r1), r2⟩
theorem ref_Times (p q : Bool) (a b : List Int) (hla : a.length ≤ 1000) (hlb : b.length ≤ 1000) (ha : Norm a) (hb : Norm b) :
    ∃ s r, Ev (fun k => payoffref01_Times.f k p a q b) (s, r) ∧ Norm r ∧ bv s r = bv p a * bv q b ∧ val r = val a * val b ∧ (s = true → bv s r < 0) ∧ (s = false → 0 ≤ bv s r) ∧ r.length ≤ a.length + b.length + 1 := by
  unfold payoffref01_Times.f
  obtain ⟨r, r1, r2, r3, r4⟩ := ref_times a b hla hlb ha.1 hb.1
  obtain ⟨s, s1, s2, s3, s4⟩ := ref_sign (p != q) r r2
  refine ⟨s, r, Ev.bind r1 (Ev.call s1 (Ev.ret rfl)), r2, ?_, r3, by rw [s2]; exact s3, by rw [s2]; exact s4, r4⟩
  rw [s2]; unfold bv; rw [r3]
  cases p <;> cases q <;> simp [Int.neg_mul, Int.mul_neg]

theorem ref_over_l1 (a b : List Int) (hla : a.length ≤ 1000) (hlb : b.length ≤ 1000) (ha : Dg a) (hb : Norm b) (hb0 : 0 < val b) (n : Nat) (hn : n < a.length) (P : List Int × List Int → Prop)
    (hK : ∀ q r : List Int, q.length = a.length → Dg q → (∀ j, j < n → rd q (j : Int) = 0) → Norm r → val r < val b → val (a.drop n) = val (q.drop n) * val b + val r →
      ∃ R, Ev (fun k => payoffref01_over.l0 k a b q r ((n : Int) - 1)) R ∧ P R) :
    ∀ (d : Nat) (q r : List Int), q.length = a.length → Dg q → (∀ j, j < n → rd q (j : Int) = 0) → Norm r → r.length ≤ 2000 → rd q (n : Int) + d = 10 → val r < d * val b → val (a.drop n) = val (q.drop n) * val b + val r →
      ∃ R, Ev (fun k => payoffref01_over.l1 k a b q r (n : Int)) R ∧ P R := by
  intro d
  induction d with
  | zero =>
    intro q r hq hdq hz hr hlr ht hv he
    have := val_nonneg hr.1
    rw [Int.natCast_zero, Int.zero_mul] at hv
    omega
  | succ d ih =>
    intro q r hq hdq hz hr hlr ht hv he
    have hab := ref_above b r (by omega) hb hr
    by_cases h : val b > val r
    · obtain ⟨R, r1, r2⟩ := hK q r hq hdq hz hr h he
      refine ⟨R, Ev.step (fun k => payoffref01_over.l1.eq_2 _ _ _ _ _ _) (Ev.bind hab (Ev.pos (by simpa using h) ?_)), r2⟩
      rw [w64 (by omega)]; exact r1
    · obtain ⟨m, m1, m2, m3, m4⟩ := ref_minus r b (by omega) hr.1 hb.1 (by omega)
      have hrn := val_nonneg hr.1
      have gq := hdq.at (n : Int)
      have hd1 : (((d + 1 : Nat) : Int)) * val b = d * val b + val b := by rw [Int.natCast_add, Int.add_mul]; simp
      have hd0 : 1 ≤ d := by
        apply Classical.byContradiction
        intro hc
        have : d = 0 := by omega
        subst this
        simp at hv
        omega
      have hset : rd (q.set n (rd q (n : Int) + 1)) (n : Int) = rd q (n : Int) + 1 := rd_set (by omega)
      obtain ⟨R, r1, r2⟩ := ih (q.set n (rd q (n : Int) + 1)) m (by rw [List.length_set]; exact hq) (hdq.set _ (by omega)) (by
        intro j hj
        rw [rd_nat, List.getD_eq_getElem?_getD, List.getElem?_set_ne (by omega), ← List.getD_eq_getElem?_getD, ← rd_nat]
        exact hz j hj) m2 (by omega) (by rw [hset]; omega) (by omega) (by
        rw [m3, he, val_drop, val_drop (q.set n _), hset, List.drop_set_of_lt (by omega)]
        grind)
      refine ⟨R, Ev.step (fun k => payoffref01_over.l1.eq_2 _ _ _ _ _ _) (Ev.bind hab (Ev.neg (by simpa using h) (Ev.bind m1 (Ev.pos (by omega) (Ev.pos (by omega) ?_))))), r2⟩
      rw [w64 (by omega), Int.toNat_natCast]
      exact r1
theorem ref_over_l0 (a b : List Int) (hla : a.length ≤ 1000) (hlb : b.length ≤ 1000) (ha : Dg a) (hb : Norm b) (hb0 : 0 < val b) : ∀ (n : Nat) (q r : List Int), n ≤ a.length → q.length = a.length → Dg q →
    (∀ j, j < n → rd q (j : Int) = 0) → Norm r → val r < val b → val (a.drop n) = val (q.drop n) * val b + val r →
    ∃ R : List Int × List Int, Ev (fun k => payoffref01_over.l0 k a b q r ((n : Int) - 1)) R ∧ Norm R.1 ∧ Norm R.2 ∧ val a = val R.1 * val b + val R.2 ∧ val R.2 < val b ∧ R.1.length ≤ a.length ∧ R.2.length ≤ b.length := by
  intro n
  induction n with
  | zero =>
    intro q r hn hq hdq hz hr hv he
    obtain ⟨c, c1, c2, c3, c4⟩ := ref_trim q (by omega) hdq
    refine ⟨(c, r), Ev.step (fun k => payoffref01_over.l0.eq_2 _ _ _ _ _ _) (Ev.neg (by omega) (Ev.bind c1 (Ev.ret rfl))), c2, hr, ?_, hv, by simp only; omega, ?_⟩
    · simp only [List.drop_zero] at he
      simp only; rw [c3]; exact he
    · exact hr.length_le (by have := val_lt hb.1; omega)
  | succ n ih =>
    intro q r hn hq hdq hz hr hv he
    have ga := ha.at (n : Int)
    have hrl : r.length ≤ b.length := hr.length_le (by have := val_lt hb.1; omega)
    have hva := val_drop a n
    have hvq := val_drop q n
    rw [hz n (by omega)] at hvq
    obtain ⟨c, c1, c2, c3, c4⟩ := ref_trim ([rd a (n : Int)] ++ r) (by simp; omega) ((Dg.cons ga Dg.nil).append hr.1)
    have hc : val c = rd a (n : Int) + 10 * val r := by rw [c3]; rfl
    obtain ⟨R, r1, r2⟩ := ref_over_l1 a b hla hlb ha hb hb0 n (by omega) (fun R => Norm R.1 ∧ Norm R.2 ∧ val a = val R.1 * val b + val R.2 ∧ val R.2 < val b ∧ R.1.length ≤ a.length ∧ R.2.length ≤ b.length) (by
      intro q2 r2 hq2 hd2 hz2 hr2 hv2 he2
      exact ih q2 r2 (by omega) hq2 hd2 hz2 hr2 hv2 he2) 10 q c hq hdq (fun j hj => hz j (by omega)) c2 (by simp at c4; omega) (by rw [hz n (by omega)]; rfl) (by rw [hc]; omega) (by
      rw [hva, he, hvq, hc]; grind)
    refine ⟨R, Ev.step (fun k => payoffref01_over.l0.eq_2 _ _ _ _ _ _) (Ev.pos (by omega) (Ev.pos (by omega) (Ev.pos (by omega) (Ev.call rfl (Ev.pos (by simp; omega) (Ev.bind (a := c) ?_ ?_)))))), r2⟩
    · rw [show (((n + 1 : Nat) : Int) - 1) = (n : Int) by omega]; exact c1
    · rw [show (((n + 1 : Nat) : Int) - 1) = (n : Int) by omega]; exact r1
theorem ref_over (a b : List Int) (hla : a.length ≤ 1000) (hlb : b.length ≤ 1000) (ha : Dg a) (hb : Norm b) (hb0 : 0 < val b) :
    ∃ q r, Ev (fun k => payoffref01_over.f k a b) (q, r) ∧ Norm q ∧ Norm r ∧ val a = val q * val b + val r ∧ val r < val b ∧ q.length ≤ a.length ∧ r.length ≤ b.length := by
  unfold payoffref01_over.f
  have hz : ∀ n, ∀ x ∈ List.replicate n (0 : Int), x = 0 := fun n x hx => (List.mem_replicate.1 hx).2
  obtain ⟨⟨q, r⟩, r1, r2⟩ := ref_over_l0 a b hla hlb ha hb hb0 a.length (List.replicate a.length 0) [] (by omega) (by simp) (fun x hx => by rw [hz _ x hx]; omega) (by
    intro j hj
    rw [rd_nat, List.getD_eq_getElem?_getD, List.getElem?_replicate]
    split <;> rfl) Norm.nil (by simpa [val] using hb0) (by
    rw [List.drop_length, List.drop_eq_nil_of_le (by simp)]; simp [val])
  refine ⟨q, r, Ev.pos (by omega) (Ev.pos (by omega) ?_), r2⟩
  rw [Int.toNat_natCast, w64 (by omega)]
  exact r1

/-- Is a fraction A over B, cut to q with the rest r, to go one away from 0? -/
def goes (neg : Bool) (q r B mode : Int) : Bool :=
  if mode = 1 then neg && decide (0 < r) else if mode = 2 then !neg && decide (0 < r) else if mode = 3 then decide (B ≤ 2 * r)
  else if mode = 4 then decide (B < 2 * r) || (decide (B = 2 * r) && decide (q % 2 = 1)) else false
/-- A over B, rounded, with its sign. -/
def rounded (neg : Bool) (A B mode : Int) : Int :=
  let m := if goes neg (A / B) (A % B) B mode = true then A / B + 1 else A / B
  if neg = true then -m else m
theorem ref_Round_j1 (neg away : Bool) (q : List Int) (hl : q.length ≤ 1000) (hq : Norm q) :
    Ev (fun k => payoffref01_Round.j1 k q neg away) (fit (let m := if away = true then val q + 1 else val q; if neg = true then -m else m)) := by
  refine Ev.step (fun k => payoffref01_Round.j1.eq_2 _ _ _ _) ?_
  cases away with
  | true =>
    obtain ⟨c, c1, c2, c3, c4⟩ := ref_plus q [1] 1000 (by omega) hl (by simp) hq.1 (Dg.cons (by omega) Dg.nil)
    obtain ⟨s, s1, s2, -, -⟩ := ref_sign neg c c2
    refine Ev.pos rfl (Ev.bind c1 (Ev.call s1 (Ev.bind (ref_out s c (by omega) c2) (Ev.ret ?_))))
    rw [s2]; unfold bv; rw [c3]; simp [val]
  | false =>
    obtain ⟨s, s1, s2, -, -⟩ := ref_sign neg q hq
    refine Ev.neg (by decide) (Ev.call s1 (Ev.bind (ref_out s q (by omega) hq) (Ev.ret ?_)))
    rw [s2]; unfold bv; simp
theorem ref_Round_j0 (mode : Int) (q r two b : List Int) (neg p : Bool) (hlq : q.length ≤ 1000) (hlt : two.length ≤ 1000) (hq : Norm q) (hr : Norm r) (ht : Norm two) (hb : Norm b) (h2 : val two = 2 * val r) (half : Bool) (hh : half = decide (val b = 2 * val r)) :
    Ev (fun k => payoffref01_Round.j0 k mode q r neg two half p b) (fit (let m := if goes neg (val q) (val r) (val b) mode = true then val q + 1 else val q; if neg = true then -m else m)) := by
  have j1 := fun away => ref_Round_j1 neg away q hlq hq
  have hp : decide ((r.length : Int) > 0) = decide (0 < val r) := by rw [decide_eq_decide]; exact hr.pos_iff
  have hab := ref_above two b (by omega) ht hb
  rw [h2] at hab
  have hpar : ∀ z, Int.tmod (rd q 0) 2 = z ↔ val q % 2 = z := by
    intro z
    have := hq.1.at 0
    rw [Int.tmod_eq_emod_of_nonneg (by omega), val_rd0]
    have : (rd q 0 + 10 * val (q.drop 1)) % 2 = rd q 0 % 2 := by omega
    rw [this]
  refine Ev.step (fun k => payoffref01_Round.j0.eq_2 _ _ _ _ _ _ _ _ _) ?_
  unfold goes
  by_cases m1 : mode = 1
  · refine Ev.pos m1 ?_
    rw [if_pos m1]
    cases neg with
    | true => refine Ev.pos rfl ?_; rw [hp]; simpa using j1 (decide (0 < val r))
    | false => refine Ev.neg (by decide) ?_; simpa using j1 false
  refine Ev.neg m1 ?_
  rw [if_neg m1]
  by_cases m2 : mode = 2
  · refine Ev.pos m2 ?_
    rw [if_pos m2]
    cases neg with
    | true => refine Ev.pos rfl ?_; simpa using j1 false
    | false => refine Ev.neg (by decide) ?_; rw [hp]; simpa using j1 (decide (0 < val r))
  refine Ev.neg m2 ?_
  rw [if_neg m2]
  by_cases m3 : mode = 3
  · refine Ev.pos m3 ?_
    rw [if_pos m3]
    by_cases e : val b = 2 * val r
    · refine Ev.pos (by simp [hh, e]) ?_
      rw [show decide (val b ≤ 2 * val r) = true from decide_eq_true (by omega)]
      exact j1 true
    · refine Ev.neg (by simp [hh, e]) (Ev.bind hab ?_)
      rw [show decide (val b ≤ 2 * val r) = decide (2 * val r > val b) by rw [decide_eq_decide]; omega]
      exact j1 _
  refine Ev.neg m3 ?_
  rw [if_neg m3]
  by_cases m4 : mode = 4
  · refine Ev.pos m4 ?_
    rw [if_pos m4]
    by_cases e : val b = 2 * val r
    · refine Ev.pos (by simp [hh, e]) (Ev.call (ref_at q 0 (by omega)) ?_)
      by_cases ep : val q % 2 = 1
      · refine Ev.pos ((hpar 1).2 ep) ?_
        rw [show (decide (val b < 2 * val r) || (decide (val b = 2 * val r) && decide (val q % 2 = 1))) = true by simp [e, ep]]
        exact j1 true
      · refine Ev.neg (fun h => ep ((hpar 1).1 h)) (Ev.bind hab ?_)
        rw [show (decide (val b < 2 * val r) || (decide (val b = 2 * val r) && decide (val q % 2 = 1))) = decide (2 * val r > val b) by simp [ep]]
        exact j1 _
    · refine Ev.neg (by simp [hh, e]) (Ev.bind hab ?_)
      rw [show (decide (val b < 2 * val r) || (decide (val b = 2 * val r) && decide (val q % 2 = 1))) = decide (2 * val r > val b) by simp [e]]
      exact j1 _
  refine Ev.neg m4 ?_
  rw [if_neg m4]
  exact j1 false
theorem ediv_of {A B q r : Int} (h : A = q * B + r) (h0 : 0 ≤ r) (hr : r < B) : A / B = q ∧ A % B = r := by
  have h1 : A / B = q := by
    rw [h, Int.add_comm, Int.add_mul_ediv_right _ _ (by omega), Int.ediv_eq_zero_of_lt h0 hr, Int.zero_add]
  refine ⟨h1, ?_⟩
  have h2 := Int.mul_ediv_add_emod A B
  rw [h1, Int.mul_comm] at h2
  omega
theorem ref_Round (p q : Bool) (a b : List Int) (mode : Int) (hla : a.length ≤ 100) (hlb : b.length ≤ 100) (ha : Norm a) (hb : Norm b) (hb0 : 0 < val b) :
    Ev (fun k => payoffref01_Round.f k p a q b mode) (fit (rounded (p != q) (val a) (val b) mode)) := by
  unfold payoffref01_Round.f
  obtain ⟨c, r, c1, c2, r2, c3, r3, c4, r4⟩ := ref_over a b (by omega) (by omega) ha.1 hb hb0
  obtain ⟨t, t1, t2, t3, t4⟩ := ref_plus r r 100 (by omega) (by omega) (by omega) r2.1 r2.1
  have hrn := val_nonneg r2.1
  obtain ⟨e1, e2⟩ := ediv_of c3 hrn r3
  unfold rounded
  rw [e1, e2]
  refine Ev.bind c1 (Ev.bind t1 (Ev.bind (ref_above t b (by omega) t2 hb) ?_))
  have j0 := fun half hh => ref_Round_j0 mode c r t b (p != q) q (by omega) (by omega) c2 r2 t2 hb (by omega) half hh
  by_cases h : val t > val b
  · refine Ev.pos (by simpa using h) (j0 false ?_)
    exact (decide_eq_false (by omega)).symm
  · refine Ev.neg (by simpa using h) (Ev.bind (ref_above b t (by omega) hb t2) (j0 _ ?_))
    rw [← decide_not, decide_eq_decide]; omega

/-! Bits of 64 -/
theorem wrap_u64 (n : Int) : IntKind.u64.wrap n = n % 18446744073709551616 := by simp [IntKind.wrap, IntKind.bits, IntKind.signed]
theorem wraps_u64 (n : Int) (h₀ : 0 ≤ n) (h₁ : n < 2 ^ 64) : IntKind.u64.wrap n = n := by
  rw [wrap_u64]; rw [show (2 : Int) ^ 64 = 18446744073709551616 from rfl] at h₁; omega
theorem and_mask (i : Nat) (hi : i ≤ 64) (x m : Int) (hm : m = 2 ^ i - 1) (h0 : 0 ≤ x) (h1 : x < 18446744073709551616) : Go.bits .and .u64 x m = x % 2 ^ i := by
  rw [hm]; exact bits_mask .u64 64 (by decide) wraps_u64 i hi x h0 h1
theorem and_one (x : Int) (h0 : 0 ≤ x) (h1 : x < 18446744073709551616) : Go.bits .and .u64 x 1 = x % 2 := and_mask 1 (by decide) x 1 (by decide) h0 h1
theorem and_half (x : Int) (h0 : 0 ≤ x) (h1 : x < 18446744073709551616) : Go.bits .and .u64 x 4294967295 = x % 4294967296 := and_mask 32 (by decide) x 4294967295 (by decide) h0 h1
theorem or_join (i : Nat) (x y : Int) (hx0 : 0 ≤ x) (hx : x % 2 ^ i = 0) (hx1 : x < 18446744073709551616) (hy0 : 0 ≤ y) (hy : y < 2 ^ i) (hy1 : y < 18446744073709551616) : Go.bits .or .u64 x y = x + y :=
  bits_join .u64 64 (by decide) wraps_u64 i x y hx0 hx hx1 hy0 hy hy1
theorem shl_one (i : Nat) (hi : i ≤ 63) : shl .u64 1 (i : Int) = 2 ^ i := by
  unfold shl
  rw [Int.toNat_natCast, show IntKind.u64.bits = 64 from rfl, Nat.min_eq_left (by omega), Int.one_mul]
  refine wraps_u64 _ (Int.le_of_lt (Int.pow_pos (by decide))) ?_
  have := Nat.pow_lt_pow_right (show 1 < 2 by decide) (show i < 64 by omega)
  exact_mod_cast this
theorem shr_nat (x : Int) (i : Nat) (hi : i ≤ 63) : shr .u64 x (i : Int) = x / 2 ^ i := by
  unfold shr
  rw [Int.toNat_natCast, show IntKind.u64.bits = 64 from rfl, Nat.min_eq_left (by omega)]
theorem pow2_pos (n : Nat) : (0 : Int) < 2 ^ n := Int.pow_pos (by decide)
theorem pow2_le {m n : Nat} (h : m ≤ n) : (2 : Int) ^ m ≤ 2 ^ n := by
  have := Nat.pow_le_pow_right (show 2 > 0 by decide) h
  exact_mod_cast this

theorem num_size (a : Int) (h : In a) : num_size.f a = some (a.natAbs : Int) := by
  unfold num_size.f
  unfold In at h
  rw [wrap_u64, wrap_u64]
  by_cases e : a < 0
  · rw [if_pos e]; congr 1; omega
  · rw [if_neg e]; congr 1; omega
theorem mul_bound {x y m n : Int} (hx : 0 ≤ x) (hy : 0 ≤ y) (h1 : x ≤ m) (h2 : y ≤ n) : 0 ≤ x * y ∧ x * y ≤ m * n :=
  ⟨Int.mul_nonneg hx hy, Int.mul_le_mul h1 h2 hy (by omega)⟩
theorem num_times (a b : Int) (ha : 0 ≤ a ∧ a ≤ 18446744073709551615) (hb : 0 ≤ b ∧ b ≤ 18446744073709551615) :
    ∃ hi lo, num_times.f a b = some (hi, lo) ∧ hi * 18446744073709551616 + lo = a * b ∧ 0 ≤ hi ∧ 0 ≤ lo ∧ lo ≤ 18446744073709551615 ∧ hi ≤ 18446744073709551615 := by
  unfold num_times.f
  rw [and_half a (by omega) (by omega), and_half b (by omega) (by omega)]
  have a1 : 0 ≤ a / 4294967296 ∧ a / 4294967296 ≤ 4294967295 := by omega
  have b1 : 0 ≤ b / 4294967296 ∧ b / 4294967296 ≤ 4294967295 := by omega
  have a0 : 0 ≤ a % 4294967296 ∧ a % 4294967296 ≤ 4294967295 := by omega
  have b0 : 0 ≤ b % 4294967296 ∧ b % 4294967296 ≤ 4294967295 := by omega
  have hA : a = a / 4294967296 * 4294967296 + a % 4294967296 := by omega
  have hB : b = b / 4294967296 * 4294967296 + b % 4294967296 := by omega
  have hab : a * b = (a / 4294967296 * (b / 4294967296)) * 18446744073709551616 + (a / 4294967296 * (b % 4294967296) + a % 4294967296 * (b / 4294967296)) * 4294967296 + a % 4294967296 * (b % 4294967296) := by
    generalize a / 4294967296 = x at *
    generalize b / 4294967296 = y at *
    generalize a % 4294967296 = u at *
    generalize b % 4294967296 = v at *
    rw [hA, hB]
    grind
  rw [hab]
  have p11 := mul_bound a1.1 b1.1 a1.2 b1.2
  have p10 := mul_bound a1.1 b0.1 a1.2 b0.2
  have p01 := mul_bound a0.1 b1.1 a0.2 b1.2
  have p00 := mul_bound a0.1 b0.1 a0.2 b0.2
  generalize a / 4294967296 * (b / 4294967296) = m11 at *
  generalize a / 4294967296 * (b % 4294967296) = m10 at *
  generalize a % 4294967296 * (b / 4294967296) = m01 at *
  generalize a % 4294967296 * (b % 4294967296) = m00 at *
  clear hA hB hab a0 a1 b0 b1
  rw [wu64 (n := m00) (by omega), wu64 (n := m10) (by omega), wu64 (n := m10 + m00 / 4294967296) (by omega), wu64 (n := m01) (by omega), wu64 (n := m11) (by omega)]
  rw [and_half (m10 + m00 / 4294967296) (by omega) (by omega), and_half m00 (by omega) (by omega)]
  rw [wu64 (n := m01 + (m10 + m00 / 4294967296) % 4294967296) (by omega), wu64 (n := m11 + (m10 + m00 / 4294967296) / 4294967296) (by omega),
    wu64 (n := m11 + (m10 + m00 / 4294967296) / 4294967296 + (m01 + (m10 + m00 / 4294967296) % 4294967296) / 4294967296) (by omega), wrap_u64]
  rw [or_join 32 _ _ (by omega) (by rw [show (2 : Int) ^ 32 = 4294967296 from rfl]; omega) (by omega) (by omega) (by rw [show (2 : Int) ^ 32 = 4294967296 from rfl]; omega) (by omega)]
  refine ⟨_, _, rfl, ?_, ?_, ?_, ?_, ?_⟩ <;> omega
theorem num_over_l0 (lo d : Int) (hlo : 0 ≤ lo ∧ lo ≤ 18446744073709551615) (hd : 0 < d ∧ d ≤ 9223372036854775808) : ∀ (n : Nat) (q r : Int), n ≤ 64 → 0 ≤ r → r < d → 0 ≤ q → q % 2 ^ n = 0 → q + 2 ^ n ≤ 18446744073709551616 →
    Ev (fun k => num_over.l0 k lo d q r ((n : Int) - 1)) (q + (r * 2 ^ n + lo % 2 ^ n) / d, (r * 2 ^ n + lo % 2 ^ n) % d) := by
  intro n
  induction n with
  | zero =>
    intro q r hn h0 h1 hq hz hs
    refine Ev.step (fun k => num_over.l0.eq_2 _ _ _ _ _ _) (Ev.neg (by omega) (Ev.ret ?_))
    rw [Int.pow_zero, Int.mul_one, Int.emod_one, Int.add_zero, Int.ediv_eq_zero_of_lt h0 h1, Int.emod_eq_of_lt h0 h1, Int.add_zero]
  | succ n ih =>
    intro q r hn h0 h1 hq hz hs
    have hp := pow2_pos n
    have hbit : (lo / 2 ^ n) % 2 = 0 ∨ (lo / 2 ^ n) % 2 = 1 := by omega
    have hlo0 : 0 ≤ lo / 2 ^ n := Int.ediv_nonneg hlo.1 (Int.le_of_lt hp)
    have hlo1 : lo / 2 ^ n ≤ lo := Int.ediv_le_self _ hlo.1
    have hlm : lo % 2 ^ (n + 1) = (lo / 2 ^ n) % 2 * 2 ^ n + lo % 2 ^ n := by
      have e1 := Int.mul_ediv_add_emod lo (2 ^ n)
      have e2 := Int.emod_nonneg lo (show (2 : Int) ^ n ≠ 0 by omega)
      have e3 := Int.emod_lt_of_pos lo hp
      have e4 : lo = (2 ^ n * 2) * ((lo / 2 ^ n) / 2) + ((lo / 2 ^ n) % 2 * 2 ^ n + lo % 2 ^ n) := by
        have : lo / 2 ^ n = 2 * ((lo / 2 ^ n) / 2) + (lo / 2 ^ n) % 2 := by omega
        generalize lo / 2 ^ n / 2 = u at *
        generalize lo / 2 ^ n % 2 = v at *
        generalize lo % 2 ^ n = w at *
        generalize (2 : Int) ^ n = p at *
        rw [this] at e1
        grind
      rw [Int.pow_succ]
      refine (ediv_of (q := (lo / 2 ^ n) / 2) (r := (lo / 2 ^ n) % 2 * 2 ^ n + lo % 2 ^ n) ?_ ?_ ?_).2
      · rw [Int.mul_comm ((lo / 2 ^ n) / 2)]; exact e4
      · rcases hbit with h | h <;> rw [h] <;> omega
      · rcases hbit with h | h <;> rw [h] <;> omega
    have hz2 : q % 2 ^ n = 0 := by
      have := Int.emod_emod_of_dvd q (show (2 : Int) ^ n ∣ 2 ^ (n + 1) from ⟨2, by rw [Int.pow_succ]⟩)
      rw [hz, Int.zero_emod] at this
      exact this.symm
    have hps : (2 : Int) ^ (n + 1) = 2 * 2 ^ n := by rw [Int.pow_succ, Int.mul_comm]
    rw [hlm, hps]
    rw [hps] at hs hz
    rw [show (((n + 1 : Nat) : Int) - 1) = (n : Int) by omega]
    refine Ev.step (fun k => num_over.l0.eq_2 _ _ _ _ _ _) (Ev.pos (by omega) (Ev.pos (by omega) ?_))
    rw [shr_nat lo n (by omega), shl_one n (by omega), and_one _ hlo0 (by omega), wu64 (n := r * 2) (by omega)]
    have hor : Go.bits .or .u64 (r * 2) (lo / 2 ^ n % 2) = r * 2 + lo / 2 ^ n % 2 := by
      refine or_join 1 _ _ (by omega) ?_ (by omega) (by omega) ?_ (by omega)
      · rw [show (2 : Int) ^ 1 = 2 from rfl]; omega
      · rw [show (2 : Int) ^ 1 = 2 from rfl]; omega
    rw [hor]
    have hw : wrap64 ((n : Int) - 1) = (n : Int) - 1 := w64 (by omega)
    have hsplit : r * (2 * 2 ^ n) + (lo / 2 ^ n % 2 * 2 ^ n + lo % 2 ^ n) = (r * 2 + lo / 2 ^ n % 2) * 2 ^ n + lo % 2 ^ n := by
      generalize lo / 2 ^ n % 2 = v at *
      generalize lo % 2 ^ n = w at *
      generalize (2 : Int) ^ n = p at *
      grind
    rw [hsplit]
    by_cases h : r * 2 + lo / 2 ^ n % 2 ≥ d
    · refine Ev.pos h ?_
      have hoq : Go.bits .or .u64 q (2 ^ n) = q + 2 ^ n := by
        refine or_join (n + 1) _ _ hq (by rw [hps]; exact hz) (by omega) (by omega) (by omega) (by omega)
      rw [hoq, wu64 (by omega), hw]
      have e := ih (q + 2 ^ n) (r * 2 + lo / 2 ^ n % 2 - d) (by omega) (by omega) (by omega) (by omega) (by rw [Int.add_emod_right]; exact hz2) (by omega)
      have h9 : (r * 2 + lo / 2 ^ n % 2) * 2 ^ n + lo % 2 ^ n = ((r * 2 + lo / 2 ^ n % 2 - d) * 2 ^ n + lo % 2 ^ n) + 2 ^ n * d := by
        generalize lo / 2 ^ n % 2 = v at *
        generalize lo % 2 ^ n = w at *
        generalize (2 : Int) ^ n = p at *
        grind
      rw [h9, Int.add_mul_ediv_right _ _ (by omega), Int.add_mul_emod_self_right, show ∀ x : Int, q + (x + 2 ^ n) = q + 2 ^ n + x by intro x; omega]
      exact e
    · refine Ev.neg h ?_
      rw [hw]
      exact ih q (r * 2 + lo / 2 ^ n % 2) (by omega) (by omega) (by omega) hq hz2 (by omega)
theorem num_over (hi lo d : Int) (hlo : 0 ≤ lo ∧ lo ≤ 18446744073709551615) (hd : 0 < d ∧ d ≤ 9223372036854775808) (hh : 0 ≤ hi) (hl : hi < d) :
    Ev (fun k => num_over.f k hi lo d) ((hi * 18446744073709551616 + lo) / d, (hi * 18446744073709551616 + lo) % d) := by
  unfold num_over.f
  have := num_over_l0 lo d hlo hd 64 0 hi (by omega) hh hl (by omega) (by simp) (by decide)
  rw [show (2 : Int) ^ 64 = 18446744073709551616 from rfl, Int.emod_eq_of_lt hlo.1 (by omega), Int.zero_add] at this
  exact this
theorem num_cmp (a b : Int) : cmp_Compare_uint64.f a b = some (if a < b then -1 else if a > b then 1 else 0) := by
  unfold cmp_Compare_uint64.f cmp_isNaN_uint64.f
  simp
  split
  · rfl
  · split <;> rfl
theorem num_away (q r d mode : Int) (neg : Bool) (s : Int) (hs : s = if neg = true then -1 else 1) (hq : 0 ≤ q ∧ q ≤ 18446744073709551615) (hr : 0 ≤ r) (hrd : r < d) (hd : 0 < d ∧ d ≤ 9223372036854775808) :
    num_away.f q r d s mode = some (goes neg q r d mode) := by
  unfold num_away.f goes
  by_cases h0 : r = 0
  · subst h0
    rw [if_pos rfl]
    congr 1
    split
    · simp
    split
    · simp
    split
    · symm; apply decide_eq_false; omega
    split
    · rw [decide_eq_false (by omega), decide_eq_false (by omega)]; rfl
    · rfl
  rw [if_neg h0, wu64 (by omega), num_cmp, Option.bind_some]
  have hr0 : decide (0 < r) = true := decide_eq_true (by omega)
  rw [hr0]
  by_cases m1 : mode = 1
  · rw [if_pos m1, if_pos m1, hs]; cases neg <;> rfl
  rw [if_neg m1, if_neg m1]
  by_cases m2 : mode = 2
  · rw [if_pos m2, if_pos m2, hs]; cases neg <;> rfl
  rw [if_neg m2, if_neg m2]
  have hge : decide ((if 2 * r < d then (-1 : Int) else if 2 * r > d then 1 else 0) ≥ 0) = decide (d ≤ 2 * r) := by
    rw [decide_eq_decide]; split
    · omega
    · split <;> omega
  by_cases m3 : mode = 3
  · subst m3
    rw [if_neg (by decide), if_pos rfl, if_pos rfl, hge]
  rw [if_neg m3, if_neg m3]
  have hcz : ((if 2 * r < d then (-1 : Int) else if 2 * r > d then 1 else 0) = 0) ↔ d = 2 * r := by
    split
    · omega
    · split <;> omega
  by_cases m4 : mode = 4
  · rw [if_pos m4, if_pos m4]
    by_cases e : d = 2 * r
    · rw [if_pos (hcz.2 e)]
      unfold num_whole_Bit.f
      rw [if_pos (by omega), show shr .u64 q 0 = q from by have := shr_nat q 0 (by omega); rw [Int.pow_zero, Int.ediv_one] at this; exact this, and_one q hq.1 (by omega), Option.bind_some]
      rw [decide_eq_false (show ¬ d < 2 * r by omega), decide_eq_true e, Bool.false_or, Bool.true_and]
      rfl
    · rw [if_neg (fun h => e (hcz.1 h)), hge]
      congr 1
      rw [decide_eq_false e, Bool.false_and, Bool.or_false, decide_eq_decide]
      omega
  · rw [if_neg m4, if_neg m4]
theorem num_Ratio_j1 (neg : Bool) (s q : Int) (hs : s = if neg = true then -1 else 1) (hq : 0 ≤ q ∧ q ≤ 18446744073709551615) :
    Ev (fun k => num_Ratio.j1 k s q) (fit (if neg = true then -q else q)) := by
  refine Ev.step (fun k => num_Ratio.j1.eq_2 _ _ _) ?_
  cases neg with
  | true =>
    subst hs
    refine Ev.pos (by decide) (Ev.step (fun k => num_Ratio.j2.eq_2 _ _ _ _) ?_)
    by_cases h : q ≤ 9223372036854775808
    · refine Ev.pos (decide_eq_true h) (Ev.ret ?_)
      rw [if_pos rfl, fit_in (by unfold In; omega), wrap_u64]
      congr 1
      unfold wrap64
      omega
    · refine Ev.neg (by simpa using h) (Ev.neg (by decide) (Ev.ret ?_))
      rw [if_pos rfl, fit_out (by unfold In; omega)]
  | false =>
    subst hs
    refine Ev.neg (by decide) ?_
    refine Ev.step (fun k => num_Ratio.j2.eq_2 _ _ _ _) ?_
    refine Ev.neg (by decide) ?_
    refine Ev.pos (by decide) ?_
    rw [show (if (false = true) then -q else q) = q from rfl]
    by_cases h : q < 9223372036854775808
    · refine Ev.pos h (Ev.ret ?_)
      rw [fit_in (by unfold In; omega), w64 (by omega)]
    · refine Ev.neg h (Ev.ret ?_)
      rw [fit_out (by unfold In; omega)]
/-- Ratio's true answer. -/
def ratio (a b c mode : Int) : Int := rounded (((decide (a < 0)) != (decide (b < 0))) != (decide (c < 0))) ((a.natAbs : Int) * b.natAbs) c.natAbs mode
theorem num_Ratio_j0 (neg : Bool) (s hi lo d mode : Int) (hs : s = if neg = true then -1 else 1) (hlo : 0 ≤ lo ∧ lo ≤ 18446744073709551615) (hd : 0 < d ∧ d ≤ 9223372036854775808) (hh : 0 ≤ hi) :
    Ev (fun k => num_Ratio.j0 k mode hi lo d s) (fit (rounded neg (hi * 18446744073709551616 + lo) d mode)) := by
  refine Ev.step (fun k => num_Ratio.j0.eq_2 _ _ _ _ _ _) ?_
  unfold rounded
  by_cases h : hi ≥ d
  · refine Ev.pos h (Ev.ret ?_)
    have h1 : 18446744073709551616 ≤ (hi * 18446744073709551616 + lo) / d := by
      rw [Int.le_ediv_iff_mul_le hd.1]
      omega
    rw [fit_out]
    unfold In
    simp only
    split <;> split <;> omega
  · refine Ev.neg h (Ev.bind (num_over hi lo d hlo hd hh (by omega)) ?_)
    have h1 : (hi * 18446744073709551616 + lo) / d < 18446744073709551616 := by
      rw [Int.ediv_lt_iff_lt_mul hd.1]
      omega
    have h2 : 0 ≤ (hi * 18446744073709551616 + lo) / d := Int.ediv_nonneg (by omega) (by omega)
    have h3 := Int.emod_nonneg (hi * 18446744073709551616 + lo) (show d ≠ 0 by omega)
    have h4 := Int.emod_lt_of_pos (hi * 18446744073709551616 + lo) hd.1
    generalize (hi * 18446744073709551616 + lo) / d = q at *
    generalize (hi * 18446744073709551616 + lo) % d = r at *
    refine Ev.call (num_away q r d mode neg s hs ⟨h2, by omega⟩ h3 h4 hd) ?_
    by_cases hg : goes neg q r d mode = true
    · refine Ev.pos hg ?_
      simp only [hg, if_true]
      by_cases hw : q = 18446744073709551615
      · refine Ev.pos (by rw [hw, wrap_u64]; decide) (Ev.ret ?_)
        rw [fit_out]
        unfold In
        split <;> omega
      · rw [wu64 (by omega)]
        exact Ev.neg (by omega) (num_Ratio_j1 neg s (q + 1) hs (by omega))
    · refine Ev.neg hg ?_
      simp only [hg]
      exact num_Ratio_j1 neg s q hs (by omega)
theorem num_ratio (a b c mode : Int) (ha : In a) (hb : In b) (hc : In c) (h : c ≠ 0) : Ev (fun k => num_Ratio.f k a b c mode) (fit (ratio a b c mode)) := by
  unfold num_Ratio.f ratio
  have ha' := ha; have hb' := hb; have hc' := hc
  unfold In at ha' hb' hc'
  obtain ⟨hi, lo, t1, t2, t3, t4, t5, t6⟩ := num_times (a.natAbs : Int) (b.natAbs : Int) (by omega) (by omega)
  rw [← t2]
  refine Ev.neg h (Ev.call (num_size a ha) (Ev.call (num_size b hb) (Ev.call t1 (Ev.call (num_size c hc) ?_))))
  by_cases hs : (((decide (a < 0)) != (decide (b < 0))) != (decide (c < 0))) = true
  · refine Ev.pos hs ?_
    rw [hs]
    exact num_Ratio_j0 true (-1) hi lo _ mode rfl (by omega) (by omega) t3
  · refine Ev.neg hs ?_
    rw [Bool.eq_false_iff.2 hs]
    exact num_Ratio_j0 false 1 hi lo _ mode rfl (by omega) (by omega) t3

theorem rounded_zero (neg : Bool) (B mode : Int) (hB : 0 < B) : rounded neg 0 B mode = 0 := by
  unfold rounded goes
  rw [Int.zero_ediv, Int.zero_emod]
  have h1 : decide (B ≤ 2 * 0) = false := decide_eq_false (by omega)
  have h2 : decide (B < 2 * 0) = false := decide_eq_false (by omega)
  have h3 : decide (B = 2 * 0) = false := decide_eq_false (by omega)
  rw [h1, h2, h3]
  simp
theorem ref_Ratio (a b c mode : Int) (ha : In a) (hb : In b) (hc : In c) (h : c ≠ 0) : Ev (fun k => payoffref01_Ratio.f k a b c mode) (fit (ratio a b c mode)) := by
  unfold payoffref01_Ratio.f
  obtain ⟨p, x, x1, x2, x3, x5, x6, x4⟩ := ref_from' a ha
  obtain ⟨q, y, y1, y2, y3, y5, y6, y4⟩ := ref_from' b hb
  obtain ⟨u, z, z1, z2, z3, z5, z6, z4⟩ := ref_from' c hc
  obtain ⟨s, r, r1, r2, r3, r5, s1, s2, r4⟩ := ref_Times p q x y (by omega) (by omega) x2 y2
  refine Ev.neg h (Ev.bind x1 (Ev.bind y1 (Ev.bind r1 (Ev.bind z1 (Ev.bind (ref_Round s u r z mode (by omega) (by omega) r2 z2 (by omega)) (Ev.ret ?_))))))
  unfold ratio
  rw [r5, x6, y6, z6, z5]
  rw [r3, x3, y3] at s1 s2
  by_cases hz : (a.natAbs : Int) * b.natAbs = 0
  · rw [hz, rounded_zero _ _ _ (by omega), rounded_zero _ _ _ (by omega)]
  · have : s = (decide (a < 0) != decide (b < 0)) := by
      have hab : a ≠ 0 ∧ b ≠ 0 := by
        constructor
        · intro e; rw [e] at hz; simp at hz
        · intro e; rw [e] at hz; simp at hz
      rcases Int.lt_or_le a 0 with h1 | h1 <;> rcases Int.lt_or_le b 0 with h2 | h2
      · have := Int.mul_pos_of_neg_of_neg h1 h2
        cases s with
        | true => have := s1 rfl; omega
        | false => simp [h1, h2]
      · have := Int.mul_neg_of_neg_of_pos h1 (show 0 < b by omega)
        cases s with
        | true => simp [h1]; omega
        | false => have := s2 rfl; omega
      · have := Int.mul_neg_of_pos_of_neg (show 0 < a by omega) h2
        cases s with
        | true => simp [h2]; omega
        | false => have := s2 rfl; omega
      · have := Int.mul_pos (show 0 < a by omega) (show 0 < b by omega)
        cases s with
        | true => have := s1 rfl; omega
        | false => rw [decide_eq_false (show ¬ a < 0 by omega), decide_eq_false (show ¬ b < 0 by omega)]; rfl
    rw [this]
theorem NumRatios : payofflaw01_NumRatios.Pure := by
  intro a b c mode ha hb hc hm
  have ha : In a := wf64 ha
  have hb : In b := wf64 hb
  have hc : In c := wf64 hc
  refine Ev.rounds (g := fun k => payofflaw01_NumRatios.f k a b c mode) ?_
  unfold payofflaw01_NumRatios.f
  by_cases h : c = 0
  · subst h
    exact Ev.bind (a := (0, 2)) (by unfold num_Ratio.f; exact Ev.pos rfl (Ev.ret rfl)) (Ev.bind (a := (0, 2)) (by unfold payoffref01_Ratio.f; exact Ev.pos rfl (Ev.ret rfl)) (Ev.pos rfl (Ev.ret rfl)))
  · exact Ev.bind (num_ratio a b c mode ha hb hc h) (Ev.bind (ref_Ratio a b c mode ha hb hc h) (Ev.pos rfl (Ev.ret (by simp))))

end Go.Proofs.Ytogbeegkhgkdaaa.Pure
