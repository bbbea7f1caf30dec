/- NumLists: for every list of 64-bit numbers, Sum of it is what the reference's digits sum up to, the list and the room behind it stay, and written over it has its new sum; no condition but that the list has room in memory. -/
import Derived.Test.YtogbeegkhgkdaaaQNumListsx5
namespace Go.Proofs.Ytogbeegkhgkdaaa.Pure
open Go.RowKit Go.Proofs.Ytogbeegkhgkdaaa.PNumLists Go.Proofs.YtogbeegkhgkdaaaW.PrintWords Go.Proofs.YtogbeegkhgkdaaaW.PrintLast Go.Proofs.YtogbeegkhgkdaaaW.PrintMore
set_option linter.unusedVariables false
set_option linter.unusedSimpArgs false

/-! Rounds: an answer that stands from some number of rounds on -/
theorem Ev.pos {α : Type} {c : Prop} [Decidable c] {a b : Nat → Option α} {r : α} (h : c) (k : Ev a r) : Ev (fun n => if c then a n else b n) r := by
  simpa only [if_pos h] using k
theorem Ev.neg {α : Type} {c : Prop} [Decidable c] {a b : Nat → Option α} {r : α} (h : ¬c) (k : Ev b r) : Ev (fun n => if c then a n else b n) r := by
  simpa only [if_neg h] using k
/-- A call without rounds. -/
theorem Ev.call {α β : Type} {x : Option α} {f : Nat → α → Option β} {a : α} {r : β} (h : x = some a) (k : Ev (fun n => f n a) r) : Ev (fun n => x.bind (f n)) r := by
  subst h; simpa only [Option.bind_some] using k
theorem Ev.ret {α : Type} {r s : α} (h : s = r) : Ev (fun _ => some s) r := ⟨0, fun _ _ => by rw [h]⟩
theorem w64 {n : Int} (h : -9223372036854775808 ≤ n ∧ n ≤ 9223372036854775807) : wrap64 n = n := by unfold wrap64; omega
theorem wu64 {n : Int} (h : 0 ≤ n ∧ n ≤ 18446744073709551615) : IntKind.u64.wrap n = n := by
  simp only [IntKind.wrap, IntKind.bits, IntKind.signed]; simp; omega
theorem wf64 {a : Int} (h : (Lit.int .i64 a).wf = true) : -9223372036854775808 ≤ a ∧ a ≤ 9223372036854775807 := by
  simp only [Lit.wf, IntKind.min, IntKind.max, IntKind.signed, IntKind.bits, Bool.and_eq_true, decide_eq_true_eq, if_true] at h
  omega
theorem wfu64 {a : Int} (h : (Lit.int .u64 a).wf = true) : 0 ≤ a ∧ a ≤ 18446744073709551615 := by
  simp only [Lit.wf, IntKind.min, IntKind.max, IntKind.signed, IntKind.bits, Bool.and_eq_true, decide_eq_true_eq] at h
  simp at h
  omega
theorem wf8 {a : Int} (h : (Lit.int .u8 a).wf = true) : 0 ≤ a ∧ a ≤ 255 := by
  simp only [Lit.wf, IntKind.min, IntKind.max, IntKind.signed, IntKind.bits, Bool.and_eq_true, decide_eq_true_eq] at h
  simp at h
  omega

/-! The range, and what a call answers by its true answer -/
def In (n : Int) : Prop := -9223372036854775808 ≤ n ∧ n ≤ 9223372036854775807
instance (n : Int) : Decidable (In n) := by unfold In; infer_instance
/-- What a call answers whose true answer is n. -/
def fit (n : Int) : Int × Int := if In n then (n, 0) else (0, 1)
theorem fit_in {n : Int} (h : In n) : fit n = (n, 0) := by rw [fit, if_pos h]
theorem fit_out {n : Int} (h : ¬In n) : fit n = (0, 1) := by rw [fit, if_neg h]

theorem num_add (a b : Int) (ha : In a) (hb : In b) : num_Add.f a b = some (fit (a + b)) := by
  unfold num_Add.f
  unfold In at ha hb
  by_cases h : In (a + b)
  · rw [fit_in h]
    unfold In at h
    rw [w64 h, if_neg]
    have : (decide (b ≥ 0)) = decide (a + b ≥ a) := by rw [decide_eq_decide]; omega
    rw [this]; simp
  · rw [fit_out h]
    unfold In at h
    rw [if_pos]
    have : (decide (b ≥ 0)) = !decide (wrap64 (a + b) ≥ a) := by
      rw [← decide_not, decide_eq_decide]; unfold wrap64; omega
    rw [this]; simp

/-! Lists of decimal digits, the lowest first -/
def val : List Int → Int
  | [] => 0
  | d :: t => d + 10 * val t
def Dg (l : List Int) : Prop := ∀ x ∈ l, 0 ≤ x ∧ x ≤ 9
/-- Digits, without a 0 at the end. -/
def Norm (l : List Int) : Prop := Dg l ∧ ∀ h : l ≠ [], l.getLast h ≠ 0
theorem Dg.nil : Dg [] := fun x h => by simp at h
theorem Dg.cons {d : Int} {t : List Int} (h : 0 ≤ d ∧ d ≤ 9) (ht : Dg t) : Dg (d :: t) := fun x hx => by
  rcases List.mem_cons.1 hx with rfl | hx
  · exact h
  · exact ht x hx
theorem Dg.append {a b : List Int} (ha : Dg a) (hb : Dg b) : Dg (a ++ b) := fun x hx => by
  rcases List.mem_append.1 hx with hx | hx
  · exact ha x hx
  · exact hb x hx
theorem Dg.drop {l : List Int} (h : Dg l) (n : Nat) : Dg (l.drop n) := fun x hx => h x (List.mem_of_mem_drop hx)
theorem Dg.take {l : List Int} (h : Dg l) (n : Nat) : Dg (l.take n) := fun x hx => h x (List.mem_of_mem_take hx)
theorem Dg.at {l : List Int} (h : Dg l) (i : Int) : 0 ≤ rd l i ∧ rd l i ≤ 9 := by
  unfold rd
  rw [List.getD_eq_getElem?_getD]
  cases e : l[i.toNat]? with
  | none => simp
  | some x => exact h x (List.mem_of_getElem? e)
theorem Norm.dg {l : List Int} (h : Norm l) : Dg l := h.1
theorem Norm.nil : Norm [] := ⟨Dg.nil, fun h => (h rfl).elim⟩
theorem rd_nat (l : List Int) (i : Nat) : rd l (i : Int) = l.getD i 0 := by simp [rd]
theorem rd_out {l : List Int} {i : Int} (h : (l.length : Int) ≤ i) : rd l i = 0 := by
  unfold rd
  rw [List.getD_eq_getElem?_getD, List.getElem?_eq_none (by omega)]; rfl
theorem val_nonneg {l : List Int} (h : Dg l) : 0 ≤ val l := by
  induction l with
  | nil => simp [val]
  | cons d t ih =>
    have h1 := h d (by simp)
    have h2 := ih (fun x hx => h x (by simp [hx]))
    simp only [val]; omega
theorem val_lt {l : List Int} (h : Dg l) : val l < 10 ^ l.length := by
  induction l with
  | nil => simp [val]
  | cons d t ih =>
    have h1 := h d (by simp)
    have h2 := ih (fun x hx => h x (by simp [hx]))
    rw [List.length_cons, Int.pow_succ]
    simp only [val]
    generalize (10 : Int) ^ t.length = p at *
    omega
theorem val_append (a b : List Int) : val (a ++ b) = val a + 10 ^ a.length * val b := by
  induction a with
  | nil => simp [val]
  | cons d t ih =>
    simp only [List.cons_append, val, List.length_cons, Int.pow_succ, ih]
    rw [Int.mul_add, Int.mul_right_comm, Int.mul_comm ((10 : Int) ^ t.length * val b)]
    omega
theorem val_drop (l : List Int) (i : Nat) : val (l.drop i) = rd l (i : Int) + 10 * val (l.drop (i + 1)) := by
  by_cases h : i < l.length
  · rw [List.drop_eq_getElem_cons h, rd_nat, List.getD_eq_getElem?_getD, List.getElem?_eq_getElem h]; rfl
  · rw [List.drop_eq_nil_of_le (by omega), List.drop_eq_nil_of_le (by omega), rd_out (by omega)]; rfl
theorem pow10_pos (n : Nat) : (0 : Int) < 10 ^ n := Int.pow_pos (by decide)
theorem pow10_mono {m n : Nat} (h : m ≤ n) : (10 : Int) ^ m ≤ 10 ^ n := by
  have := Nat.pow_le_pow_right (show 10 > 0 by decide) h
  exact_mod_cast this
theorem Norm.lo {l : List Int} (h : Norm l) (hl : l ≠ []) : 10 ^ (l.length - 1) ≤ val l := by
  have h1 := List.dropLast_concat_getLast hl
  have hd := h.1 _ (List.getLast_mem hl)
  have hn := h.2 hl
  have e := val_append l.dropLast [l.getLast hl]
  rw [h1, List.length_dropLast] at e
  have h2 := val_nonneg (l := l.dropLast) (fun x hx => h.1 x ((List.dropLast_sublist l).subset hx))
  rw [e]
  simp only [val]
  have h3 := pow10_pos (l.length - 1)
  have h4 := Int.mul_le_mul_of_nonneg_left (show (1 : Int) ≤ l.getLast hl + 10 * 0 by omega) (Int.le_of_lt h3)
  omega
theorem Norm.length_le {l : List Int} {n : Nat} (h : Norm l) (hv : val l < 10 ^ n) : l.length ≤ n := by
  by_cases hl : l = []
  · simp [hl]
  · have h1 := h.lo hl
    have h2 : l.length - 1 < n := by
      apply Classical.byContradiction
      intro hc
      have := pow10_mono (show n ≤ l.length - 1 by omega)
      omega
    omega
theorem Norm.zero {l : List Int} (h : Norm l) (hv : val l = 0) : l = [] := by
  apply Classical.byContradiction
  intro hl
  have h1 := h.lo hl
  have h2 := pow10_pos (l.length - 1)
  omega
theorem Norm.pos_iff {l : List Int} (h : Norm l) : (l.length : Int) > 0 ↔ 0 < val l := by
  constructor
  · intro hl
    have h1 : l ≠ [] := by intro e; rw [e] at hl; simp at hl
    have := h.lo h1
    have := pow10_pos (l.length - 1)
    omega
  · intro hv
    cases l with
    | nil => simp [val] at hv
    | cons d t => simp
theorem Norm.lt_of_length {a b : List Int} (ha : Norm a) (hb : Norm b) (h : a.length < b.length) : val a < val b := by
  have h1 := val_lt ha.1
  have h2 := hb.lo (by intro e; rw [e] at h; simp at h)
  have h3 := pow10_mono (show a.length ≤ b.length - 1 by omega)
  omega
/-- The first number of a list decides its parity. -/
theorem val_rd0 (l : List Int) : val l = rd l 0 + 10 * val (l.drop 1) := by
  have := val_drop l 0
  simpa using this

/-! payoffref01: the school's ways, by what the digits come to -/
theorem ref_at (l : List Int) (i : Int) (h : 0 ≤ i) : payoffref01_at.f l i = some (rd l i) := by
  unfold payoffref01_at.f
  by_cases h1 : i < (l.length : Int)
  · rw [if_pos h1, if_pos h]
  · rw [if_neg h1, rd_out (by omega)]
theorem ref_trim_l0 (l : List Int) (hl : l.length ≤ 1000000) : ∀ n : Nat, n ≤ l.length → val (l.drop n) = 0 → Dg l →
    ∃ c, Ev (fun k => payoffref01_trim.l0 k l (n : Int)) c ∧ Norm c ∧ val c = val l ∧ c.length ≤ l.length := by
  intro n
  induction n with
  | zero =>
    intro _ h0 hd
    refine ⟨[], ?_, Norm.nil, ?_, by simp⟩
    · refine Ev.step (fun k => payoffref01_trim.l0.eq_2 _ _ _) ?_
      refine Ev.neg (by omega) (Ev.pos (by omega) (Ev.pos (by omega) (Ev.ret ?_)))
      simp
    · simpa [val] using h0.symm
  | succ n ih =>
    intro hn h0 hd
    have hw : wrap64 (((n + 1 : Nat) : Int) - 1) = (n : Int) := by rw [w64 (by omega)]; omega
    have hv := val_drop l n
    by_cases hz : rd l (n : Int) = 0
    · obtain ⟨c, h1, h2⟩ := ih (by omega) (by rw [hv, hz, h0]; rfl) hd
      refine ⟨c, ?_, h2⟩
      refine Ev.step (fun k => payoffref01_trim.l0.eq_2 _ _ _) ?_
      rw [hw]
      exact Ev.pos (by omega) (Ev.pos (by omega) (Ev.pos (by omega) (Ev.pos hz h1)))
    · refine ⟨l.take (n + 1), ?_, ⟨hd.take _, ?_⟩, ?_, by rw [List.length_take]; omega⟩
      · refine Ev.step (fun k => payoffref01_trim.l0.eq_2 _ _ _) ?_
        rw [hw]
        refine Ev.pos (by omega) (Ev.pos (by omega) (Ev.pos (by omega) (Ev.neg hz (Ev.pos (by omega) (Ev.pos (by omega) (Ev.ret ?_))))))
        rw [Int.toNat_natCast]
      · intro h
        rw [List.getLast_eq_getElem]
        have hlen : (l.take (n + 1)).length - 1 = n := by rw [List.length_take]; omega
        have hr : rd l (n : Int) = l[n]'(by omega) := by rw [rd_nat, List.getD_eq_getElem?_getD, List.getElem?_eq_getElem (by omega)]; rfl
        rw [hr] at hz
        have : ∀ (m : Nat) (hm : m < (l.take (n + 1)).length), m = n → (l.take (n + 1))[m] = l[n]'(by omega) := by
          intro m hm e; subst e; exact List.getElem_take
        rw [this _ _ hlen]; exact hz
      · have h3 := val_append (l.take (n + 1)) (l.drop (n + 1))
        rw [List.take_append_drop, h0, Int.mul_zero] at h3
        omega
theorem ref_trim (l : List Int) (hl : l.length ≤ 1000000) (hd : Dg l) :
    ∃ c, Ev (fun k => payoffref01_trim.f k l) c ∧ Norm c ∧ val c = val l ∧ c.length ≤ l.length := by
  unfold payoffref01_trim.f
  exact ref_trim_l0 l hl l.length (by omega) (by rw [List.drop_length]; rfl) hd
theorem ref_from_l0 : ∀ (d : Nat) (v : Int) (neg : Bool) (out : List Int), -9223372036854775808 ≤ v → v ≤ 9223372036854775807 → Dg out → out.length + d ≤ 1000 → (v.natAbs : Int) < 10 ^ d → (v = 0 → ∀ h : out ≠ [], out.getLast h ≠ 0) →
    ∃ c, Ev (fun k => payoffref01_From.l0 k v neg out) (neg, c) ∧ Norm c ∧ val c = val out + 10 ^ out.length * (v.natAbs : Int) ∧ c.length ≤ out.length + d := by
  intro d
  induction d with
  | zero =>
    intro v neg out h0 h1 hd hl hp hn
    have : v = 0 := by simp at hp; omega
    subst this
    refine ⟨out, ?_, ⟨hd, hn rfl⟩, by simp, by omega⟩
    exact Ev.step (fun k => payoffref01_From.l0.eq_2 _ _ _ _) (Ev.pos rfl (Ev.ret rfl))
  | succ d ih =>
    intro v neg out h0 h1 hd hl hp hn
    by_cases hv : v = 0
    · subst hv
      refine ⟨out, ?_, ⟨hd, hn rfl⟩, by simp, by omega⟩
      exact Ev.step (fun k => payoffref01_From.l0.eq_2 _ _ _ _) (Ev.pos rfl (Ev.ret rfl))
    have hq : (Int.tdiv v 10).natAbs = v.natAbs / 10 := Int.natAbs_tdiv v 10
    have hr : (Int.tmod v 10).natAbs = v.natAbs % 10 := Int.natAbs_tmod v 10
    have hqb : -9223372036854775808 ≤ Int.tdiv v 10 ∧ Int.tdiv v 10 ≤ 9223372036854775807 := by omega
    have key : ∀ e : Int, e = (v.natAbs % 10 : Nat) → ∃ c, Ev (fun k => payoffref01_From.l0 k (Int.tdiv v 10) neg (out ++ [e])) (neg, c) ∧ Norm c ∧ val c = val out + 10 ^ out.length * (v.natAbs : Int) ∧ c.length ≤ out.length + (d + 1) := by
      intro e he
      obtain ⟨c, g1, g2, g3, g4⟩ := ih (Int.tdiv v 10) neg (out ++ [e]) hqb.1 hqb.2 (hd.append (Dg.cons (by omega) Dg.nil)) (by simp; omega) (by
        rw [Int.pow_succ] at hp
        generalize (10 : Int) ^ d = p at *
        omega) (by
        intro hz h
        rw [List.getLast_append_of_ne_nil _ (by simp)]
        simp
        omega)
      refine ⟨c, g1, g2, ?_, by simp at g4; omega⟩
      rw [g3, val_append, hq]
      simp only [List.length_append, List.length_cons, List.length_nil, val, Int.pow_succ, Int.pow_zero, Nat.zero_add]
      have hsplit : (v.natAbs : Int) = (v.natAbs % 10 : Nat) + 10 * (v.natAbs / 10 : Nat) := by omega
      rw [← he] at hsplit
      generalize (10 : Int) ^ out.length = p at *
      grind
    refine Exists.imp (fun c h => ?_) (key _ rfl)
    refine ⟨Ev.step (fun k => payoffref01_From.l0.eq_2 _ _ _ _) (Ev.neg hv ?_), h.2⟩
    by_cases hs : Int.tmod v 10 < 0
    · refine Ev.pos hs (Ev.pos (by omega) ?_)
      rw [w64 hqb, w64 (by omega)]
      have : -(Int.tmod v 10) = ((v.natAbs % 10 : Nat) : Int) := by omega
      rw [this]; exact h.1
    · refine Ev.neg hs (Ev.pos (by omega) ?_)
      rw [w64 hqb]
      have : Int.tmod v 10 = ((v.natAbs % 10 : Nat) : Int) := by omega
      rw [this]; exact h.1
theorem ref_from (v : Int) (h : In v) : ∃ c, Ev (fun k => payoffref01_From.f k v) (decide (v < 0), c) ∧ Norm c ∧ val c = v.natAbs ∧ c.length ≤ 19 := by
  unfold In at h
  obtain ⟨c, h1, h2, h3, h4⟩ := ref_from_l0 19 v (decide (v < 0)) [] h.1 h.2 Dg.nil (by simp) (by simp; omega) (fun _ h => (h rfl).elim)
  exact ⟨c, h1, h2, by simpa [val] using h3, by simpa using h4⟩

theorem ref_above_l0 (a b : List Int) (hl : a.length ≤ 1000000) (hab : a.length = b.length) (ha : Dg a) (hb : Dg b) : ∀ n : Nat, n ≤ a.length → val (a.drop n) = val (b.drop n) →
    Ev (fun k => payoffref01_above.l0 k a b ((n : Int) - 1)) (decide (val a > val b)) := by
  intro n
  induction n with
  | zero =>
    intro _ h
    refine Ev.step (fun k => payoffref01_above.l0.eq_2 _ _ _ _) (Ev.neg (by omega) (Ev.ret ?_))
    simp only [List.drop_zero] at h
    simp [h]
  | succ n ih =>
    intro hn h
    rw [show ((n + 1 : Nat) : Int) - 1 = (n : Int) by omega]
    refine Ev.step (fun k => payoffref01_above.l0.eq_2 _ _ _ _) (Ev.pos (by omega) (Ev.pos (by omega) (Ev.pos (by omega) (Ev.pos (by omega) ?_))))
    have hva := val_drop a n
    have hvb := val_drop b n
    by_cases he : rd a (n : Int) = rd b (n : Int)
    · refine Ev.pos he ?_
      rw [w64 (by omega)]
      exact ih (by omega) (by omega)
    · refine Ev.neg he (Ev.ret ?_)
      rw [decide_eq_decide]
      have h1 := val_append (a.take n) (a.drop n)
      have h2 := val_append (b.take n) (b.drop n)
      rw [List.take_append_drop] at h1 h2
      have l1 : (a.take n).length = n := by rw [List.length_take]; omega
      have l2 : (b.take n).length = n := by rw [List.length_take]; omega
      rw [l1, hva] at h1
      rw [l2, hvb] at h2
      have g1 := val_lt (ha.take n)
      have g2 := val_lt (hb.take n)
      have g3 := val_nonneg (ha.take n)
      have g4 := val_nonneg (hb.take n)
      rw [l1] at g1
      rw [l2] at g2
      rw [h] at h1
      have hp := pow10_pos n
      generalize (10 : Int) ^ n = p at *
      generalize val (b.drop (n + 1)) = r at *
      generalize rd a (n : Int) = x at *
      generalize rd b (n : Int) = y at *
      rw [h1, h2]
      constructor
      · intro hxy
        have : p * (y + 10 * r + 1) ≤ p * (x + 10 * r) := Int.mul_le_mul_of_nonneg_left (by omega) (by omega)
        rw [Int.mul_add, Int.mul_one] at this
        omega
      · intro hxy
        apply Classical.byContradiction
        intro hc
        have : p * (x + 10 * r + 1) ≤ p * (y + 10 * r) := Int.mul_le_mul_of_nonneg_left (by omega) (by omega)
        rw [Int.mul_add, Int.mul_one] at this
        omega
theorem ref_above (a b : List Int) (hl : a.length ≤ 1000000) (ha : Norm a) (hb : Norm b) : Ev (fun k => payoffref01_above.f k a b) (decide (val a > val b)) := by
  unfold payoffref01_above.f
  by_cases h : (a.length : Int) = (b.length : Int)
  · refine Ev.pos h ?_
    rw [w64 (by omega)]
    have := ref_above_l0 a b hl (by omega) ha.1 hb.1 a.length (by omega) (by rw [List.drop_length, List.drop_eq_nil_of_le (by omega)])
    exact this
  · refine Ev.neg h (Ev.ret ?_)
    rw [decide_eq_decide]
    constructor
    · intro h1
      exact hb.lt_of_length ha (by omega)
    · intro h1
      apply Classical.byContradiction
      intro h2
      have := ha.lt_of_length hb (by omega)
      omega
theorem ref_plus_l0 (a b : List Int) (m : Nat) (hm : m ≤ 100000) (hla : a.length ≤ m) (hlb : b.length ≤ m) (ha : Dg a) (hb : Dg b) : ∀ (d : Nat) (i : Nat) (out : List Int) (c : Int), out.length = i → i + d = m + 1 → Dg out → 0 ≤ c → c ≤ 1 → (c = 1 → i ≤ m) →
    ∃ r, Ev (fun k => payoffref01_plus.l0 k a b out c (i : Int)) r ∧ Norm r ∧ val r = val out + 10 ^ i * (c + val (a.drop i) + val (b.drop i)) ∧ r.length ≤ m + 1 := by
  intro d
  induction d with
  | zero =>
    intro i out c ho hd hg h0 h1 hc
    have hc0 : c = 0 := by omega
    subst hc0
    obtain ⟨r, g1, g2, g3, g4⟩ := ref_trim out (by omega) hg
    refine ⟨r, ?_, g2, ?_, by omega⟩
    · refine Ev.step (fun k => payoffref01_plus.l0.eq_2 _ _ _ _ _ _) (Ev.neg (by omega) (Ev.neg (by omega) ?_))
      refine Ev.step (fun k => payoffref01_plus.j1.eq_2 _ _ _ _ _ _ _) (Ev.neg (by decide) ?_)
      exact Ev.bind g1 (Ev.ret rfl)
    · rw [g3, List.drop_eq_nil_of_le (by omega), List.drop_eq_nil_of_le (by omega)]; simp [val]
  | succ d ih =>
    intro i out c ho hd hg h0 h1 hc
    have ga := ha.at (i : Int)
    have gb := hb.at (i : Int)
    have hva := val_drop a i
    have hvb := val_drop b i
    have key : ∀ {r : List Int}, (∃ r, Ev (fun k => payoffref01_plus.j1 k a b out c (i : Int) true) r ∧ Norm r ∧ val r = val out + 10 ^ i * (c + val (a.drop i) + val (b.drop i)) ∧ r.length ≤ m + 1) := by
      intro _
      obtain ⟨r, g1, g2, g3, g4⟩ := ih (i + 1) (out ++ [(rd a (i : Int) + rd b (i : Int) + c) % 10]) ((rd a (i : Int) + rd b (i : Int) + c) / 10) (by simp; omega) (by omega) (hg.append (Dg.cons (by omega) Dg.nil)) (by omega) (by omega) (by
        intro h
        apply Classical.byContradiction
        intro hn
        rw [rd_out (by omega), rd_out (by omega)] at h
        omega)
      refine ⟨r, ?_, g2, ?_, g4⟩
      · refine Ev.step (fun k => payoffref01_plus.j1.eq_2 _ _ _ _ _ _ _) (Ev.pos rfl (Ev.call (ref_at _ _ (by omega)) (Ev.call (ref_at _ _ (by omega)) (Ev.pos (by omega) ?_))))
        rw [w64 (n := rd a (i : Int) + rd b (i : Int)) (by omega), w64 (n := rd a (i : Int) + rd b (i : Int) + c) (by omega), Int.tdiv_eq_ediv_of_nonneg (by omega), Int.tmod_eq_emod_of_nonneg (by omega), w64 (n := (i : Int) + 1) (by omega), w64 (by omega)]
        exact g1
      · rw [g3, val_append, ho, hva, hvb, Int.pow_succ]
        simp only [val]
        have hs : (rd a (i : Int) + rd b (i : Int) + c) = (rd a (i : Int) + rd b (i : Int) + c) % 10 + 10 * ((rd a (i : Int) + rd b (i : Int) + c) / 10) := by omega
        generalize (rd a (i : Int) + rd b (i : Int) + c) % 10 = u at *
        generalize (rd a (i : Int) + rd b (i : Int) + c) / 10 = v at *
        grind
    by_cases hA : (i : Int) < a.length
    · obtain ⟨r, g1, g2⟩ := key (r := [])
      exact ⟨r, Ev.step (fun k => payoffref01_plus.l0.eq_2 _ _ _ _ _ _) (Ev.pos hA g1), g2⟩
    by_cases hB : (i : Int) < b.length
    · obtain ⟨r, g1, g2⟩ := key (r := [])
      exact ⟨r, Ev.step (fun k => payoffref01_plus.l0.eq_2 _ _ _ _ _ _) (Ev.neg hA (Ev.pos hB g1)), g2⟩
    by_cases hC : c > 0
    · obtain ⟨r, g1, g2⟩ := key (r := [])
      exact ⟨r, Ev.step (fun k => payoffref01_plus.l0.eq_2 _ _ _ _ _ _) (Ev.neg hA (Ev.neg hB (by rw [decide_eq_true hC]; exact g1))), g2⟩
    have hc0 : c = 0 := by omega
    subst hc0
    obtain ⟨r, g1, g2, g3, g4⟩ := ref_trim out (by omega) hg
    refine ⟨r, ?_, g2, ?_, by omega⟩
    · refine Ev.step (fun k => payoffref01_plus.l0.eq_2 _ _ _ _ _ _) (Ev.neg (by omega) (Ev.neg (by omega) ?_))
      refine Ev.step (fun k => payoffref01_plus.j1.eq_2 _ _ _ _ _ _ _) (Ev.neg (by decide) ?_)
      exact Ev.bind g1 (Ev.ret rfl)
    · rw [g3, List.drop_eq_nil_of_le (by omega), List.drop_eq_nil_of_le (by omega)]; simp [val]
theorem ref_plus (a b : List Int) (m : Nat) (hm : m ≤ 100000) (hla : a.length ≤ m) (hlb : b.length ≤ m) (ha : Dg a) (hb : Dg b) :
    ∃ r, Ev (fun k => payoffref01_plus.f k a b) r ∧ Norm r ∧ val r = val a + val b ∧ r.length ≤ m + 1 := by
  unfold payoffref01_plus.f
  obtain ⟨r, g1, g2, g3, g4⟩ := ref_plus_l0 a b m hm hla hlb ha hb (m + 1) 0 [] 0 rfl (by omega) Dg.nil (by omega) (by omega) (by omega)
  refine ⟨r, g1, g2, ?_, g4⟩
  rw [g3]; simp [val]

theorem ref_minus_l0 (a b : List Int) (hla : a.length ≤ 100000) (ha : Dg a) (hb : Dg b) : ∀ (d : Nat) (i : Nat) (out : List Int) (c : Int), out.length = i → i + d = a.length → Dg out → 0 ≤ c → c ≤ 1 → c + val (b.drop i) ≤ val (a.drop i) →
    ∃ r, Ev (fun k => payoffref01_minus.l0 k a b out c (i : Int)) r ∧ Norm r ∧ val r = val out + 10 ^ i * (val (a.drop i) - val (b.drop i) - c) ∧ r.length ≤ a.length := by
  intro d
  induction d with
  | zero =>
    intro i out c ho hd hg h0 h1 hle
    obtain ⟨r, g1, g2, g3, g4⟩ := ref_trim out (by omega) hg
    refine ⟨r, ?_, g2, ?_, by omega⟩
    · refine Ev.step (fun k => payoffref01_minus.l0.eq_2 _ _ _ _ _ _) (Ev.neg (by omega) ?_)
      exact Ev.bind g1 (Ev.ret rfl)
    · have := val_nonneg (hb.drop i)
      rw [List.drop_eq_nil_of_le (show a.length ≤ i by omega)] at hle ⊢
      simp only [val] at hle ⊢
      rw [g3, show 0 - val (b.drop i) - c = 0 by omega]; omega
  | succ d ih =>
    intro i out c ho hd hg h0 h1 hle
    have ga := ha.at (i : Int)
    have gb := hb.at (i : Int)
    have hva := val_drop a i
    have hvb := val_drop b i
    by_cases hs : rd a (i : Int) - rd b (i : Int) - c < 0
    · obtain ⟨r, g1, g2, g3, g4⟩ := ih (i + 1) (out ++ [rd a (i : Int) - rd b (i : Int) - c + 10]) 1 (by simp; omega) (by omega) (hg.append (Dg.cons (by omega) Dg.nil)) (by omega) (by omega) (by omega)
      refine ⟨r, ?_, g2, ?_, g4⟩
      · refine Ev.step (fun k => payoffref01_minus.l0.eq_2 _ _ _ _ _ _) (Ev.pos (by omega) (Ev.pos (by omega) (Ev.call (ref_at _ _ (by omega)) ?_)))
        rw [w64 (n := rd a (i : Int) - rd b (i : Int)) (by omega), w64 (n := rd a (i : Int) - rd b (i : Int) - c) (by omega), w64 (n := rd a (i : Int) - rd b (i : Int) - c + 10) (by omega), w64 (n := (i : Int) + 1) (by omega)]
        exact Ev.pos hs (Ev.pos (by omega) g1)
      · rw [g3, val_append, ho, hva, hvb, Int.pow_succ]
        simp only [val]
        grind
    · obtain ⟨r, g1, g2, g3, g4⟩ := ih (i + 1) (out ++ [rd a (i : Int) - rd b (i : Int) - c]) 0 (by simp; omega) (by omega) (hg.append (Dg.cons (by omega) Dg.nil)) (by omega) (by omega) (by omega)
      refine ⟨r, ?_, g2, ?_, g4⟩
      · refine Ev.step (fun k => payoffref01_minus.l0.eq_2 _ _ _ _ _ _) (Ev.pos (by omega) (Ev.pos (by omega) (Ev.call (ref_at _ _ (by omega)) ?_)))
        rw [w64 (n := rd a (i : Int) - rd b (i : Int)) (by omega), w64 (n := rd a (i : Int) - rd b (i : Int) - c) (by omega), w64 (n := (i : Int) + 1) (by omega)]
        exact Ev.neg hs (Ev.pos (by omega) g1)
      · rw [g3, val_append, ho, hva, hvb, Int.pow_succ]
        simp only [val]
        grind
theorem ref_minus (a b : List Int) (hla : a.length ≤ 100000) (ha : Dg a) (hb : Dg b) (h : val b ≤ val a) :
    ∃ r, Ev (fun k => payoffref01_minus.f k a b) r ∧ Norm r ∧ val r = val a - val b ∧ r.length ≤ a.length := by
  unfold payoffref01_minus.f
  obtain ⟨r, g1, g2, g3, g4⟩ := ref_minus_l0 a b hla ha hb a.length 0 [] 0 rfl (by omega) Dg.nil (by omega) (by omega) (by simpa using h)
  refine ⟨r, g1, g2, ?_, g4⟩
  rw [g3]; simp [val]

/-- What a sign and digits stand for. -/
def bv (neg : Bool) (l : List Int) : Int := if neg = true then -val l else val l
theorem ref_out_l0 (neg : Bool) (l : List Int) (hl : l.length ≤ 100000) (hd : Dg l) (hv : val l ≤ 9223372036854775808) (hn : In (bv neg l)) : ∀ (n : Nat), n ≤ l.length →
    Ev (fun k => payoffref01_Out.l0 k (-val (l.drop n)) ((n : Int) - 1) neg l) (bv neg l, 0) := by
  intro n
  induction n with
  | zero =>
    intro _
    refine Ev.step (fun k => payoffref01_Out.l0.eq_2 _ _ _ _ _) (Ev.neg (by omega) ?_)
    rw [List.drop_zero]
    by_cases h : neg = true
    · have hb : bv neg l = -val l := if_pos h
      rw [hb]; exact Ev.pos h (Ev.ret rfl)
    · have hb : bv neg l = val l := if_neg h
      rw [hb] at hn ⊢
      refine Ev.neg h (Ev.ret ?_)
      unfold In at hn
      rw [w64 (by omega), Int.neg_neg]
  | succ n ih =>
    intro hn
    rw [show ((n + 1 : Nat) : Int) - 1 = (n : Int) by omega]
    have h1 := val_drop l n
    have h2 := hd.at (n : Int)
    have h3 := val_nonneg (hd.drop n)
    have h4 := val_nonneg (hd.drop (n + 1))
    have h5 : val (l.drop n) ≤ val l := by
      have e := val_append (l.take n) (l.drop n)
      rw [List.take_append_drop] at e
      have := val_nonneg (hd.take n)
      have := Int.mul_le_mul_of_nonneg_right (show (1 : Int) ≤ 10 ^ (l.take n).length from pow10_pos _) h3
      omega
    refine Ev.step (fun k => payoffref01_Out.l0.eq_2 _ _ _ _ _) (Ev.pos (by omega) (Ev.pos (by omega) (Ev.pos (by omega) ?_)))
    rw [w64 (n := -val (l.drop (n + 1)) * 10) (by omega), w64 (n := -val (l.drop (n + 1)) * 10 - rd l (n : Int)) (by omega), w64 (n := (n : Int) - 1) (by omega)]
    rw [show -val (l.drop (n + 1)) * 10 - rd l (n : Int) = -val (l.drop n) by omega]
    exact ih (by omega)
theorem ref_out_j0 (neg : Bool) (l : List Int) (hl : l.length ≤ 100000) (hd : Dg l) (b : Bool) (hb : b = !decide (In (bv neg l))) :
    Ev (fun k => payoffref01_Out.j0 k b neg l) (fit (bv neg l)) := by
  refine Ev.step (fun k => payoffref01_Out.j0.eq_2 _ _ _ _) ?_
  by_cases h : In (bv neg l)
  · rw [fit_in h, hb]
    refine Ev.neg (by simp [h]) ?_
    rw [w64 (by omega)]
    have hv := val_nonneg hd
    have := ref_out_l0 neg l hl hd (by unfold In bv at h; split at h <;> omega) h l.length (by omega)
    rw [List.drop_length] at this
    exact this
  · rw [fit_out h, hb]
    exact Ev.pos (by simp [h]) (Ev.ret rfl)
theorem ref_out (neg : Bool) (l : List Int) (hl : l.length ≤ 100000) (hn : Norm l) : Ev (fun k => payoffref01_Out.f k neg l) (fit (bv neg l)) := by
  unfold payoffref01_Out.f
  obtain ⟨c, c1, c2, c3, c4⟩ := ref_from 4611686018427387904 (by unfold In; omega)
  refine Ev.bind c1 (Ev.bind c1 ?_)
  obtain ⟨r, r1, r2, r3, r4⟩ := ref_plus c c 19 (by omega) c4 c4 c2.1 c2.1
  refine Ev.bind r1 ?_
  rw [c3] at r3
  have r3 : val r = 9223372036854775808 := by rw [r3]; decide
  refine Ev.bind (ref_above l r (by omega) hn r2) ?_
  rw [r3]
  have hv := val_nonneg hn.1
  by_cases h : val l > 9223372036854775808
  · refine Ev.pos (by simpa using h) (ref_out_j0 neg l hl hn.1 _ ?_)
    have : ¬ In (bv neg l) := by unfold In bv; split <;> omega
    simp [this]
  · refine Ev.neg (by simpa using h) ?_
    by_cases hneg : neg = true
    · refine Ev.pos hneg (ref_out_j0 neg l hl hn.1 _ ?_)
      have : In (bv neg l) := by unfold In bv; rw [if_pos hneg]; omega
      simp [this]
    · refine Ev.neg hneg (Ev.bind (ref_above r l (by omega) r2 hn) (ref_out_j0 neg l hl hn.1 _ ?_))
      rw [r3]
      have : decide (9223372036854775808 > val l) = decide (In (bv neg l)) := by
        rw [decide_eq_decide]; unfold In bv; rw [if_neg hneg]; omega
      rw [this]
theorem ref_sign (neg : Bool) (l : List Int) (hn : Norm l) : ∃ s, payoffref01_sign.f neg l = some (s, l) ∧ bv s l = bv neg l ∧ (s = true → bv neg l < 0) ∧ (s = false → 0 ≤ bv neg l) := by
  unfold payoffref01_sign.f
  have hv := val_nonneg hn.1
  have hp := hn.pos_iff
  by_cases h : neg = true
  · refine ⟨_, by rw [if_pos h], ?_, ?_, ?_⟩
    · unfold bv
      rw [if_pos h]
      split
      · rfl
      · rename_i hd
        simp only [decide_eq_true_eq] at hd
        omega
    · intro hd
      simp only [decide_eq_true_eq] at hd
      unfold bv; rw [if_pos h]; omega
    · intro hd
      simp only [decide_eq_false_iff_not] at hd
      unfold bv; rw [if_pos h]; omega
  · refine ⟨_, by rw [if_neg h], ?_, ?_, ?_⟩
    · unfold bv; rw [if_neg h, if_neg (by decide)]
    · intro hd; cases hd
    · intro _; unfold bv; rw [if_neg h]; exact hv

theorem ref_Plus (p q : Bool) (a b : List Int) (hla : a.length ≤ 90000) (hlb : b.length ≤ 90000) (ha : Norm a) (hb : Norm b) :
    ∃ s r, Ev (fun k => payoffref01_Plus.f k p a q b) (s, r) ∧ Norm r ∧ bv s r = bv p a + bv q b ∧ (s = true → bv s r < 0) ∧ (s = false → 0 ≤ bv s r) ∧ r.length ≤ 90001 := by
  unfold payoffref01_Plus.f
  by_cases h : p = q
  · subst h
    obtain ⟨r, r1, r2, r3, r4⟩ := ref_plus a b 90000 (by omega) hla hlb ha.1 hb.1
    obtain ⟨s, s1, s2, s3, s4⟩ := ref_sign p r r2
    refine ⟨s, r, Ev.pos (by simp) (Ev.bind r1 (Ev.call s1 (Ev.ret rfl))), r2, ?_, by rw [s2]; exact s3, by rw [s2]; exact s4, r4⟩
    rw [s2]; unfold bv; split <;> omega
  · have hv : ∀ x y : List Int, bv p x + bv q y = if p = true then val y - val x else val x - val y := by
      intro x y
      unfold bv
      cases p <;> cases q <;> simp at h ⊢ <;> omega
    by_cases hab : val b > val a
    · obtain ⟨r, r1, r2, r3, r4⟩ := ref_minus b a (by omega) hb.1 ha.1 (by omega)
      obtain ⟨s, s1, s2, s3, s4⟩ := ref_sign q r r2
      refine ⟨s, r, Ev.neg (by simpa using h) (Ev.bind (ref_above b a (by omega) hb ha) (Ev.pos (by simpa using hab) (Ev.bind r1 (Ev.call s1 (Ev.ret rfl))))), r2, ?_, by rw [s2]; exact s3, by rw [s2]; exact s4, by omega⟩
      rw [s2, hv]; unfold bv
      cases p <;> cases q <;> simp at h ⊢ <;> omega
    · obtain ⟨r, r1, r2, r3, r4⟩ := ref_minus a b (by omega) ha.1 hb.1 (by omega)
      obtain ⟨s, s1, s2, s3, s4⟩ := ref_sign p r r2
      refine ⟨s, r, Ev.neg (by simpa using h) (Ev.bind (ref_above b a (by omega) hb ha) (Ev.neg (by simpa using hab) (Ev.bind r1 (Ev.call s1 (Ev.ret rfl))))), r2, ?_, by rw [s2]; exact s3, by rw [s2]; exact s4, by omega⟩
      rw [s2, hv]; unfold bv
      cases p <;> cases q <;> simp at h ⊢ <;> omega

theorem ref_from' (v : Int) (h : In v) : ∃ s c, Ev (fun k => payoffref01_From.f k v) (s, c) ∧ Norm c ∧ bv s c = v ∧ s = decide (v < 0) ∧ val c = v.natAbs ∧ c.length ≤ 19 := by
  obtain ⟨c, h1, h2, h3, h4⟩ := ref_from v h
  refine ⟨_, c, h1, h2, ?_, rfl, h3, h4⟩
  unfold bv
  rw [h3]
  by_cases hn : v < 0
  · rw [if_pos (by simpa using hn)]; omega
  · rw [if_neg (by simpa using hn)]; omega

/-- The sum from a number on, as a list goes. -/
def summed : Int → List Int → Int × Int
  | s, [] => (s, 0)
  | s, x :: t => if In (s + x) then summed (s + x) t else (0, 1)
theorem sum_l0 (l : List Int) (hl : l.length ≤ 17592186044416) (hw : ∀ x ∈ l, In x) : ∀ (d i : Nat) (s : Int), i ≤ l.length → l.length - i = d → In s →
    Ev (fun k => num_Sum.l0 k s l (l.length : Int) (i : Int)) (summed s (l.drop i)) := by
  intro d
  induction d with
  | zero =>
    intro i s h0 hd hs
    refine Ev.step (fun k => num_Sum.l0.eq_2 _ _ _ _ _) ?_
    rw [List.drop_eq_nil_of_le (by omega)]
    exact Ev.neg (by omega) (Ev.ret rfl)
  | succ d ih =>
    intro i s h0 hd hs
    have hi : i < l.length := by omega
    refine Ev.step (fun k => num_Sum.l0.eq_2 _ _ _ _ _) ?_
    refine Ev.pos (by omega) (Ev.pos (by omega) (Ev.pos (by omega) ?_))
    have hr : rd l (i : Int) = l[i] := by simp [rd, hi]
    rw [List.drop_eq_getElem_cons hi, hr, summed]
    refine Ev.call (num_add _ _ hs (hw _ (List.getElem_mem hi))) ?_
    by_cases h : In (s + l[i])
    · rw [fit_in h, if_pos h, w64 (by omega)]
      refine Ev.pos rfl ?_
      exact ih (i + 1) _ (by omega) (by omega) h
    · rw [fit_out h, if_neg h]
      exact Ev.neg (by decide) (Ev.ret rfl)
theorem sum_f (l : List Int) (hl : l.length ≤ 17592186044416) (hw : ∀ x ∈ l, In x) : Ev (fun k => num_Sum.f k l) (summed 0 l) := by
  unfold num_Sum.f
  exact sum_l0 l hl hw l.length 0 0 (by omega) (by omega) (by unfold In; omega)
theorem summed_append (a b : List Int) : ∀ s, summed s (a ++ b) = if (summed s a).2 = 0 then summed (summed s a).1 b else (0, 1) := by
  induction a with
  | nil => intro s; simp [summed]
  | cons x t ih =>
    intro s
    simp only [List.cons_append, summed]
    split
    · exact ih _
    · simp
theorem summed_in (l : List Int) : ∀ s, In s → ((summed s l).2 = 0 ∧ In (summed s l).1) ∨ (summed s l) = (0, 1) := by
  induction l with
  | nil => intro s hs; exact .inl ⟨rfl, hs⟩
  | cons x t ih =>
    intro s hs
    simp only [summed]
    split
    · exact ih _ ‹_›
    · exact .inr rfl

theorem bv_len {p : Bool} {c : List Int} (hn : Norm c) (h : In (bv p c)) : c.length ≤ 19 := by
  refine hn.length_le ?_
  have := val_nonneg hn.1
  unfold In bv at h
  split at h <;> omega
theorem refsum_l0 (l : List Int) (hl : l.length ≤ 17592186044416) (hw : ∀ x ∈ l, In x) : ∀ (d i : Nat) (p : Bool) (c : List Int), i ≤ l.length → l.length - i = d → Norm c → In (bv p c) →
    Ev (fun k => payoffref01_Sum.l0 k l (i : Int) p c) (summed (bv p c) (l.drop i)) := by
  intro d
  induction d with
  | zero =>
    intro i p c h0 hd hn hs
    refine Ev.step (fun k => payoffref01_Sum.l0.eq_2 ..) (Ev.neg (by omega) (Ev.bind (ref_out p c (by have := bv_len hn hs; omega) hn) (Ev.ret ?_)))
    rw [List.drop_eq_nil_of_le (by omega), fit_in hs]; rfl
  | succ d ih =>
    intro i p c h0 hd hn hs
    have hi : i < l.length := by omega
    have hr : rd l (i : Int) = l[i] := by simp [rd, hi]
    obtain ⟨q, e, e1, e2, e3, -, -, e4⟩ := ref_from' (l[i]) (hw _ (List.getElem_mem hi))
    obtain ⟨s, r, r1, r2, r3, -, -, r4⟩ := ref_Plus p q c e (by have := bv_len hn hs; omega) (by omega) hn e2
    refine Ev.step (fun k => payoffref01_Sum.l0.eq_2 ..) (Ev.pos (by omega) (Ev.pos (by omega) ?_))
    rw [List.drop_eq_getElem_cons hi, hr, summed]
    refine Ev.bind e1 (Ev.bind r1 (Ev.bind (ref_out s r (by omega) r2) ?_))
    rw [e3] at r3
    by_cases h : In (bv p c + l[i])
    · rw [r3, fit_in h, if_pos h, w64 (by omega)]
      refine Ev.pos rfl ?_
      rw [← r3]
      rw [← r3] at h
      exact ih (i + 1) s r (by omega) (by omega) r2 h
    · rw [r3, fit_out h, if_neg h]
      exact Ev.neg (by decide) (Ev.ret rfl)
theorem refsum_f (l : List Int) (hl : l.length ≤ 17592186044416) (hw : ∀ x ∈ l, In x) : Ev (fun k => payoffref01_Sum.f k l) (summed 0 l) :=
  refsum_l0 l hl hw l.length 0 false [] (by omega) (by omega) Norm.nil (by unfold In bv val; simp)
theorem take_set_succ {l : List Int} {i : Nat} (v : Int) (h : i < l.length) : (l.set i v).take (i + 1) = l.take i ++ [v] := by
  rw [List.take_succ_eq_append_getElem (by simpa using h), List.take_set_of_le (by omega)]
  simp
theorem rd_set {l : List Int} {i : Nat} (v : Int) (h : i < l.length) : rd (l.set i v) (i : Int) = v := by simp [rd, h]
theorem w_in (n : Int) : In (wrap64 n) := wf64 (wrap64_wf n)
theorem lists_l2 (l : List Int) (hl : l.length ≤ 17592186044416) (hw : ∀ x ∈ l, In x) : ∀ (d i : Nat) (x y : List Int), i + d = l.length → x.length = l.length + 6 → y.length = l.length → x.take i = y.take i → (∀ v ∈ y.take i, In v) →
    Ev (fun k => payofflaw01_NumLists.l2 k l x y (i : Int)) true := by
  intro d
  induction d with
  | zero =>
    intro i x y h0 hx hy he hv
    have hxy : x.take ((l.length : Int) : Int).toNat = y := by
      rw [Int.toNat_natCast, ← show i = l.length by omega, he, List.take_of_length_le (by omega)]
    rw [List.take_of_length_le (by omega)] at hv
    refine Ev.step (fun k => payofflaw01_NumLists.l2.eq_2 ..) (Ev.neg (by omega) (Ev.pos (by omega) (Ev.pos (by omega) ?_)))
    rw [hxy]
    exact Ev.bind (sum_f y (by omega) hv) (Ev.bind (refsum_f y (by omega) hv) (Ev.pos rfl (Ev.ret (by simp))))
  | succ d ih =>
    intro i x y h0 hx hy he hv
    refine Ev.step (fun k => payofflaw01_NumLists.l2.eq_2 ..) (Ev.pos (by omega) ?_)
    rw [w64 (n := (l.length : Int) - 1) (by omega), w64 (n := (l.length : Int) - 1 - i) (by omega)]
    refine Ev.pos (by omega) (Ev.pos (by omega) (Ev.pos (by omega) (Ev.pos (by omega) (Ev.call rfl (Ev.pos (by omega) ?_)))))
    rw [w64 (n := (i : Int) + 1) (by omega), Int.toNat_natCast, rd_set _ (by omega)]
    generalize hq : wrap64 (wrap64 (Int.tdiv (rd l ((l.length : Int) - 1 - i)) 3) + i) = v
    have hvi : In v := hq ▸ w_in _
    refine ih (i + 1) (x.set i v) (y.set i v) (by omega) (by simpa using hx) (by simpa using hy) ?_ ?_
    · rw [take_set_succ v (by omega), take_set_succ v (by omega), he]
    · rw [take_set_succ v (by omega)]
      intro u hu
      rcases List.mem_append.mp hu with hu | hu
      · exact hv u hu
      · rw [List.mem_singleton.mp hu]; exact hvi
theorem lists_j2 (l x : List Int) (s f : Int) (i : Int) (hi : ¬ i ≥ (l.length : Int)) (h : Ev (fun k => payofflaw01_NumLists.l1 k l x s f s f (wrap64 (i + 1))) true) : Ev (fun k => payofflaw01_NumLists.j2 k l x s f s f i false) true :=
  Ev.step (fun k => payofflaw01_NumLists.j2.eq_2 ..) (Ev.neg (by decide) (Ev.neg hi h))
theorem lists_l1 (l : List Int) (hl : l.length ≤ 17592186044416) (hw : ∀ x ∈ l, In x) (x : List Int) (hx : x = l ++ [1000, 1001, 1002, 1003, 1004, 1005]) (s f : Int) : ∀ (d i : Nat), i + d = l.length + 6 →
    Ev (fun k => payofflaw01_NumLists.l1 k l x s f s f (i : Int)) true := by
  have hxl : x.length = l.length + 6 := by rw [hx]; simp
  intro d
  induction d with
  | zero =>
    intro i h0
    refine Ev.step (fun k => payofflaw01_NumLists.l1.eq_2 ..) (Ev.neg (by omega) (Ev.pos rfl ?_))
    refine Ev.step (fun k => payofflaw01_NumLists.j3.eq_2 ..) (Ev.neg (by simp) (Ev.pos (by omega) (Ev.pos (by omega) ?_)))
    exact lists_l2 l hl hw l.length 0 x _ (by omega) hxl (by simp) rfl (by simp)
  | succ d ih =>
    intro i h0
    have hn := ih (i + 1) (by omega)
    rw [show ((i + 1 : Nat) : Int) = (i : Int) + 1 by omega] at hn
    refine Ev.step (fun k => payofflaw01_NumLists.l1.eq_2 ..) (Ev.pos (by omega) ?_)
    by_cases h : (i : Int) < l.length
    · have e : rd x (i : Int) = rd l (i : Int) := by
        rw [hx, rd_nat, rd_nat, List.getD_eq_getElem?_getD, List.getD_eq_getElem?_getD, List.getElem?_append_left (by omega)]
      refine Ev.pos h (Ev.pos (by omega) ?_)
      rw [e, show (rd l (i : Int) != rd l (i : Int)) = false by simp]
      exact lists_j2 l x s f i (by omega) (by rw [w64 (by omega)]; exact hn)
    · refine Ev.neg h (Ev.step (fun k => payofflaw01_NumLists.j2.eq_2 ..) (Ev.neg (by decide) (Ev.pos (by omega) (Ev.pos (by omega) (Ev.pos (by omega) (Ev.pos ?_ (by rw [w64 (by omega)]; exact hn)))))))
      obtain ⟨j, hj, h6⟩ : ∃ j : Nat, i = l.length + j ∧ j < 6 := ⟨i - l.length, by omega, by omega⟩
      rw [w64 (n := 1000 + (i : Int)) (by omega), w64 (by omega), hx, rd_nat, List.getD_eq_getElem?_getD, List.getElem?_append_right (by omega), hj, Nat.add_sub_cancel_left]
      have : j = 0 ∨ j = 1 ∨ j = 2 ∨ j = 3 ∨ j = 4 ∨ j = 5 := by omega
      rcases this with rfl | rfl | rfl | rfl | rfl | rfl <;> simp <;> omega
theorem lists_l0 (l x : List Int) (hl : l.length ≤ 17592186044416) (hx : x.length = l.length + 6) (i : Nat) (hi : i < 6) (h : Ev (fun k => payofflaw01_NumLists.l0 k l (x.set (l.length + i) (1000 + i)) ((i + 1 : Nat) : Int)) true) :
    Ev (fun k => payofflaw01_NumLists.l0 k l x (i : Int)) true := by
  refine Ev.step (fun k => payofflaw01_NumLists.l0.eq_2 ..) (Ev.pos (by omega) ?_)
  rw [w64 (n := (l.length : Int) + i) (by omega), w64 (n := 1000 + (i : Int)) (by omega), w64 (n := (i : Int) + 1) (by omega)]
  refine Ev.pos (by omega) (Ev.pos (by omega) ?_)
  rw [show ((l.length : Int) + i).toNat = l.length + i by omega]
  exact h
theorem NumLists : payofflaw01_NumLists.Pure := by
  intro l hm hs hwf
  have hl : l.length ≤ 17592186044416 := by omega
  have hw : ∀ x ∈ l, In x := fun x hx => wf64 (hwf x hx)
  refine Ev.rounds (g := fun k => payofflaw01_NumLists.f k l) ?_
  unfold payofflaw01_NumLists.f
  rw [w64 (n := (l.length : Int) + 6) (by omega), show ((l.length : Int) + 6).toNat = l.length + 6 by omega]
  refine Ev.pos (by omega) (Ev.pos (by omega) ?_)
  have hc : cpy l (List.replicate (l.length + 6) 0) = l ++ [0, 0, 0, 0, 0, 0] := by
    unfold cpy
    rw [List.length_replicate, Nat.min_eq_left (by omega), List.take_length, List.drop_replicate, Nat.add_sub_cancel_left]; rfl
  rw [hc]
  have st : ∀ (a : List Int) (i : Nat) (v : Int), (l ++ a).set (l.length + i) v = l ++ a.set i v := fun a i v => by
    rw [List.set_append_right _ _ (by omega), Nat.add_sub_cancel_left]
  refine lists_l0 l _ hl (by simp) 0 (by omega) ?_
  refine lists_l0 l _ hl (by simp) 1 (by omega) ?_
  refine lists_l0 l _ hl (by simp) 2 (by omega) ?_
  refine lists_l0 l _ hl (by simp) 3 (by omega) ?_
  refine lists_l0 l _ hl (by simp) 4 (by omega) ?_
  refine lists_l0 l _ hl (by simp) 5 (by omega) ?_
  rw [st, st, st, st, st, st]
  refine Ev.step (fun k => payofflaw01_NumLists.l0.eq_2 ..) (Ev.neg (by omega) (Ev.pos (by omega) (Ev.pos (by simp; omega) ?_)))
  rw [Int.toNat_natCast, List.take_left']
  · exact Ev.bind (sum_f l hl hw) (Ev.bind (refsum_f l hl hw) (lists_l1 l hl hw _ rfl _ _ (l.length + 6) 0 (by omega)))
  · rfl

end Go.Proofs.Ytogbeegkhgkdaaa.Pure
