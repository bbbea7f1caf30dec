/- NumRounds: for every three 64-bit numbers, the five roundings of one fraction hold together: Floor is not above any other, Ceil not below, they are the same or neighbours, and each mode picks one of the two; no condition. -/
import Derived.Test.YtogbeegkhgkdaaaNumRoundsWalk
namespace Go.Proofs.Ytogbeegkhgkdaaa.Pure
open Go.RowKit Go.Proofs.Ytogbeegkhgkdaaa.PNumRounds Go.Proofs.YtogbeegkhgkdaaaW.PrintWords Go.Proofs.YtogbeegkhgkdaaaW.PrintLast Go.Proofs.YtogbeegkhgkdaaaW.PrintMore
set_option linter.unusedVariables false
set_option linter.unusedSimpArgs false

/-! Rounds: an answer that stands from some number of rounds on -/
theorem Ev.pos {α : Type} {c : Prop} [Decidable c] {a b : Nat → Option α} {r : α} (h : c) (k : Ev a r) : Ev (fun n => if c then a n else b n) r := by
  simpa only [if_pos h] using k
theorem Ev.neg {α : Type} {c : Prop} [Decidable c] {a b : Nat → Option α} {r : α} (h : ¬c) (k : Ev b r) : Ev (fun n => if c then a n else b n) r := by
  simpa only [if_neg h] using k
/-- A call without rounds. -/
theorem Ev.call {α β : Type} {x : Option α} {f : Nat → α → Option β} {a : α} {r : β} (h : x = some a) (k : Ev (fun n => f n a) r) : Ev (fun n => x.bind (f n)) r := by
  subst h; simpa only [Option.bind_some] using k
theorem Ev.ret {α : Type} {r s : α} (h : s = r) : Ev (fun _ => some s) r := ⟨0, fun _ _ => by rw [h]⟩
theorem w64 {n : Int} (h : -9223372036854775808 ≤ n ∧ n ≤ 9223372036854775807) : wrap64 n = n := by unfold wrap64; omega
theorem wu64 {n : Int} (h : 0 ≤ n ∧ n ≤ 18446744073709551615) : IntKind.u64.wrap n = n := by
  simp only [IntKind.wrap, IntKind.bits, IntKind.signed]; simp; omega
theorem wf64 {a : Int} (h : (Lit.int .i64 a).wf = true) : -9223372036854775808 ≤ a ∧ a ≤ 9223372036854775807 := by
  simp only [Lit.wf, IntKind.min, IntKind.max, IntKind.signed, IntKind.bits, Bool.and_eq_true, decide_eq_true_eq, if_true] at h
  omega
theorem wfu64 {a : Int} (h : (Lit.int .u64 a).wf = true) : 0 ≤ a ∧ a ≤ 18446744073709551615 := by
  simp only [Lit.wf, IntKind.min, IntKind.max, IntKind.signed, IntKind.bits, Bool.and_eq_true, decide_eq_true_eq] at h
  simp at h
  omega
theorem wf8 {a : Int} (h : (Lit.int .u8 a).wf = true) : 0 ≤ a ∧ a ≤ 255 := by
  simp only [Lit.wf, IntKind.min, IntKind.max, IntKind.signed, IntKind.bits, Bool.and_eq_true, decide_eq_true_eq] at h
  simp at h
  omega

/-! The range, and what a call answers by its true answer -/
def In (n : Int) : Prop := -9223372036854775808 ≤ n ∧ n ≤ 9223372036854775807
instance (n : Int) : Decidable (In n) := by unfold In; infer_instance
/-- What a call answers whose true answer is n. -/
def fit (n : Int) : Int × Int := if In n then (n, 0) else (0, 1)
theorem fit_in {n : Int} (h : In n) : fit n = (n, 0) := by rw [fit, if_pos h]
theorem fit_out {n : Int} (h : ¬In n) : fit n = (0, 1) := by rw [fit, if_neg h]

theorem num_mul (k : Nat) (a b : Int) (ha : In a) (hb : In b) : num_Mul.f (k + 1) a b = some (fit (a * b)) := by
  unfold In at ha hb
  unfold num_Mul.f
  by_cases a0 : a = 0
  · subst a0; simp [num_Mul.j0, fit, In]
  by_cases b0 : b = 0
  · subst b0; simp [num_Mul.j0, fit, In, a0]
  rw [if_neg a0]
  simp only [num_Mul.j0]
  rw [if_neg (by simpa using b0), if_neg b0]
  by_cases hin : In (a * b)
  · have hw : wrap64 (a * b) = a * b := w64 hin
    rw [fit_in hin, hw, Int.mul_tdiv_cancel _ b0, w64 ha, if_pos rfl]
    by_cases b1 : b = -1
    · subst b1
      rw [if_pos rfl, if_neg (by unfold In at hin; omega)]
    · rw [if_neg b1]
  · rw [fit_out hin]
    by_cases b1 : b = -1
    · subst b1
      have : a = -9223372036854775808 := by unfold In at hin; omega
      subst this
      simp [wrap64]
    · have hw : ¬ wrap64 (Int.tdiv (wrap64 (a * b)) b) = a := by
        intro he
        have h1 : -9223372036854775808 ≤ wrap64 (a * b) ∧ wrap64 (a * b) ≤ 9223372036854775807 := by unfold wrap64; omega
        generalize hx : wrap64 (a * b) = x at *
        have hq : -9223372036854775808 ≤ Int.tdiv x b ∧ Int.tdiv x b ≤ 9223372036854775807 := by
          have h2 := Int.natAbs_tdiv x b
          have h3 : (x.tdiv b).natAbs ≤ x.natAbs := by rw [h2]; exact Nat.div_le_self _ _
          have h4 : x = -9223372036854775808 → (x.tdiv b).natAbs ≠ 9223372036854775808 := by
            intro e
            rw [h2, e]
            have : 2 ≤ b.natAbs ∨ b = 1 := by omega
            rcases this with h | h
            · have h9 := Nat.div_le_div_left (a := 9223372036854775808) h (by omega)
              rw [show (-9223372036854775808 : Int).natAbs = 9223372036854775808 from rfl]
              change (9223372036854775808 : Nat) / b.natAbs ≠ 9223372036854775808
              generalize 9223372036854775808 / b.natAbs = z at *
              omega
            · subst h
              exfalso
              apply hin
              rw [Int.mul_one]; exact ha
          omega
        rw [w64 hq] at he
        have h5 := Int.mul_tdiv_add_tmod x b
        rw [he] at h5
        have h6 : (x.tmod b).natAbs < b.natAbs := by
          rw [Int.natAbs_tmod]; exact Nat.mod_lt _ (by omega)
        have h7 : b * a = a * b := Int.mul_comm _ _
        rw [h7] at h5
        unfold wrap64 at hx
        unfold In at hin
        generalize a * b = y at *
        omega
      rw [if_neg hw]
theorem num_mul_ev (a b : Int) (ha : In a) (hb : In b) : Ev (fun k => num_Mul.f k a b) (fit (a * b)) := ⟨1, fun k hk => by
  obtain ⟨m, rfl⟩ : ∃ m, k = m + 1 := ⟨k - 1, by omega⟩
  exact num_mul m a b ha hb⟩

theorem num_sub (a b : Int) (ha : In a) (hb : In b) : num_Sub.f a b = some (fit (a - b)) := by
  unfold num_Sub.f
  unfold In at ha hb
  by_cases h : In (a - b)
  · rw [fit_in h]
    unfold In at h
    rw [w64 h, if_neg]
    have : (decide (b ≥ 0)) = decide (a - b ≤ a) := by rw [decide_eq_decide]; omega
    rw [this]; simp
  · rw [fit_out h]
    unfold In at h
    rw [if_pos]
    have : (decide (b ≥ 0)) = !decide (wrap64 (a - b) ≤ a) := by
      rw [← decide_not, decide_eq_decide]; unfold wrap64; omega
    rw [this]; simp
theorem num_neg (a : Int) (ha : In a) : num_Neg.f a = some (fit (-a)) := by
  unfold num_Neg.f
  rw [num_sub _ _ (by unfold In; omega) ha, Int.zero_sub]; rfl

theorem tdiv_in {a b : Int} (ha : In a) (hb : b ≠ -1) : In (Int.tdiv a b) := by
  unfold In at *
  have h2 : (Int.tdiv a b).natAbs = a.natAbs / b.natAbs := Int.natAbs_tdiv a b
  have h3 : a.natAbs / b.natAbs ≤ a.natAbs := Nat.div_le_self _ _
  by_cases e : a = -9223372036854775808
  · subst e
    have : 2 ≤ b.natAbs ∨ b = 1 ∨ b = 0 := by omega
    rcases this with h | h | h
    · have h9 := Nat.div_le_div_left (a := 9223372036854775808) h (by omega)
      rw [show (-9223372036854775808 : Int).natAbs = 9223372036854775808 from rfl] at h2
      omega
    · subst h; rw [Int.tdiv_one]; exact ha
    · subst h; rw [Int.tdiv_zero]; omega
  · omega
theorem num_div {a b : Int} (ha : In a) (hb : b ≠ 0) : num_Div.f a b = some (fit (Int.tdiv a b)) := by
  unfold num_Div.f
  rw [if_neg hb]
  by_cases h : b = -1
  · subst h
    rw [if_pos rfl, num_neg a ha, Int.tdiv_neg, Int.tdiv_one]; rfl
  · have := tdiv_in ha h
    rw [if_neg h, w64 this, fit_in this]
theorem tmod_lt {a b : Int} (hb : b ≠ 0) : (Int.tmod a b).natAbs < b.natAbs := by
  rw [Int.natAbs_tmod]; exact Nat.mod_lt _ (by omega)
theorem tmod_le (a b : Int) : (Int.tmod a b).natAbs ≤ a.natAbs := by
  rw [Int.natAbs_tmod]; exact Nat.mod_le _ _
theorem tmod_pos {a b : Int} (h : 0 ≤ a) : 0 ≤ Int.tmod a b := Int.tmod_nonneg b h
theorem tmod_neg {a b : Int} (h : a ≤ 0) : Int.tmod a b ≤ 0 := by
  have := Int.tmod_nonneg b (show 0 ≤ -a by omega)
  rw [Int.neg_tmod] at this
  omega

theorem tdiv_abs (a b : Int) : Int.tdiv a b = if ((decide (a < 0)) != (decide (b < 0))) = true then -((a.natAbs : Int) / b.natAbs) else (a.natAbs : Int) / b.natAbs := by
  have h1 : ∀ x : Int, 0 ≤ x → (x.natAbs : Int) = x := fun x h => by omega
  rcases Int.lt_or_le a 0 with ha | ha <;> rcases Int.lt_or_le b 0 with hb | hb
  · rw [show decide (a < 0) = true from decide_eq_true ha, show decide (b < 0) = true from decide_eq_true hb, if_neg (by decide)]
    have := Int.tdiv_eq_ediv_of_nonneg (a := -a) (b := -b) (by omega)
    rw [Int.neg_tdiv, Int.tdiv_neg, Int.neg_neg] at this
    rw [this, show (a.natAbs : Int) = -a by omega, show (b.natAbs : Int) = -b by omega]
  · rw [show decide (a < 0) = true from decide_eq_true ha, show decide (b < 0) = false from decide_eq_false (by omega), if_pos (by decide)]
    have := Int.tdiv_eq_ediv_of_nonneg (a := -a) (b := b) (by omega)
    rw [Int.neg_tdiv] at this
    rw [show (a.natAbs : Int) = -a by omega, show (b.natAbs : Int) = b by omega, ← this, Int.neg_neg]
  · rw [show decide (a < 0) = false from decide_eq_false (by omega), show decide (b < 0) = true from decide_eq_true hb, if_pos (by decide)]
    have := Int.tdiv_eq_ediv_of_nonneg (a := a) (b := -b) (by omega)
    rw [Int.tdiv_neg] at this
    rw [show (a.natAbs : Int) = a by omega, show (b.natAbs : Int) = -b by omega, ← this, Int.neg_neg]
  · rw [show decide (a < 0) = false from decide_eq_false (by omega), show decide (b < 0) = false from decide_eq_false (by omega), if_neg (by decide)]
    rw [show (a.natAbs : Int) = a by omega, show (b.natAbs : Int) = b by omega, Int.tdiv_eq_ediv_of_nonneg ha]

/-! Lists of decimal digits, the lowest first -/
def val : List Int → Int
  | [] => 0
  | d :: t => d + 10 * val t
def Dg (l : List Int) : Prop := ∀ x ∈ l, 0 ≤ x ∧ x ≤ 9
/-- Digits, without a 0 at the end. -/
def Norm (l : List Int) : Prop := Dg l ∧ ∀ h : l ≠ [], l.getLast h ≠ 0
theorem Dg.nil : Dg [] := fun x h => by simp at h
theorem Dg.cons {d : Int} {t : List Int} (h : 0 ≤ d ∧ d ≤ 9) (ht : Dg t) : Dg (d :: t) := fun x hx => by
  rcases List.mem_cons.1 hx with rfl | hx
  · exact h
  · exact ht x hx
theorem Dg.append {a b : List Int} (ha : Dg a) (hb : Dg b) : Dg (a ++ b) := fun x hx => by
  rcases List.mem_append.1 hx with hx | hx
  · exact ha x hx
  · exact hb x hx
theorem Dg.drop {l : List Int} (h : Dg l) (n : Nat) : Dg (l.drop n) := fun x hx => h x (List.mem_of_mem_drop hx)
theorem Dg.take {l : List Int} (h : Dg l) (n : Nat) : Dg (l.take n) := fun x hx => h x (List.mem_of_mem_take hx)
theorem Dg.at {l : List Int} (h : Dg l) (i : Int) : 0 ≤ rd l i ∧ rd l i ≤ 9 := by
  unfold rd
  rw [List.getD_eq_getElem?_getD]
  cases e : l[i.toNat]? with
  | none => simp
  | some x => exact h x (List.mem_of_getElem? e)
theorem Norm.dg {l : List Int} (h : Norm l) : Dg l := h.1
theorem Norm.nil : Norm [] := ⟨Dg.nil, fun h => (h rfl).elim⟩
theorem rd_nat (l : List Int) (i : Nat) : rd l (i : Int) = l.getD i 0 := by simp [rd]
theorem rd_out {l : List Int} {i : Int} (h : (l.length : Int) ≤ i) : rd l i = 0 := by
  unfold rd
  rw [List.getD_eq_getElem?_getD, List.getElem?_eq_none (by omega)]; rfl
theorem val_nonneg {l : List Int} (h : Dg l) : 0 ≤ val l := by
  induction l with
  | nil => simp [val]
  | cons d t ih =>
    have h1 := h d (by simp)
    have h2 := ih (fun x hx => h x (by simp [hx]))
    simp only [val]; omega
theorem val_lt {l : List Int} (h : Dg l) : val l < 10 ^ l.length := by
  induction l with
  | nil => simp [val]
  | cons d t ih =>
    have h1 := h d (by simp)
    have h2 := ih (fun x hx => h x (by simp [hx]))
    rw [List.length_cons, Int.pow_succ]
    simp only [val]
    generalize (10 : Int) ^ t.length = p at *
    omega
theorem val_append (a b : List Int) : val (a ++ b) = val a + 10 ^ a.length * val b := by
  induction a with
  | nil => simp [val]
  | cons d t ih =>
    simp only [List.cons_append, val, List.length_cons, Int.pow_succ, ih]
    rw [Int.mul_add, Int.mul_right_comm, Int.mul_comm ((10 : Int) ^ t.length * val b)]
    omega
theorem val_drop (l : List Int) (i : Nat) : val (l.drop i) = rd l (i : Int) + 10 * val (l.drop (i + 1)) := by
  by_cases h : i < l.length
  · rw [List.drop_eq_getElem_cons h, rd_nat, List.getD_eq_getElem?_getD, List.getElem?_eq_getElem h]; rfl
  · rw [List.drop_eq_nil_of_le (by omega), List.drop_eq_nil_of_le (by omega), rd_out (by omega)]; rfl
theorem pow10_pos (n : Nat) : (0 : Int) < 10 ^ n := Int.pow_pos (by decide)
theorem pow10_mono {m n : Nat} (h : m ≤ n) : (10 : Int) ^ m ≤ 10 ^ n := by
  have := Nat.pow_le_pow_right (show 10 > 0 by decide) h
  exact_mod_cast this
theorem Norm.lo {l : List Int} (h : Norm l) (hl : l ≠ []) : 10 ^ (l.length - 1) ≤ val l := by
  have h1 := List.dropLast_concat_getLast hl
  have hd := h.1 _ (List.getLast_mem hl)
  have hn := h.2 hl
  have e := val_append l.dropLast [l.getLast hl]
  rw [h1, List.length_dropLast] at e
  have h2 := val_nonneg (l := l.dropLast) (fun x hx => h.1 x ((List.dropLast_sublist l).subset hx))
  rw [e]
  simp only [val]
  have h3 := pow10_pos (l.length - 1)
  have h4 := Int.mul_le_mul_of_nonneg_left (show (1 : Int) ≤ l.getLast hl + 10 * 0 by omega) (Int.le_of_lt h3)
  omega
theorem Norm.length_le {l : List Int} {n : Nat} (h : Norm l) (hv : val l < 10 ^ n) : l.length ≤ n := by
  by_cases hl : l = []
  · simp [hl]
  · have h1 := h.lo hl
    have h2 : l.length - 1 < n := by
      apply Classical.byContradiction
      intro hc
      have := pow10_mono (show n ≤ l.length - 1 by omega)
      omega
    omega
theorem Norm.zero {l : List Int} (h : Norm l) (hv : val l = 0) : l = [] := by
  apply Classical.byContradiction
  intro hl
  have h1 := h.lo hl
  have h2 := pow10_pos (l.length - 1)
  omega
theorem Norm.pos_iff {l : List Int} (h : Norm l) : (l.length : Int) > 0 ↔ 0 < val l := by
  constructor
  · intro hl
    have h1 : l ≠ [] := by intro e; rw [e] at hl; simp at hl
    have := h.lo h1
    have := pow10_pos (l.length - 1)
    omega
  · intro hv
    cases l with
    | nil => simp [val] at hv
    | cons d t => simp
theorem Norm.lt_of_length {a b : List Int} (ha : Norm a) (hb : Norm b) (h : a.length < b.length) : val a < val b := by
  have h1 := val_lt ha.1
  have h2 := hb.lo (by intro e; rw [e] at h; simp at h)
  have h3 := pow10_mono (show a.length ≤ b.length - 1 by omega)
  omega
/-- The first number of a list decides its parity. -/
theorem val_rd0 (l : List Int) : val l = rd l 0 + 10 * val (l.drop 1) := by
  have := val_drop l 0
  simpa using this

/-- Is a fraction A over B, cut to q with the rest r, to go one away from 0? -/
def goes (neg : Bool) (q r B mode : Int) : Bool :=
  if mode = 1 then neg && decide (0 < r) else if mode = 2 then !neg && decide (0 < r) else if mode = 3 then decide (B ≤ 2 * r)
  else if mode = 4 then decide (B < 2 * r) || (decide (B = 2 * r) && decide (q % 2 = 1)) else false
/-- A over B, rounded, with its sign. -/
def rounded (neg : Bool) (A B mode : Int) : Int :=
  let m := if goes neg (A / B) (A % B) B mode = true then A / B + 1 else A / B
  if neg = true then -m else m
theorem ediv_of {A B q r : Int} (h : A = q * B + r) (h0 : 0 ≤ r) (hr : r < B) : A / B = q ∧ A % B = r := by
  have h1 : A / B = q := by
    rw [h, Int.add_comm, Int.add_mul_ediv_right _ _ (by omega), Int.ediv_eq_zero_of_lt h0 hr, Int.zero_add]
  refine ⟨h1, ?_⟩
  have h2 := Int.mul_ediv_add_emod A B
  rw [h1, Int.mul_comm] at h2
  omega

/-! Bits of 64 -/
theorem wrap_u64 (n : Int) : IntKind.u64.wrap n = n % 18446744073709551616 := by simp [IntKind.wrap, IntKind.bits, IntKind.signed]
theorem wraps_u64 (n : Int) (h₀ : 0 ≤ n) (h₁ : n < 2 ^ 64) : IntKind.u64.wrap n = n := by
  rw [wrap_u64]; rw [show (2 : Int) ^ 64 = 18446744073709551616 from rfl] at h₁; omega
theorem and_mask (i : Nat) (hi : i ≤ 64) (x m : Int) (hm : m = 2 ^ i - 1) (h0 : 0 ≤ x) (h1 : x < 18446744073709551616) : Go.bits .and .u64 x m = x % 2 ^ i := by
  rw [hm]; exact bits_mask .u64 64 (by decide) wraps_u64 i hi x h0 h1
theorem and_one (x : Int) (h0 : 0 ≤ x) (h1 : x < 18446744073709551616) : Go.bits .and .u64 x 1 = x % 2 := and_mask 1 (by decide) x 1 (by decide) h0 h1
theorem and_half (x : Int) (h0 : 0 ≤ x) (h1 : x < 18446744073709551616) : Go.bits .and .u64 x 4294967295 = x % 4294967296 := and_mask 32 (by decide) x 4294967295 (by decide) h0 h1
theorem or_join (i : Nat) (x y : Int) (hx0 : 0 ≤ x) (hx : x % 2 ^ i = 0) (hx1 : x < 18446744073709551616) (hy0 : 0 ≤ y) (hy : y < 2 ^ i) (hy1 : y < 18446744073709551616) : Go.bits .or .u64 x y = x + y :=
  bits_join .u64 64 (by decide) wraps_u64 i x y hx0 hx hx1 hy0 hy hy1
theorem shl_one (i : Nat) (hi : i ≤ 63) : shl .u64 1 (i : Int) = 2 ^ i := by
  unfold shl
  rw [Int.toNat_natCast, show IntKind.u64.bits = 64 from rfl, Nat.min_eq_left (by omega), Int.one_mul]
  refine wraps_u64 _ (Int.le_of_lt (Int.pow_pos (by decide))) ?_
  have := Nat.pow_lt_pow_right (show 1 < 2 by decide) (show i < 64 by omega)
  exact_mod_cast this
theorem shr_nat (x : Int) (i : Nat) (hi : i ≤ 63) : shr .u64 x (i : Int) = x / 2 ^ i := by
  unfold shr
  rw [Int.toNat_natCast, show IntKind.u64.bits = 64 from rfl, Nat.min_eq_left (by omega)]
theorem pow2_pos (n : Nat) : (0 : Int) < 2 ^ n := Int.pow_pos (by decide)
theorem pow2_le {m n : Nat} (h : m ≤ n) : (2 : Int) ^ m ≤ 2 ^ n := by
  have := Nat.pow_le_pow_right (show 2 > 0 by decide) h
  exact_mod_cast this

theorem num_size (a : Int) (h : In a) : num_size.f a = some (a.natAbs : Int) := by
  unfold num_size.f
  unfold In at h
  rw [wrap_u64, wrap_u64]
  by_cases e : a < 0
  · rw [if_pos e]; congr 1; omega
  · rw [if_neg e]; congr 1; omega
theorem mul_bound {x y m n : Int} (hx : 0 ≤ x) (hy : 0 ≤ y) (h1 : x ≤ m) (h2 : y ≤ n) : 0 ≤ x * y ∧ x * y ≤ m * n :=
  ⟨Int.mul_nonneg hx hy, Int.mul_le_mul h1 h2 hy (by omega)⟩
theorem num_times (a b : Int) (ha : 0 ≤ a ∧ a ≤ 18446744073709551615) (hb : 0 ≤ b ∧ b ≤ 18446744073709551615) :
    ∃ hi lo, num_times.f a b = some (hi, lo) ∧ hi * 18446744073709551616 + lo = a * b ∧ 0 ≤ hi ∧ 0 ≤ lo ∧ lo ≤ 18446744073709551615 ∧ hi ≤ 18446744073709551615 := by
  unfold num_times.f
  rw [and_half a (by omega) (by omega), and_half b (by omega) (by omega)]
  have a1 : 0 ≤ a / 4294967296 ∧ a / 4294967296 ≤ 4294967295 := by omega
  have b1 : 0 ≤ b / 4294967296 ∧ b / 4294967296 ≤ 4294967295 := by omega
  have a0 : 0 ≤ a % 4294967296 ∧ a % 4294967296 ≤ 4294967295 := by omega
  have b0 : 0 ≤ b % 4294967296 ∧ b % 4294967296 ≤ 4294967295 := by omega
  have hA : a = a / 4294967296 * 4294967296 + a % 4294967296 := by omega
  have hB : b = b / 4294967296 * 4294967296 + b % 4294967296 := by omega
  have hab : a * b = (a / 4294967296 * (b / 4294967296)) * 18446744073709551616 + (a / 4294967296 * (b % 4294967296) + a % 4294967296 * (b / 4294967296)) * 4294967296 + a % 4294967296 * (b % 4294967296) := by
    generalize a / 4294967296 = x at *
    generalize b / 4294967296 = y at *
    generalize a % 4294967296 = u at *
    generalize b % 4294967296 = v at *
    rw [hA, hB]
    grind
  rw [hab]
  have p11 := mul_bound a1.1 b1.1 a1.2 b1.2
  have p10 := mul_bound a1.1 b0.1 a1.2 b0.2
  have p01 := mul_bound a0.1 b1.1 a0.2 b1.2
  have p00 := mul_bound a0.1 b0.1 a0.2 b0.2
  generalize a / 4294967296 * (b / 4294967296) = m11 at *
  generalize a / 4294967296 * (b % 4294967296) = m10 at *
  generalize a % 4294967296 * (b / 4294967296) = m01 at *
  generalize a % 4294967296 * (b % 4294967296) = m00 at *
  clear hA hB hab a0 a1 b0 b1
  rw [wu64 (n := m00) (by omega), wu64 (n := m10) (by omega), wu64 (n := m10 + m00 / 4294967296) (by omega), wu64 (n := m01) (by omega), wu64 (n := m11) (by omega)]
  rw [and_half (m10 + m00 / 4294967296) (by omega) (by omega), and_half m00 (by omega) (by omega)]
  rw [wu64 (n := m01 + (m10 + m00 / 4294967296) % 4294967296) (by omega), wu64 (n := m11 + (m10 + m00 / 4294967296) / 4294967296) (by omega),
    wu64 (n := m11 + (m10 + m00 / 4294967296) / 4294967296 + (m01 + (m10 + m00 / 4294967296) % 4294967296) / 4294967296) (by omega), wrap_u64]
  rw [or_join 32 _ _ (by omega) (by rw [show (2 : Int) ^ 32 = 4294967296 from rfl]; omega) (by omega) (by omega) (by rw [show (2 : Int) ^ 32 = 4294967296 from rfl]; omega) (by omega)]
  refine ⟨_, _, rfl, ?_, ?_, ?_, ?_, ?_⟩ <;> omega
theorem num_over_l0 (lo d : Int) (hlo : 0 ≤ lo ∧ lo ≤ 18446744073709551615) (hd : 0 < d ∧ d ≤ 9223372036854775808) : ∀ (n : Nat) (q r : Int), n ≤ 64 → 0 ≤ r → r < d → 0 ≤ q → q % 2 ^ n = 0 → q + 2 ^ n ≤ 18446744073709551616 →
    Ev (fun k => num_over.l0 k lo d q r ((n : Int) - 1)) (q + (r * 2 ^ n + lo % 2 ^ n) / d, (r * 2 ^ n + lo % 2 ^ n) % d) := by
  intro n
  induction n with
  | zero =>
    intro q r hn h0 h1 hq hz hs
    refine Ev.step (fun k => num_over.l0.eq_2 _ _ _ _ _ _) (Ev.neg (by omega) (Ev.ret ?_))
    rw [Int.pow_zero, Int.mul_one, Int.emod_one, Int.add_zero, Int.ediv_eq_zero_of_lt h0 h1, Int.emod_eq_of_lt h0 h1, Int.add_zero]
  | succ n ih =>
    intro q r hn h0 h1 hq hz hs
    have hp := pow2_pos n
    have hbit : (lo / 2 ^ n) % 2 = 0 ∨ (lo / 2 ^ n) % 2 = 1 := by omega
    have hlo0 : 0 ≤ lo / 2 ^ n := Int.ediv_nonneg hlo.1 (Int.le_of_lt hp)
    have hlo1 : lo / 2 ^ n ≤ lo := Int.ediv_le_self _ hlo.1
    have hlm : lo % 2 ^ (n + 1) = (lo / 2 ^ n) % 2 * 2 ^ n + lo % 2 ^ n := by
      have e1 := Int.mul_ediv_add_emod lo (2 ^ n)
      have e2 := Int.emod_nonneg lo (show (2 : Int) ^ n ≠ 0 by omega)
      have e3 := Int.emod_lt_of_pos lo hp
      have e4 : lo = (2 ^ n * 2) * ((lo / 2 ^ n) / 2) + ((lo / 2 ^ n) % 2 * 2 ^ n + lo % 2 ^ n) := by
        have : lo / 2 ^ n = 2 * ((lo / 2 ^ n) / 2) + (lo / 2 ^ n) % 2 := by omega
        generalize lo / 2 ^ n / 2 = u at *
        generalize lo / 2 ^ n % 2 = v at *
        generalize lo % 2 ^ n = w at *
        generalize (2 : Int) ^ n = p at *
        rw [this] at e1
        grind
      rw [Int.pow_succ]
      refine (ediv_of (q := (lo / 2 ^ n) / 2) (r := (lo / 2 ^ n) % 2 * 2 ^ n + lo % 2 ^ n) ?_ ?_ ?_).2
      · rw [Int.mul_comm ((lo / 2 ^ n) / 2)]; exact e4
      · rcases hbit with h | h <;> rw [h] <;> omega
      · rcases hbit with h | h <;> rw [h] <;> omega
    have hz2 : q % 2 ^ n = 0 := by
      have := Int.emod_emod_of_dvd q (show (2 : Int) ^ n ∣ 2 ^ (n + 1) from ⟨2, by rw [Int.pow_succ]⟩)
      rw [hz, Int.zero_emod] at this
      exact this.symm
    have hps : (2 : Int) ^ (n + 1) = 2 * 2 ^ n := by rw [Int.pow_succ, Int.mul_comm]
    rw [hlm, hps]
    rw [hps] at hs hz
    rw [show (((n + 1 : Nat) : Int) - 1) = (n : Int) by omega]
    refine Ev.step (fun k => num_over.l0.eq_2 _ _ _ _ _ _) (Ev.pos (by omega) (Ev.pos (by omega) ?_))
    rw [shr_nat lo n (by omega), shl_one n (by omega), and_one _ hlo0 (by omega), wu64 (n := r * 2) (by omega)]
    have hor : Go.bits .or .u64 (r * 2) (lo / 2 ^ n % 2) = r * 2 + lo / 2 ^ n % 2 := by
      refine or_join 1 _ _ (by omega) ?_ (by omega) (by omega) ?_ (by omega)
      · rw [show (2 : Int) ^ 1 = 2 from rfl]; omega
      · rw [show (2 : Int) ^ 1 = 2 from rfl]; omega
    rw [hor]
    have hw : wrap64 ((n : Int) - 1) = (n : Int) - 1 := w64 (by omega)
    have hsplit : r * (2 * 2 ^ n) + (lo / 2 ^ n % 2 * 2 ^ n + lo % 2 ^ n) = (r * 2 + lo / 2 ^ n % 2) * 2 ^ n + lo % 2 ^ n := by
      generalize lo / 2 ^ n % 2 = v at *
      generalize lo % 2 ^ n = w at *
      generalize (2 : Int) ^ n = p at *
      grind
    rw [hsplit]
    by_cases h : r * 2 + lo / 2 ^ n % 2 ≥ d
    · refine Ev.pos h ?_
      have hoq : Go.bits .or .u64 q (2 ^ n) = q + 2 ^ n := by
        refine or_join (n + 1) _ _ hq (by rw [hps]; exact hz) (by omega) (by omega) (by omega) (by omega)
      rw [hoq, wu64 (by omega), hw]
      have e := ih (q + 2 ^ n) (r * 2 + lo / 2 ^ n % 2 - d) (by omega) (by omega) (by omega) (by omega) (by rw [Int.add_emod_right]; exact hz2) (by omega)
      have h9 : (r * 2 + lo / 2 ^ n % 2) * 2 ^ n + lo % 2 ^ n = ((r * 2 + lo / 2 ^ n % 2 - d) * 2 ^ n + lo % 2 ^ n) + 2 ^ n * d := by
        generalize lo / 2 ^ n % 2 = v at *
        generalize lo % 2 ^ n = w at *
        generalize (2 : Int) ^ n = p at *
        grind
      rw [h9, Int.add_mul_ediv_right _ _ (by omega), Int.add_mul_emod_self_right, show ∀ x : Int, q + (x + 2 ^ n) = q + 2 ^ n + x by intro x; omega]
      exact e
    · refine Ev.neg h ?_
      rw [hw]
      exact ih q (r * 2 + lo / 2 ^ n % 2) (by omega) (by omega) (by omega) hq hz2 (by omega)
theorem num_over (hi lo d : Int) (hlo : 0 ≤ lo ∧ lo ≤ 18446744073709551615) (hd : 0 < d ∧ d ≤ 9223372036854775808) (hh : 0 ≤ hi) (hl : hi < d) :
    Ev (fun k => num_over.f k hi lo d) ((hi * 18446744073709551616 + lo) / d, (hi * 18446744073709551616 + lo) % d) := by
  unfold num_over.f
  have := num_over_l0 lo d hlo hd 64 0 hi (by omega) hh hl (by omega) (by simp) (by decide)
  rw [show (2 : Int) ^ 64 = 18446744073709551616 from rfl, Int.emod_eq_of_lt hlo.1 (by omega), Int.zero_add] at this
  exact this
theorem num_cmp (a b : Int) : cmp_Compare_uint64.f a b = some (if a < b then -1 else if a > b then 1 else 0) := by
  unfold cmp_Compare_uint64.f cmp_isNaN_uint64.f
  simp
  split
  · rfl
  · split <;> rfl
theorem num_away (q r d mode : Int) (neg : Bool) (s : Int) (hs : s = if neg = true then -1 else 1) (hq : 0 ≤ q ∧ q ≤ 18446744073709551615) (hr : 0 ≤ r) (hrd : r < d) (hd : 0 < d ∧ d ≤ 9223372036854775808) :
    num_away.f q r d s mode = some (goes neg q r d mode) := by
  unfold num_away.f goes
  by_cases h0 : r = 0
  · subst h0
    rw [if_pos rfl]
    congr 1
    split
    · simp
    split
    · simp
    split
    · symm; apply decide_eq_false; omega
    split
    · rw [decide_eq_false (by omega), decide_eq_false (by omega)]; rfl
    · rfl
  rw [if_neg h0, wu64 (by omega), num_cmp, Option.bind_some]
  have hr0 : decide (0 < r) = true := decide_eq_true (by omega)
  rw [hr0]
  by_cases m1 : mode = 1
  · rw [if_pos m1, if_pos m1, hs]; cases neg <;> rfl
  rw [if_neg m1, if_neg m1]
  by_cases m2 : mode = 2
  · rw [if_pos m2, if_pos m2, hs]; cases neg <;> rfl
  rw [if_neg m2, if_neg m2]
  have hge : decide ((if 2 * r < d then (-1 : Int) else if 2 * r > d then 1 else 0) ≥ 0) = decide (d ≤ 2 * r) := by
    rw [decide_eq_decide]; split
    · omega
    · split <;> omega
  by_cases m3 : mode = 3
  · subst m3
    rw [if_neg (by decide), if_pos rfl, if_pos rfl, hge]
  rw [if_neg m3, if_neg m3]
  have hcz : ((if 2 * r < d then (-1 : Int) else if 2 * r > d then 1 else 0) = 0) ↔ d = 2 * r := by
    split
    · omega
    · split <;> omega
  by_cases m4 : mode = 4
  · rw [if_pos m4, if_pos m4]
    by_cases e : d = 2 * r
    · rw [if_pos (hcz.2 e)]
      unfold num_whole_Bit.f
      rw [if_pos (by omega), show shr .u64 q 0 = q from by have := shr_nat q 0 (by omega); rw [Int.pow_zero, Int.ediv_one] at this; exact this, and_one q hq.1 (by omega), Option.bind_some]
      rw [decide_eq_false (show ¬ d < 2 * r by omega), decide_eq_true e, Bool.false_or, Bool.true_and]
      rfl
    · rw [if_neg (fun h => e (hcz.1 h)), hge]
      congr 1
      rw [decide_eq_false e, Bool.false_and, Bool.or_false, decide_eq_decide]
      omega
  · rw [if_neg m4, if_neg m4]
theorem num_Ratio_j1 (neg : Bool) (s q : Int) (hs : s = if neg = true then -1 else 1) (hq : 0 ≤ q ∧ q ≤ 18446744073709551615) :
    Ev (fun k => num_Ratio.j1 k s q) (fit (if neg = true then -q else q)) := by
  refine Ev.step (fun k => num_Ratio.j1.eq_2 _ _ _) ?_
  cases neg with
  | true =>
    subst hs
    refine Ev.pos (by decide) (Ev.step (fun k => num_Ratio.j2.eq_2 _ _ _ _) ?_)
    by_cases h : q ≤ 9223372036854775808
    · refine Ev.pos (decide_eq_true h) (Ev.ret ?_)
      rw [if_pos rfl, fit_in (by unfold In; omega), wrap_u64]
      congr 1
      unfold wrap64
      omega
    · refine Ev.neg (by simpa using h) (Ev.neg (by decide) (Ev.ret ?_))
      rw [if_pos rfl, fit_out (by unfold In; omega)]
  | false =>
    subst hs
    refine Ev.neg (by decide) ?_
    refine Ev.step (fun k => num_Ratio.j2.eq_2 _ _ _ _) ?_
    refine Ev.neg (by decide) ?_
    refine Ev.pos (by decide) ?_
    rw [show (if (false = true) then -q else q) = q from rfl]
    by_cases h : q < 9223372036854775808
    · refine Ev.pos h (Ev.ret ?_)
      rw [fit_in (by unfold In; omega), w64 (by omega)]
    · refine Ev.neg h (Ev.ret ?_)
      rw [fit_out (by unfold In; omega)]
/-- Ratio's true answer. -/
def ratio (a b c mode : Int) : Int := rounded (((decide (a < 0)) != (decide (b < 0))) != (decide (c < 0))) ((a.natAbs : Int) * b.natAbs) c.natAbs mode
theorem num_Ratio_j0 (neg : Bool) (s hi lo d mode : Int) (hs : s = if neg = true then -1 else 1) (hlo : 0 ≤ lo ∧ lo ≤ 18446744073709551615) (hd : 0 < d ∧ d ≤ 9223372036854775808) (hh : 0 ≤ hi) :
    Ev (fun k => num_Ratio.j0 k mode hi lo d s) (fit (rounded neg (hi * 18446744073709551616 + lo) d mode)) := by
  refine Ev.step (fun k => num_Ratio.j0.eq_2 _ _ _ _ _ _) ?_
  unfold rounded
  by_cases h : hi ≥ d
  · refine Ev.pos h (Ev.ret ?_)
    have h1 : 18446744073709551616 ≤ (hi * 18446744073709551616 + lo) / d := by
      rw [Int.le_ediv_iff_mul_le hd.1]
      omega
    rw [fit_out]
    unfold In
    simp only
    split <;> split <;> omega
  · refine Ev.neg h (Ev.bind (num_over hi lo d hlo hd hh (by omega)) ?_)
    have h1 : (hi * 18446744073709551616 + lo) / d < 18446744073709551616 := by
      rw [Int.ediv_lt_iff_lt_mul hd.1]
      omega
    have h2 : 0 ≤ (hi * 18446744073709551616 + lo) / d := Int.ediv_nonneg (by omega) (by omega)
    have h3 := Int.emod_nonneg (hi * 18446744073709551616 + lo) (show d ≠ 0 by omega)
    have h4 := Int.emod_lt_of_pos (hi * 18446744073709551616 + lo) hd.1
    generalize (hi * 18446744073709551616 + lo) / d = q at *
    generalize (hi * 18446744073709551616 + lo) % d = r at *
    refine Ev.call (num_away q r d mode neg s hs ⟨h2, by omega⟩ h3 h4 hd) ?_
    by_cases hg : goes neg q r d mode = true
    · refine Ev.pos hg ?_
      simp only [hg, if_true]
      by_cases hw : q = 18446744073709551615
      · refine Ev.pos (by rw [hw, wrap_u64]; decide) (Ev.ret ?_)
        rw [fit_out]
        unfold In
        split <;> omega
      · rw [wu64 (by omega)]
        exact Ev.neg (by omega) (num_Ratio_j1 neg s (q + 1) hs (by omega))
    · refine Ev.neg hg ?_
      simp only [hg]
      exact num_Ratio_j1 neg s q hs (by omega)
theorem num_ratio (a b c mode : Int) (ha : In a) (hb : In b) (hc : In c) (h : c ≠ 0) : Ev (fun k => num_Ratio.f k a b c mode) (fit (ratio a b c mode)) := by
  unfold num_Ratio.f ratio
  have ha' := ha; have hb' := hb; have hc' := hc
  unfold In at ha' hb' hc'
  obtain ⟨hi, lo, t1, t2, t3, t4, t5, t6⟩ := num_times (a.natAbs : Int) (b.natAbs : Int) (by omega) (by omega)
  rw [← t2]
  refine Ev.neg h (Ev.call (num_size a ha) (Ev.call (num_size b hb) (Ev.call t1 (Ev.call (num_size c hc) ?_))))
  by_cases hs : (((decide (a < 0)) != (decide (b < 0))) != (decide (c < 0))) = true
  · refine Ev.pos hs ?_
    rw [hs]
    exact num_Ratio_j0 true (-1) hi lo _ mode rfl (by omega) (by omega) t3
  · refine Ev.neg hs ?_
    rw [Bool.eq_false_iff.2 hs]
    exact num_Ratio_j0 false 1 hi lo _ mode rfl (by omega) (by omega) t3

/-- What Ratio answers. -/
def res (a b c m : Int) : Int × Int := if c = 0 then (0, 2) else fit (ratio a b c m)
theorem ratio_ev (a b c m : Int) (ha : In a) (hb : In b) (hc : In c) : Ev (fun k => num_Ratio.f k a b c m) (res a b c m) := by
  unfold res
  by_cases h : c = 0
  · subst h; rw [if_pos rfl]; unfold num_Ratio.f; exact Ev.pos rfl (Ev.ret rfl)
  · rw [if_neg h]; exact num_ratio a b c m ha hb hc h
theorem ev_all {α : Type} (n : Nat) (g : Nat → Nat → Option α) (r : Nat → α) (h : ∀ i, i < n → Ev (g i) (r i)) : ∃ K, ∀ i, i < n → ∀ k, K ≤ k → g i k = some (r i) := by
  induction n with
  | zero => exact ⟨0, fun i hi => by omega⟩
  | succ n ih =>
    obtain ⟨K, hK⟩ := ih (fun i hi => h i (by omega))
    obtain ⟨L, hL⟩ := h n (by omega)
    refine ⟨max K L, fun i hi k hk => ?_⟩
    by_cases e : i = n
    · subst e; exact hL k (by omega)
    · exact hK i (by omega) k (by omega)

theorem fit_2 (v : Int) : (fit v).2 = 0 ∧ In v ∧ (fit v).1 = v ∨ (fit v).2 = 1 ∧ ¬In v := by
  by_cases h : In v
  · exact .inl ⟨by rw [fit_in h], h, by rw [fit_in h]⟩
  · exact .inr ⟨by rw [fit_out h], h⟩
/-- The whole part of a fraction of sizes, and whether a rest is left. -/
theorem rounded_cases (neg : Bool) (A B mode : Int) : rounded neg A B mode = (if neg = true then -(A / B) else A / B) ∨ rounded neg A B mode = (if neg = true then -(A / B + 1) else A / B + 1) := by
  unfold rounded
  cases goes neg (A / B) (A % B) B mode <;> simp
theorem ratio_one (a b : Int) : ratio a b 1 0 = a * b := by
  unfold ratio rounded goes
  simp only [Int.natAbs_one, Int.natCast_one, Int.ediv_one]
  rcases Int.lt_or_le a 0 with h1 | h1 <;> rcases Int.lt_or_le b 0 with h2 | h2
  · rw [show (a.natAbs : Int) = -a by omega, show (b.natAbs : Int) = -b by omega, decide_eq_true h1, decide_eq_true h2]; simp [Int.neg_mul_neg]
  · rw [show (a.natAbs : Int) = -a by omega, show (b.natAbs : Int) = b by omega, decide_eq_true h1, decide_eq_false (show ¬ b < 0 by omega)]; simp [Int.neg_mul]
  · rw [show (a.natAbs : Int) = a by omega, show (b.natAbs : Int) = -b by omega, decide_eq_false (show ¬ a < 0 by omega), decide_eq_true h2]; simp [Int.mul_neg]
  · rw [show (a.natAbs : Int) = a by omega, show (b.natAbs : Int) = b by omega, decide_eq_false (show ¬ a < 0 by omega), decide_eq_false (show ¬ b < 0 by omega)]; simp
theorem tmod_two {q : Int} (h0 : 0 ≤ q) (h : q % 2 = 0) : Int.tmod q 2 = 0 ∧ Int.tmod (-q) 2 = 0 := by
  have : Int.tmod q 2 = 0 := by rw [Int.tmod_eq_emod_of_nonneg h0]; exact h
  exact ⟨this, by rw [Int.neg_tmod, this]; rfl⟩
theorem rounds_plain (neg : Bool) (A B : Int) (hA : 0 ≤ A) (hB : 0 < B) :
    (rounded neg A B 2 = rounded neg A B 1 ∨ rounded neg A B 2 = rounded neg A B 1 + 1) ∧
    (rounded neg A B 0 = rounded neg A B 1 ∨ rounded neg A B 0 = rounded neg A B 2) ∧ (rounded neg A B 3 = rounded neg A B 1 ∨ rounded neg A B 3 = rounded neg A B 2) ∧ (rounded neg A B 4 = rounded neg A B 1 ∨ rounded neg A B 4 = rounded neg A B 2) ∧
    (rounded neg A B 2 ≠ rounded neg A B 1 → (rounded neg A B 1 < 0 ∧ rounded neg A B 0 = rounded neg A B 2 ∧ (rounded neg A B 3 = rounded neg A B 4 ∨ Int.tmod (rounded neg A B 4) 2 = 0 ∧ rounded neg A B 3 = rounded neg A B 1)) ∨
      (0 ≤ rounded neg A B 1 ∧ rounded neg A B 0 = rounded neg A B 1 ∧ (rounded neg A B 3 = rounded neg A B 4 ∨ Int.tmod (rounded neg A B 4) 2 = 0 ∧ rounded neg A B 3 = rounded neg A B 2))) := by
  unfold rounded goes
  have hq : 0 ≤ A / B := Int.ediv_nonneg hA (by omega)
  have hr0 := Int.emod_nonneg A (show B ≠ 0 by omega)
  have hr1 := Int.emod_lt_of_pos A hB
  generalize A / B = q at *
  generalize A % B = r at *
  simp only [show ((1 : Int) = 2) = False by simp, show ((2 : Int) = 1) = False by simp, show ((0 : Int) = 1) = False by simp, show ((0 : Int) = 2) = False by simp, show ((0 : Int) = 3) = False by simp, show ((0 : Int) = 4) = False by simp,
    show ((3 : Int) = 1) = False by simp, show ((3 : Int) = 2) = False by simp, show ((4 : Int) = 1) = False by simp, show ((4 : Int) = 2) = False by simp, show ((4 : Int) = 3) = False by simp, if_true, if_false]
  by_cases hz : r = 0
  · subst hz
    rw [decide_eq_false (show ¬ (0 : Int) < 0 by omega), decide_eq_false (show ¬ B ≤ 2 * 0 by omega), decide_eq_false (show ¬ B < 2 * 0 by omega), decide_eq_false (show ¬ B = 2 * 0 by omega)]
    simp
  · rw [decide_eq_true (show 0 < r by omega)]
    by_cases h2 : B = 2 * r
    · rw [decide_eq_true (show B ≤ 2 * r by omega), decide_eq_false (show ¬ B < 2 * r by omega), decide_eq_true h2]
      by_cases ho : q % 2 = 1
      · rw [decide_eq_true ho]
        cases neg <;> simp <;> omega
      · rw [decide_eq_false ho]
        have ht := tmod_two hq (by omega)
        cases neg <;> simp [ht.1, ht.2] <;> omega
    · rw [decide_eq_false h2]
      have : decide (B ≤ 2 * r) = decide (B < 2 * r) := by rw [decide_eq_decide]; omega
      rw [this]
      cases decide (B < 2 * r) <;> cases neg <;> simp <;> omega
theorem NumRounds_walk (a b c : Int) (W : World) (w0 : (Lit.int .i64 a).wf = true) (w1 : (Lit.int .i64 b).wf = true) (w2 : (Lit.int .i64 c).wf = true) :
    Calls Try.prog 13 #[.int .i64 a, .int .i64 b, .int .i64 c] W fun e W' => e = .returned (.bool true) ∧ Below W.heap.size W W' := by
  have ha : In a := wf64 w0
  have hb : In b := wf64 w1
  have hc : In c := wf64 w2
  obtain ⟨K1, h1⟩ := ev_all 5 (fun i k => num_Ratio.f k a b c i) (fun i => res a b c i) (fun i hi => ratio_ev a b c i ha hb hc)
  obtain ⟨K2, h2⟩ := ratio_ev a b 1 0 ha hb (by unfold In; omega)
  obtain ⟨K3, h3⟩ := num_mul_ev a b ha hb
  obtain ⟨K4, h4⟩ := ratio_ev a 1 c 0 ha (by unfold In; omega) hc
  have e2 : res a b 1 0 = fit (a * b) := by
    rw [res, if_neg (by decide)]
    congr 1
    exact ratio_one a b
  have e4 : num_Div.f a c = some (res a 1 c 0) := by
    unfold res
    by_cases h : c = 0
    · subst h; rfl
    · rw [if_neg h, num_div ha h]
      congr 2
      rw [tdiv_abs]
      unfold ratio rounded goes
      simp
  exact rounds_calls (max (max K1 K2) (max K3 K4)) a b c W (fun i => res a b c i) (fun i => (res a b c i).1) (res a b 1 0) (res a 1 c 0) (c == 0) rfl
    (fun i hi => h1 i hi _ (by omega)) (h2 _ (by omega)) (by rw [e2]; exact h3 _ (by omega)) (h4 _ (by omega)) e4
    (fun h i hi => by
      have : c = 0 := by simpa using h
      simp only [res, this, if_true])
    (fun h i hi => by
      have hc0 : c ≠ 0 := by simpa using h
      simp only [res, if_neg hc0]
      rcases fit_2 (ratio a b c i) with ⟨g, -, -⟩ | ⟨g, -⟩
      · left; rw [g]; rfl
      · right; rw [g]; exact ⟨rfl, rfl⟩)
    (fun i => rfl)
    (fun h => by
      have hc0 : c ≠ 0 := by
        intro e
        have := h 0 (by omega)
        simp [res, e] at this
      have hB : (0 : Int) < c.natAbs := by omega
      have hA : (0 : Int) ≤ (a.natAbs : Int) * b.natAbs := Int.mul_nonneg (by omega) (by omega)
      have hI : ∀ i : Nat, i < 5 → In (ratio a b c i) ∧ (res a b c i).1 = ratio a b c i := by
        intro i hi
        have := h i hi
        simp only [res, if_neg hc0] at this ⊢
        rcases fit_2 (ratio a b c i) with ⟨g, g1, g2⟩ | ⟨g, -⟩
        · exact ⟨g1, g2⟩
        · rw [g] at this; simp at this
      have hI0 := hI 0 (by omega)
      have hI1 := hI 1 (by omega)
      have hI2 := hI 2 (by omega)
      have hI3 := hI 3 (by omega)
      have hI4 := hI 4 (by omega)
      have key := rounds_plain (((decide (a < 0)) != (decide (b < 0))) != (decide (c < 0))) _ _ hA hB
      have hr : ∀ i : Nat, i < 5 → (res a b c i).1 = rounded (((decide (a < 0)) != (decide (b < 0))) != (decide (c < 0))) ((a.natAbs : Int) * b.natAbs) c.natAbs i := fun i hi => (hI i hi).2
      have r0 : (res a b c ((0 : Nat) : Int)).1 = rounded (((decide (a < 0)) != (decide (b < 0))) != (decide (c < 0))) ((a.natAbs : Int) * b.natAbs) c.natAbs 0 := hr 0 (by omega)
      have r1 : (res a b c ((1 : Nat) : Int)).1 = rounded (((decide (a < 0)) != (decide (b < 0))) != (decide (c < 0))) ((a.natAbs : Int) * b.natAbs) c.natAbs 1 := hr 1 (by omega)
      have r2 : (res a b c ((2 : Nat) : Int)).1 = rounded (((decide (a < 0)) != (decide (b < 0))) != (decide (c < 0))) ((a.natAbs : Int) * b.natAbs) c.natAbs 2 := hr 2 (by omega)
      have r3 : (res a b c ((3 : Nat) : Int)).1 = rounded (((decide (a < 0)) != (decide (b < 0))) != (decide (c < 0))) ((a.natAbs : Int) * b.natAbs) c.natAbs 3 := hr 3 (by omega)
      have r4 : (res a b c ((4 : Nat) : Int)).1 = rounded (((decide (a < 0)) != (decide (b < 0))) != (decide (c < 0))) ((a.natAbs : Int) * b.natAbs) c.natAbs 4 := hr 4 (by omega)
      have b1 := hI1.1
      have b2 := hI2.1
      rw [← hI1.2] at b1
      rw [← hI2.2] at b2
      unfold In at b1 b2
      rw [← r0, ← r1, ← r2, ← r3, ← r4] at key
      have hk5 : ∀ i : Nat, i < 5 → (res a b c i).1 = (res a b c (1 : Nat)).1 ∨ (res a b c i).1 = (res a b c (2 : Nat)).1 := by
        intro i hi
        have : i = 0 ∨ i = 1 ∨ i = 2 ∨ i = 3 ∨ i = 4 := by omega
        rcases this with rfl | rfl | rfl | rfl | rfl
        · exact key.2.1
        · exact .inl rfl
        · exact .inr rfl
        · exact key.2.2.1
        · exact key.2.2.2.1
      refine ⟨?_, ?_, ?_⟩
      · by_cases e : (res a b c (2 : Nat)).1 = (res a b c (1 : Nat)).1
        · left; simpa using e
        · right
          refine ⟨by simpa using e, ?_⟩
          have := key.1
          rw [w64 (by omega)]
          exact beq_iff_eq.2 (by omega)
      · intro i hi
        by_cases e : (res a b c i).1 = (res a b c (1 : Nat)).1
        · left; simpa using e
        · right
          refine ⟨by simpa using e, ?_⟩
          rcases hk5 i hi with g | g
          · exact absurd g e
          · simpa using g
      · intro hne
        have hne : (res a b c (2 : Nat)).1 ≠ (res a b c (1 : Nat)).1 := by simpa using hne
        have hw : ∀ x y : Int, -9223372036854775808 ≤ x ∧ x ≤ 9223372036854775807 → wrap64 (wrap64 (x + y) - y) = x := by
          intro x y hx; unfold wrap64; omega
        rcases key.2.2.2.2 hne with ⟨k1, k2, k3⟩ | ⟨k1, k2, k3⟩
        · left
          refine ⟨decide_eq_true k1, by simpa using k2, ?_⟩
          by_cases e : (res a b c (3 : Nat)).1 = (res a b c (4 : Nat)).1
          · left; simpa using e
          · right
            obtain ⟨k4, k5⟩ := k3.resolve_left e
            refine ⟨by simpa using e, by simpa using k4, ?_⟩
            rw [hw _ _ b1]; simpa using k5
        · right
          refine ⟨decide_eq_false (by omega), by simpa using k2, ?_⟩
          by_cases e : (res a b c (3 : Nat)).1 = (res a b c (4 : Nat)).1
          · left; simpa using e
          · right
            obtain ⟨k4, k5⟩ := k3.resolve_left e
            refine ⟨by simpa using e, by simpa using k4, ?_⟩
            rw [Int.add_comm, hw _ _ b2]; simpa using k5)
end Go.Proofs.Ytogbeegkhgkdaaa.Pure
