/- Own text: NumReads: every text is read as the document reads it, with every count of decimals; the library's tables and errors stand as the program lays them. -/
import Derived.Test.YtogbeegkhgkdaaaDoorQReadNumReads
import Derived.Lib.ItoaNum
import Derived.Lib.Repeat
import Derived.SizedLaws
import Derived.Laws.BitsLemmas
namespace Go.Proofs.YtogbeegkhgkdaaaDoor.Pure
open Go.RowKit Go.ChangeShapes Go.WideShapes Go.Proofs.YtogbeegkhgkdaaaDoor.PText Go.Proofs.YtogbeegkhgkdaaaDoorW.PrintWords Go.Proofs.YtogbeegkhgkdaaaDoorW.PrintLast Go.Proofs.YtogbeegkhgkdaaaDoorW.PrintMore
set_option linter.unusedVariables false
set_option linter.unusedSimpArgs false
/-! Rounds: an answer that stands from some number of rounds on -/
theorem Ev.pos {α : Type} {c : Prop} [Decidable c] {a b : Nat → Option α} {r : α} (h : c) (k : Ev a r) : Ev (fun n => if c then a n else b n) r := by
  simpa only [if_pos h] using k
theorem Ev.neg {α : Type} {c : Prop} [Decidable c] {a b : Nat → Option α} {r : α} (h : ¬c) (k : Ev b r) : Ev (fun n => if c then a n else b n) r := by
  simpa only [if_neg h] using k
/-- A call without rounds. -/
theorem Ev.call {α β : Type} {x : Option α} {f : Nat → α → Option β} {a : α} {r : β} (h : x = some a) (k : Ev (fun n => f n a) r) : Ev (fun n => x.bind (f n)) r := by
  subst h; simpa only [Option.bind_some] using k
theorem Ev.ret {α : Type} {r s : α} (h : s = r) : Ev (fun _ => some s) r := ⟨0, fun _ _ => by rw [h]⟩
theorem w64 {n : Int} (h : -9223372036854775808 ≤ n ∧ n ≤ 9223372036854775807) : wrap64 n = n := by unfold wrap64; omega
theorem wu64 {n : Int} (h : 0 ≤ n ∧ n ≤ 18446744073709551615) : IntKind.u64.wrap n = n := by
  simp only [IntKind.wrap, IntKind.bits, IntKind.signed]; simp; omega
theorem wf64 {a : Int} (h : (Lit.int .i64 a).wf = true) : -9223372036854775808 ≤ a ∧ a ≤ 9223372036854775807 := by
  simp only [Lit.wf, IntKind.min, IntKind.max, IntKind.signed, IntKind.bits, Bool.and_eq_true, decide_eq_true_eq, if_true] at h
  omega
theorem wfu64 {a : Int} (h : (Lit.int .u64 a).wf = true) : 0 ≤ a ∧ a ≤ 18446744073709551615 := by
  simp only [Lit.wf, IntKind.min, IntKind.max, IntKind.signed, IntKind.bits, Bool.and_eq_true, decide_eq_true_eq] at h
  simp at h
  omega
theorem wf8 {a : Int} (h : (Lit.int .u8 a).wf = true) : 0 ≤ a ∧ a ≤ 255 := by
  simp only [Lit.wf, IntKind.min, IntKind.max, IntKind.signed, IntKind.bits, Bool.and_eq_true, decide_eq_true_eq] at h
  simp at h
  omega

/-! Strings as lists of bytes -/
def Bs (l : List UInt8) : ByteArray := ⟨l.toArray⟩
theorem Bs_size (l : List UInt8) : (Bs l).size = l.length := by show l.toArray.size = l.length; simp
theorem Bs_data (l : List UInt8) : (Bs l).data.toList = l := by show l.toArray.toList = l; simp
theorem Bs_list (l : List UInt8) : (Bs l).toList = l := by rw [ByteArray.toList_eq]; exact Bs_data l
theorem Bs_of (s : ByteArray) : s = Bs s.data.toList := by cases s; simp [Bs]
theorem ba_ext {a b : ByteArray} (h : a.data.toList = b.data.toList) : a = b := by
  rw [Bs_of a, Bs_of b, h]
theorem Bs_app (a b : List UInt8) : Bs a ++ Bs b = Bs (a ++ b) := ba_ext (by rw [ByteArray.data_append, Array.toList_append, Bs_data, Bs_data, Bs_data])
theorem Bs_ext (l : List UInt8) (i j : Nat) : (Bs l).extract i j = Bs ((l.drop i).take (j - i)) := ba_ext (by
  rw [ByteArray.data_extract, Array.toList_extract, Bs_data, Bs_data, List.extract_eq_take_drop])

/-! The range, and what a call answers by its true answer -/
def In (n : Int) : Prop := -9223372036854775808 ≤ n ∧ n ≤ 9223372036854775807
instance (n : Int) : Decidable (In n) := by unfold In; infer_instance
/-- What a call answers whose true answer is n. -/
def fit (n : Int) : Int × Int := if In n then (n, 0) else (0, 1)
theorem fit_in {n : Int} (h : In n) : fit n = (n, 0) := by rw [fit, if_pos h]
theorem fit_out {n : Int} (h : ¬In n) : fit n = (0, 1) := by rw [fit, if_neg h]

/-! Lists of decimal digits, the lowest first -/
def val : List Int → Int
  | [] => 0
  | d :: t => d + 10 * val t
def Dg (l : List Int) : Prop := ∀ x ∈ l, 0 ≤ x ∧ x ≤ 9
/-- Digits, without a 0 at the end. -/
def Norm (l : List Int) : Prop := Dg l ∧ ∀ h : l ≠ [], l.getLast h ≠ 0
theorem Dg.nil : Dg [] := fun x h => by simp at h
theorem Dg.cons {d : Int} {t : List Int} (h : 0 ≤ d ∧ d ≤ 9) (ht : Dg t) : Dg (d :: t) := fun x hx => by
  rcases List.mem_cons.1 hx with rfl | hx
  · exact h
  · exact ht x hx
theorem Dg.append {a b : List Int} (ha : Dg a) (hb : Dg b) : Dg (a ++ b) := fun x hx => by
  rcases List.mem_append.1 hx with hx | hx
  · exact ha x hx
  · exact hb x hx
theorem Dg.drop {l : List Int} (h : Dg l) (n : Nat) : Dg (l.drop n) := fun x hx => h x (List.mem_of_mem_drop hx)
theorem Dg.take {l : List Int} (h : Dg l) (n : Nat) : Dg (l.take n) := fun x hx => h x (List.mem_of_mem_take hx)
theorem Dg.at {l : List Int} (h : Dg l) (i : Int) : 0 ≤ rd l i ∧ rd l i ≤ 9 := by
  unfold rd
  rw [List.getD_eq_getElem?_getD]
  cases e : l[i.toNat]? with
  | none => simp
  | some x => exact h x (List.mem_of_getElem? e)
theorem Norm.dg {l : List Int} (h : Norm l) : Dg l := h.1
theorem Norm.nil : Norm [] := ⟨Dg.nil, fun h => (h rfl).elim⟩
theorem rd_nat (l : List Int) (i : Nat) : rd l (i : Int) = l.getD i 0 := by simp [rd]
theorem rd_out {l : List Int} {i : Int} (h : (l.length : Int) ≤ i) : rd l i = 0 := by
  unfold rd
  rw [List.getD_eq_getElem?_getD, List.getElem?_eq_none (by omega)]; rfl
theorem val_nonneg {l : List Int} (h : Dg l) : 0 ≤ val l := by
  induction l with
  | nil => simp [val]
  | cons d t ih =>
    have h1 := h d (by simp)
    have h2 := ih (fun x hx => h x (by simp [hx]))
    simp only [val]; omega
theorem val_lt {l : List Int} (h : Dg l) : val l < 10 ^ l.length := by
  induction l with
  | nil => simp [val]
  | cons d t ih =>
    have h1 := h d (by simp)
    have h2 := ih (fun x hx => h x (by simp [hx]))
    rw [List.length_cons, Int.pow_succ]
    simp only [val]
    generalize (10 : Int) ^ t.length = p at *
    omega
theorem val_append (a b : List Int) : val (a ++ b) = val a + 10 ^ a.length * val b := by
  induction a with
  | nil => simp [val]
  | cons d t ih =>
    simp only [List.cons_append, val, List.length_cons, Int.pow_succ, ih]
    rw [Int.mul_add, Int.mul_right_comm, Int.mul_comm ((10 : Int) ^ t.length * val b)]
    omega
theorem val_drop (l : List Int) (i : Nat) : val (l.drop i) = rd l (i : Int) + 10 * val (l.drop (i + 1)) := by
  by_cases h : i < l.length
  · rw [List.drop_eq_getElem_cons h, rd_nat, List.getD_eq_getElem?_getD, List.getElem?_eq_getElem h]; rfl
  · rw [List.drop_eq_nil_of_le (by omega), List.drop_eq_nil_of_le (by omega), rd_out (by omega)]; rfl
theorem pow10_pos (n : Nat) : (0 : Int) < 10 ^ n := Int.pow_pos (by decide)
theorem pow10_mono {m n : Nat} (h : m ≤ n) : (10 : Int) ^ m ≤ 10 ^ n := by
  have := Nat.pow_le_pow_right (show 10 > 0 by decide) h
  exact_mod_cast this
theorem Norm.lo {l : List Int} (h : Norm l) (hl : l ≠ []) : 10 ^ (l.length - 1) ≤ val l := by
  have h1 := List.dropLast_concat_getLast hl
  have hd := h.1 _ (List.getLast_mem hl)
  have hn := h.2 hl
  have e := val_append l.dropLast [l.getLast hl]
  rw [h1, List.length_dropLast] at e
  have h2 := val_nonneg (l := l.dropLast) (fun x hx => h.1 x ((List.dropLast_sublist l).subset hx))
  rw [e]
  simp only [val]
  have h3 := pow10_pos (l.length - 1)
  have h4 := Int.mul_le_mul_of_nonneg_left (show (1 : Int) ≤ l.getLast hl + 10 * 0 by omega) (Int.le_of_lt h3)
  omega
theorem Norm.length_le {l : List Int} {n : Nat} (h : Norm l) (hv : val l < 10 ^ n) : l.length ≤ n := by
  by_cases hl : l = []
  · simp [hl]
  · have h1 := h.lo hl
    have h2 : l.length - 1 < n := by
      apply Classical.byContradiction
      intro hc
      have := pow10_mono (show n ≤ l.length - 1 by omega)
      omega
    omega
theorem Norm.zero {l : List Int} (h : Norm l) (hv : val l = 0) : l = [] := by
  apply Classical.byContradiction
  intro hl
  have h1 := h.lo hl
  have h2 := pow10_pos (l.length - 1)
  omega
theorem Norm.pos_iff {l : List Int} (h : Norm l) : (l.length : Int) > 0 ↔ 0 < val l := by
  constructor
  · intro hl
    have h1 : l ≠ [] := by intro e; rw [e] at hl; simp at hl
    have := h.lo h1
    have := pow10_pos (l.length - 1)
    omega
  · intro hv
    cases l with
    | nil => simp [val] at hv
    | cons d t => simp
theorem Norm.lt_of_length {a b : List Int} (ha : Norm a) (hb : Norm b) (h : a.length < b.length) : val a < val b := by
  have h1 := val_lt ha.1
  have h2 := hb.lo (by intro e; rw [e] at h; simp at h)
  have h3 := pow10_mono (show a.length ≤ b.length - 1 by omega)
  omega
/-- The first number of a list decides its parity. -/
theorem val_rd0 (l : List Int) : val l = rd l 0 + 10 * val (l.drop 1) := by
  have := val_drop l 0
  simpa using this

/-! payoffref01: the school's ways, by what the digits come to -/
theorem ref_at (l : List Int) (i : Int) (h : 0 ≤ i) : payoffref01_at.f l i = some (rd l i) := by
  unfold payoffref01_at.f
  by_cases h1 : i < (l.length : Int)
  · rw [if_pos h1, if_pos h]
  · rw [if_neg h1, rd_out (by omega)]
theorem ref_trim_l0 (l : List Int) (hl : l.length ≤ 1000000) : ∀ n : Nat, n ≤ l.length → val (l.drop n) = 0 → Dg l →
    ∃ c, Ev (fun k => payoffref01_trim.l0 k l (n : Int)) c ∧ Norm c ∧ val c = val l ∧ c.length ≤ l.length := by
  intro n
  induction n with
  | zero =>
    intro _ h0 hd
    refine ⟨[], ?_, Norm.nil, ?_, by simp⟩
    · refine Ev.step (fun k => payoffref01_trim.l0.eq_2 _ _ _) ?_
      refine Ev.neg (by omega) (Ev.pos (by omega) (Ev.pos (by omega) (Ev.ret ?_)))
      simp
    · simpa [val] using h0.symm
  | succ n ih =>
    intro hn h0 hd
    have hw : wrap64 (((n + 1 : Nat) : Int) - 1) = (n : Int) := by rw [w64 (by omega)]; omega
    have hv := val_drop l n
    by_cases hz : rd l (n : Int) = 0
    · obtain ⟨c, h1, h2⟩ := ih (by omega) (by rw [hv, hz, h0]; rfl) hd
      refine ⟨c, ?_, h2⟩
      refine Ev.step (fun k => payoffref01_trim.l0.eq_2 _ _ _) ?_
      rw [hw]
      exact Ev.pos (by omega) (Ev.pos (by omega) (Ev.pos (by omega) (Ev.pos hz h1)))
    · refine ⟨l.take (n + 1), ?_, ⟨hd.take _, ?_⟩, ?_, by rw [List.length_take]; omega⟩
      · refine Ev.step (fun k => payoffref01_trim.l0.eq_2 _ _ _) ?_
        rw [hw]
        refine Ev.pos (by omega) (Ev.pos (by omega) (Ev.pos (by omega) (Ev.neg hz (Ev.pos (by omega) (Ev.pos (by omega) (Ev.ret ?_))))))
        rw [Int.toNat_natCast]
      · intro h
        rw [List.getLast_eq_getElem]
        have hlen : (l.take (n + 1)).length - 1 = n := by rw [List.length_take]; omega
        have hr : rd l (n : Int) = l[n]'(by omega) := by rw [rd_nat, List.getD_eq_getElem?_getD, List.getElem?_eq_getElem (by omega)]; rfl
        rw [hr] at hz
        have : ∀ (m : Nat) (hm : m < (l.take (n + 1)).length), m = n → (l.take (n + 1))[m] = l[n]'(by omega) := by
          intro m hm e; subst e; exact List.getElem_take
        rw [this _ _ hlen]; exact hz
      · have h3 := val_append (l.take (n + 1)) (l.drop (n + 1))
        rw [List.take_append_drop, h0, Int.mul_zero] at h3
        omega
theorem ref_trim (l : List Int) (hl : l.length ≤ 1000000) (hd : Dg l) :
    ∃ c, Ev (fun k => payoffref01_trim.f k l) c ∧ Norm c ∧ val c = val l ∧ c.length ≤ l.length := by
  unfold payoffref01_trim.f
  exact ref_trim_l0 l hl l.length (by omega) (by rw [List.drop_length]; rfl) hd
theorem ref_from_l0 : ∀ (d : Nat) (v : Int) (neg : Bool) (out : List Int), -9223372036854775808 ≤ v → v ≤ 9223372036854775807 → Dg out → out.length + d ≤ 1000 → (v.natAbs : Int) < 10 ^ d → (v = 0 → ∀ h : out ≠ [], out.getLast h ≠ 0) →
    ∃ c, Ev (fun k => payoffref01_From.l0 k v neg out) (neg, c) ∧ Norm c ∧ val c = val out + 10 ^ out.length * (v.natAbs : Int) ∧ c.length ≤ out.length + d := by
  intro d
  induction d with
  | zero =>
    intro v neg out h0 h1 hd hl hp hn
    have : v = 0 := by simp at hp; omega
    subst this
    refine ⟨out, ?_, ⟨hd, hn rfl⟩, by simp, by omega⟩
    exact Ev.step (fun k => payoffref01_From.l0.eq_2 _ _ _ _) (Ev.pos rfl (Ev.ret rfl))
  | succ d ih =>
    intro v neg out h0 h1 hd hl hp hn
    by_cases hv : v = 0
    · subst hv
      refine ⟨out, ?_, ⟨hd, hn rfl⟩, by simp, by omega⟩
      exact Ev.step (fun k => payoffref01_From.l0.eq_2 _ _ _ _) (Ev.pos rfl (Ev.ret rfl))
    have hq : (Int.tdiv v 10).natAbs = v.natAbs / 10 := Int.natAbs_tdiv v 10
    have hr : (Int.tmod v 10).natAbs = v.natAbs % 10 := Int.natAbs_tmod v 10
    have hqb : -9223372036854775808 ≤ Int.tdiv v 10 ∧ Int.tdiv v 10 ≤ 9223372036854775807 := by omega
    have key : ∀ e : Int, e = (v.natAbs % 10 : Nat) → ∃ c, Ev (fun k => payoffref01_From.l0 k (Int.tdiv v 10) neg (out ++ [e])) (neg, c) ∧ Norm c ∧ val c = val out + 10 ^ out.length * (v.natAbs : Int) ∧ c.length ≤ out.length + (d + 1) := by
      intro e he
      obtain ⟨c, g1, g2, g3, g4⟩ := ih (Int.tdiv v 10) neg (out ++ [e]) hqb.1 hqb.2 (hd.append (Dg.cons (by omega) Dg.nil)) (by simp; omega) (by
        rw [Int.pow_succ] at hp
        generalize (10 : Int) ^ d = p at *
        omega) (by
        intro hz h
        rw [List.getLast_append_of_ne_nil _ (by simp)]
        simp
        omega)
      refine ⟨c, g1, g2, ?_, by simp at g4; omega⟩
      rw [g3, val_append, hq]
      simp only [List.length_append, List.length_cons, List.length_nil, val, Int.pow_succ, Int.pow_zero, Nat.zero_add]
      have hsplit : (v.natAbs : Int) = (v.natAbs % 10 : Nat) + 10 * (v.natAbs / 10 : Nat) := by omega
      rw [← he] at hsplit
      generalize (10 : Int) ^ out.length = p at *
      grind
    refine Exists.imp (fun c h => ?_) (key _ rfl)
    refine ⟨Ev.step (fun k => payoffref01_From.l0.eq_2 _ _ _ _) (Ev.neg hv ?_), h.2⟩
    by_cases hs : Int.tmod v 10 < 0
    · refine Ev.pos hs (Ev.pos (by omega) ?_)
      rw [w64 hqb, w64 (by omega)]
      have : -(Int.tmod v 10) = ((v.natAbs % 10 : Nat) : Int) := by omega
      rw [this]; exact h.1
    · refine Ev.neg hs (Ev.pos (by omega) ?_)
      rw [w64 hqb]
      have : Int.tmod v 10 = ((v.natAbs % 10 : Nat) : Int) := by omega
      rw [this]; exact h.1
theorem ref_from (v : Int) (h : In v) : ∃ c, Ev (fun k => payoffref01_From.f k v) (decide (v < 0), c) ∧ Norm c ∧ val c = v.natAbs ∧ c.length ≤ 19 := by
  unfold In at h
  obtain ⟨c, h1, h2, h3, h4⟩ := ref_from_l0 19 v (decide (v < 0)) [] h.1 h.2 Dg.nil (by simp) (by simp; omega) (fun _ h => (h rfl).elim)
  exact ⟨c, h1, h2, by simpa [val] using h3, by simpa using h4⟩

theorem ref_above_l0 (a b : List Int) (hl : a.length ≤ 1000000) (hab : a.length = b.length) (ha : Dg a) (hb : Dg b) : ∀ n : Nat, n ≤ a.length → val (a.drop n) = val (b.drop n) →
    Ev (fun k => payoffref01_above.l0 k a b ((n : Int) - 1)) (decide (val a > val b)) := by
  intro n
  induction n with
  | zero =>
    intro _ h
    refine Ev.step (fun k => payoffref01_above.l0.eq_2 _ _ _ _) (Ev.neg (by omega) (Ev.ret ?_))
    simp only [List.drop_zero] at h
    simp [h]
  | succ n ih =>
    intro hn h
    rw [show ((n + 1 : Nat) : Int) - 1 = (n : Int) by omega]
    refine Ev.step (fun k => payoffref01_above.l0.eq_2 _ _ _ _) (Ev.pos (by omega) (Ev.pos (by omega) (Ev.pos (by omega) (Ev.pos (by omega) ?_))))
    have hva := val_drop a n
    have hvb := val_drop b n
    by_cases he : rd a (n : Int) = rd b (n : Int)
    · refine Ev.pos he ?_
      rw [w64 (by omega)]
      exact ih (by omega) (by omega)
    · refine Ev.neg he (Ev.ret ?_)
      rw [decide_eq_decide]
      have h1 := val_append (a.take n) (a.drop n)
      have h2 := val_append (b.take n) (b.drop n)
      rw [List.take_append_drop] at h1 h2
      have l1 : (a.take n).length = n := by rw [List.length_take]; omega
      have l2 : (b.take n).length = n := by rw [List.length_take]; omega
      rw [l1, hva] at h1
      rw [l2, hvb] at h2
      have g1 := val_lt (ha.take n)
      have g2 := val_lt (hb.take n)
      have g3 := val_nonneg (ha.take n)
      have g4 := val_nonneg (hb.take n)
      rw [l1] at g1
      rw [l2] at g2
      rw [h] at h1
      have hp := pow10_pos n
      generalize (10 : Int) ^ n = p at *
      generalize val (b.drop (n + 1)) = r at *
      generalize rd a (n : Int) = x at *
      generalize rd b (n : Int) = y at *
      rw [h1, h2]
      constructor
      · intro hxy
        have : p * (y + 10 * r + 1) ≤ p * (x + 10 * r) := Int.mul_le_mul_of_nonneg_left (by omega) (by omega)
        rw [Int.mul_add, Int.mul_one] at this
        omega
      · intro hxy
        apply Classical.byContradiction
        intro hc
        have : p * (x + 10 * r + 1) ≤ p * (y + 10 * r) := Int.mul_le_mul_of_nonneg_left (by omega) (by omega)
        rw [Int.mul_add, Int.mul_one] at this
        omega
theorem ref_above (a b : List Int) (hl : a.length ≤ 1000000) (ha : Norm a) (hb : Norm b) : Ev (fun k => payoffref01_above.f k a b) (decide (val a > val b)) := by
  unfold payoffref01_above.f
  by_cases h : (a.length : Int) = (b.length : Int)
  · refine Ev.pos h ?_
    rw [w64 (by omega)]
    have := ref_above_l0 a b hl (by omega) ha.1 hb.1 a.length (by omega) (by rw [List.drop_length, List.drop_eq_nil_of_le (by omega)])
    exact this
  · refine Ev.neg h (Ev.ret ?_)
    rw [decide_eq_decide]
    constructor
    · intro h1
      exact hb.lt_of_length ha (by omega)
    · intro h1
      apply Classical.byContradiction
      intro h2
      have := ha.lt_of_length hb (by omega)
      omega
theorem ref_plus_l0 (a b : List Int) (m : Nat) (hm : m ≤ 100000) (hla : a.length ≤ m) (hlb : b.length ≤ m) (ha : Dg a) (hb : Dg b) : ∀ (d : Nat) (i : Nat) (out : List Int) (c : Int), out.length = i → i + d = m + 1 → Dg out → 0 ≤ c → c ≤ 1 → (c = 1 → i ≤ m) →
    ∃ r, Ev (fun k => payoffref01_plus.l0 k a b out c (i : Int)) r ∧ Norm r ∧ val r = val out + 10 ^ i * (c + val (a.drop i) + val (b.drop i)) ∧ r.length ≤ m + 1 := by
  intro d
  induction d with
  | zero =>
    intro i out c ho hd hg h0 h1 hc
    have hc0 : c = 0 := by omega
    subst hc0
    obtain ⟨r, g1, g2, g3, g4⟩ := ref_trim out (by omega) hg
    refine ⟨r, ?_, g2, ?_, by omega⟩
    · refine Ev.step (fun k => payoffref01_plus.l0.eq_2 _ _ _ _ _ _) (Ev.neg (by omega) (Ev.neg (by omega) ?_))
      refine Ev.step (fun k => payoffref01_plus.j1.eq_2 _ _ _ _ _ _ _) (Ev.neg (by decide) ?_)
      exact Ev.bind g1 (Ev.ret rfl)
    · rw [g3, List.drop_eq_nil_of_le (by omega), List.drop_eq_nil_of_le (by omega)]; simp [val]
  | succ d ih =>
    intro i out c ho hd hg h0 h1 hc
    have ga := ha.at (i : Int)
    have gb := hb.at (i : Int)
    have hva := val_drop a i
    have hvb := val_drop b i
    have key : ∀ {r : List Int}, (∃ r, Ev (fun k => payoffref01_plus.j1 k a b out c (i : Int) true) r ∧ Norm r ∧ val r = val out + 10 ^ i * (c + val (a.drop i) + val (b.drop i)) ∧ r.length ≤ m + 1) := by
      intro _
      obtain ⟨r, g1, g2, g3, g4⟩ := ih (i + 1) (out ++ [(rd a (i : Int) + rd b (i : Int) + c) % 10]) ((rd a (i : Int) + rd b (i : Int) + c) / 10) (by simp; omega) (by omega) (hg.append (Dg.cons (by omega) Dg.nil)) (by omega) (by omega) (by
        intro h
        apply Classical.byContradiction
        intro hn
        rw [rd_out (by omega), rd_out (by omega)] at h
        omega)
      refine ⟨r, ?_, g2, ?_, g4⟩
      · refine Ev.step (fun k => payoffref01_plus.j1.eq_2 _ _ _ _ _ _ _) (Ev.pos rfl (Ev.call (ref_at _ _ (by omega)) (Ev.call (ref_at _ _ (by omega)) (Ev.pos (by omega) ?_))))
        rw [w64 (n := rd a (i : Int) + rd b (i : Int)) (by omega), w64 (n := rd a (i : Int) + rd b (i : Int) + c) (by omega), Int.tdiv_eq_ediv_of_nonneg (by omega), Int.tmod_eq_emod_of_nonneg (by omega), w64 (n := (i : Int) + 1) (by omega), w64 (by omega)]
        exact g1
      · rw [g3, val_append, ho, hva, hvb, Int.pow_succ]
        simp only [val]
        have hs : (rd a (i : Int) + rd b (i : Int) + c) = (rd a (i : Int) + rd b (i : Int) + c) % 10 + 10 * ((rd a (i : Int) + rd b (i : Int) + c) / 10) := by omega
        generalize (rd a (i : Int) + rd b (i : Int) + c) % 10 = u at *
        generalize (rd a (i : Int) + rd b (i : Int) + c) / 10 = v at *
        grind
    by_cases hA : (i : Int) < a.length
    · obtain ⟨r, g1, g2⟩ := key (r := [])
      exact ⟨r, Ev.step (fun k => payoffref01_plus.l0.eq_2 _ _ _ _ _ _) (Ev.pos hA g1), g2⟩
    by_cases hB : (i : Int) < b.length
    · obtain ⟨r, g1, g2⟩ := key (r := [])
      exact ⟨r, Ev.step (fun k => payoffref01_plus.l0.eq_2 _ _ _ _ _ _) (Ev.neg hA (Ev.pos hB g1)), g2⟩
    by_cases hC : c > 0
    · obtain ⟨r, g1, g2⟩ := key (r := [])
      exact ⟨r, Ev.step (fun k => payoffref01_plus.l0.eq_2 _ _ _ _ _ _) (Ev.neg hA (Ev.neg hB (by rw [decide_eq_true hC]; exact g1))), g2⟩
    have hc0 : c = 0 := by omega
    subst hc0
    obtain ⟨r, g1, g2, g3, g4⟩ := ref_trim out (by omega) hg
    refine ⟨r, ?_, g2, ?_, by omega⟩
    · refine Ev.step (fun k => payoffref01_plus.l0.eq_2 _ _ _ _ _ _) (Ev.neg (by omega) (Ev.neg (by omega) ?_))
      refine Ev.step (fun k => payoffref01_plus.j1.eq_2 _ _ _ _ _ _ _) (Ev.neg (by decide) ?_)
      exact Ev.bind g1 (Ev.ret rfl)
    · rw [g3, List.drop_eq_nil_of_le (by omega), List.drop_eq_nil_of_le (by omega)]; simp [val]
theorem ref_plus (a b : List Int) (m : Nat) (hm : m ≤ 100000) (hla : a.length ≤ m) (hlb : b.length ≤ m) (ha : Dg a) (hb : Dg b) :
    ∃ r, Ev (fun k => payoffref01_plus.f k a b) r ∧ Norm r ∧ val r = val a + val b ∧ r.length ≤ m + 1 := by
  unfold payoffref01_plus.f
  obtain ⟨r, g1, g2, g3, g4⟩ := ref_plus_l0 a b m hm hla hlb ha hb (m + 1) 0 [] 0 rfl (by omega) Dg.nil (by omega) (by omega) (by omega)
  refine ⟨r, g1, g2, ?_, g4⟩
  rw [g3]; simp [val]

/-- What a sign and digits stand for. -/
def bv (neg : Bool) (l : List Int) : Int := if neg = true then -val l else val l
theorem ref_out_l0 (neg : Bool) (l : List Int) (hl : l.length ≤ 100000) (hd : Dg l) (hv : val l ≤ 9223372036854775808) (hn : In (bv neg l)) : ∀ (n : Nat), n ≤ l.length →
    Ev (fun k => payoffref01_Out.l0 k (-val (l.drop n)) ((n : Int) - 1) neg l) (bv neg l, 0) := by
  intro n
  induction n with
  | zero =>
    intro _
    refine Ev.step (fun k => payoffref01_Out.l0.eq_2 _ _ _ _ _) (Ev.neg (by omega) ?_)
    rw [List.drop_zero]
    by_cases h : neg = true
    · have hb : bv neg l = -val l := if_pos h
      rw [hb]; exact Ev.pos h (Ev.ret rfl)
    · have hb : bv neg l = val l := if_neg h
      rw [hb] at hn ⊢
      refine Ev.neg h (Ev.ret ?_)
      unfold In at hn
      rw [w64 (by omega), Int.neg_neg]
  | succ n ih =>
    intro hn
    rw [show ((n + 1 : Nat) : Int) - 1 = (n : Int) by omega]
    have h1 := val_drop l n
    have h2 := hd.at (n : Int)
    have h3 := val_nonneg (hd.drop n)
    have h4 := val_nonneg (hd.drop (n + 1))
    have h5 : val (l.drop n) ≤ val l := by
      have e := val_append (l.take n) (l.drop n)
      rw [List.take_append_drop] at e
      have := val_nonneg (hd.take n)
      have := Int.mul_le_mul_of_nonneg_right (show (1 : Int) ≤ 10 ^ (l.take n).length from pow10_pos _) h3
      omega
    refine Ev.step (fun k => payoffref01_Out.l0.eq_2 _ _ _ _ _) (Ev.pos (by omega) (Ev.pos (by omega) (Ev.pos (by omega) ?_)))
    rw [w64 (n := -val (l.drop (n + 1)) * 10) (by omega), w64 (n := -val (l.drop (n + 1)) * 10 - rd l (n : Int)) (by omega), w64 (n := (n : Int) - 1) (by omega)]
    rw [show -val (l.drop (n + 1)) * 10 - rd l (n : Int) = -val (l.drop n) by omega]
    exact ih (by omega)
theorem ref_out_j0 (neg : Bool) (l : List Int) (hl : l.length ≤ 100000) (hd : Dg l) (b : Bool) (hb : b = !decide (In (bv neg l))) :
    Ev (fun k => payoffref01_Out.j0 k b neg l) (fit (bv neg l)) := by
  refine Ev.step (fun k => payoffref01_Out.j0.eq_2 _ _ _ _) ?_
  by_cases h : In (bv neg l)
  · rw [fit_in h, hb]
    refine Ev.neg (by simp [h]) ?_
    rw [w64 (by omega)]
    have hv := val_nonneg hd
    have := ref_out_l0 neg l hl hd (by unfold In bv at h; split at h <;> omega) h l.length (by omega)
    rw [List.drop_length] at this
    exact this
  · rw [fit_out h, hb]
    exact Ev.pos (by simp [h]) (Ev.ret rfl)
theorem ref_out (neg : Bool) (l : List Int) (hl : l.length ≤ 100000) (hn : Norm l) : Ev (fun k => payoffref01_Out.f k neg l) (fit (bv neg l)) := by
  unfold payoffref01_Out.f
  obtain ⟨c, c1, c2, c3, c4⟩ := ref_from 4611686018427387904 (by unfold In; omega)
  refine Ev.bind c1 (Ev.bind c1 ?_)
  obtain ⟨r, r1, r2, r3, r4⟩ := ref_plus c c 19 (by omega) c4 c4 c2.1 c2.1
  refine Ev.bind r1 ?_
  rw [c3] at r3
  have r3 : val r = 9223372036854775808 := by rw [r3]; decide
  refine Ev.bind (ref_above l r (by omega) hn r2) ?_
  rw [r3]
  have hv := val_nonneg hn.1
  by_cases h : val l > 9223372036854775808
  · refine Ev.pos (by simpa using h) (ref_out_j0 neg l hl hn.1 _ ?_)
    have : ¬ In (bv neg l) := by unfold In bv; split <;> omega
    simp [this]
  · refine Ev.neg (by simpa using h) ?_
    by_cases hneg : neg = true
    · refine Ev.pos hneg (ref_out_j0 neg l hl hn.1 _ ?_)
      have : In (bv neg l) := by unfold In bv; rw [if_pos hneg]; omega
      simp [this]
    · refine Ev.neg hneg (Ev.bind (ref_above r l (by omega) r2 hn) (ref_out_j0 neg l hl hn.1 _ ?_))
      rw [r3]
      have : decide (9223372036854775808 > val l) = decide (In (bv neg l)) := by
        rw [decide_eq_decide]; unfold In bv; rw [if_neg hneg]; omega
      rw [this]
theorem ref_sign (neg : Bool) (l : List Int) (hn : Norm l) : ∃ s, payoffref01_sign.f neg l = some (s, l) ∧ bv s l = bv neg l ∧ (s = true → bv neg l < 0) ∧ (s = false → 0 ≤ bv neg l) := by
  unfold payoffref01_sign.f
  have hv := val_nonneg hn.1
  have hp := hn.pos_iff
  by_cases h : neg = true
  · refine ⟨_, by rw [if_pos h], ?_, ?_, ?_⟩
    · unfold bv
      rw [if_pos h]
      split
      · rfl
      · rename_i hd
        simp only [decide_eq_true_eq] at hd
        omega
    · intro hd
      simp only [decide_eq_true_eq] at hd
      unfold bv; rw [if_pos h]; omega
    · intro hd
      simp only [decide_eq_false_iff_not] at hd
      unfold bv; rw [if_pos h]; omega
  · refine ⟨_, by rw [if_neg h], ?_, ?_, ?_⟩
    · unfold bv; rw [if_neg h, if_neg (by decide)]
    · intro hd; cases hd
    · intro _; unfold bv; rw [if_neg h]; exact hv

theorem Ev.ret' {α : Type} {x : Option α} {r : α} (h : x = some r) : Ev (fun _ => x) r := ⟨0, fun _ _ => h⟩
/-! NumTexts: both texts -/
def chr (d : Int) : UInt8 := UInt8.ofNat (48 + d).toNat
def digS (c : List Int) : Nat → List UInt8
  | 0 => []
  | i + 1 => chr (rd c i) :: digS c i
def refS (c : List Int) (p : Nat) : Nat → List UInt8
  | 0 => []
  | i + 1 => chr (rd c i) :: (if i = p ∧ 0 < p then 46 :: refS c p i else refS c p i)
theorem digS_len (c : List Int) : ∀ n, (digS c n).length = n := by
  intro n
  induction n with
  | zero => rfl
  | succ n ih => simp [digS, ih]
theorem refS_len (c : List Int) (p : Nat) : ∀ n, (refS c p n).length ≤ 2 * n := by
  intro n
  induction n with
  | zero => simp [refS]
  | succ n ih =>
    simp only [refS]
    split <;> simp <;> omega
theorem refS_small (c : List Int) (p : Nat) : ∀ n, n ≤ p → refS c p n = digS c n := by
  intro n
  induction n with
  | zero => intro _; rfl
  | succ n ih =>
    intro h
    rw [refS, digS, if_neg (by omega), ih (by omega)]
theorem refS_none (c : List Int) : ∀ n, refS c 0 n = digS c n := by
  intro n
  induction n with
  | zero => rfl
  | succ n ih => rw [refS, digS, if_neg (by omega), ih]
theorem refS_big (c : List Int) (p : Nat) (hp : 0 < p) : ∀ d, refS c p (p + 1 + d) = (digS c (p + 1 + d)).take (1 + d) ++ 46 :: digS c p := by
  intro d
  induction d with
  | zero =>
    show refS c p (p + 1) = (digS c (p + 1)).take 1 ++ 46 :: digS c p
    rw [refS, digS, if_pos ⟨rfl, hp⟩, refS_small c p p (Nat.le_refl _)]
    simp
  | succ d ih =>
    rw [show p + 1 + (d + 1) = (p + 1 + d) + 1 by omega, refS, digS, if_neg (by omega), ih, show 1 + (d + 1) = (1 + d) + 1 by omega, List.take_succ_cons, List.cons_append]
theorem digS_drop (c : List Int) (p : Nat) : ∀ d, (digS c (p + d)).drop d = digS c p := by
  intro d
  induction d with
  | zero => simp
  | succ d ih => rw [show p + (d + 1) = (p + d) + 1 by omega, digS, List.drop_succ_cons, ih]
theorem digS_high (c : List Int) : ∀ d, digS c (c.length + d) = List.replicate d 48 ++ digS c c.length := by
  intro d
  induction d with
  | zero => simp
  | succ d ih =>
    rw [show c.length + (d + 1) = (c.length + d) + 1 by omega, digS, ih, rd_out (by omega), List.replicate_succ, List.cons_append]
    rfl
theorem digS_cons (x : Int) (c : List Int) : ∀ n, digS (x :: c) (n + 1) = digS c n ++ [chr x] := by
  intro n
  induction n with
  | zero => simp [digS, rd]
  | succ n ih =>
    rw [digS, ih, digS]
    have : rd (x :: c) ((n + 1 : Nat) : Int) = rd c (n : Int) := by simp [rd]
    rw [this, List.cons_append]
theorem Norm.tail {x : Int} {c : List Int} (h : Norm (x :: c)) : Norm c :=
  ⟨fun y hy => h.1 y (List.mem_cons_of_mem _ hy), fun hc => by have := h.2 (by simp); rwa [List.getLast_cons hc] at this⟩
theorem dec_norm : ∀ c : List Int, Norm c → c ≠ [] → Lib.decDigits (val c).toNat = digS c c.length := by
  intro c
  induction c with
  | nil => intro _ h; exact absurd rfl h
  | cons x t ih =>
    intro hn _
    have hx := hn.1 x (by simp)
    have hv := val_nonneg hn.tail.1
    rw [List.length_cons, digS_cons]
    by_cases ht : t = []
    · subst ht
      have : (val [x]).toNat = x.toNat := by simp [val]
      rw [this, Lib.decDigits_one (by omega)]
      show [UInt8.ofNat (48 + x.toNat)] = [chr x]
      rw [chr, show (48 + x).toNat = 48 + x.toNat by omega]
    · have hlo := hn.tail.lo ht
      have hp := pow10_pos (t.length - 1)
      have e : (val (x :: t)).toNat = x.toNat + 10 * (val t).toNat := by simp only [val]; omega
      rw [e, Lib.decDigits, dif_neg (by omega), show (x.toNat + 10 * (val t).toNat) / 10 = (val t).toNat by omega, show (x.toNat + 10 * (val t).toNat) % 10 = x.toNat by omega, ih hn.tail ht]
      rw [chr, show (48 + x).toNat = 48 + x.toNat by omega]
theorem rep_zero : ∀ n, Lib.repeatL [48] n = List.replicate n (48 : UInt8) := by
  intro n
  induction n with
  | zero => rfl
  | succ n ih => rw [Lib.repeatL, ih, List.replicate_succ]; rfl
/-- The decimal digits, with zeroes ahead, up to so many. -/
theorem pad_dec (c : List Int) (hn : Norm c) (p : Nat) :
    List.replicate (p + 1 - (Lib.decDigits (val c).toNat).length) 48 ++ Lib.decDigits (val c).toNat = digS c (max c.length (p + 1)) := by
  by_cases hc : c = []
  · subst hc
    rw [show (val []).toNat = 0 from rfl, Lib.decDigits_one (by omega)]
    have h := digS_high [] (p + 1)
    rw [List.length_nil, Nat.zero_add] at h
    rw [List.length_nil, Nat.zero_max, h]
    show _ = List.replicate (p + 1) 48 ++ []
    rw [List.append_nil, List.length_singleton, Nat.add_sub_cancel, List.replicate_succ']
    rfl
  · rw [dec_norm c hn hc, digS_len]
    have := digS_high c (p + 1 - c.length)
    rw [← this, show c.length + (p + 1 - c.length) = max c.length (p + 1) by omega]
theorem dec_plain (c : List Int) (hn : Norm c) : Lib.decDigits (val c).toNat = digS c (max c.length 1) := by
  have := pad_dec c hn 0
  rw [show 0 + 1 - (Lib.decDigits (val c).toNat).length = 0 by have := Lib.nDigits_pos (val c).toNat; rw [Lib.decDigits_length]; omega] at this
  simpa using this
/-- What a text is. -/
def textOf (c : List Int) (neg : Bool) (p : Nat) : List UInt8 := if neg = true then 45 :: refS c p (max c.length (p + 1)) else refS c p (max c.length (p + 1))
theorem chr_of (d : Int) (h : 0 ≤ d ∧ d ≤ 9) : strOfNums [(wrap64 (48 + d)) % 256] = Bs [chr d] := by
  rw [w64 (by omega)]
  unfold strOfNums Bs chr
  simp only [List.map_cons, List.map_nil]
  rw [show (48 + d) % 256 = 48 + d by omega]
theorem mx_nat (p n : Nat) (hp : p ≤ 18) (hn : n ≤ 30) : mx 0 (wrap64 (wrap64 ((p : Int) + 1) - (n : Int))) = ((p + 1 - n : Nat) : Int) := by
  rw [show wrap64 ((p : Int) + 1) = (p : Int) + 1 from w64 (by omega), w64 (by omega)]
  unfold mx
  split <;> omega
/-- The zeroes, the digits, the point between. -/
theorem num_point (D : List UInt8) (c : List Int) (p : Nat) (hp : p ≤ 18) (h0 : 0 < p) (hl : c.length ≤ 19) (hD : D.length ≤ 20) (hpad : List.replicate (p + 1 - D.length) 48 ++ D = digS c (max c.length (p + 1))) (sg : List UInt8) (hs : sg.length ≤ 1) (q : Nat) (hq : q ≤ 1) :
    ((strings_Repeat.f (⟨#[48]⟩ : ByteArray) (mx 0 (wrap64 ((wrap64 ((p : Int) + 1)) - ((Bs D).size : Int))))).bind fun t126 => (if t126.size + (Bs D).size ≤ 9223372036854775807 then (if 0 ≤ (wrap64 (((t126 ++ Bs D).size : Int) - (p : Int))) then (if (wrap64 (((t126 ++ Bs D).size : Int) - (p : Int))) ≤ ((t126 ++ Bs D).size : Int) then (if ((t126 ++ Bs D).extract 0 ((wrap64 (((t126 ++ Bs D).size : Int) - (p : Int))) : Int).toNat).size + 1 ≤ 9223372036854775807 then (if (((t126 ++ Bs D).extract 0 ((wrap64 (((t126 ++ Bs D).size : Int) - (p : Int))) : Int).toNat) ++ (⟨#[46]⟩ : ByteArray)).size + ((t126 ++ Bs D).extract ((wrap64 (((t126 ++ Bs D).size : Int) - (p : Int))) : Int).toNat (t126 ++ Bs D).size).size ≤ 9223372036854775807 then (if q + ((((t126 ++ Bs D).extract 0 ((wrap64 (((t126 ++ Bs D).size : Int) - (p : Int))) : Int).toNat) ++ (⟨#[46]⟩ : ByteArray)) ++ ((t126 ++ Bs D).extract ((wrap64 (((t126 ++ Bs D).size : Int) - (p : Int))) : Int).toNat (t126 ++ Bs D).size)).size ≤ 9223372036854775807 then (some (Bs sg ++ ((((t126 ++ Bs D).extract 0 ((wrap64 (((t126 ++ Bs D).size : Int) - (p : Int))) : Int).toNat) ++ (⟨#[46]⟩ : ByteArray)) ++ ((t126 ++ Bs D).extract ((wrap64 (((t126 ++ Bs D).size : Int) - (p : Int))) : Int).toNat (t126 ++ Bs D).size)), (0 : Int))) else (none)) else (none)) else (none)) else (none)) else (none)) else (none))) =
    some (Bs (sg ++ refS c p (max c.length (p + 1))), 0) := by
  rw [Bs_size, mx_nat p D.length hp (by omega)]
  have hr : strings_Repeat.f (⟨#[48]⟩ : ByteArray) ((p + 1 - D.length : Nat) : Int) = some (Bs (List.replicate (p + 1 - D.length) 48)) := by
    unfold strings_Repeat.f
    rw [Int.toNat_natCast, if_pos ⟨by omega, by omega, by show 1 * _ ≤ _; omega⟩]
    show some (Bs (Lib.repeatL [48] _)) = _
    rw [rep_zero]
  rw [hr, Option.bind_some]
  obtain ⟨S, hS⟩ : ∃ S, S = digS c (max c.length (p + 1)) := ⟨_, rfl⟩
  have hlen : S.length = max c.length (p + 1) := by rw [hS, digS_len]
  rw [Bs_app, hpad, ← hS]
  have hw : wrap64 (((Bs S).size : Int) - (p : Int)) = ((S.length - p : Nat) : Int) := by rw [Bs_size, w64 (by omega)]; omega
  rw [hw, Int.toNat_natCast]
  have e1 : (Bs S).extract 0 (S.length - p) = Bs (S.take (S.length - p)) := by rw [Bs_ext, List.drop_zero, Nat.sub_zero]
  have e2 : (Bs S).extract (S.length - p) (Bs S).size = Bs (S.drop (S.length - p)) := by rw [Bs_ext, Bs_size, List.take_of_length_le (by rw [List.length_drop]; omega)]
  rw [e1, e2]
  show (if (Bs _).size + D.length ≤ _ then _ else _) = _
  have e3 : Bs (S.take (S.length - p)) ++ (⟨#[46]⟩ : ByteArray) = Bs (S.take (S.length - p) ++ [46]) := by show Bs _ ++ Bs [46] = _; rw [Bs_app]
  rw [e3, Bs_app, Bs_app, Bs_size, Bs_size, Bs_size, Bs_size, Bs_size, Bs_size]
  simp only [List.length_append, List.length_take, List.length_drop, List.length_replicate, List.length_cons, List.length_nil]
  rw [if_pos (by omega), if_pos (by omega), if_pos (by omega), if_pos (by omega), if_pos (by omega), if_pos (by omega)]
  obtain ⟨d, hd⟩ : ∃ d, max c.length (p + 1) = p + 1 + d := ⟨max c.length (p + 1) - (p + 1), by omega⟩
  rw [hd, refS_big c p h0 d]
  have h1 : S.length - p = 1 + d := by omega
  have h2 : S.drop (1 + d) = digS c p := by rw [hS, hd, show p + 1 + d = p + (1 + d) by omega]; exact digS_drop c p (1 + d)
  rw [h1, h2, hS, hd, List.append_assoc]
  rfl
theorem num_text (v : Int) (hv : In v) (c : List Int) (hn : Norm c) (hl : c.length ≤ 19) (hc : val c = v.natAbs) (p : Nat) (hp : p ≤ 18) :
    Ev (fun k => num_Text.f k v (p : Int)) (Bs (textOf c (decide (v < 0)) p), 0) := by
  unfold num_Text.f
  refine Ev.neg (by omega) ?_
  rw [decide_eq_false (by omega)]
  have hI : strconv_Itoa_10.f v = some (Bs (Lib.itoa v)) := by unfold strconv_Itoa_10.f; rw [if_pos (show -9223372036854775808 ≤ v ∧ v ≤ 9223372036854775807 from hv)]; rfl
  have hD : (Lib.decDigits (val c).toNat).length ≤ 20 := by
    have h1 := dec_plain c hn
    rw [h1, digS_len]; omega
  have hpad := pad_dec c hn p
  have hpl := dec_plain c hn
  obtain ⟨D, hDD⟩ : ∃ D, D = Lib.decDigits (val c).toNat := ⟨_, rfl⟩
  rw [← hDD] at hD hpad hpl
  refine Ev.step (fun k => num_Text.j0.eq_2 ..) (Ev.neg (by decide) (Ev.call hI ?_))
  by_cases hneg : v < 0
  · have hit : Lib.itoa v = 45 :: D := by unfold Lib.itoa; rw [if_pos hneg, hDD, hc, Int.toNat_natCast]
    rw [hit]
    refine Ev.pos hneg (Ev.pos (by rw [Bs_size, List.length_cons]; omega) ?_)
    have hu : (Bs (45 :: D)).extract 1 (Bs (45 :: D)).size = Bs D := by rw [Bs_ext, Bs_size]; simp
    rw [hu]
    rw [show textOf c (decide (v < 0)) p = 45 :: refS c p (max c.length (p + 1)) by unfold textOf; rw [decide_eq_true hneg]; rfl]
    by_cases h0 : 0 < p
    · refine Ev.pos (by omega) (Ev.ret' ?_)
      exact num_point D c p hp h0 hl hD hpad [45] (by simp) 1 (by omega)
    · refine Ev.neg (by omega) (Ev.pos (by rw [Bs_size]; omega) (Ev.ret ?_))
      obtain rfl : p = 0 := by omega
      rw [refS_none, hpl]
      show (Bs [45] ++ Bs _, (0 : Int)) = _
      rw [Bs_app]; rfl
  · have hit : Lib.itoa v = D := by unfold Lib.itoa; rw [if_neg hneg, hDD, hc]; congr 1; omega
    rw [hit]
    refine Ev.neg hneg ?_
    rw [show textOf c (decide (v < 0)) p = refS c p (max c.length (p + 1)) by unfold textOf; rw [decide_eq_false hneg]; rfl]
    by_cases h0 : 0 < p
    · refine Ev.pos (by omega) (Ev.ret' ?_)
      exact num_point D c p hp h0 hl hD hpad [] (by simp) 0 (by omega)
    · refine Ev.neg (by omega) (Ev.pos (by rw [Bs_size]; omega) (Ev.ret ?_))
      obtain rfl : p = 0 := by omega
      rw [refS_none, hpl]
      show (Bs [] ++ Bs _, (0 : Int)) = _
      rw [Bs_app]; rfl

theorem ref_text_l0 (c : List Int) (hd : Dg c) (hl : c.length ≤ 19) (p : Nat) (hp : p ≤ 18) (neg : Bool) : ∀ d i, i + d = max c.length (p + 1) →
    Ev (fun k => payoffref01_Text.l0 k (p : Int) (Bs (refS c p i)) (i : Int) neg c) (Bs (textOf c neg p), 0) := by
  intro d
  induction d with
  | zero =>
    intro i hi
    have hlen := refS_len c p i
    refine Ev.step (fun k => payoffref01_Text.l0.eq_2 ..) (Ev.neg (by omega) ?_)
    rw [show decide ((i : Int) ≤ (p : Int)) = false from decide_eq_false (by omega)]
    refine Ev.step (fun k => payoffref01_Text.j2.eq_2 ..) (Ev.neg (by decide) ?_)
    obtain rfl : i = max c.length (p + 1) := by omega
    unfold textOf
    cases neg with
    | true =>
      refine Ev.pos rfl (Ev.pos (by rw [Bs_size]; omega) (Ev.ret ?_))
      rw [if_pos rfl]
      show (Bs [45] ++ Bs _, (0 : Int)) = _
      rw [Bs_app]; rfl
    | false => exact Ev.neg (by decide) (Ev.ret (by rw [if_neg (by decide)]))
  | succ d ih =>
    intro i hi
    have hlen := refS_len c p i
    have hw3 : wrap64 ((i : Int) + 1) = ((i + 1 : Nat) : Int) := by rw [w64 (by omega)]; omega
    have hr := hd.at (i : Int)
    have nxt := ih (i + 1) (by omega)
    have key : Ev (fun k => payoffref01_Text.j2 k (p : Int) (Bs (refS c p i)) (i : Int) true neg c) (Bs (textOf c neg p), 0) := by
      refine Ev.step (fun k => payoffref01_Text.j2.eq_2 ..) (Ev.pos rfl ?_)
      by_cases h1 : i = p
      · by_cases h2 : 0 < p
        · refine Ev.pos (by omega) (Ev.pos (by omega) (Ev.pos (by rw [Bs_size]; omega) (Ev.call (ref_at c i (by omega)) (Ev.call rfl ?_))))
          rw [chr_of _ hr, hw3]
          have e : Bs [chr (rd c (i : Int))] ++ ((⟨#[46]⟩ : ByteArray) ++ Bs (refS c p i)) = Bs (refS c p (i + 1)) := by
            show Bs _ ++ (Bs [46] ++ Bs _) = _
            rw [Bs_app, Bs_app, refS, if_pos ⟨h1, h2⟩]; rfl
          rw [e]
          refine Ev.pos ?_ nxt
          show (Bs _).size + (Bs [46] ++ Bs _).size ≤ _
          rw [Bs_app, Bs_size, Bs_size]; simp; omega
        · refine Ev.pos (by omega) (Ev.neg (by omega) (Ev.call (ref_at c i (by omega)) (Ev.call rfl ?_)))
          rw [chr_of _ hr, hw3, Bs_app, show [chr (rd c (i : Int))] ++ refS c p i = refS c p (i + 1) by rw [refS, if_neg (by omega)]; rfl]
          exact Ev.pos (by rw [Bs_size, Bs_size]; simp; omega) nxt
      · refine Ev.neg (by omega) (Ev.call (ref_at c i (by omega)) (Ev.call rfl ?_))
        rw [chr_of _ hr, hw3, Bs_app, show [chr (rd c (i : Int))] ++ refS c p i = refS c p (i + 1) by rw [refS, if_neg (by omega)]; rfl]
        exact Ev.pos (by rw [Bs_size, Bs_size]; simp; omega) nxt
    refine Ev.step (fun k => payoffref01_Text.l0.eq_2 ..) ?_
    by_cases h : (i : Int) < (c.length : Int)
    · exact Ev.pos h key
    · refine Ev.neg h ?_
      rw [show decide ((i : Int) ≤ (p : Int)) = true from decide_eq_true (by omega)]
      exact key
theorem ref_text (v : Int) (hv : In v) (c : List Int) (hc : Ev (fun k => payoffref01_From.f k v) (decide (v < 0), c)) (hn : Norm c) (hl : c.length ≤ 19) (p : Nat) (hp : p ≤ 18) :
    Ev (fun k => payoffref01_Text.f k v (p : Int)) (Bs (textOf c (decide (v < 0)) p), 0) := by
  unfold payoffref01_Text.f
  refine Ev.neg (by omega) ?_
  rw [decide_eq_false (by omega)]
  refine Ev.step (fun k => payoffref01_Text.j0.eq_2 ..) (Ev.neg (by decide) (Ev.bind hc ?_))
  exact ref_text_l0 c hn.1 hl p hp (decide (v < 0)) (max c.length (p + 1)) 0 (by omega)

/-! What is read of a text: the point struck, the digits by their places -/
theorem cut1_none : ∀ a : List UInt8, (∀ x ∈ a, x ≠ 46) → cut1 a = a := by
  intro a
  induction a with
  | nil => intro _; rfl
  | cons c r ih =>
    intro h
    rw [cut1, if_neg (h c (by simp)), ih (fun x hx => h x (List.mem_cons_of_mem _ hx))]
theorem cut1_app (b : List UInt8) : ∀ a : List UInt8, (∀ x ∈ a, x ≠ 46) → cut1 (a ++ 46 :: b) = a ++ b := by
  intro a
  induction a with
  | nil => intro _; rfl
  | cons c r ih =>
    intro h
    rw [List.cons_append, cut1, if_neg (h c (by simp)), ih (fun x hx => h x (List.mem_cons_of_mem _ hx)), List.cons_append]
theorem cut1_len : ∀ a : List UInt8, (cut1 a).length ≤ a.length := by
  intro a
  induction a with
  | nil => exact Nat.le_refl _
  | cons c r ih =>
    rw [cut1]
    split
    · simp
    · simpa using ih
theorem chr_nat {d : Int} (h : 0 ≤ d ∧ d ≤ 9) : (chr d).toNat = 48 + d.toNat := by
  rw [chr, UInt8.toNat_ofNat']
  omega
theorem digS_dig (c : List Int) (hd : Dg c) : ∀ n, ∀ x ∈ digS c n, 48 ≤ x.toNat ∧ x.toNat ≤ 57 := by
  intro n
  induction n with
  | zero => intro x hx; simp [digS] at hx
  | succ n ih =>
    intro x hx
    rw [digS] at hx
    rcases List.mem_cons.1 hx with rfl | hx
    · have h := hd.at (n : Int)
      rw [chr_nat h]; omega
    · exact ih x hx
theorem digS_no (c : List Int) (hd : Dg c) (n : Nat) : ∀ x ∈ digS c n, x ≠ 46 := by
  rintro x hx rfl
  have := digS_dig c hd n 46 hx
  exact absurd this (by decide)
def sg (neg : Bool) : List UInt8 := if neg = true then [45] else []
theorem text_sg (c : List Int) (neg : Bool) (p : Nat) : textOf c neg p = sg neg ++ refS c p (max c.length (p + 1)) := by
  unfold textOf sg
  cases neg <;> rfl
theorem text_split (c : List Int) (neg : Bool) (p : Nat) (hp : 0 < p) :
    ∃ a, textOf c neg p = sg neg ++ (a ++ 46 :: digS c p) ∧ a ++ digS c p = digS c (max c.length (p + 1)) ∧ a.length + p = max c.length (p + 1) := by
  obtain ⟨d, hd⟩ : ∃ d, max c.length (p + 1) = p + 1 + d := ⟨max c.length (p + 1) - (p + 1), by omega⟩
  refine ⟨(digS c (p + 1 + d)).take (1 + d), ?_, ?_, ?_⟩
  · rw [text_sg, hd, refS_big c p hp d]
  · have h2 : (digS c (p + 1 + d)).drop (1 + d) = digS c p := by rw [show p + 1 + d = p + (1 + d) by omega]; exact digS_drop c p (1 + d)
    rw [← h2, List.take_append_drop, hd]
  · rw [List.length_take, digS_len]; omega
theorem cut1_text (c : List Int) (neg : Bool) (p : Nat) (hd : Dg c) : cut1 (textOf c neg p) = sg neg ++ digS c (max c.length (p + 1)) := by
  have hs : ∀ x ∈ sg neg, x ≠ 46 := by
    intro x hx
    unfold sg at hx
    split at hx
    · rw [List.mem_singleton.1 hx]; decide
    · simp at hx
  by_cases hp : 0 < p
  · obtain ⟨a, h1, h2, -⟩ := text_split c neg p hp
    rw [h1, ← List.append_assoc, cut1_app, List.append_assoc, h2]
    intro x hx
    rcases List.mem_append.1 hx with hx | hx
    · exact hs x hx
    · exact digS_no c hd (max c.length (p + 1)) x (by rw [← h2]; exact List.mem_append_left _ hx)
  · obtain rfl : p = 0 := by omega
    rw [text_sg, refS_none, cut1_none]
    intro x hx
    rcases List.mem_append.1 hx with hx | hx
    · exact hs x hx
    · exact digS_no c hd _ x hx
/-- The value of the lowest n digits. -/
def vl (c : List Int) : Nat → Nat
  | 0 => 0
  | n + 1 => vl c n + (rd c n).toNat * 10 ^ n
theorem vl_val (c : List Int) (hd : Dg c) : ∀ n, (vl c n : Int) = val (c.take n) := by
  intro n
  induction n with
  | zero => simp [vl, val]
  | succ n ih =>
    have hr := hd.at (n : Int)
    rw [vl]
    by_cases h : n < c.length
    · rw [List.take_add_one, List.getElem?_eq_getElem h, Option.toList_some, val_append, ← ih, List.length_take]
      have e : rd c (n : Int) = c[n] := by rw [rd_nat, List.getD_eq_getElem?_getD, List.getElem?_eq_getElem h]; rfl
      rw [e] at hr ⊢
      rw [show min n c.length = n by omega]
      simp only [val]
      have hc : ((c[n].toNat : Nat) : Int) = c[n] := by omega
      push_cast
      rw [hc, Int.mul_comm, Int.add_zero]
    · rw [rd_out (by omega)]
      have e : c.take (n + 1) = c.take n := by rw [List.take_of_length_le (by omega), List.take_of_length_le (by omega)]
      rw [e, ← ih]
      simp
theorem vl_all (c : List Int) (hd : Dg c) (n : Nat) (h : c.length ≤ n) : (vl c n : Int) = val c := by
  rw [vl_val c hd, List.take_of_length_le h]
theorem parseM_dig (c : List Int) (hd : Dg c) : ∀ n acc, acc * 10 ^ n + vl c n < 18446744073709551616 → Lib.parseUintM 18446744073709551615 acc (digS c n) = .ok (acc * 10 ^ n + vl c n) := by
  intro n
  induction n with
  | zero => intro acc _; simp [digS, Lib.parseUintM, vl]
  | succ n ih =>
    intro acc h
    have hr := hd.at (n : Int)
    have hn := chr_nat hr
    have hp : 1 ≤ 10 ^ n := Nat.one_le_pow _ _ (by decide)
    have e : acc * 10 ^ (n + 1) + vl c (n + 1) = (acc * 10 + (rd c n).toNat) * 10 ^ n + vl c n := by
      rw [vl, Nat.pow_succ, Nat.add_mul]
      have : acc * (10 ^ n * 10) = acc * 10 * 10 ^ n := by rw [Nat.mul_comm (10 ^ n) 10, Nat.mul_assoc]
      omega
    rw [e] at h ⊢
    have hle := Nat.le_mul_of_pos_right (acc * 10 + (rd c n).toNat) hp
    rw [digS, Lib.parseUintM, if_pos (by omega), if_neg (by omega), if_neg (by omega), show (chr (rd c (n : Int))).toNat - 48 = (rd c n).toNat by omega]
    exact ih _ h
theorem parseU_dig (c : List Int) (hd : Dg c) (n : Nat) (h0 : 0 < n) (hl : c.length ≤ n) (hv : val c ≤ 9223372036854775808) : Lib.parseUintB 64 (digS c n) = .ok (val c).toNat := by
  have e := vl_all c hd n hl
  have hne : digS c n ≠ [] := by
    intro he
    have := digS_len c n
    rw [he] at this; simp at this; omega
  have h := parseM_dig c hd n 0 (by omega)
  rw [Nat.zero_mul, Nat.zero_add] at h
  unfold Lib.parseUintB
  rw [if_neg hne, show 2 ^ 64 - 1 = 18446744073709551615 from rfl, h]
  congr 1
  omega
/-- What the number's text without its point reads as. -/
theorem parse_dig (c : List Int) (hd : Dg c) (neg : Bool) (n : Nat) (h0 : 0 < n) (hl : c.length ≤ n) (h1 : neg = true → val c ≤ 9223372036854775808) (h2 : neg = false → val c ≤ 9223372036854775807) :
    Lib.parseIntB 64 (sg neg ++ digS c n) = .ok (bv neg c) := by
  have hv : val c ≤ 9223372036854775808 := by cases neg <;> simp at h1 h2 <;> omega
  have hU := parseU_dig c hd n h0 hl hv
  have hnn := val_nonneg hd
  cases neg with
  | true =>
    have e : sg true ++ digS c n = 45 :: digS c n := rfl
    rw [e, Lib.parseIntB]
    simp only [show (45 : UInt8).toNat = 45 from rfl, or_true, if_true, hU]
    rw [if_neg (by simp), if_neg (by simp; omega)]
    simp only [bv, if_true]
    congr 2
    omega
  | false =>
    have e : sg false ++ digS c n = digS c n := rfl
    rw [e]
    obtain ⟨m, rfl⟩ : ∃ m, n = m + 1 := ⟨n - 1, by omega⟩
    have hx := chr_nat (hd.at (m : Int))
    have hr := hd.at (m : Int)
    have hc : digS c (m + 1) = chr (rd c m) :: digS c m := rfl
    have n43 : ¬ ((chr (rd c (m : Int))).toNat = 43 ∨ (chr (rd c (m : Int))).toNat = 45) := by omega
    have n45 : ¬ ((chr (rd c (m : Int))).toNat = 45) := by omega
    rw [hc] at hU ⊢
    rw [Lib.parseIntB]
    simp only [if_neg n43, hU]
    have h3 := h2 rfl
    rw [if_neg (by rintro ⟨-, h⟩; have : (2 : Nat) ^ (64 - 1) = 9223372036854775808 := rfl; omega), if_neg (fun h => n45 h.1), if_neg n45]
    simp only [bv]
    congr 1
    simp
    omega
/-- A number's digits. -/
theorem digits_nat : ∀ (d m : Nat), m < 10 ^ d → ∃ c, Norm c ∧ val c = (m : Int) ∧ c.length ≤ d := by
  intro d
  induction d with
  | zero =>
    intro m hm
    have : m = 0 := by simpa using hm
    exact ⟨[], Norm.nil, by rw [this]; rfl, by simp⟩
  | succ d ih =>
    intro m hm
    by_cases h0 : m = 0
    · exact ⟨[], Norm.nil, by rw [h0]; rfl, by simp⟩
    · obtain ⟨c, h1, h2, h3⟩ := ih (m / 10) (by rw [Nat.pow_succ] at hm; omega)
      refine ⟨((m % 10 : Nat) : Int) :: c, ⟨h1.1.cons (by omega), fun hne => ?_⟩, ?_, by simpa using h3⟩
      · by_cases hc : c = []
        · subst hc
          have : val ([] : List Int) = 0 := rfl
          simp only [List.getLast_singleton]
          omega
        · rw [List.getLast_cons hc]
          exact h1.2 hc
      · simp only [val, h2]; omega
theorem digits_of (v : Int) (h : In v) : ∃ c, Norm c ∧ val c = v.natAbs ∧ c.length ≤ 19 := by
  unfold In at h
  exact digits_nat 19 v.natAbs (by have : (10 : Nat) ^ 19 = 10000000000000000000 := rfl; omega)

/-! num.Parse: what it answers -/
theorem Ev.uniq {α : Type} {g : Nat → Option α} {a b : α} (h : Ev g a) (k : Ev g b) : a = b := by
  obtain ⟨K, h⟩ := h
  obtain ⟨L, k⟩ := k
  have h1 := h (max K L) (Nat.le_max_left _ _)
  have h2 := k (max K L) (Nat.le_max_right _ _)
  rw [h1] at h2
  exact Option.some.inj h2
/-- A text is v's, with so many decimals. -/
def IsText (s : ByteArray) (p : Nat) (v : Int) : Prop := In v ∧ ∃ c, Norm c ∧ c.length ≤ 19 ∧ val c = v.natAbs ∧ s = Bs (textOf c (decide (v < 0)) p)
theorem IsText.text {s : ByteArray} {p : Nat} {v : Int} (h : IsText s p v) (hp : p ≤ 18) : Ev (fun k => num_Text.f k v (p : Int)) (s, 0) := by
  obtain ⟨hv, c, h1, h2, h3, rfl⟩ := h
  exact num_text v hv c h1 h2 h3 p hp
theorem isText (v : Int) (hv : In v) (p : Nat) (hp : p ≤ 18) : ∃ s, IsText s p v := by
  obtain ⟨c, g2, g3, g4⟩ := digits_of v hv
  exact ⟨_, hv, c, g2, g4, g3, rfl⟩
theorem text_len (c : List Int) (neg : Bool) (p : Nat) (hl : c.length ≤ 19) (hp : p ≤ 18) : (textOf c neg p).length ≤ 39 := by
  rw [text_sg, List.length_append]
  have h1 := refS_len c p (max c.length (p + 1))
  have h2 : (sg neg).length ≤ 1 := by unfold sg; split <;> simp
  omega
theorem bv_of {c : List Int} {v : Int} (h : val c = v.natAbs) : bv (decide (v < 0)) c = v := by
  unfold bv
  by_cases hv : v < 0
  · rw [if_pos (decide_eq_true hv)]; omega
  · rw [if_neg (by simpa using hv)]; omega
theorem toList_ba {a b : ByteArray} (h : a.toList = b.toList) : a = b := by
  rw [ByteArray.toList_eq, ByteArray.toList_eq] at h
  exact ba_ext h
theorem parse_in {l : List UInt8} {v : Int} (h : Lib.parseIntB 64 l = .ok v) : In v := by
  unfold In
  unfold Lib.parseIntB at h
  split at h
  · cases h
  · rename_i c r
    dsimp only at h
    split at h
    · cases h
    · cases h
    · rename_i u _
      have e : (2 : Nat) ^ (64 - 1) = 9223372036854775808 := rfl
      rw [e] at h
      split at h
      · cases h
      · split at h
        · cases h
        · rename_i h1 h2
          have h3 := Lib.NumEnd.ok.inj h
          split at h3 <;> rename_i h4
          · have : u ≤ 9223372036854775808 := by
              apply Nat.le_of_not_lt
              intro h5
              exact h2 ⟨h4, h5⟩
            omega
          · have : u < 9223372036854775808 := by
              apply Nat.lt_of_not_le
              intro h5
              exact h1 ⟨h4, h5⟩
            omega
theorem pint_in {l : List UInt8} {r : Int × Int} (h : pintOf l = r) (h0 : r.2 = 0) : In r.1 := by
  unfold pintOf at h
  split at h
  · rename_i v hv
    subst h
    exact parse_in hv
  · subst h; exact absurd h0 (by show ¬ ((1 : Int) = 0); decide)
  · subst h; exact absurd h0 (by show ¬ ((1 : Int) = 0); decide)
theorem num_parse_pre (s : ByteArray) (hs : s.size ≤ 140737488351232) (p : Nat) (hp : p ≤ 18) (r : Int × Int)
    (h : ∀ v e, pintOf (cut1 s.data.toList) = (v, e) → Ev (fun k => if e = 0 then ((num_Text.f k v (p : Int)).bind fun bt150 => (if bt150.2 = 0 then (if bt150.1.toList = s.toList then (some (v, 0)) else (some (0, 11))) else (some (0, 11)))) else (some (0, 11))) r) :
    Ev (fun k => num_Parse.f k s (p : Int)) r := by
  unfold num_Parse.f
  refine Ev.neg (by omega) ?_
  rw [decide_eq_false (by omega)]
  have h1 : strings_Replace.f s (⟨#[46]⟩ : ByteArray) (⟨#[]⟩ : ByteArray) 1 = some (Bs (cut1 s.data.toList)) := by
    unfold strings_Replace.f
    rw [if_pos ⟨rfl, rfl, rfl, hs⟩]; rfl
  have hl := cut1_len s.data.toList
  have hz : s.data.toList.length = s.size := by simp
  have h2 : strconv_ParseInt_14.f (Bs (cut1 s.data.toList)) 10 64 = some (pintOf (cut1 s.data.toList)) := by
    unfold strconv_ParseInt_14.f
    rw [if_pos ⟨rfl, rfl, by rw [Bs_size]; omega⟩, Bs_data]
  obtain ⟨⟨v, e⟩, hv⟩ : ∃ q, pintOf (cut1 s.data.toList) = q := ⟨_, rfl⟩
  rw [hv] at h2
  exact Ev.step (fun k => num_Parse.j0.eq_2 ..) (Ev.neg (by decide) (Ev.call h1 (Ev.call h2 (h v e hv))))
/-- A number's text is read back. -/
theorem num_parse_is {s : ByteArray} {p : Nat} {v : Int} (h : IsText s p v) (hp : p ≤ 18) : Ev (fun k => num_Parse.f k s (p : Int)) (v, 0) := by
  have ht := h.text hp
  obtain ⟨hv, c, h1, h2, h3, rfl⟩ := h
  have hl := text_len c (decide (v < 0)) p h2 hp
  refine num_parse_pre _ (by rw [Bs_size]; omega) p hp _ ?_
  intro v1 e1 hq
  unfold In at hv
  rw [Bs_data, cut1_text c _ p h1.1] at hq
  unfold pintOf at hq
  rw [parse_dig c h1.1 (decide (v < 0)) (max c.length (p + 1)) (by omega) (by omega) (fun h => by have := of_decide_eq_true h; omega) (fun h => by have := of_decide_eq_false h; omega), bv_of h3] at hq
  obtain ⟨rfl, rfl⟩ := Prod.mk.inj hq
  exact Ev.pos rfl (Ev.bind ht (Ev.pos rfl (Ev.pos rfl (Ev.ret rfl))))
/-- What is no number's text is not read. -/
theorem num_parse_not {s : ByteArray} (hs : s.size ≤ 140737488351232) {p : Nat} (hp : p ≤ 18) (h : ∀ v, ¬ IsText s p v) : Ev (fun k => num_Parse.f k s (p : Int)) (0, 11) := by
  refine num_parse_pre s hs p hp _ ?_
  intro v e hq
  by_cases he : e = 0
  · refine Ev.pos he ?_
    have hv : In v := pint_in hq he
    obtain ⟨t, ht⟩ := isText v hv p hp
    refine Ev.bind (ht.text hp) (Ev.pos rfl (Ev.neg ?_ (Ev.ret rfl)))
    intro h1
    have h1 : t = s := toList_ba h1
    rw [h1] at ht
    exact h v ht
  · exact Ev.neg he (Ev.ret rfl)
theorem num_parse_any (s : ByteArray) (hs : s.size ≤ 140737488351232) (p : Nat) (hp : p ≤ 18) :
    (∃ v, IsText s p v ∧ Ev (fun k => num_Parse.f k s (p : Int)) (v, 0)) ∨ ((∀ v, ¬ IsText s p v) ∧ Ev (fun k => num_Parse.f k s (p : Int)) (0, 11)) := by
  by_cases h : ∃ v, IsText s p v
  · obtain ⟨v, hv⟩ := h
    exact Or.inl ⟨v, hv, num_parse_is hv hp⟩
  · have h' : ∀ v, ¬ IsText s p v := fun v hv => h ⟨v, hv⟩
    exact Or.inr ⟨h', num_parse_not hs hp h'⟩
theorem num_parse_arg (s : ByteArray) (a1 : Int) (h : ¬ (0 ≤ a1 ∧ a1 ≤ 18)) : Ev (fun k => num_Parse.f k s a1) (0, 1) := by
  unfold num_Parse.f
  by_cases h0 : a1 < 0
  · exact Ev.pos h0 (Ev.step (fun k => num_Parse.j0.eq_2 ..) (Ev.pos rfl (Ev.ret rfl)))
  · refine Ev.neg h0 ?_
    rw [decide_eq_true (by omega)]
    exact Ev.step (fun k => num_Parse.j0.eq_2 ..) (Ev.pos rfl (Ev.ret rfl))
theorem num_text_arg (a0 a1 : Int) (h : ¬ (0 ≤ a1 ∧ a1 ≤ 18)) : Ev (fun k => num_Text.f k a0 a1) ((⟨#[]⟩ : ByteArray), 1) := by
  unfold num_Text.f
  by_cases h0 : a1 < 0
  · exact Ev.pos h0 (Ev.step (fun k => num_Text.j0.eq_2 ..) (Ev.pos rfl (Ev.ret rfl)))
  · refine Ev.neg h0 ?_
    rw [decide_eq_true (by omega)]
    exact Ev.step (fun k => num_Text.j0.eq_2 ..) (Ev.pos rfl (Ev.ret rfl))

/-! NumReads: both readings -/
def rstep (q : Bool × List Int) (c : UInt8) : Bool × List Int := (q.1 || c == 45, if 48 ≤ c.toNat ∧ c.toNat ≤ 57 ∧ q.2.length < 40 then q.2 ++ [(c.toNat : Int) - 48] else q.2)
theorem rstep_dg (q : Bool × List Int) (c : UInt8) (h : Dg q.2 ∧ q.2.length ≤ 40) : Dg (rstep q c).2 ∧ (rstep q c).2.length ≤ 40 := by
  unfold rstep
  dsimp only
  split
  · exact ⟨h.1.append (Dg.cons (by omega) Dg.nil), by simp; omega⟩
  · exact h
theorem rfold_dg : ∀ (l : List UInt8) (q : Bool × List Int), (Dg q.2 ∧ q.2.length ≤ 40) → Dg (l.foldl rstep q).2 ∧ (l.foldl rstep q).2.length ≤ 40 := by
  intro l
  induction l with
  | nil => intro q h; exact h
  | cons c l ih => intro q h; exact ih _ (rstep_dg q c h)
theorem bt_nat (s : ByteArray) (i : Nat) (h : i < s.size) : bt s (i : Int) = ((s.data.toList[i]'(by rw [Array.length_toList]; exact h)).toNat : Int) := by
  unfold bt
  rw [Int.toNat_natCast, dif_pos h]
  rfl
/-- What follows the loop. -/
def rcont (k : Nat) (x0 : ByteArray) (x1 : Int) (n : Bool) (d : List Int) : Option (Int × Int) := ((payoffref01_trim.f k d).bind fun t217 => ((payoffref01_sign.f n t217).bind fun bt220 => ((payoffref01_Out.f k bt220.1 bt220.2).bind fun bt224 => ((payoffref01_Text.f k bt224.1 x1).bind fun bt226 => (if bt224.2 = 0 then (if bt226.1.toList = x0.toList then (some (bt224.1, 0)) else (some (0, 11))) else (some (0, 11)))))))
theorem ref_parse_l0 (s : ByteArray) (hs : s.size ≤ 140737488351232) (p : Nat) (r : Int × Int) : ∀ (n : Nat), n ≤ s.size → ∀ q : Bool × List Int, (Dg q.2 ∧ q.2.length ≤ 40) →
    Ev (fun k => rcont k s (p : Int) ((s.data.toList.take n).reverse.foldl rstep q).1 ((s.data.toList.take n).reverse.foldl rstep q).2) r →
    Ev (fun k => payoffref01_Parse.l0 k s (p : Int) ((n : Int) - 1) q.1 q.2) r := by
  intro n
  induction n with
  | zero =>
    intro _ q hq h
    refine Ev.step (fun k => payoffref01_Parse.l0.eq_2 ..) (Ev.neg (by omega) ?_)
    exact h
  | succ n ih =>
    intro hn q hq h
    have hlt : n < s.data.toList.length := by rw [Array.length_toList]; exact hn
    rw [show ((n + 1 : Nat) : Int) - 1 = (n : Int) by omega]
    have hb := bt_nat s n hn
    have hbr := (s.data.toList[n]).toNat_lt
    have e : ((s.data.toList.take (n + 1)).reverse.foldl rstep q) = ((s.data.toList.take n).reverse.foldl rstep (rstep q s.data.toList[n])) := by
      rw [List.take_add_one, List.getElem?_eq_getElem hlt, Option.toList_some, List.reverse_append, List.foldl_append]
      rfl
    rw [e] at h
    have hw : wrap64 ((n : Int) - 1) = (n : Int) - 1 := w64 (by omega)
    have nxt := ih (by omega) (rstep q s.data.toList[n]) (rstep_dg q _ hq) h
    obtain ⟨b, hbb⟩ : ∃ b, s.data.toList[n] = b := ⟨_, rfl⟩
    rw [hbb] at hb hbr nxt
    clear h e
    have hx : wrap64 (wrap64 (bt s (n : Int)) - 48) = (b.toNat : Int) - 48 := by rw [hb, w64 (n := (b.toNat : Int)) (by omega), w64 (by omega)]
    obtain ⟨neg, D⟩ := q
    have h45 : (bt s (n : Int) = 45) ↔ (b == 45) = true := by
      rw [hb, beq_iff_eq]
      constructor
      · intro h; exact UInt8.toNat_inj.1 (by show b.toNat = 45; omega)
      · rintro rfl; rfl
    -- the sign's test
    have sgn : ∀ D', Ev (fun k => payoffref01_Parse.l0 k s (p : Int) ((n : Int) - 1) (neg || b == 45) D') r →
        Ev (fun k => if 0 ≤ (n : Int) then (if (n : Int) < (s.size : Int) then (if bt s (n : Int) = 45 then payoffref01_Parse.l0 k s (p : Int) (wrap64 ((n : Int) - 1)) true D' else payoffref01_Parse.l0 k s (p : Int) (wrap64 ((n : Int) - 1)) neg D') else none) else none) r := by
      intro D' h
      rw [hw]
      refine Ev.pos (by omega) (Ev.pos (by omega) ?_)
      by_cases hc : bt s (n : Int) = 45
      · refine Ev.pos hc ?_
        rw [h45.1 hc, Bool.or_true] at h
        exact h
      · refine Ev.neg hc ?_
        have : (b == 45) = false := by rw [← Bool.not_eq_true, ← h45]; exact hc
        rw [this, Bool.or_false] at h
        exact h
    refine Ev.step (fun k => payoffref01_Parse.l0.eq_2 ..) (Ev.pos (by omega) (Ev.pos (by omega) (Ev.pos (by omega) ?_)))
    rw [hx]
    unfold rstep at nxt
    dsimp only at nxt hq ⊢
    have skip : ¬ (48 ≤ b.toNat ∧ b.toNat ≤ 57 ∧ D.length < 40) → Ev (fun k => payoffref01_Parse.j2 k s (p : Int) (n : Int) ((b.toNat : Int) - 48) false neg D) r := by
      intro h
      rw [if_neg h] at nxt
      exact Ev.step (fun k => payoffref01_Parse.j2.eq_2 ..) (Ev.neg (by decide) (sgn D nxt))
    by_cases h1 : (b.toNat : Int) - 48 ≥ 0
    · refine Ev.pos h1 ?_
      by_cases h2 : (b.toNat : Int) - 48 ≤ 9
      · refine Ev.pos h2 ?_
        by_cases h3 : (D.length : Int) < 40
        · rw [decide_eq_true h3]
          rw [if_pos (by omega)] at nxt
          exact Ev.step (fun k => payoffref01_Parse.j2.eq_2 ..) (Ev.pos rfl (Ev.pos (by omega) (Ev.call rfl (sgn _ nxt))))
        · rw [decide_eq_false h3]
          exact skip (by omega)
      · exact Ev.neg h2 (skip (by omega))
    · exact Ev.neg h1 (skip (by omega))
def lows (c : List Int) (n : Nat) : List Int := (List.range n).map fun i : Nat => rd c (i : Int)
theorem lows_len (c : List Int) (n : Nat) : (lows c n).length = n := by simp [lows]
theorem lows_succ (c : List Int) (n : Nat) : lows c (n + 1) = lows c n ++ [rd c (n : Int)] := by simp [lows, List.range_succ]
theorem rstep_chr (neg : Bool) (D : List Int) (d : Int) (h : 0 ≤ d ∧ d ≤ 9) (hl : D.length < 40) : rstep (neg, D) (chr d) = (neg, D ++ [d]) := by
  have hn := chr_nat h
  unfold rstep
  have : (chr d == 45) = false := by
    rw [beq_eq_false_iff_ne]
    intro e
    rw [e] at hn
    have : (45 : UInt8).toNat = 45 := rfl
    omega
  rw [this, Bool.or_false, if_pos (by dsimp only; omega)]
  congr 2
  rw [hn]
  congr 1
  omega
theorem rstep_dot (q : Bool × List Int) : rstep q 46 = q := by
  unfold rstep
  have h46 : (46 : UInt8).toNat = 46 := rfl
  rw [if_neg (by omega)]
  simp
theorem rfold_refS (c : List Int) (hd : Dg c) (p : Nat) (neg : Bool) : ∀ n, n ≤ 40 → (refS c p n).reverse.foldl rstep (neg, []) = (neg, lows c n) := by
  intro n
  induction n with
  | zero => intro _; rfl
  | succ n ih =>
    intro hn
    have hr := hd.at (n : Int)
    have hl := lows_len c n
    rw [refS, List.reverse_cons, List.foldl_append]
    split
    · rename_i h
      rw [List.reverse_cons, List.foldl_append, ih (by omega)]
      simp only [List.foldl_cons, List.foldl_nil]
      rw [rstep_dot, rstep_chr _ _ _ hr (by omega), lows_succ]
    · rw [ih (by omega)]
      simp only [List.foldl_cons, List.foldl_nil]
      rw [rstep_chr _ _ _ hr (by omega), lows_succ]
theorem lows_val (c : List Int) (hd : Dg c) : ∀ n, val (lows c n) = vl c n := by
  intro n
  induction n with
  | zero => rfl
  | succ n ih =>
    have hr := hd.at (n : Int)
    rw [lows_succ, val_append, lows_len, ih, vl]
    simp only [val]
    have hc : (((rd c (n : Int)).toNat : Nat) : Int) = rd c (n : Int) := by omega
    push_cast
    rw [hc, Int.mul_comm, Int.add_zero]
theorem rfold_text (c : List Int) (hd : Dg c) (hl : c.length ≤ 19) (neg : Bool) (p : Nat) (hp : p ≤ 18) : (textOf c neg p).reverse.foldl rstep (false, []) = (neg, lows c (max c.length (p + 1))) := by
  rw [text_sg, List.reverse_append, List.foldl_append, rfold_refS c hd p false _ (by omega)]
  cases neg with
  | true =>
    show rstep (false, _) 45 = _
    unfold rstep
    have h45 : (45 : UInt8).toNat = 45 := rfl
    rw [if_neg (by omega)]
    rfl
  | false => rfl
theorem ref_parse_pre (s : ByteArray) (hs : s.size ≤ 140737488351232) (p : Nat) (hp : p ≤ 18) (r : Int × Int)
    (h : Ev (fun k => rcont k s (p : Int) (s.data.toList.reverse.foldl rstep (false, [])).1 (s.data.toList.reverse.foldl rstep (false, [])).2) r) : Ev (fun k => payoffref01_Parse.f k s (p : Int)) r := by
  unfold payoffref01_Parse.f
  refine Ev.neg (by omega) ?_
  rw [decide_eq_false (by omega)]
  refine Ev.step (fun k => payoffref01_Parse.j0.eq_2 ..) (Ev.neg (by decide) ?_)
  rw [w64 (by omega)]
  refine ref_parse_l0 s hs p r s.size (Nat.le_refl _) (false, []) ⟨Dg.nil, by simp⟩ ?_
  have hz : s.data.toList.length = s.size := by simp
  rw [List.take_of_length_le (by omega)]
  exact h
theorem IsText.ref {s : ByteArray} {p : Nat} {v : Int} (h : IsText s p v) (hp : p ≤ 18) : Ev (fun k => payoffref01_Text.f k v (p : Int)) (s, 0) := by
  have h1 := h.text hp
  have hv := h.1
  obtain ⟨c, g1, g2, g3, g4⟩ := ref_from v hv
  have h2 := num_text v hv c g2 g4 g3 p hp
  rw [Ev.uniq h1 h2]
  exact ref_text v hv c g1 g2 g4 p hp
theorem ref_cont (s : ByteArray) (p : Nat) (hp : p ≤ 18) (neg : Bool) (D : List Int) (hD : Dg D ∧ D.length ≤ 40) (r : Int × Int)
    (h : Ev (fun k => ((payoffref01_Text.f k (fit (bv neg D)).1 (p : Int)).bind fun bt226 => (if (fit (bv neg D)).2 = 0 then (if bt226.1.toList = s.toList then (some ((fit (bv neg D)).1, 0)) else (some (0, 11))) else (some (0, 11))))) r) :
    Ev (fun k => rcont k s (p : Int) neg D) r := by
  unfold rcont
  obtain ⟨c, c1, c2, c3, c4⟩ := ref_trim D (by omega) hD.1
  obtain ⟨sg, s1, s2, -, -⟩ := ref_sign neg c c2
  have e : bv neg c = bv neg D := by unfold bv; rw [c3]
  have o := ref_out sg c (by omega) c2
  rw [s2, e] at o
  exact Ev.bind c1 (Ev.call s1 (Ev.bind o h))
theorem fit_good (n : Int) : In (fit n).1 := by
  by_cases h : In n
  · rw [fit_in h]; exact h
  · rw [fit_out h]; unfold In; omega
theorem ref_parse_is {s : ByteArray} (hs : s.size ≤ 140737488351232) {p : Nat} {v : Int} (h : IsText s p v) (hp : p ≤ 18) : Ev (fun k => payoffref01_Parse.f k s (p : Int)) (v, 0) := by
  have ht := h.ref hp
  have hh := h
  obtain ⟨hv, c, h1, h2, h3, e⟩ := h
  refine ref_parse_pre s hs p hp _ ?_
  have ed : s.data.toList = textOf c (decide (v < 0)) p := by rw [e, Bs_data]
  rw [ed, rfold_text c h1.1 h2 _ p hp]
  have hval : val (lows c (max c.length (p + 1))) = val c := by rw [lows_val c h1.1, vl_all c h1.1 _ (by omega)]
  have hb : bv (decide (v < 0)) (lows c (max c.length (p + 1))) = v := by
    have := bv_of h3
    unfold bv at this ⊢
    rw [hval]; exact this
  have hD := rfold_dg (textOf c (decide (v < 0)) p).reverse (false, []) ⟨Dg.nil, by simp⟩
  rw [rfold_text c h1.1 h2 _ p hp] at hD
  refine ref_cont s p hp _ _ hD _ ?_
  rw [hb, fit_in hv]
  exact Ev.bind ht (Ev.pos rfl (Ev.pos rfl (Ev.ret rfl)))
theorem ref_parse_not {s : ByteArray} (hs : s.size ≤ 140737488351232) {p : Nat} (hp : p ≤ 18) (h : ∀ v, ¬ IsText s p v) : Ev (fun k => payoffref01_Parse.f k s (p : Int)) (0, 11) := by
  refine ref_parse_pre s hs p hp _ ?_
  refine ref_cont s p hp _ _ (rfold_dg _ (false, []) ⟨Dg.nil, by simp⟩) _ ?_
  generalize bv _ _ = n
  have hv := fit_good n
  obtain ⟨t, ht⟩ := isText (fit n).1 hv p hp
  refine Ev.bind (ht.ref hp) ?_
  by_cases h0 : (fit n).2 = 0
  · refine Ev.pos h0 (Ev.neg ?_ (Ev.ret rfl))
    intro h1
    have h1 : t = s := toList_ba h1
    rw [h1] at ht
    exact h _ ht
  · exact Ev.neg h0 (Ev.ret rfl)
theorem ref_parse_arg (s : ByteArray) (a1 : Int) (h : ¬ (0 ≤ a1 ∧ a1 ≤ 18)) : Ev (fun k => payoffref01_Parse.f k s a1) (0, 1) := by
  unfold payoffref01_Parse.f
  by_cases h0 : a1 < 0
  · exact Ev.pos h0 (Ev.step (fun k => payoffref01_Parse.j0.eq_2 ..) (Ev.pos rfl (Ev.ret rfl)))
  · refine Ev.neg h0 ?_
    rw [decide_eq_true (by omega)]
    exact Ev.step (fun k => payoffref01_Parse.j0.eq_2 ..) (Ev.pos rfl (Ev.ret rfl))
theorem numreads (s : ByteArray) (a1 : Int) (hs : s.size ≤ 140737488351232) : Ev (fun k => payofflaw01_NumReads.f k s a1) true := by
  unfold payofflaw01_NumReads.f
  by_cases hp : 0 ≤ a1 ∧ a1 ≤ 18
  · obtain ⟨p, rfl⟩ : ∃ p : Nat, a1 = p := ⟨a1.toNat, by omega⟩
    have hp : p ≤ 18 := by omega
    rcases num_parse_any s hs p hp with ⟨v, hv, h⟩ | ⟨hv, h⟩
    · exact Ev.bind h (Ev.bind (ref_parse_is hs hv hp) (Ev.pos rfl (Ev.ret (by simp))))
    · exact Ev.bind h (Ev.bind (ref_parse_not hs hp hv) (Ev.pos rfl (Ev.ret (by simp))))
  · exact Ev.bind (num_parse_arg s a1 hp) (Ev.bind (ref_parse_arg s a1 hp) (Ev.pos rfl (Ev.ret (by simp))))

theorem NumReads_walk (a0 : ByteArray) (a1 : Int) (w : World) (hs : a0.size ≤ 140737488351232) (w1 : (Lit.int .i64 a1).wf = true) (hL : Gl2 w) :
    Calls Tryd.prog 4 #[.string a0, .int .i64 a1] w fun e w' => e = .returned (.bool true) ∧ Below w.heap.size w w' := by
  obtain ⟨k, h⟩ := (numreads a0 a1 hs).rounds
  exact payofflaw01_NumReads.calls k a0 a1 true w h hL
end Go.Proofs.YtogbeegkhgkdaaaDoor.Pure
