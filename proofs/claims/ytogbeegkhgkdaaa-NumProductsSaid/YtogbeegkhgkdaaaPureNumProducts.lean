/- NumProducts: for every pair of 64-bit numbers, Mul answers as the reference's product of decimal digits does; no condition. -/
import Derived.Test.YtogbeegkhgkdaaaQNumProductsx3
namespace Go.Proofs.Ytogbeegkhgkdaaa.Pure
open Go.RowKit Go.Proofs.Ytogbeegkhgkdaaa.PNumProducts Go.Proofs.YtogbeegkhgkdaaaW.PrintWords Go.Proofs.YtogbeegkhgkdaaaW.PrintLast Go.Proofs.YtogbeegkhgkdaaaW.PrintMore
set_option linter.unusedVariables false
set_option linter.unusedSimpArgs false

/-! Rounds: an answer that stands from some number of rounds on -/
theorem Ev.pos {α : Type} {c : Prop} [Decidable c] {a b : Nat → Option α} {r : α} (h : c) (k : Ev a r) : Ev (fun n => if c then a n else b n) r := by
  simpa only [if_pos h] using k
theorem Ev.neg {α : Type} {c : Prop} [Decidable c] {a b : Nat → Option α} {r : α} (h : ¬c) (k : Ev b r) : Ev (fun n => if c then a n else b n) r := by
  simpa only [if_neg h] using k
/-- A call without rounds. -/
theorem Ev.call {α β : Type} {x : Option α} {f : Nat → α → Option β} {a : α} {r : β} (h : x = some a) (k : Ev (fun n => f n a) r) : Ev (fun n => x.bind (f n)) r := by
  subst h; simpa only [Option.bind_some] using k
theorem Ev.ret {α : Type} {r s : α} (h : s = r) : Ev (fun _ => some s) r := ⟨0, fun _ _ => by rw [h]⟩
theorem w64 {n : Int} (h : -9223372036854775808 ≤ n ∧ n ≤ 9223372036854775807) : wrap64 n = n := by unfold wrap64; omega
theorem wu64 {n : Int} (h : 0 ≤ n ∧ n ≤ 18446744073709551615) : IntKind.u64.wrap n = n := by
  simp only [IntKind.wrap, IntKind.bits, IntKind.signed]; simp; omega
theorem wf64 {a : Int} (h : (Lit.int .i64 a).wf = true) : -9223372036854775808 ≤ a ∧ a ≤ 9223372036854775807 := by
  simp only [Lit.wf, IntKind.min, IntKind.max, IntKind.signed, IntKind.bits, Bool.and_eq_true, decide_eq_true_eq, if_true] at h
  omega
theorem wfu64 {a : Int} (h : (Lit.int .u64 a).wf = true) : 0 ≤ a ∧ a ≤ 18446744073709551615 := by
  simp only [Lit.wf, IntKind.min, IntKind.max, IntKind.signed, IntKind.bits, Bool.and_eq_true, decide_eq_true_eq] at h
  simp at h
  omega
theorem wf8 {a : Int} (h : (Lit.int .u8 a).wf = true) : 0 ≤ a ∧ a ≤ 255 := by
  simp only [Lit.wf, IntKind.min, IntKind.max, IntKind.signed, IntKind.bits, Bool.and_eq_true, decide_eq_true_eq] at h
  simp at h
  omega

/-! The range, and what a call answers by its true answer -/
def In (n : Int) : Prop := -9223372036854775808 ≤ n ∧ n ≤ 9223372036854775807
instance (n : Int) : Decidable (In n) := by unfold In; infer_instance
/-- What a call answers whose true answer is n. -/
def fit (n : Int) : Int × Int := if In n then (n, 0) else (0, 1)
theorem fit_in {n : Int} (h : In n) : fit n = (n, 0) := by rw [fit, if_pos h]
theorem fit_out {n : Int} (h : ¬In n) : fit n = (0, 1) := by rw [fit, if_neg h]

theorem num_mul (k : Nat) (a b : Int) (ha : In a) (hb : In b) : num_Mul.f (k + 1) a b = some (fit (a * b)) := by
  unfold In at ha hb
  unfold num_Mul.f
  by_cases a0 : a = 0
  · subst a0; simp [num_Mul.j0, fit, In]
  by_cases b0 : b = 0
  · subst b0; simp [num_Mul.j0, fit, In, a0]
  rw [if_neg a0]
  simp only [num_Mul.j0]
  rw [if_neg (by simpa using b0), if_neg b0]
  by_cases hin : In (a * b)
  · have hw : wrap64 (a * b) = a * b := w64 hin
    rw [fit_in hin, hw, Int.mul_tdiv_cancel _ b0, w64 ha, if_pos rfl]
    by_cases b1 : b = -1
    · subst b1
      rw [if_pos rfl, if_neg (by unfold In at hin; omega)]
    · rw [if_neg b1]
  · rw [fit_out hin]
    by_cases b1 : b = -1
    · subst b1
      have : a = -9223372036854775808 := by unfold In at hin; omega
      subst this
      simp [wrap64]
    · have hw : ¬ wrap64 (Int.tdiv (wrap64 (a * b)) b) = a := by
        intro he
        have h1 : -9223372036854775808 ≤ wrap64 (a * b) ∧ wrap64 (a * b) ≤ 9223372036854775807 := by unfold wrap64; omega
        generalize hx : wrap64 (a * b) = x at *
        have hq : -9223372036854775808 ≤ Int.tdiv x b ∧ Int.tdiv x b ≤ 9223372036854775807 := by
          have h2 := Int.natAbs_tdiv x b
          have h3 : (x.tdiv b).natAbs ≤ x.natAbs := by rw [h2]; exact Nat.div_le_self _ _
          have h4 : x = -9223372036854775808 → (x.tdiv b).natAbs ≠ 9223372036854775808 := by
            intro e
            rw [h2, e]
            have : 2 ≤ b.natAbs ∨ b = 1 := by omega
            rcases this with h | h
            · have h9 := Nat.div_le_div_left (a := 9223372036854775808) h (by omega)
              rw [show (-9223372036854775808 : Int).natAbs = 9223372036854775808 from rfl]
              change (9223372036854775808 : Nat) / b.natAbs ≠ 9223372036854775808
              generalize 9223372036854775808 / b.natAbs = z at *
              omega
            · subst h
              exfalso
              apply hin
              rw [Int.mul_one]; exact ha
          omega
        rw [w64 hq] at he
        have h5 := Int.mul_tdiv_add_tmod x b
        rw [he] at h5
        have h6 : (x.tmod b).natAbs < b.natAbs := by
          rw [Int.natAbs_tmod]; exact Nat.mod_lt _ (by omega)
        have h7 : b * a = a * b := Int.mul_comm _ _
        rw [h7] at h5
        unfold wrap64 at hx
        unfold In at hin
        generalize a * b = y at *
        omega
      rw [if_neg hw]
theorem num_mul_ev (a b : Int) (ha : In a) (hb : In b) : Ev (fun k => num_Mul.f k a b) (fit (a * b)) := ⟨1, fun k hk => by
  obtain ⟨m, rfl⟩ : ∃ m, k = m + 1 := ⟨k - 1, by omega⟩
  exact num_mul m a b ha hb⟩

/-! Lists of decimal digits, the lowest first -/
def val : List Int → Int
  | [] => 0
  | d :: t => d + 10 * val t
def Dg (l : List Int) : Prop := ∀ x ∈ l, 0 ≤ x ∧ x ≤ 9
/-- Digits, without a 0 at the end. -/
def Norm (l : List Int) : Prop := Dg l ∧ ∀ h : l ≠ [], l.getLast h ≠ 0
theorem Dg.nil : Dg [] := fun x h => by simp at h
theorem Dg.cons {d : Int} {t : List Int} (h : 0 ≤ d ∧ d ≤ 9) (ht : Dg t) : Dg (d :: t) := fun x hx => by
  rcases List.mem_cons.1 hx with rfl | hx
  · exact h
  · exact ht x hx
theorem Dg.append {a b : List Int} (ha : Dg a) (hb : Dg b) : Dg (a ++ b) := fun x hx => by
  rcases List.mem_append.1 hx with hx | hx
  · exact ha x hx
  · exact hb x hx
theorem Dg.drop {l : List Int} (h : Dg l) (n : Nat) : Dg (l.drop n) := fun x hx => h x (List.mem_of_mem_drop hx)
theorem Dg.take {l : List Int} (h : Dg l) (n : Nat) : Dg (l.take n) := fun x hx => h x (List.mem_of_mem_take hx)
theorem Dg.at {l : List Int} (h : Dg l) (i : Int) : 0 ≤ rd l i ∧ rd l i ≤ 9 := by
  unfold rd
  rw [List.getD_eq_getElem?_getD]
  cases e : l[i.toNat]? with
  | none => simp
  | some x => exact h x (List.mem_of_getElem? e)
theorem Norm.dg {l : List Int} (h : Norm l) : Dg l := h.1
theorem Norm.nil : Norm [] := ⟨Dg.nil, fun h => (h rfl).elim⟩
theorem rd_nat (l : List Int) (i : Nat) : rd l (i : Int) = l.getD i 0 := by simp [rd]
theorem rd_out {l : List Int} {i : Int} (h : (l.length : Int) ≤ i) : rd l i = 0 := by
  unfold rd
  rw [List.getD_eq_getElem?_getD, List.getElem?_eq_none (by omega)]; rfl
theorem val_nonneg {l : List Int} (h : Dg l) : 0 ≤ val l := by
  induction l with
  | nil => simp [val]
  | cons d t ih =>
    have h1 := h d (by simp)
    have h2 := ih (fun x hx => h x (by simp [hx]))
    simp only [val]; omega
theorem val_lt {l : List Int} (h : Dg l) : val l < 10 ^ l.length := by
  induction l with
  | nil => simp [val]
  | cons d t ih =>
    have h1 := h d (by simp)
    have h2 := ih (fun x hx => h x (by simp [hx]))
    rw [List.length_cons, Int.pow_succ]
    simp only [val]
    generalize (10 : Int) ^ t.length = p at *
    omega
theorem val_append (a b : List Int) : val (a ++ b) = val a + 10 ^ a.length * val b := by
  induction a with
  | nil => simp [val]
  | cons d t ih =>
    simp only [List.cons_append, val, List.length_cons, Int.pow_succ, ih]
    rw [Int.mul_add, Int.mul_right_comm, Int.mul_comm ((10 : Int) ^ t.length * val b)]
    omega
theorem val_drop (l : List Int) (i : Nat) : val (l.drop i) = rd l (i : Int) + 10 * val (l.drop (i + 1)) := by
  by_cases h : i < l.length
  · rw [List.drop_eq_getElem_cons h, rd_nat, List.getD_eq_getElem?_getD, List.getElem?_eq_getElem h]; rfl
  · rw [List.drop_eq_nil_of_le (by omega), List.drop_eq_nil_of_le (by omega), rd_out (by omega)]; rfl
theorem pow10_pos (n : Nat) : (0 : Int) < 10 ^ n := Int.pow_pos (by decide)
theorem pow10_mono {m n : Nat} (h : m ≤ n) : (10 : Int) ^ m ≤ 10 ^ n := by
  have := Nat.pow_le_pow_right (show 10 > 0 by decide) h
  exact_mod_cast this
theorem Norm.lo {l : List Int} (h : Norm l) (hl : l ≠ []) : 10 ^ (l.length - 1) ≤ val l := by
  have h1 := List.dropLast_concat_getLast hl
  have hd := h.1 _ (List.getLast_mem hl)
  have hn := h.2 hl
  have e := val_append l.dropLast [l.getLast hl]
  rw [h1, List.length_dropLast] at e
  have h2 := val_nonneg (l := l.dropLast) (fun x hx => h.1 x ((List.dropLast_sublist l).subset hx))
  rw [e]
  simp only [val]
  have h3 := pow10_pos (l.length - 1)
  have h4 := Int.mul_le_mul_of_nonneg_left (show (1 : Int) ≤ l.getLast hl + 10 * 0 by omega) (Int.le_of_lt h3)
  omega
theorem Norm.length_le {l : List Int} {n : Nat} (h : Norm l) (hv : val l < 10 ^ n) : l.length ≤ n := by
  by_cases hl : l = []
  · simp [hl]
  · have h1 := h.lo hl
    have h2 : l.length - 1 < n := by
      apply Classical.byContradiction
      intro hc
      have := pow10_mono (show n ≤ l.length - 1 by omega)
      omega
    omega
theorem Norm.zero {l : List Int} (h : Norm l) (hv : val l = 0) : l = [] := by
  apply Classical.byContradiction
  intro hl
  have h1 := h.lo hl
  have h2 := pow10_pos (l.length - 1)
  omega
theorem Norm.pos_iff {l : List Int} (h : Norm l) : (l.length : Int) > 0 ↔ 0 < val l := by
  constructor
  · intro hl
    have h1 : l ≠ [] := by intro e; rw [e] at hl; simp at hl
    have := h.lo h1
    have := pow10_pos (l.length - 1)
    omega
  · intro hv
    cases l with
    | nil => simp [val] at hv
    | cons d t => simp
theorem Norm.lt_of_length {a b : List Int} (ha : Norm a) (hb : Norm b) (h : a.length < b.length) : val a < val b := by
  have h1 := val_lt ha.1
  have h2 := hb.lo (by intro e; rw [e] at h; simp at h)
  have h3 := pow10_mono (show a.length ≤ b.length - 1 by omega)
  omega
/-- The first number of a list decides its parity. -/
theorem val_rd0 (l : List Int) : val l = rd l 0 + 10 * val (l.drop 1) := by
  have := val_drop l 0
  simpa using this

/-! payoffref01: the school's ways, by what the digits come to -/
theorem ref_at (l : List Int) (i : Int) (h : 0 ≤ i) : payoffref01_at.f l i = some (rd l i) := by
  unfold payoffref01_at.f
  by_cases h1 : i < (l.length : Int)
  · rw [if_pos h1, if_pos h]
  · rw [if_neg h1, rd_out (by omega)]
theorem ref_trim_l0 (l : List Int) (hl : l.length ≤ 1000000) : ∀ n : Nat, n ≤ l.length → val (l.drop n) = 0 → Dg l →
    ∃ c, Ev (fun k => payoffref01_trim.l0 k l (n : Int)) c ∧ Norm c ∧ val c = val l ∧ c.length ≤ l.length := by
  intro n
  induction n with
  | zero =>
    intro _ h0 hd
    refine ⟨[], ?_, Norm.nil, ?_, by simp⟩
    · refine Ev.step (fun k => payoffref01_trim.l0.eq_2 _ _ _) ?_
      refine Ev.neg (by omega) (Ev.pos (by omega) (Ev.pos (by omega) (Ev.ret ?_)))
      simp
    · simpa [val] using h0.symm
  | succ n ih =>
    intro hn h0 hd
    have hw : wrap64 (((n + 1 : Nat) : Int) - 1) = (n : Int) := by rw [w64 (by omega)]; omega
    have hv := val_drop l n
    by_cases hz : rd l (n : Int) = 0
    · obtain ⟨c, h1, h2⟩ := ih (by omega) (by rw [hv, hz, h0]; rfl) hd
      refine ⟨c, ?_, h2⟩
      refine Ev.step (fun k => payoffref01_trim.l0.eq_2 _ _ _) ?_
      rw [hw]
      exact Ev.pos (by omega) (Ev.pos (by omega) (Ev.pos (by omega) (Ev.pos hz h1)))
    · refine ⟨l.take (n + 1), ?_, ⟨hd.take _, ?_⟩, ?_, by rw [List.length_take]; omega⟩
      · refine Ev.step (fun k => payoffref01_trim.l0.eq_2 _ _ _) ?_
        rw [hw]
        refine Ev.pos (by omega) (Ev.pos (by omega) (Ev.pos (by omega) (Ev.neg hz (Ev.pos (by omega) (Ev.pos (by omega) (Ev.ret ?_))))))
        rw [Int.toNat_natCast]
      · intro h
        rw [List.getLast_eq_getElem]
        have hlen : (l.take (n + 1)).length - 1 = n := by rw [List.length_take]; omega
        have hr : rd l (n : Int) = l[n]'(by omega) := by rw [rd_nat, List.getD_eq_getElem?_getD, List.getElem?_eq_getElem (by omega)]; rfl
        rw [hr] at hz
        have : ∀ (m : Nat) (hm : m < (l.take (n + 1)).length), m = n → (l.take (n + 1))[m] = l[n]'(by omega) := by
          intro m hm e; subst e; exact List.getElem_take
        rw [this _ _ hlen]; exact hz
      · have h3 := val_append (l.take (n + 1)) (l.drop (n + 1))
        rw [List.take_append_drop, h0, Int.mul_zero] at h3
        omega
theorem ref_trim (l : List Int) (hl : l.length ≤ 1000000) (hd : Dg l) :
    ∃ c, Ev (fun k => payoffref01_trim.f k l) c ∧ Norm c ∧ val c = val l ∧ c.length ≤ l.length := by
  unfold payoffref01_trim.f
  exact ref_trim_l0 l hl l.length (by omega) (by rw [List.drop_length]; rfl) hd
theorem ref_from_l0 : ∀ (d : Nat) (v : Int) (neg : Bool) (out : List Int), -9223372036854775808 ≤ v → v ≤ 9223372036854775807 → Dg out → out.length + d ≤ 1000 → (v.natAbs : Int) < 10 ^ d → (v = 0 → ∀ h : out ≠ [], out.getLast h ≠ 0) →
    ∃ c, Ev (fun k => payoffref01_From.l0 k v neg out) (neg, c) ∧ Norm c ∧ val c = val out + 10 ^ out.length * (v.natAbs : Int) ∧ c.length ≤ out.length + d := by
  intro d
  induction d with
  | zero =>
    intro v neg out h0 h1 hd hl hp hn
    have : v = 0 := by simp at hp; omega
    subst this
    refine ⟨out, ?_, ⟨hd, hn rfl⟩, by simp, by omega⟩
    exact Ev.step (fun k => payoffref01_From.l0.eq_2 _ _ _ _) (Ev.pos rfl (Ev.ret rfl))
  | succ d ih =>
    intro v neg out h0 h1 hd hl hp hn
    by_cases hv : v = 0
    · subst hv
      refine ⟨out, ?_, ⟨hd, hn rfl⟩, by simp, by omega⟩
      exact Ev.step (fun k => payoffref01_From.l0.eq_2 _ _ _ _) (Ev.pos rfl (Ev.ret rfl))
    have hq : (Int.tdiv v 10).natAbs = v.natAbs / 10 := Int.natAbs_tdiv v 10
    have hr : (Int.tmod v 10).natAbs = v.natAbs % 10 := Int.natAbs_tmod v 10
    have hqb : -9223372036854775808 ≤ Int.tdiv v 10 ∧ Int.tdiv v 10 ≤ 9223372036854775807 := by omega
    have key : ∀ e : Int, e = (v.natAbs % 10 : Nat) → ∃ c, Ev (fun k => payoffref01_From.l0 k (Int.tdiv v 10) neg (out ++ [e])) (neg, c) ∧ Norm c ∧ val c = val out + 10 ^ out.length * (v.natAbs : Int) ∧ c.length ≤ out.length + (d + 1) := by
      intro e he
      obtain ⟨c, g1, g2, g3, g4⟩ := ih (Int.tdiv v 10) neg (out ++ [e]) hqb.1 hqb.2 (hd.append (Dg.cons (by omega) Dg.nil)) (by simp; omega) (by
        rw [Int.pow_succ] at hp
        generalize (10 : Int) ^ d = p at *
        omega) (by
        intro hz h
        rw [List.getLast_append_of_ne_nil _ (by simp)]
        simp
        omega)
      refine ⟨c, g1, g2, ?_, by simp at g4; omega⟩
      rw [g3, val_append, hq]
      simp only [List.length_append, List.length_cons, List.length_nil, val, Int.pow_succ, Int.pow_zero, Nat.zero_add]
      have hsplit : (v.natAbs : Int) = (v.natAbs % 10 : Nat) + 10 * (v.natAbs / 10 : Nat) := by omega
      rw [← he] at hsplit
      generalize (10 : Int) ^ out.length = p at *
      grind
    refine Exists.imp (fun c h => ?_) (key _ rfl)
    refine ⟨Ev.step (fun k => payoffref01_From.l0.eq_2 _ _ _ _) (Ev.neg hv ?_), h.2⟩
    by_cases hs : Int.tmod v 10 < 0
    · refine Ev.pos hs (Ev.pos (by omega) ?_)
      rw [w64 hqb, w64 (by omega)]
      have : -(Int.tmod v 10) = ((v.natAbs % 10 : Nat) : Int) := by omega
      rw [this]; exact h.1
    · refine Ev.neg hs (Ev.pos (by omega) ?_)
      rw [w64 hqb]
      have : Int.tmod v 10 = ((v.natAbs % 10 : Nat) : Int) := by omega
      rw [this]; exact h.1
theorem ref_from (v : Int) (h : In v) : ∃ c, Ev (fun k => payoffref01_From.f k v) (decide (v < 0), c) ∧ Norm c ∧ val c = v.natAbs ∧ c.length ≤ 19 := by
  unfold In at h
  obtain ⟨c, h1, h2, h3, h4⟩ := ref_from_l0 19 v (decide (v < 0)) [] h.1 h.2 Dg.nil (by simp) (by simp; omega) (fun _ h => (h rfl).elim)
  exact ⟨c, h1, h2, by simpa [val] using h3, by simpa using h4⟩

theorem ref_above_l0 (a b : List Int) (hl : a.length ≤ 1000000) (hab : a.length = b.length) (ha : Dg a) (hb : Dg b) : ∀ n : Nat, n ≤ a.length → val (a.drop n) = val (b.drop n) →
    Ev (fun k => payoffref01_above.l0 k a b ((n : Int) - 1)) (decide (val a > val b)) := by
  intro n
  induction n with
  | zero =>
    intro _ h
    refine Ev.step (fun k => payoffref01_above.l0.eq_2 _ _ _ _) (Ev.neg (by omega) (Ev.ret ?_))
    simp only [List.drop_zero] at h
    simp [h]
  | succ n ih =>
    intro hn h
    rw [show ((n + 1 : Nat) : Int) - 1 = (n : Int) by omega]
    refine Ev.step (fun k => payoffref01_above.l0.eq_2 _ _ _ _) (Ev.pos (by omega) (Ev.pos (by omega) (Ev.pos (by omega) (Ev.pos (by omega) ?_))))
    have hva := val_drop a n
    have hvb := val_drop b n
    by_cases he : rd a (n : Int) = rd b (n : Int)
    · refine Ev.pos he ?_
      rw [w64 (by omega)]
      exact ih (by omega) (by omega)
    · refine Ev.neg he (Ev.ret ?_)
      rw [decide_eq_decide]
      have h1 := val_append (a.take n) (a.drop n)
      have h2 := val_append (b.take n) (b.drop n)
      rw [List.take_append_drop] at h1 h2
      have l1 : (a.take n).length = n := by rw [List.length_take]; omega
      have l2 : (b.take n).length = n := by rw [List.length_take]; omega
      rw [l1, hva] at h1
      rw [l2, hvb] at h2
      have g1 := val_lt (ha.take n)
      have g2 := val_lt (hb.take n)
      have g3 := val_nonneg (ha.take n)
      have g4 := val_nonneg (hb.take n)
      rw [l1] at g1
      rw [l2] at g2
      rw [h] at h1
      have hp := pow10_pos n
      generalize (10 : Int) ^ n = p at *
      generalize val (b.drop (n + 1)) = r at *
      generalize rd a (n : Int) = x at *
      generalize rd b (n : Int) = y at *
      rw [h1, h2]
      constructor
      · intro hxy
        have : p * (y + 10 * r + 1) ≤ p * (x + 10 * r) := Int.mul_le_mul_of_nonneg_left (by omega) (by omega)
        rw [Int.mul_add, Int.mul_one] at this
        omega
      · intro hxy
        apply Classical.byContradiction
        intro hc
        have : p * (x + 10 * r + 1) ≤ p * (y + 10 * r) := Int.mul_le_mul_of_nonneg_left (by omega) (by omega)
        rw [Int.mul_add, Int.mul_one] at this
        omega
theorem ref_above (a b : List Int) (hl : a.length ≤ 1000000) (ha : Norm a) (hb : Norm b) : Ev (fun k => payoffref01_above.f k a b) (decide (val a > val b)) := by
  unfold payoffref01_above.f
  by_cases h : (a.length : Int) = (b.length : Int)
  · refine Ev.pos h ?_
    rw [w64 (by omega)]
    have := ref_above_l0 a b hl (by omega) ha.1 hb.1 a.length (by omega) (by rw [List.drop_length, List.drop_eq_nil_of_le (by omega)])
    exact this
  · refine Ev.neg h (Ev.ret ?_)
    rw [decide_eq_decide]
    constructor
    · intro h1
      exact hb.lt_of_length ha (by omega)
    · intro h1
      apply Classical.byContradiction
      intro h2
      have := ha.lt_of_length hb (by omega)
      omega
theorem ref_plus_l0 (a b : List Int) (m : Nat) (hm : m ≤ 100000) (hla : a.length ≤ m) (hlb : b.length ≤ m) (ha : Dg a) (hb : Dg b) : ∀ (d : Nat) (i : Nat) (out : List Int) (c : Int), out.length = i → i + d = m + 1 → Dg out → 0 ≤ c → c ≤ 1 → (c = 1 → i ≤ m) →
    ∃ r, Ev (fun k => payoffref01_plus.l0 k a b out c (i : Int)) r ∧ Norm r ∧ val r = val out + 10 ^ i * (c + val (a.drop i) + val (b.drop i)) ∧ r.length ≤ m + 1 := by
  intro d
  induction d with
  | zero =>
    intro i out c ho hd hg h0 h1 hc
    have hc0 : c = 0 := by omega
    subst hc0
    obtain ⟨r, g1, g2, g3, g4⟩ := ref_trim out (by omega) hg
    refine ⟨r, ?_, g2, ?_, by omega⟩
    · refine Ev.step (fun k => payoffref01_plus.l0.eq_2 _ _ _ _ _ _) (Ev.neg (by omega) (Ev.neg (by omega) ?_))
      refine Ev.step (fun k => payoffref01_plus.j1.eq_2 _ _ _ _ _ _ _) (Ev.neg (by decide) ?_)
      exact Ev.bind g1 (Ev.ret rfl)
    · rw [g3, List.drop_eq_nil_of_le (by omega), List.drop_eq_nil_of_le (by omega)]; simp [val]
  | succ d ih =>
    intro i out c ho hd hg h0 h1 hc
    have ga := ha.at (i : Int)
    have gb := hb.at (i : Int)
    have hva := val_drop a i
    have hvb := val_drop b i
    have key : ∀ {r : List Int}, (∃ r, Ev (fun k => payoffref01_plus.j1 k a b out c (i : Int) true) r ∧ Norm r ∧ val r = val out + 10 ^ i * (c + val (a.drop i) + val (b.drop i)) ∧ r.length ≤ m + 1) := by
      intro _
      obtain ⟨r, g1, g2, g3, g4⟩ := ih (i + 1) (out ++ [(rd a (i : Int) + rd b (i : Int) + c) % 10]) ((rd a (i : Int) + rd b (i : Int) + c) / 10) (by simp; omega) (by omega) (hg.append (Dg.cons (by omega) Dg.nil)) (by omega) (by omega) (by
        intro h
        apply Classical.byContradiction
        intro hn
        rw [rd_out (by omega), rd_out (by omega)] at h
        omega)
      refine ⟨r, ?_, g2, ?_, g4⟩
      · refine Ev.step (fun k => payoffref01_plus.j1.eq_2 _ _ _ _ _ _ _) (Ev.pos rfl (Ev.call (ref_at _ _ (by omega)) (Ev.call (ref_at _ _ (by omega)) (Ev.pos (by omega) ?_))))
        rw [w64 (n := rd a (i : Int) + rd b (i : Int)) (by omega), w64 (n := rd a (i : Int) + rd b (i : Int) + c) (by omega), Int.tdiv_eq_ediv_of_nonneg (by omega), Int.tmod_eq_emod_of_nonneg (by omega), w64 (n := (i : Int) + 1) (by omega), w64 (by omega)]
        exact g1
      · rw [g3, val_append, ho, hva, hvb, Int.pow_succ]
        simp only [val]
        have hs : (rd a (i : Int) + rd b (i : Int) + c) = (rd a (i : Int) + rd b (i : Int) + c) % 10 + 10 * ((rd a (i : Int) + rd b (i : Int) + c) / 10) := by omega
        generalize (rd a (i : Int) + rd b (i : Int) + c) % 10 = u at *
        generalize (rd a (i : Int) + rd b (i : Int) + c) / 10 = v at *
        grind
    by_cases hA : (i : Int) < a.length
    · obtain ⟨r, g1, g2⟩ := key (r := [])
      exact ⟨r, Ev.step (fun k => payoffref01_plus.l0.eq_2 _ _ _ _ _ _) (Ev.pos hA g1), g2⟩
    by_cases hB : (i : Int) < b.length
    · obtain ⟨r, g1, g2⟩ := key (r := [])
      exact ⟨r, Ev.step (fun k => payoffref01_plus.l0.eq_2 _ _ _ _ _ _) (Ev.neg hA (Ev.pos hB g1)), g2⟩
    by_cases hC : c > 0
    · obtain ⟨r, g1, g2⟩ := key (r := [])
      exact ⟨r, Ev.step (fun k => payoffref01_plus.l0.eq_2 _ _ _ _ _ _) (Ev.neg hA (Ev.neg hB (by rw [decide_eq_true hC]; exact g1))), g2⟩
    have hc0 : c = 0 := by omega
    subst hc0
    obtain ⟨r, g1, g2, g3, g4⟩ := ref_trim out (by omega) hg
    refine ⟨r, ?_, g2, ?_, by omega⟩
    · refine Ev.step (fun k => payoffref01_plus.l0.eq_2 _ _ _ _ _ _) (Ev.neg (by omega) (Ev.neg (by omega) ?_))
      refine Ev.step (fun k => payoffref01_plus.j1.eq_2 _ _ _ _ _ _ _) (Ev.neg (by decide) ?_)
      exact Ev.bind g1 (Ev.ret rfl)
    · rw [g3, List.drop_eq_nil_of_le (by omega), List.drop_eq_nil_of_le (by omega)]; simp [val]
theorem ref_plus (a b : List Int) (m : Nat) (hm : m ≤ 100000) (hla : a.length ≤ m) (hlb : b.length ≤ m) (ha : Dg a) (hb : Dg b) :
    ∃ r, Ev (fun k => payoffref01_plus.f k a b) r ∧ Norm r ∧ val r = val a + val b ∧ r.length ≤ m + 1 := by
  unfold payoffref01_plus.f
  obtain ⟨r, g1, g2, g3, g4⟩ := ref_plus_l0 a b m hm hla hlb ha hb (m + 1) 0 [] 0 rfl (by omega) Dg.nil (by omega) (by omega) (by omega)
  refine ⟨r, g1, g2, ?_, g4⟩
  rw [g3]; simp [val]

/-- What a sign and digits stand for. -/
def bv (neg : Bool) (l : List Int) : Int := if neg = true then -val l else val l
theorem ref_out_l0 (neg : Bool) (l : List Int) (hl : l.length ≤ 100000) (hd : Dg l) (hv : val l ≤ 9223372036854775808) (hn : In (bv neg l)) : ∀ (n : Nat), n ≤ l.length →
    Ev (fun k => payoffref01_Out.l0 k (-val (l.drop n)) ((n : Int) - 1) neg l) (bv neg l, 0) := by
  intro n
  induction n with
  | zero =>
    intro _
    refine Ev.step (fun k => payoffref01_Out.l0.eq_2 _ _ _ _ _) (Ev.neg (by omega) ?_)
    rw [List.drop_zero]
    by_cases h : neg = true
    · have hb : bv neg l = -val l := if_pos h
      rw [hb]; exact Ev.pos h (Ev.ret rfl)
    · have hb : bv neg l = val l := if_neg h
      rw [hb] at hn ⊢
      refine Ev.neg h (Ev.ret ?_)
      unfold In at hn
      rw [w64 (by omega), Int.neg_neg]
  | succ n ih =>
    intro hn
    rw [show ((n + 1 : Nat) : Int) - 1 = (n : Int) by omega]
    have h1 := val_drop l n
    have h2 := hd.at (n : Int)
    have h3 := val_nonneg (hd.drop n)
    have h4 := val_nonneg (hd.drop (n + 1))
    have h5 : val (l.drop n) ≤ val l := by
      have e := val_append (l.take n) (l.drop n)
      rw [List.take_append_drop] at e
      have := val_nonneg (hd.take n)
      have := Int.mul_le_mul_of_nonneg_right (show (1 : Int) ≤ 10 ^ (l.take n).length from pow10_pos _) h3
      omega
    refine Ev.step (fun k => payoffref01_Out.l0.eq_2 _ _ _ _ _) (Ev.pos (by omega) (Ev.pos (by omega) (Ev.pos (by omega) ?_)))
    rw [w64 (n := -val (l.drop (n + 1)) * 10) (by omega), w64 (n := -val (l.drop (n + 1)) * 10 - rd l (n : Int)) (by omega), w64 (n := (n : Int) - 1) (by omega)]
    rw [show -val (l.drop (n + 1)) * 10 - rd l (n : Int) = -val (l.drop n) by omega]
    exact ih (by omega)
theorem ref_out_j0 (neg : Bool) (l : List Int) (hl : l.length ≤ 100000) (hd : Dg l) (b : Bool) (hb : b = !decide (In (bv neg l))) :
    Ev (fun k => payoffref01_Out.j0 k b neg l) (fit (bv neg l)) := by
  refine Ev.step (fun k => payoffref01_Out.j0.eq_2 _ _ _ _) ?_
  by_cases h : In (bv neg l)
  · rw [fit_in h, hb]
    refine Ev.neg (by simp [h]) ?_
    rw [w64 (by omega)]
    have hv := val_nonneg hd
    have := ref_out_l0 neg l hl hd (by unfold In bv at h; split at h <;> omega) h l.length (by omega)
    rw [List.drop_length] at this
    exact this
  · rw [fit_out h, hb]
    exact Ev.pos (by simp [h]) (Ev.ret rfl)
theorem ref_out (neg : Bool) (l : List Int) (hl : l.length ≤ 100000) (hn : Norm l) : Ev (fun k => payoffref01_Out.f k neg l) (fit (bv neg l)) := by
  unfold payoffref01_Out.f
  obtain ⟨c, c1, c2, c3, c4⟩ := ref_from 4611686018427387904 (by unfold In; omega)
  refine Ev.bind c1 (Ev.bind c1 ?_)
  obtain ⟨r, r1, r2, r3, r4⟩ := ref_plus c c 19 (by omega) c4 c4 c2.1 c2.1
  refine Ev.bind r1 ?_
  rw [c3] at r3
  have r3 : val r = 9223372036854775808 := by rw [r3]; decide
  refine Ev.bind (ref_above l r (by omega) hn r2) ?_
  rw [r3]
  have hv := val_nonneg hn.1
  by_cases h : val l > 9223372036854775808
  · refine Ev.pos (by simpa using h) (ref_out_j0 neg l hl hn.1 _ ?_)
    have : ¬ In (bv neg l) := by unfold In bv; split <;> omega
    simp [this]
  · refine Ev.neg (by simpa using h) ?_
    by_cases hneg : neg = true
    · refine Ev.pos hneg (ref_out_j0 neg l hl hn.1 _ ?_)
      have : In (bv neg l) := by unfold In bv; rw [if_pos hneg]; omega
      simp [this]
    · refine Ev.neg hneg (Ev.bind (ref_above r l (by omega) r2 hn) (ref_out_j0 neg l hl hn.1 _ ?_))
      rw [r3]
      have : decide (9223372036854775808 > val l) = decide (In (bv neg l)) := by
        rw [decide_eq_decide]; unfold In bv; rw [if_neg hneg]; omega
      rw [this]
theorem ref_sign (neg : Bool) (l : List Int) (hn : Norm l) : ∃ s, payoffref01_sign.f neg l = some (s, l) ∧ bv s l = bv neg l ∧ (s = true → bv neg l < 0) ∧ (s = false → 0 ≤ bv neg l) := by
  unfold payoffref01_sign.f
  have hv := val_nonneg hn.1
  have hp := hn.pos_iff
  by_cases h : neg = true
  · refine ⟨_, by rw [if_pos h], ?_, ?_, ?_⟩
    · unfold bv
      rw [if_pos h]
      split
      · rfl
      · rename_i hd
        simp only [decide_eq_true_eq] at hd
        omega
    · intro hd
      simp only [decide_eq_true_eq] at hd
      unfold bv; rw [if_pos h]; omega
    · intro hd
      simp only [decide_eq_false_iff_not] at hd
      unfold bv; rw [if_pos h]; omega
  · refine ⟨_, by rw [if_neg h], ?_, ?_, ?_⟩
    · unfold bv; rw [if_neg h, if_neg (by decide)]
    · intro hd; cases hd
    · intro _; unfold bv; rw [if_neg h]; exact hv

theorem ref_from' (v : Int) (h : In v) : ∃ s c, Ev (fun k => payoffref01_From.f k v) (s, c) ∧ Norm c ∧ bv s c = v ∧ s = decide (v < 0) ∧ val c = v.natAbs ∧ c.length ≤ 19 := by
  obtain ⟨c, h1, h2, h3, h4⟩ := ref_from v h
  refine ⟨_, c, h1, h2, ?_, rfl, h3, h4⟩
  unfold bv
  rw [h3]
  by_cases hn : v < 0
  · rw [if_pos (by simpa using hn)]; omega
  · rw [if_neg (by simpa using hn)]; omega

theorem rd_set {l : List Int} {i : Nat} {x : Int} (h : i < l.length) : rd (l.set i x) (i : Int) = x := by
  rw [rd_nat, List.getD_eq_getElem?_getD, List.getElem?_set_self h]; rfl
theorem val_set (l : List Int) (i : Nat) (x : Int) (h : i < l.length) : val (l.set i x) = val l + 10 ^ i * (x - rd l (i : Int)) := by
  have h1 := val_append ((l.set i x).take i) ((l.set i x).drop i)
  have h2 := val_append (l.take i) (l.drop i)
  rw [List.take_append_drop] at h1 h2
  rw [val_drop] at h1 h2
  rw [rd_set h, List.take_set_of_le (Nat.le_refl i), List.drop_set_of_lt (by omega)] at h1
  have hl : (l.take i).length = i := by rw [List.length_take]; omega
  rw [hl] at h1 h2
  rw [h1, h2]
  generalize (10 : Int) ^ i = p at *
  grind
theorem Dg.set {l : List Int} (h : Dg l) (i : Nat) {x : Int} (hx : 0 ≤ x ∧ x ≤ 9) : Dg (l.set i x) := fun y hy => by
  rcases List.mem_or_eq_of_mem_set hy with hy | rfl
  · exact h y hy
  · exact hx
theorem ref_times_l1 (a b : List Int) (hla : a.length ≤ 1000) (hlb : b.length ≤ 1000) (ha : Dg a) (hb : Dg b) (i : Nat) (hi : i < a.length) (V : Int) (hV : V < 10 ^ (i + b.length + 1)) (Q : List Int → Prop)
    (hR : ∀ out : List Int, out.length = a.length + b.length + 1 → Dg out → val out = V → ∃ R, Ev (fun k => payoffref01_times.l0 k a b out ((i : Int) + 1)) R ∧ Q R) :
    ∀ (d j : Nat) (out : List Int) (c : Int), out.length = a.length + b.length + 1 → Dg out → 0 ≤ c → c ≤ 9 → j + d = b.length + 2 → val out + 10 ^ (i + j) * (c + rd a (i : Int) * val (b.drop j)) = V →
    ∃ R, Ev (fun k => payoffref01_times.l1 k a b out (i : Int) c (j : Int)) R ∧ Q R := by
  intro d
  induction d with
  | zero =>
    intro j out c ho hd h0 h1 hj hv
    have hbz : val (b.drop j) = 0 := by rw [List.drop_eq_nil_of_le (by omega)]; rfl
    rw [hbz, Int.mul_zero, Int.add_zero] at hv
    have hvo := val_nonneg hd
    have hc : c = 0 := by
      apply Classical.byContradiction
      intro hc
      have hm := pow10_mono (show i + b.length + 1 ≤ i + j by omega)
      have := Int.mul_le_mul_of_nonneg_left (show (1 : Int) ≤ c by omega) (Int.le_of_lt (pow10_pos (i + j)))
      omega
    subst hc
    rw [Int.mul_zero, Int.add_zero] at hv
    obtain ⟨R, r1, r2⟩ := hR out ho hd hv
    refine ⟨R, Ev.step (fun k => payoffref01_times.l1.eq_2 _ _ _ _ _ _ _) (Ev.neg (by omega) (Ev.neg (by omega) ?_)), r2⟩
    rw [w64 (by omega)]
    exact r1
  | succ d ih =>
    intro j out c ho hd h0 h1 hj hv
    have gai := ha.at (i : Int)
    have gbj := hb.at (j : Int)
    have gop := hd.at ((i : Int) + (j : Int))
    have hprod : 0 ≤ rd a (i : Int) * rd b (j : Int) ∧ rd a (i : Int) * rd b (j : Int) ≤ 81 :=
      ⟨Int.mul_nonneg gai.1 gbj.1, Int.le_trans (Int.mul_le_mul gai.2 gbj.2 gbj.1 (by omega)) (by omega)⟩
    have hvb := val_drop b j
    have step : i + j < out.length → ∀ k, (if 0 ≤ (wrap64 ((i : Int) + (j : Int))) then (if (wrap64 ((i : Int) + (j : Int))) < (out.length : Int) then (if 0 ≤ (i : Int) then (if (i : Int) < (a.length : Int) then ((payoffref01_at.f b (j : Int)).bind fun t130 => (payoffref01_times.l1 k a b (out.set ((wrap64 ((i : Int) + (j : Int))) : Int).toNat (Int.tmod (wrap64 ((wrap64 ((rd out (wrap64 ((i : Int) + (j : Int)))) + (wrap64 ((rd a (i : Int)) * t130)))) + c)) 10)) (i : Int) (wrap64 (Int.tdiv (wrap64 ((wrap64 ((rd out (wrap64 ((i : Int) + (j : Int)))) + (wrap64 ((rd a (i : Int)) * t130)))) + c)) 10)) (wrap64 ((j : Int) + 1)))) else (none)) else (none)) else (none)) else (none))
        = payoffref01_times.l1 k a b (out.set (i + j) ((rd out ((i : Int) + (j : Int)) + rd a (i : Int) * rd b (j : Int) + c) % 10)) (i : Int) ((rd out ((i : Int) + (j : Int)) + rd a (i : Int) * rd b (j : Int) + c) / 10) (((j + 1 : Nat) : Int)) := by
      intro hij k
      rw [w64 (n := (i : Int) + (j : Int)) (by omega), if_pos (by omega), if_pos (by omega), if_pos (by omega), if_pos (by omega), ref_at _ _ (by omega), Option.bind_some]
      rw [w64 (n := rd a (i : Int) * rd b (j : Int)) (by omega), w64 (n := rd out ((i : Int) + (j : Int)) + rd a (i : Int) * rd b (j : Int)) (by omega),
        w64 (n := rd out ((i : Int) + (j : Int)) + rd a (i : Int) * rd b (j : Int) + c) (by omega), Int.tdiv_eq_ediv_of_nonneg (by omega), Int.tmod_eq_emod_of_nonneg (by omega), w64 (n := (j : Int) + 1) (by omega), w64 (by omega)]
      rw [show ((i : Int) + (j : Int)).toNat = i + j by omega]; rfl
    have next : i + j < out.length → ∃ R, Ev (fun k => payoffref01_times.l1 k a b (out.set (i + j) ((rd out ((i : Int) + (j : Int)) + rd a (i : Int) * rd b (j : Int) + c) % 10)) (i : Int) ((rd out ((i : Int) + (j : Int)) + rd a (i : Int) * rd b (j : Int) + c) / 10) (((j + 1 : Nat) : Int))) R ∧ Q R := by
      intro hij
      refine ih (j + 1) _ _ (by rw [List.length_set]; exact ho) (hd.set _ (by omega)) (by omega) (by omega) (by omega) ?_
      rw [val_set _ _ _ hij, ← hv, hvb, show ((i + j : Nat) : Int) = (i : Int) + (j : Int) by omega, show i + (j + 1) = (i + j) + 1 by omega, Int.pow_succ]
      have hs : rd out ((i : Int) + (j : Int)) + rd a (i : Int) * rd b (j : Int) + c = (rd out ((i : Int) + (j : Int)) + rd a (i : Int) * rd b (j : Int) + c) % 10 + 10 * ((rd out ((i : Int) + (j : Int)) + rd a (i : Int) * rd b (j : Int) + c) / 10) := by omega
      generalize (rd out ((i : Int) + (j : Int)) + rd a (i : Int) * rd b (j : Int) + c) % 10 = u at *
      generalize (rd out ((i : Int) + (j : Int)) + rd a (i : Int) * rd b (j : Int) + c) / 10 = v at *
      generalize (10 : Int) ^ (i + j) = p at *
      grind
    by_cases hjb : (j : Int) < b.length
    · obtain ⟨R, r1, r2⟩ := next (by omega)
      exact ⟨R, Ev.step (fun k => payoffref01_times.l1.eq_2 _ _ _ _ _ _ _) (Ev.pos hjb (Ev.congr (step (by omega)) r1)), r2⟩
    · by_cases hc : c > 0
      · have hij : i + j < out.length := by
          apply Classical.byContradiction
          intro hn
          have hbz : val (b.drop j) = 0 := by rw [List.drop_eq_nil_of_le (by omega)]; rfl
          rw [hbz, Int.mul_zero, Int.add_zero] at hv
          have hvo := val_nonneg hd
          have hm := pow10_mono (show i + b.length + 1 ≤ i + j by omega)
          have := Int.mul_le_mul_of_nonneg_left (show (1 : Int) ≤ c by omega) (Int.le_of_lt (pow10_pos (i + j)))
          omega
        obtain ⟨R, r1, r2⟩ := next hij
        exact ⟨R, Ev.step (fun k => payoffref01_times.l1.eq_2 _ _ _ _ _ _ _) (Ev.neg hjb (Ev.pos hc (Ev.congr (step hij) r1))), r2⟩
      · have hc0 : c = 0 := by omega
        subst hc0
        have hbz : val (b.drop j) = 0 := by rw [List.drop_eq_nil_of_le (by omega)]; rfl
        rw [hbz, Int.mul_zero, Int.add_zero, Int.mul_zero, Int.add_zero] at hv
        obtain ⟨R, r1, r2⟩ := hR out ho hd hv
        refine ⟨R, Ev.step (fun k => payoffref01_times.l1.eq_2 _ _ _ _ _ _ _) (Ev.neg hjb (Ev.neg hc ?_)), r2⟩
        rw [w64 (by omega)]
        exact r1
theorem ref_times_l0 (a b : List Int) (hla : a.length ≤ 1000) (hlb : b.length ≤ 1000) (ha : Dg a) (hb : Dg b) (W : Int) : ∀ (d i : Nat) (out : List Int), i + d = a.length →
    out.length = a.length + b.length + 1 → Dg out → val out < 10 ^ (i + b.length) → W = val out + 10 ^ i * (val (a.drop i) * val b) →
    ∃ R, Ev (fun k => payoffref01_times.l0 k a b out (i : Int)) R ∧ Norm R ∧ val R = W ∧ R.length ≤ a.length + b.length + 1 := by
  intro d
  induction d with
  | zero =>
    intro i out hi ho hd hlt hW
    obtain ⟨r, g1, g2, g3, g4⟩ := ref_trim out (by omega) hd
    refine ⟨r, Ev.step (fun k => payoffref01_times.l0.eq_2 _ _ _ _ _) (Ev.neg (by omega) (Ev.bind g1 (Ev.ret rfl))), g2, ?_, by omega⟩
    rw [g3, hW, List.drop_eq_nil_of_le (by omega)]; simp [val]
  | succ d ih =>
    intro i out hi ho hd hlt hW
    have gai := ha.at (i : Int)
    have hvb := val_nonneg hb
    have hvo := val_nonneg hd
    have hbl := val_lt hb
    have hp := pow10_pos i
    have hV : val out + 10 ^ i * (rd a (i : Int) * val b) < 10 ^ (i + b.length + 1) := by
      have h1 : rd a (i : Int) * val b ≤ 9 * val b := Int.mul_le_mul_of_nonneg_right gai.2 hvb
      have h2 : 10 ^ i * (rd a (i : Int) * val b) ≤ 10 ^ i * (9 * (10 ^ b.length - 1)) := Int.mul_le_mul_of_nonneg_left (by omega) (by omega)
      rw [Int.pow_succ, Int.pow_add] 
      rw [Int.pow_add] at hlt
      generalize (10 : Int) ^ i = p at *
      generalize (10 : Int) ^ b.length = q at *
      have h3 : p * (9 * (q - 1)) = 9 * (p * q) - 9 * p := by grind
      omega
    have hva := val_drop a i
    obtain ⟨R, r1, r2⟩ := ref_times_l1 a b hla hlb ha hb i (by omega) (val out + 10 ^ i * (rd a (i : Int) * val b)) hV (fun R => Norm R ∧ val R = W ∧ R.length ≤ a.length + b.length + 1) (by
      intro o2 ho2 hd2 hv2
      refine ih (i + 1) o2 (by omega) ho2 hd2 ?_ ?_
      · rw [hv2, show i + 1 + b.length = i + b.length + 1 by omega]; exact hV
      · rw [hW, hv2, hva, Int.pow_succ]
        generalize (10 : Int) ^ i = p at *
        grind) (b.length + 2) 0 out 0 ho hd (by omega) (by omega) (by omega) (by simp)
    exact ⟨R, Ev.step (fun k => payoffref01_times.l0.eq_2 _ _ _ _ _) (Ev.pos (by omega) r1), r2⟩
theorem ref_times (a b : List Int) (hla : a.length ≤ 1000) (hlb : b.length ≤ 1000) (ha : Dg a) (hb : Dg b) :
    ∃ R, Ev (fun k => payoffref01_times.f k a b) R ∧ Norm R ∧ val R = val a * val b ∧ R.length ≤ a.length + b.length + 1 := by
  unfold payoffref01_times.f
  have hn : ((a.length : Int) + (b.length : Int) + 1).toNat = a.length + b.length + 1 := by omega
  rw [w64 (n := (a.length : Int) + (b.length : Int)) (by omega), w64 (n := (a.length : Int) + (b.length : Int) + 1) (by omega), hn]
  have hz : ∀ n, val (List.replicate n 0) = 0 := by
    intro n
    induction n with
    | zero => rfl
    | succ n ih => simp [List.replicate_succ, val, ih]
  obtain ⟨R, r1, r2⟩ := ref_times_l0 a b hla hlb ha hb (val a * val b) a.length 0 (List.replicate (a.length + b.length + 1) 0) (by omega) (by simp) (fun x hx => by
    rw [(List.mem_replicate.1 hx).2]; omega) (by rw [hz]; exact pow10_pos _) (by rw [hz]; simp)
  exact ⟨R, Ev.pos (by omega) (Ev.pos (by omega) r1), r2⟩
theorem ref_Times (p q : Bool) (a b : List Int) (hla : a.length ≤ 1000) (hlb : b.length ≤ 1000) (ha : Norm a) (hb : Norm b) :
    ∃ s r, Ev (fun k => payoffref01_Times.f k p a q b) (s, r) ∧ Norm r ∧ bv s r = bv p a * bv q b ∧ val r = val a * val b ∧ (s = true → bv s r < 0) ∧ (s = false → 0 ≤ bv s r) ∧ r.length ≤ a.length + b.length + 1 := by
  unfold payoffref01_Times.f
  obtain ⟨r, r1, r2, r3, r4⟩ := ref_times a b hla hlb ha.1 hb.1
  obtain ⟨s, s1, s2, s3, s4⟩ := ref_sign (p != q) r r2
  refine ⟨s, r, Ev.bind r1 (Ev.call s1 (Ev.ret rfl)), r2, ?_, r3, by rw [s2]; exact s3, by rw [s2]; exact s4, r4⟩
  rw [s2]; unfold bv; rw [r3]
  cases p <;> cases q <;> simp [Int.neg_mul, Int.mul_neg]

theorem ref_Mul (a b : Int) (ha : In a) (hb : In b) : Ev (fun k => payoffref01_Mul.f k a b) (fit (a * b)) := by
  unfold payoffref01_Mul.f
  obtain ⟨p, c, c1, c2, c3, -, -, c4⟩ := ref_from' a ha
  obtain ⟨q, d, d1, d2, d3, -, -, d4⟩ := ref_from' b hb
  obtain ⟨s, r, r1, r2, r3, -, -, -, r4⟩ := ref_Times p q c d (by omega) (by omega) c2 d2
  refine Ev.bind c1 (Ev.bind d1 (Ev.bind r1 (Ev.bind (ref_out s r (by omega) r2) (Ev.ret ?_))))
  rw [r3, c3, d3]
theorem NumProducts : payofflaw01_NumProducts.Pure := by
  intro a b ha hb
  have ha : In a := wf64 ha
  have hb : In b := wf64 hb
  refine Ev.rounds (g := fun k => payofflaw01_NumProducts.f k a b) ?_
  unfold payofflaw01_NumProducts.f
  exact Ev.bind (num_mul_ev a b ha hb) (Ev.bind (ref_Mul a b ha hb) (Ev.pos rfl (Ev.ret (by simp))))

end Go.Proofs.Ytogbeegkhgkdaaa.Pure
