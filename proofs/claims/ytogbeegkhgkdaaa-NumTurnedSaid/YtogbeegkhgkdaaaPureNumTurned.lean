/- NumTurned: for every pair of 64-bit numbers, Add and Mul answer alike the other way about, Sub takes back what Add laid on, and Sub is Add of Neg; no condition. -/
import Derived.Test.YtogbeegkhgkdaaaPNumTurnedx1
namespace Go.Proofs.Ytogbeegkhgkdaaa.Pure
open Go.RowKit Go.Proofs.Ytogbeegkhgkdaaa.PNumTurned Go.Proofs.YtogbeegkhgkdaaaW.PrintWords Go.Proofs.YtogbeegkhgkdaaaW.PrintLast Go.Proofs.YtogbeegkhgkdaaaW.PrintMore
set_option linter.unusedVariables false
set_option linter.unusedSimpArgs false

/-! Rounds: an answer that stands from some number of rounds on -/
theorem Ev.pos {α : Type} {c : Prop} [Decidable c] {a b : Nat → Option α} {r : α} (h : c) (k : Ev a r) : Ev (fun n => if c then a n else b n) r := by
  simpa only [if_pos h] using k
theorem Ev.neg {α : Type} {c : Prop} [Decidable c] {a b : Nat → Option α} {r : α} (h : ¬c) (k : Ev b r) : Ev (fun n => if c then a n else b n) r := by
  simpa only [if_neg h] using k
/-- A call without rounds. -/
theorem Ev.call {α β : Type} {x : Option α} {f : Nat → α → Option β} {a : α} {r : β} (h : x = some a) (k : Ev (fun n => f n a) r) : Ev (fun n => x.bind (f n)) r := by
  subst h; simpa only [Option.bind_some] using k
theorem Ev.ret {α : Type} {r s : α} (h : s = r) : Ev (fun _ => some s) r := ⟨0, fun _ _ => by rw [h]⟩
theorem w64 {n : Int} (h : -9223372036854775808 ≤ n ∧ n ≤ 9223372036854775807) : wrap64 n = n := by unfold wrap64; omega
theorem wu64 {n : Int} (h : 0 ≤ n ∧ n ≤ 18446744073709551615) : IntKind.u64.wrap n = n := by
  simp only [IntKind.wrap, IntKind.bits, IntKind.signed]; simp; omega
theorem wf64 {a : Int} (h : (Lit.int .i64 a).wf = true) : -9223372036854775808 ≤ a ∧ a ≤ 9223372036854775807 := by
  simp only [Lit.wf, IntKind.min, IntKind.max, IntKind.signed, IntKind.bits, Bool.and_eq_true, decide_eq_true_eq, if_true] at h
  omega
theorem wfu64 {a : Int} (h : (Lit.int .u64 a).wf = true) : 0 ≤ a ∧ a ≤ 18446744073709551615 := by
  simp only [Lit.wf, IntKind.min, IntKind.max, IntKind.signed, IntKind.bits, Bool.and_eq_true, decide_eq_true_eq] at h
  simp at h
  omega
theorem wf8 {a : Int} (h : (Lit.int .u8 a).wf = true) : 0 ≤ a ∧ a ≤ 255 := by
  simp only [Lit.wf, IntKind.min, IntKind.max, IntKind.signed, IntKind.bits, Bool.and_eq_true, decide_eq_true_eq] at h
  simp at h
  omega

/-! The range, and what a call answers by its true answer -/
def In (n : Int) : Prop := -9223372036854775808 ≤ n ∧ n ≤ 9223372036854775807
instance (n : Int) : Decidable (In n) := by unfold In; infer_instance
/-- What a call answers whose true answer is n. -/
def fit (n : Int) : Int × Int := if In n then (n, 0) else (0, 1)
theorem fit_in {n : Int} (h : In n) : fit n = (n, 0) := by rw [fit, if_pos h]
theorem fit_out {n : Int} (h : ¬In n) : fit n = (0, 1) := by rw [fit, if_neg h]

theorem num_mul (k : Nat) (a b : Int) (ha : In a) (hb : In b) : num_Mul.f (k + 1) a b = some (fit (a * b)) := by
  unfold In at ha hb
  unfold num_Mul.f
  by_cases a0 : a = 0
  · subst a0; simp [num_Mul.j0, fit, In]
  by_cases b0 : b = 0
  · subst b0; simp [num_Mul.j0, fit, In, a0]
  rw [if_neg a0]
  simp only [num_Mul.j0]
  rw [if_neg (by simpa using b0), if_neg b0]
  by_cases hin : In (a * b)
  · have hw : wrap64 (a * b) = a * b := w64 hin
    rw [fit_in hin, hw, Int.mul_tdiv_cancel _ b0, w64 ha, if_pos rfl]
    by_cases b1 : b = -1
    · subst b1
      rw [if_pos rfl, if_neg (by unfold In at hin; omega)]
    · rw [if_neg b1]
  · rw [fit_out hin]
    by_cases b1 : b = -1
    · subst b1
      have : a = -9223372036854775808 := by unfold In at hin; omega
      subst this
      simp [wrap64]
    · have hw : ¬ wrap64 (Int.tdiv (wrap64 (a * b)) b) = a := by
        intro he
        have h1 : -9223372036854775808 ≤ wrap64 (a * b) ∧ wrap64 (a * b) ≤ 9223372036854775807 := by unfold wrap64; omega
        generalize hx : wrap64 (a * b) = x at *
        have hq : -9223372036854775808 ≤ Int.tdiv x b ∧ Int.tdiv x b ≤ 9223372036854775807 := by
          have h2 := Int.natAbs_tdiv x b
          have h3 : (x.tdiv b).natAbs ≤ x.natAbs := by rw [h2]; exact Nat.div_le_self _ _
          have h4 : x = -9223372036854775808 → (x.tdiv b).natAbs ≠ 9223372036854775808 := by
            intro e
            rw [h2, e]
            have : 2 ≤ b.natAbs ∨ b = 1 := by omega
            rcases this with h | h
            · have h9 := Nat.div_le_div_left (a := 9223372036854775808) h (by omega)
              rw [show (-9223372036854775808 : Int).natAbs = 9223372036854775808 from rfl]
              change (9223372036854775808 : Nat) / b.natAbs ≠ 9223372036854775808
              generalize 9223372036854775808 / b.natAbs = z at *
              omega
            · subst h
              exfalso
              apply hin
              rw [Int.mul_one]; exact ha
          omega
        rw [w64 hq] at he
        have h5 := Int.mul_tdiv_add_tmod x b
        rw [he] at h5
        have h6 : (x.tmod b).natAbs < b.natAbs := by
          rw [Int.natAbs_tmod]; exact Nat.mod_lt _ (by omega)
        have h7 : b * a = a * b := Int.mul_comm _ _
        rw [h7] at h5
        unfold wrap64 at hx
        unfold In at hin
        generalize a * b = y at *
        omega
      rw [if_neg hw]
theorem num_mul_ev (a b : Int) (ha : In a) (hb : In b) : Ev (fun k => num_Mul.f k a b) (fit (a * b)) := ⟨1, fun k hk => by
  obtain ⟨m, rfl⟩ : ∃ m, k = m + 1 := ⟨k - 1, by omega⟩
  exact num_mul m a b ha hb⟩

theorem num_add (a b : Int) (ha : In a) (hb : In b) : num_Add.f a b = some (fit (a + b)) := by
  unfold num_Add.f
  unfold In at ha hb
  by_cases h : In (a + b)
  · rw [fit_in h]
    unfold In at h
    rw [w64 h, if_neg]
    have : (decide (b ≥ 0)) = decide (a + b ≥ a) := by rw [decide_eq_decide]; omega
    rw [this]; simp
  · rw [fit_out h]
    unfold In at h
    rw [if_pos]
    have : (decide (b ≥ 0)) = !decide (wrap64 (a + b) ≥ a) := by
      rw [← decide_not, decide_eq_decide]; unfold wrap64; omega
    rw [this]; simp

theorem num_sub (a b : Int) (ha : In a) (hb : In b) : num_Sub.f a b = some (fit (a - b)) := by
  unfold num_Sub.f
  unfold In at ha hb
  by_cases h : In (a - b)
  · rw [fit_in h]
    unfold In at h
    rw [w64 h, if_neg]
    have : (decide (b ≥ 0)) = decide (a - b ≤ a) := by rw [decide_eq_decide]; omega
    rw [this]; simp
  · rw [fit_out h]
    unfold In at h
    rw [if_pos]
    have : (decide (b ≥ 0)) = !decide (wrap64 (a - b) ≤ a) := by
      rw [← decide_not, decide_eq_decide]; unfold wrap64; omega
    rw [this]; simp
theorem num_neg (a : Int) (ha : In a) : num_Neg.f a = some (fit (-a)) := by
  unfold num_Neg.f
  rw [num_sub _ _ (by unfold In; omega) ha, Int.zero_sub]; rfl

theorem has_0 (x n : Int) : payofflaw01_has.f x n = some (x == n) := rfl
theorem turned_j2 (a b : Int) (ha : In a) (hb : In b) : Ev (fun k => payofflaw01_NumTurned.j2 k a b) true := by
  refine Ev.step (fun k => payofflaw01_NumTurned.j2.eq_2 _ _ _) ?_
  refine Ev.call (num_neg b hb) ?_
  refine Ev.call (has_0 _ _) ?_
  by_cases h : In (-b)
  · rw [fit_in h]
    refine Ev.pos rfl ?_
    refine Ev.call (num_sub a b ha hb) ?_
    refine Ev.call (num_add a (-b) ha h) ?_
    rw [Int.sub_eq_add_neg]
    refine Ev.pos rfl (Ev.ret (by simp))
  · have : b = -9223372036854775808 := by unfold In at *; omega
    subst this
    rw [fit_out h]
    exact Ev.neg (by decide) (Ev.pos rfl (Ev.call (has_0 _ _) (Ev.ret rfl)))
theorem turned_j1 (a b : Int) (ha : In a) (hb : In b) : Ev (fun k => payofflaw01_NumTurned.j1 k a b (fit (a + b)).1 (fit (a + b)).2 false) true := by
  refine Ev.step (fun k => payofflaw01_NumTurned.j1.eq_2 _ _ _ _ _ _) ?_
  refine Ev.neg (by decide) ?_
  refine Ev.call (has_0 _ _) ?_
  by_cases h : In (a + b)
  · rw [fit_in h]
    refine Ev.pos rfl ?_
    refine Ev.call (num_sub (a + b) b h hb) ?_
    rw [Int.add_sub_cancel, fit_in ha]
    exact Ev.pos rfl (Ev.call (has_0 _ _) (Ev.pos rfl (turned_j2 a b ha hb)))
  · rw [fit_out h]
    refine Ev.neg (by decide) (Ev.call (has_0 _ _) (Ev.pos rfl (Ev.pos rfl (Ev.neg ?_ (turned_j2 a b ha hb)))))
    have : decide (a < 0) = decide (b < 0) := by rw [decide_eq_decide]; unfold In at *; omega
    rw [this]; simp
theorem NumTurned : payofflaw01_NumTurned.Pure := by
  intro a b ha hb
  have ha : In a := wf64 ha
  have hb : In b := wf64 hb
  refine Ev.rounds (g := fun k => payofflaw01_NumTurned.f k a b) ?_
  unfold payofflaw01_NumTurned.f
  refine Ev.call (num_add a b ha hb) ?_
  refine Ev.call (num_add b a hb ha) ?_
  rw [Int.add_comm b a]
  refine Ev.pos rfl ?_
  refine Ev.step (fun k => payofflaw01_NumTurned.j0.eq_2 _ _ _ _ _ _) ?_
  refine Ev.neg (by simp) ?_
  refine Ev.bind (num_mul_ev a b ha hb) ?_
  refine Ev.bind (num_mul_ev b a hb ha) ?_
  rw [Int.mul_comm b a]
  refine Ev.pos rfl ?_
  rw [show ((fit (a * b)).2 != (fit (a * b)).2) = false by simp]
  exact turned_j1 a b ha hb

end Go.Proofs.Ytogbeegkhgkdaaa.Pure
