/- NumTimes: for every pair of 64-bit numbers, Mul(a, n) with 0 <= n <= 300 is what n Adds of a come to; no condition. -/
import Derived.Test.YtogbeegkhgkdaaaPNumTimesx1
namespace Go.Proofs.Ytogbeegkhgkdaaa.Pure
open Go.RowKit Go.Proofs.Ytogbeegkhgkdaaa.PNumTimes Go.Proofs.YtogbeegkhgkdaaaW.PrintWords Go.Proofs.YtogbeegkhgkdaaaW.PrintLast Go.Proofs.YtogbeegkhgkdaaaW.PrintMore
set_option linter.unusedVariables false
set_option linter.unusedSimpArgs false

/-! Rounds: an answer that stands from some number of rounds on -/
theorem Ev.pos {α : Type} {c : Prop} [Decidable c] {a b : Nat → Option α} {r : α} (h : c) (k : Ev a r) : Ev (fun n => if c then a n else b n) r := by
  simpa only [if_pos h] using k
theorem Ev.neg {α : Type} {c : Prop} [Decidable c] {a b : Nat → Option α} {r : α} (h : ¬c) (k : Ev b r) : Ev (fun n => if c then a n else b n) r := by
  simpa only [if_neg h] using k
/-- A call without rounds. -/
theorem Ev.call {α β : Type} {x : Option α} {f : Nat → α → Option β} {a : α} {r : β} (h : x = some a) (k : Ev (fun n => f n a) r) : Ev (fun n => x.bind (f n)) r := by
  subst h; simpa only [Option.bind_some] using k
theorem Ev.ret {α : Type} {r s : α} (h : s = r) : Ev (fun _ => some s) r := ⟨0, fun _ _ => by rw [h]⟩
theorem w64 {n : Int} (h : -9223372036854775808 ≤ n ∧ n ≤ 9223372036854775807) : wrap64 n = n := by unfold wrap64; omega
theorem wu64 {n : Int} (h : 0 ≤ n ∧ n ≤ 18446744073709551615) : IntKind.u64.wrap n = n := by
  simp only [IntKind.wrap, IntKind.bits, IntKind.signed]; simp; omega
theorem wf64 {a : Int} (h : (Lit.int .i64 a).wf = true) : -9223372036854775808 ≤ a ∧ a ≤ 9223372036854775807 := by
  simp only [Lit.wf, IntKind.min, IntKind.max, IntKind.signed, IntKind.bits, Bool.and_eq_true, decide_eq_true_eq, if_true] at h
  omega
theorem wfu64 {a : Int} (h : (Lit.int .u64 a).wf = true) : 0 ≤ a ∧ a ≤ 18446744073709551615 := by
  simp only [Lit.wf, IntKind.min, IntKind.max, IntKind.signed, IntKind.bits, Bool.and_eq_true, decide_eq_true_eq] at h
  simp at h
  omega
theorem wf8 {a : Int} (h : (Lit.int .u8 a).wf = true) : 0 ≤ a ∧ a ≤ 255 := by
  simp only [Lit.wf, IntKind.min, IntKind.max, IntKind.signed, IntKind.bits, Bool.and_eq_true, decide_eq_true_eq] at h
  simp at h
  omega

/-! The range, and what a call answers by its true answer -/
def In (n : Int) : Prop := -9223372036854775808 ≤ n ∧ n ≤ 9223372036854775807
instance (n : Int) : Decidable (In n) := by unfold In; infer_instance
/-- What a call answers whose true answer is n. -/
def fit (n : Int) : Int × Int := if In n then (n, 0) else (0, 1)
theorem fit_in {n : Int} (h : In n) : fit n = (n, 0) := by rw [fit, if_pos h]
theorem fit_out {n : Int} (h : ¬In n) : fit n = (0, 1) := by rw [fit, if_neg h]

theorem num_mul (k : Nat) (a b : Int) (ha : In a) (hb : In b) : num_Mul.f (k + 1) a b = some (fit (a * b)) := by
  unfold In at ha hb
  unfold num_Mul.f
  by_cases a0 : a = 0
  · subst a0; simp [num_Mul.j0, fit, In]
  by_cases b0 : b = 0
  · subst b0; simp [num_Mul.j0, fit, In, a0]
  rw [if_neg a0]
  simp only [num_Mul.j0]
  rw [if_neg (by simpa using b0), if_neg b0]
  by_cases hin : In (a * b)
  · have hw : wrap64 (a * b) = a * b := w64 hin
    rw [fit_in hin, hw, Int.mul_tdiv_cancel _ b0, w64 ha, if_pos rfl]
    by_cases b1 : b = -1
    · subst b1
      rw [if_pos rfl, if_neg (by unfold In at hin; omega)]
    · rw [if_neg b1]
  · rw [fit_out hin]
    by_cases b1 : b = -1
    · subst b1
      have : a = -9223372036854775808 := by unfold In at hin; omega
      subst this
      simp [wrap64]
    · have hw : ¬ wrap64 (Int.tdiv (wrap64 (a * b)) b) = a := by
        intro he
        have h1 : -9223372036854775808 ≤ wrap64 (a * b) ∧ wrap64 (a * b) ≤ 9223372036854775807 := by unfold wrap64; omega
        generalize hx : wrap64 (a * b) = x at *
        have hq : -9223372036854775808 ≤ Int.tdiv x b ∧ Int.tdiv x b ≤ 9223372036854775807 := by
          have h2 := Int.natAbs_tdiv x b
          have h3 : (x.tdiv b).natAbs ≤ x.natAbs := by rw [h2]; exact Nat.div_le_self _ _
          have h4 : x = -9223372036854775808 → (x.tdiv b).natAbs ≠ 9223372036854775808 := by
            intro e
            rw [h2, e]
            have : 2 ≤ b.natAbs ∨ b = 1 := by omega
            rcases this with h | h
            · have h9 := Nat.div_le_div_left (a := 9223372036854775808) h (by omega)
              rw [show (-9223372036854775808 : Int).natAbs = 9223372036854775808 from rfl]
              change (9223372036854775808 : Nat) / b.natAbs ≠ 9223372036854775808
              generalize 9223372036854775808 / b.natAbs = z at *
              omega
            · subst h
              exfalso
              apply hin
              rw [Int.mul_one]; exact ha
          omega
        rw [w64 hq] at he
        have h5 := Int.mul_tdiv_add_tmod x b
        rw [he] at h5
        have h6 : (x.tmod b).natAbs < b.natAbs := by
          rw [Int.natAbs_tmod]; exact Nat.mod_lt _ (by omega)
        have h7 : b * a = a * b := Int.mul_comm _ _
        rw [h7] at h5
        unfold wrap64 at hx
        unfold In at hin
        generalize a * b = y at *
        omega
      rw [if_neg hw]
theorem num_mul_ev (a b : Int) (ha : In a) (hb : In b) : Ev (fun k => num_Mul.f k a b) (fit (a * b)) := ⟨1, fun k hk => by
  obtain ⟨m, rfl⟩ : ∃ m, k = m + 1 := ⟨k - 1, by omega⟩
  exact num_mul m a b ha hb⟩

theorem num_add (a b : Int) (ha : In a) (hb : In b) : num_Add.f a b = some (fit (a + b)) := by
  unfold num_Add.f
  unfold In at ha hb
  by_cases h : In (a + b)
  · rw [fit_in h]
    unfold In at h
    rw [w64 h, if_neg]
    have : (decide (b ≥ 0)) = decide (a + b ≥ a) := by rw [decide_eq_decide]; omega
    rw [this]; simp
  · rw [fit_out h]
    unfold In at h
    rw [if_pos]
    have : (decide (b ≥ 0)) = !decide (wrap64 (a + b) ≥ a) := by
      rw [← decide_not, decide_eq_decide]; unfold wrap64; omega
    rw [this]; simp

theorem out_mono {a i n : Int} (h0 : 0 ≤ i) (h : i ≤ n) (ho : ¬In (i * a)) : ¬In (n * a) := by
  unfold In at *
  rcases Int.le_total 0 a with h1 | h1
  · have h2 := Int.mul_le_mul_of_nonneg_right h h1
    have h3 := Int.mul_nonneg h0 h1
    omega
  · have h2 := Int.mul_le_mul_of_nonpos_right h h1
    have h3 := Int.mul_nonpos_of_nonneg_of_nonpos h0 h1
    omega
theorem has_0 (x n : Int) : payofflaw01_has.f x n = some (x == n) := by
  unfold payofflaw01_has.f; rfl
theorem times_end (a n s f : Int) (ha : In a) (hn : In n) (h : (s, f) = fit (a * n)) :
    Ev (fun k => (num_Mul.f k a n).bind fun bt104 => ((num_Mul.f k 1 a).bind fun bt106 => (if bt104.1 = s then (if f = bt104.2 then (if bt106.1 = a then ((payofflaw01_has.f bt106.2 0).bind fun t108 => (some t108)) else (some false)) else (some false)) else (some false)))) true := by
  refine Ev.bind (num_mul_ev a n ha hn) ?_
  refine Ev.bind (num_mul_ev 1 a (by unfold In; omega) ha) ?_
  rw [← h, Int.one_mul, fit_in ha]
  simp only [if_true, has_0, Option.bind_some]
  exact Ev.ret rfl
theorem times_l0 (a n : Int) (ha : In a) (hn : 0 ≤ n ∧ n ≤ 300) : ∀ (d : Nat) (i s f : Int), 0 ≤ i → i ≤ n → n - i = d →
    ((f = 0 ∧ s = i * a ∧ In s) ∨ (f = 1 ∧ s = 0 ∧ ¬In (i * a))) → Ev (fun k => payofflaw01_NumTimes.l0 k a n s f i) true := by
  have hn' : In n := by unfold In; omega
  intro d
  induction d with
  | zero =>
    intro i s f h0 h1 hd h
    have : i = n := by omega
    subst this
    refine Ev.step (fun k => payofflaw01_NumTimes.l0.eq_2 _ _ _ _ _ _) ?_
    refine Ev.neg (by omega) ?_
    refine times_end _ _ _ _ ha hn' ?_
    rcases h with ⟨rfl, rfl, h⟩ | ⟨rfl, rfl, h⟩
    · rw [Int.mul_comm a, fit_in h]
    · rw [Int.mul_comm a, fit_out h]
  | succ d ih =>
    intro i s f h0 h1 hd h
    refine Ev.step (fun k => payofflaw01_NumTimes.l0.eq_2 _ _ _ _ _ _) ?_
    refine Ev.pos (by omega) ?_
    refine Ev.call (has_0 _ _) ?_
    rcases h with ⟨rfl, rfl, h⟩ | ⟨rfl, rfl, h⟩
    · refine Ev.pos rfl ?_
      refine Ev.call (num_add _ _ h ha) ?_
      rw [w64 (by omega), show i * a + a = (i + 1) * a by rw [Int.add_mul, Int.one_mul]]
      refine ih _ _ _ (by omega) (by omega) (by omega) ?_
      by_cases hi : In ((i + 1) * a)
      · rw [fit_in hi]; exact .inl ⟨rfl, rfl, hi⟩
      · rw [fit_out hi]; exact .inr ⟨rfl, rfl, hi⟩
    · refine Ev.neg (by decide) ?_
      refine times_end _ _ _ _ ha hn' ?_
      rw [Int.mul_comm a, fit_out (out_mono h0 (by omega) h)]

theorem NumTimes : payofflaw01_NumTimes.Pure := by
  intro a n ha hn
  have ha := wf64 ha
  have hn := wf64 hn
  refine Ev.rounds (g := fun k => payofflaw01_NumTimes.f k a n) ?_
  unfold payofflaw01_NumTimes.f
  by_cases h : n < 0
  · refine Ev.pos h ?_
    refine Ev.step (fun k => payofflaw01_NumTimes.j0.eq_2 _ _ _ _) ?_
    exact Ev.pos rfl (Ev.ret rfl)
  · refine Ev.neg h ?_
    refine Ev.step (fun k => payofflaw01_NumTimes.j0.eq_2 _ _ _ _) ?_
    by_cases h3 : n > 300
    · exact Ev.pos (by simpa using h3) (Ev.ret rfl)
    · refine Ev.neg (by simpa using h3) ?_
      exact times_l0 a n ha (by omega) n.toNat 0 0 0 (by omega) (by omega) (by omega) (.inl ⟨rfl, by simp, by unfold In; omega⟩)

end Go.Proofs.Ytogbeegkhgkdaaa.Pure
