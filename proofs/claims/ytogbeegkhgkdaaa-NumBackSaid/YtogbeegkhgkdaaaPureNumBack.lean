/- NumBack: for every pair of 64-bit numbers, a is b times its quotient and what Mod leaves, which has the sign of a, or is 0, and is nearer to 0 than b; no condition. -/
import Derived.Test.YtogbeegkhgkdaaaPNumBackx2
namespace Go.Proofs.Ytogbeegkhgkdaaa.Pure
open Go.RowKit Go.Proofs.Ytogbeegkhgkdaaa.PNumBack Go.Proofs.YtogbeegkhgkdaaaW.PrintWords Go.Proofs.YtogbeegkhgkdaaaW.PrintLast Go.Proofs.YtogbeegkhgkdaaaW.PrintMore
set_option linter.unusedVariables false
set_option linter.unusedSimpArgs false

/-! Rounds: an answer that stands from some number of rounds on -/
theorem Ev.pos {α : Type} {c : Prop} [Decidable c] {a b : Nat → Option α} {r : α} (h : c) (k : Ev a r) : Ev (fun n => if c then a n else b n) r := by
  simpa only [if_pos h] using k
theorem Ev.neg {α : Type} {c : Prop} [Decidable c] {a b : Nat → Option α} {r : α} (h : ¬c) (k : Ev b r) : Ev (fun n => if c then a n else b n) r := by
  simpa only [if_neg h] using k
/-- A call without rounds. -/
theorem Ev.call {α β : Type} {x : Option α} {f : Nat → α → Option β} {a : α} {r : β} (h : x = some a) (k : Ev (fun n => f n a) r) : Ev (fun n => x.bind (f n)) r := by
  subst h; simpa only [Option.bind_some] using k
theorem Ev.ret {α : Type} {r s : α} (h : s = r) : Ev (fun _ => some s) r := ⟨0, fun _ _ => by rw [h]⟩
theorem w64 {n : Int} (h : -9223372036854775808 ≤ n ∧ n ≤ 9223372036854775807) : wrap64 n = n := by unfold wrap64; omega
theorem wu64 {n : Int} (h : 0 ≤ n ∧ n ≤ 18446744073709551615) : IntKind.u64.wrap n = n := by
  simp only [IntKind.wrap, IntKind.bits, IntKind.signed]; simp; omega
theorem wf64 {a : Int} (h : (Lit.int .i64 a).wf = true) : -9223372036854775808 ≤ a ∧ a ≤ 9223372036854775807 := by
  simp only [Lit.wf, IntKind.min, IntKind.max, IntKind.signed, IntKind.bits, Bool.and_eq_true, decide_eq_true_eq, if_true] at h
  omega
theorem wfu64 {a : Int} (h : (Lit.int .u64 a).wf = true) : 0 ≤ a ∧ a ≤ 18446744073709551615 := by
  simp only [Lit.wf, IntKind.min, IntKind.max, IntKind.signed, IntKind.bits, Bool.and_eq_true, decide_eq_true_eq] at h
  simp at h
  omega
theorem wf8 {a : Int} (h : (Lit.int .u8 a).wf = true) : 0 ≤ a ∧ a ≤ 255 := by
  simp only [Lit.wf, IntKind.min, IntKind.max, IntKind.signed, IntKind.bits, Bool.and_eq_true, decide_eq_true_eq] at h
  simp at h
  omega

/-! The range, and what a call answers by its true answer -/
def In (n : Int) : Prop := -9223372036854775808 ≤ n ∧ n ≤ 9223372036854775807
instance (n : Int) : Decidable (In n) := by unfold In; infer_instance
/-- What a call answers whose true answer is n. -/
def fit (n : Int) : Int × Int := if In n then (n, 0) else (0, 1)
theorem fit_in {n : Int} (h : In n) : fit n = (n, 0) := by rw [fit, if_pos h]
theorem fit_out {n : Int} (h : ¬In n) : fit n = (0, 1) := by rw [fit, if_neg h]

theorem num_mul (k : Nat) (a b : Int) (ha : In a) (hb : In b) : num_Mul.f (k + 1) a b = some (fit (a * b)) := by
  unfold In at ha hb
  unfold num_Mul.f
  by_cases a0 : a = 0
  · subst a0; simp [num_Mul.j0, fit, In]
  by_cases b0 : b = 0
  · subst b0; simp [num_Mul.j0, fit, In, a0]
  rw [if_neg a0]
  simp only [num_Mul.j0]
  rw [if_neg (by simpa using b0), if_neg b0]
  by_cases hin : In (a * b)
  · have hw : wrap64 (a * b) = a * b := w64 hin
    rw [fit_in hin, hw, Int.mul_tdiv_cancel _ b0, w64 ha, if_pos rfl]
    by_cases b1 : b = -1
    · subst b1
      rw [if_pos rfl, if_neg (by unfold In at hin; omega)]
    · rw [if_neg b1]
  · rw [fit_out hin]
    by_cases b1 : b = -1
    · subst b1
      have : a = -9223372036854775808 := by unfold In at hin; omega
      subst this
      simp [wrap64]
    · have hw : ¬ wrap64 (Int.tdiv (wrap64 (a * b)) b) = a := by
        intro he
        have h1 : -9223372036854775808 ≤ wrap64 (a * b) ∧ wrap64 (a * b) ≤ 9223372036854775807 := by unfold wrap64; omega
        generalize hx : wrap64 (a * b) = x at *
        have hq : -9223372036854775808 ≤ Int.tdiv x b ∧ Int.tdiv x b ≤ 9223372036854775807 := by
          have h2 := Int.natAbs_tdiv x b
          have h3 : (x.tdiv b).natAbs ≤ x.natAbs := by rw [h2]; exact Nat.div_le_self _ _
          have h4 : x = -9223372036854775808 → (x.tdiv b).natAbs ≠ 9223372036854775808 := by
            intro e
            rw [h2, e]
            have : 2 ≤ b.natAbs ∨ b = 1 := by omega
            rcases this with h | h
            · have h9 := Nat.div_le_div_left (a := 9223372036854775808) h (by omega)
              rw [show (-9223372036854775808 : Int).natAbs = 9223372036854775808 from rfl]
              change (9223372036854775808 : Nat) / b.natAbs ≠ 9223372036854775808
              generalize 9223372036854775808 / b.natAbs = z at *
              omega
            · subst h
              exfalso
              apply hin
              rw [Int.mul_one]; exact ha
          omega
        rw [w64 hq] at he
        have h5 := Int.mul_tdiv_add_tmod x b
        rw [he] at h5
        have h6 : (x.tmod b).natAbs < b.natAbs := by
          rw [Int.natAbs_tmod]; exact Nat.mod_lt _ (by omega)
        have h7 : b * a = a * b := Int.mul_comm _ _
        rw [h7] at h5
        unfold wrap64 at hx
        unfold In at hin
        generalize a * b = y at *
        omega
      rw [if_neg hw]
theorem num_mul_ev (a b : Int) (ha : In a) (hb : In b) : Ev (fun k => num_Mul.f k a b) (fit (a * b)) := ⟨1, fun k hk => by
  obtain ⟨m, rfl⟩ : ∃ m, k = m + 1 := ⟨k - 1, by omega⟩
  exact num_mul m a b ha hb⟩

theorem num_add (a b : Int) (ha : In a) (hb : In b) : num_Add.f a b = some (fit (a + b)) := by
  unfold num_Add.f
  unfold In at ha hb
  by_cases h : In (a + b)
  · rw [fit_in h]
    unfold In at h
    rw [w64 h, if_neg]
    have : (decide (b ≥ 0)) = decide (a + b ≥ a) := by rw [decide_eq_decide]; omega
    rw [this]; simp
  · rw [fit_out h]
    unfold In at h
    rw [if_pos]
    have : (decide (b ≥ 0)) = !decide (wrap64 (a + b) ≥ a) := by
      rw [← decide_not, decide_eq_decide]; unfold wrap64; omega
    rw [this]; simp

theorem num_sub (a b : Int) (ha : In a) (hb : In b) : num_Sub.f a b = some (fit (a - b)) := by
  unfold num_Sub.f
  unfold In at ha hb
  by_cases h : In (a - b)
  · rw [fit_in h]
    unfold In at h
    rw [w64 h, if_neg]
    have : (decide (b ≥ 0)) = decide (a - b ≤ a) := by rw [decide_eq_decide]; omega
    rw [this]; simp
  · rw [fit_out h]
    unfold In at h
    rw [if_pos]
    have : (decide (b ≥ 0)) = !decide (wrap64 (a - b) ≤ a) := by
      rw [← decide_not, decide_eq_decide]; unfold wrap64; omega
    rw [this]; simp
theorem num_neg (a : Int) (ha : In a) : num_Neg.f a = some (fit (-a)) := by
  unfold num_Neg.f
  rw [num_sub _ _ (by unfold In; omega) ha, Int.zero_sub]; rfl

theorem tdiv_in {a b : Int} (ha : In a) (hb : b ≠ -1) : In (Int.tdiv a b) := by
  unfold In at *
  have h2 : (Int.tdiv a b).natAbs = a.natAbs / b.natAbs := Int.natAbs_tdiv a b
  have h3 : a.natAbs / b.natAbs ≤ a.natAbs := Nat.div_le_self _ _
  by_cases e : a = -9223372036854775808
  · subst e
    have : 2 ≤ b.natAbs ∨ b = 1 ∨ b = 0 := by omega
    rcases this with h | h | h
    · have h9 := Nat.div_le_div_left (a := 9223372036854775808) h (by omega)
      rw [show (-9223372036854775808 : Int).natAbs = 9223372036854775808 from rfl] at h2
      omega
    · subst h; rw [Int.tdiv_one]; exact ha
    · subst h; rw [Int.tdiv_zero]; omega
  · omega
theorem num_div {a b : Int} (ha : In a) (hb : b ≠ 0) : num_Div.f a b = some (fit (Int.tdiv a b)) := by
  unfold num_Div.f
  rw [if_neg hb]
  by_cases h : b = -1
  · subst h
    rw [if_pos rfl, num_neg a ha, Int.tdiv_neg, Int.tdiv_one]; rfl
  · have := tdiv_in ha h
    rw [if_neg h, w64 this, fit_in this]
theorem num_mod {a b : Int} (hb : b ≠ 0) : num_Mod.f a b = some (Int.tmod a b, 0) := by
  unfold num_Mod.f
  rw [if_neg hb]
  by_cases h : b = -1
  · subst h
    rw [if_pos rfl, Int.tmod_neg, Int.tmod_one]
  · rw [if_neg h]
theorem tmod_lt {a b : Int} (hb : b ≠ 0) : (Int.tmod a b).natAbs < b.natAbs := by
  rw [Int.natAbs_tmod]; exact Nat.mod_lt _ (by omega)
theorem tmod_le (a b : Int) : (Int.tmod a b).natAbs ≤ a.natAbs := by
  rw [Int.natAbs_tmod]; exact Nat.mod_le _ _
theorem tmod_pos {a b : Int} (h : 0 ≤ a) : 0 ≤ Int.tmod a b := Int.tmod_nonneg b h
theorem tmod_neg {a b : Int} (h : a ≤ 0) : Int.tmod a b ≤ 0 := by
  have := Int.tmod_nonneg b (show 0 ≤ -a by omega)
  rw [Int.neg_tmod] at this
  omega

theorem has_0 (x n : Int) : payofflaw01_has.f x n = some (x == n) := rfl
theorem back_j1 (a b : Int) (ha : In a) (hb : In b) (h : b ≠ 0) (hl : ¬ (a = -9223372036854775808 ∧ b = -1)) : Ev (fun k => payofflaw01_NumBack.j1 k a b (Int.tdiv a b) (Int.tmod a b) false) true := by
  have h1 := tmod_lt (a := a) h
  have h2 := tmod_le a b
  have h3 := tmod_pos (a := a) (b := b)
  have h4 := tmod_neg (a := a) (b := b)
  have h5 := Int.mul_tdiv_add_tmod a b
  have hq : In (Int.tdiv a b) := by
    by_cases e : b = -1
    · subst e; rw [Int.tdiv_neg, Int.tdiv_one]; unfold In at *; omega
    · exact tdiv_in ha e
  have hp : In (b * Int.tdiv a b) := by
    unfold In at *
    generalize b * Int.tdiv a b = y at *
    omega
  have key : Ev (fun k => payofflaw01_NumBack.j3 k a b (Int.tdiv a b) (Int.tmod a b) true) true := by
    refine Ev.step (fun k => payofflaw01_NumBack.j3.eq_2 _ _ _ _ _ _) ?_
    refine Ev.bind (num_mul_ev _ _ hb hq) ?_
    rw [fit_in hp]
    refine Ev.call (num_add _ _ hp (by unfold In at *; omega)) ?_
    rw [h5, fit_in ha]
    exact Ev.pos rfl (Ev.call (has_0 _ _) (Ev.pos rfl (Ev.call (has_0 _ _) (Ev.pos rfl (Ev.ret (by simp))))))
  refine Ev.step (fun k => payofflaw01_NumBack.j1.eq_2 _ _ _ _ _ _) (Ev.neg (by decide) ?_)
  generalize hr : Int.tmod a b = r at *
  have hw : wrap64 (-r) = -r := w64 (by unfold In at *; omega)
  rw [hw]
  have g : ∀ x9 : Bool, (b > 0 → x9 = true) → Ev (fun k => payofflaw01_NumBack.j2 k a b (Int.tdiv a b) r x9) true := by
    intro x9 hx
    refine Ev.step (fun k => payofflaw01_NumBack.j2.eq_2 _ _ _ _ _ _) ?_
    rw [hw]
    by_cases e : b < 0
    · refine Ev.pos e (Ev.pos (by omega) ?_)
      rw [show decide (-r > b) = true from decide_eq_true (by omega)]
      exact key
    · refine Ev.neg e ?_
      rw [hx (by omega)]
      exact key
  by_cases e : r < b
  · exact Ev.pos e (g _ (fun hb => decide_eq_true (by omega)))
  · exact Ev.neg e (g _ (fun hb => by omega))
theorem NumBack : payofflaw01_NumBack.Pure := by
  intro a b ha hb
  have ha : In a := wf64 ha
  have hb : In b := wf64 hb
  refine Ev.rounds (g := fun k => payofflaw01_NumBack.f k a b) ?_
  unfold payofflaw01_NumBack.f
  by_cases h : b = 0
  · subst h
    refine Ev.call (a := (0, 2)) (by simp [num_Div.f]) (Ev.call (a := (0, 2)) (by simp [num_Mod.f]) (Ev.pos rfl ?_))
    exact Ev.call (has_0 _ _) (Ev.pos rfl (Ev.call (has_0 _ _) (Ev.pos rfl (Ev.pos rfl (Ev.ret rfl)))))
  · refine Ev.call (num_div ha h) (Ev.call (num_mod h) (Ev.neg h ?_))
    by_cases hl : a = -9223372036854775808 ∧ b = -1
    · obtain ⟨rfl, rfl⟩ := hl
      refine Ev.pos rfl (Ev.step (fun k => payofflaw01_NumBack.j0.eq_2 _ _ _ _ _ _ _ _) (Ev.pos rfl ?_))
      rw [show fit (Int.tdiv (-9223372036854775808) (-1)) = (0, 1) by decide]
      exact Ev.call (has_0 _ _) (Ev.pos rfl (Ev.pos rfl (Ev.pos rfl (Ev.call (has_0 _ _) (Ev.ret rfl)))))
    · have hq : In (Int.tdiv a b) := by
        by_cases e : b = -1
        · subst e; rw [Int.tdiv_neg, Int.tdiv_one]; unfold In at *; omega
        · exact tdiv_in ha e
      have g : Ev (fun k => payofflaw01_NumBack.j0 k a b (fit (Int.tdiv a b)).1 (fit (Int.tdiv a b)).2 (Int.tmod a b) 0 false) true := by
        rw [fit_in hq]
        refine Ev.step (fun k => payofflaw01_NumBack.j0.eq_2 _ _ _ _ _ _ _ _) (Ev.neg (by decide) ?_)
        refine Ev.call (has_0 _ _) (Ev.pos rfl (Ev.call (has_0 _ _) (Ev.pos rfl ?_)))
        have h3 := tmod_pos (a := a) (b := b)
        have h4 := tmod_neg (a := a) (b := b)
        have k1 := back_j1 a b ha hb h hl
        by_cases e1 : Int.tmod a b > 0
        · refine Ev.pos e1 (Ev.neg (by omega) (Ev.neg (by omega) k1))
        · refine Ev.neg e1 ?_
          by_cases e2 : Int.tmod a b < 0
          · refine Ev.pos e2 ?_
            rw [show decide (a > 0) = false from decide_eq_false (by omega)]
            exact k1
          · exact Ev.neg e2 k1
      by_cases e : a = -9223372036854775808
      · refine Ev.pos e ?_
        rw [show (b == -1) = false by simp; omega]
        exact g
      · exact Ev.neg e g

end Go.Proofs.Ytogbeegkhgkdaaa.Pure
