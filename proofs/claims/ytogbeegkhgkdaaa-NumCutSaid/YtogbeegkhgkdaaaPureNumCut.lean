/- NumCut: for every list of 64-bit numbers and every place in it, Sum of the whole is Sum of the beginning with the rest added one by one, and it goes wrong where the first of the beginnings goes wrong; no condition. -/
import Derived.Test.YtogbeegkhgkdaaaPNumCutx1
namespace Go.Proofs.Ytogbeegkhgkdaaa.Pure
open Go.RowKit Go.Proofs.Ytogbeegkhgkdaaa.PNumCut Go.Proofs.YtogbeegkhgkdaaaW.PrintWords Go.Proofs.YtogbeegkhgkdaaaW.PrintLast Go.Proofs.YtogbeegkhgkdaaaW.PrintMore
set_option linter.unusedVariables false
set_option linter.unusedSimpArgs false

/-! Rounds: an answer that stands from some number of rounds on -/
theorem Ev.pos {α : Type} {c : Prop} [Decidable c] {a b : Nat → Option α} {r : α} (h : c) (k : Ev a r) : Ev (fun n => if c then a n else b n) r := by
  simpa only [if_pos h] using k
theorem Ev.neg {α : Type} {c : Prop} [Decidable c] {a b : Nat → Option α} {r : α} (h : ¬c) (k : Ev b r) : Ev (fun n => if c then a n else b n) r := by
  simpa only [if_neg h] using k
/-- A call without rounds. -/
theorem Ev.call {α β : Type} {x : Option α} {f : Nat → α → Option β} {a : α} {r : β} (h : x = some a) (k : Ev (fun n => f n a) r) : Ev (fun n => x.bind (f n)) r := by
  subst h; simpa only [Option.bind_some] using k
theorem Ev.ret {α : Type} {r s : α} (h : s = r) : Ev (fun _ => some s) r := ⟨0, fun _ _ => by rw [h]⟩
theorem w64 {n : Int} (h : -9223372036854775808 ≤ n ∧ n ≤ 9223372036854775807) : wrap64 n = n := by unfold wrap64; omega
theorem wu64 {n : Int} (h : 0 ≤ n ∧ n ≤ 18446744073709551615) : IntKind.u64.wrap n = n := by
  simp only [IntKind.wrap, IntKind.bits, IntKind.signed]; simp; omega
theorem wf64 {a : Int} (h : (Lit.int .i64 a).wf = true) : -9223372036854775808 ≤ a ∧ a ≤ 9223372036854775807 := by
  simp only [Lit.wf, IntKind.min, IntKind.max, IntKind.signed, IntKind.bits, Bool.and_eq_true, decide_eq_true_eq, if_true] at h
  omega
theorem wfu64 {a : Int} (h : (Lit.int .u64 a).wf = true) : 0 ≤ a ∧ a ≤ 18446744073709551615 := by
  simp only [Lit.wf, IntKind.min, IntKind.max, IntKind.signed, IntKind.bits, Bool.and_eq_true, decide_eq_true_eq] at h
  simp at h
  omega
theorem wf8 {a : Int} (h : (Lit.int .u8 a).wf = true) : 0 ≤ a ∧ a ≤ 255 := by
  simp only [Lit.wf, IntKind.min, IntKind.max, IntKind.signed, IntKind.bits, Bool.and_eq_true, decide_eq_true_eq] at h
  simp at h
  omega

/-! The range, and what a call answers by its true answer -/
def In (n : Int) : Prop := -9223372036854775808 ≤ n ∧ n ≤ 9223372036854775807
instance (n : Int) : Decidable (In n) := by unfold In; infer_instance
/-- What a call answers whose true answer is n. -/
def fit (n : Int) : Int × Int := if In n then (n, 0) else (0, 1)
theorem fit_in {n : Int} (h : In n) : fit n = (n, 0) := by rw [fit, if_pos h]
theorem fit_out {n : Int} (h : ¬In n) : fit n = (0, 1) := by rw [fit, if_neg h]

theorem num_add (a b : Int) (ha : In a) (hb : In b) : num_Add.f a b = some (fit (a + b)) := by
  unfold num_Add.f
  unfold In at ha hb
  by_cases h : In (a + b)
  · rw [fit_in h]
    unfold In at h
    rw [w64 h, if_neg]
    have : (decide (b ≥ 0)) = decide (a + b ≥ a) := by rw [decide_eq_decide]; omega
    rw [this]; simp
  · rw [fit_out h]
    unfold In at h
    rw [if_pos]
    have : (decide (b ≥ 0)) = !decide (wrap64 (a + b) ≥ a) := by
      rw [← decide_not, decide_eq_decide]; unfold wrap64; omega
    rw [this]; simp

theorem has_0 (x n : Int) : payofflaw01_has.f x n = some (x == n) := rfl
/-- The sum from a number on, as a list goes. -/
def summed : Int → List Int → Int × Int
  | s, [] => (s, 0)
  | s, x :: t => if In (s + x) then summed (s + x) t else (0, 1)
theorem sum_l0 (l : List Int) (hl : l.length ≤ 17592186044416) (hw : ∀ x ∈ l, In x) : ∀ (d i : Nat) (s : Int), i ≤ l.length → l.length - i = d → In s →
    Ev (fun k => num_Sum.l0 k s l (l.length : Int) (i : Int)) (summed s (l.drop i)) := by
  intro d
  induction d with
  | zero =>
    intro i s h0 hd hs
    refine Ev.step (fun k => num_Sum.l0.eq_2 _ _ _ _ _) ?_
    rw [List.drop_eq_nil_of_le (by omega)]
    exact Ev.neg (by omega) (Ev.ret rfl)
  | succ d ih =>
    intro i s h0 hd hs
    have hi : i < l.length := by omega
    refine Ev.step (fun k => num_Sum.l0.eq_2 _ _ _ _ _) ?_
    refine Ev.pos (by omega) (Ev.pos (by omega) (Ev.pos (by omega) ?_))
    have hr : rd l (i : Int) = l[i] := by simp [rd, hi]
    rw [List.drop_eq_getElem_cons hi, hr, summed]
    refine Ev.call (num_add _ _ hs (hw _ (List.getElem_mem hi))) ?_
    by_cases h : In (s + l[i])
    · rw [fit_in h, if_pos h, w64 (by omega)]
      refine Ev.pos rfl ?_
      exact ih (i + 1) _ (by omega) (by omega) h
    · rw [fit_out h, if_neg h]
      exact Ev.neg (by decide) (Ev.ret rfl)
theorem sum_f (l : List Int) (hl : l.length ≤ 17592186044416) (hw : ∀ x ∈ l, In x) : Ev (fun k => num_Sum.f k l) (summed 0 l) := by
  unfold num_Sum.f
  exact sum_l0 l hl hw l.length 0 0 (by omega) (by omega) (by unfold In; omega)
theorem summed_append (a b : List Int) : ∀ s, summed s (a ++ b) = if (summed s a).2 = 0 then summed (summed s a).1 b else (0, 1) := by
  induction a with
  | nil => intro s; simp [summed]
  | cons x t ih =>
    intro s
    simp only [List.cons_append, summed]
    split
    · exact ih _
    · simp
theorem summed_in (l : List Int) : ∀ s, In s → ((summed s l).2 = 0 ∧ In (summed s l).1) ∨ (summed s l) = (0, 1) := by
  induction l with
  | nil => intro s hs; exact .inl ⟨rfl, hs⟩
  | cons x t ih =>
    intro s hs
    simp only [summed]
    split
    · exact ih _ ‹_›
    · exact .inr rfl
theorem cut_j3 (s f : Int) (h : f = 0 ∨ (s = 0 ∧ f = 1)) : Ev (fun k => payofflaw01_NumCut.j3 k s f s f) true := by
  refine Ev.step (fun k => payofflaw01_NumCut.j3.eq_2 _ _ _ _ _) ?_
  refine Ev.call (has_0 _ _) ?_
  rcases h with rfl | ⟨rfl, rfl⟩
  · refine Ev.pos rfl (Ev.bind (sum_f [] (by simp) (by simp)) ?_)
    exact Ev.pos rfl (Ev.pos rfl (Ev.pos rfl (Ev.call (has_0 _ _) (Ev.ret rfl))))
  · refine Ev.neg (by decide) (Ev.bind (sum_f [] (by simp) (by simp)) ?_)
    exact Ev.pos rfl (Ev.pos rfl (Ev.pos rfl (Ev.call (has_0 _ _) (Ev.ret rfl))))
theorem cut_l0 (l : List Int) (hl : l.length ≤ 17592186044416) (hw : ∀ x ∈ l, In x) : ∀ (d i : Nat) (r q : Int), i ≤ l.length → l.length - i = d →
    ((q = 0 ∧ In r ∧ summed 0 l = summed r (l.drop i)) ∨ (r = 0 ∧ q = 1 ∧ summed 0 l = (0, 1))) →
    Ev (fun k => payofflaw01_NumCut.l0 k l (summed 0 l).1 (summed 0 l).2 r q (i : Int)) true := by
  intro d
  induction d with
  | zero =>
    intro i r q h0 hd h
    refine Ev.step (fun k => payofflaw01_NumCut.l0.eq_2 _ _ _ _ _ _ _) ?_
    refine Ev.neg (by omega) ?_
    rw [List.drop_eq_nil_of_le (by omega)] at h
    rcases h with ⟨rfl, hr, he⟩ | ⟨rfl, rfl, he⟩
    · rw [he]; exact cut_j3 _ _ (.inl rfl)
    · rw [he]; exact cut_j3 _ _ (.inr ⟨rfl, rfl⟩)
  | succ d ih =>
    intro i r q h0 hd h
    have hi : i < l.length := by omega
    refine Ev.step (fun k => payofflaw01_NumCut.l0.eq_2 _ _ _ _ _ _ _) ?_
    refine Ev.pos (by omega) (Ev.call (has_0 _ _) ?_)
    rcases h with ⟨rfl, hr, he⟩ | ⟨rfl, rfl, he⟩
    · refine Ev.pos rfl (Ev.pos (by omega) ?_)
      have hr' : rd l (i : Int) = l[i] := by simp [rd, hi]
      rw [hr', w64 (by omega)]
      refine Ev.call (num_add _ _ hr (hw _ (List.getElem_mem hi))) ?_
      refine ih (i + 1) _ _ (by omega) (by omega) ?_
      rw [List.drop_eq_getElem_cons hi, summed] at he
      by_cases hin : In (r + l[i])
      · rw [if_pos hin] at he
        rw [fit_in hin]
        exact .inl ⟨rfl, hin, he⟩
      · rw [if_neg hin] at he
        rw [fit_out hin]
        exact .inr ⟨rfl, rfl, he⟩
    · refine Ev.neg (by decide) ?_
      rw [he]; exact cut_j3 _ _ (.inr ⟨rfl, rfl⟩)
theorem NumCut : payofflaw01_NumCut.Pure := by
  intro l n hm hl hw hn
  have hn := wf64 hn
  have hw : ∀ x ∈ l, In x := fun x hx => wf64 (hw x hx)
  have hl : l.length ≤ 17592186044416 := by omega
  refine Ev.rounds (g := fun k => payofflaw01_NumCut.f k l n) ?_
  unfold payofflaw01_NumCut.f
  refine Ev.bind (sum_f [5, 6] (by simp) (by simp [In])) ?_
  rw [show summed 0 [5, 6] = (11, 0) by simp [summed, In]]
  refine Ev.pos rfl (Ev.call (has_0 _ _) ?_)
  refine Ev.step (fun k => payofflaw01_NumCut.j0.eq_2 _ _ _ _) ?_
  refine Ev.neg (by decide) ?_
  by_cases h : n < 0
  · exact Ev.pos h (Ev.step (fun k => payofflaw01_NumCut.j1.eq_2 _ _ _ _) (Ev.pos rfl (Ev.ret rfl)))
  · refine Ev.neg h (Ev.step (fun k => payofflaw01_NumCut.j1.eq_2 _ _ _ _) ?_)
    by_cases h3 : n > (l.length : Int)
    · exact Ev.pos (by simpa using h3) (Ev.ret rfl)
    · refine Ev.neg (by simpa using h3) ?_
      refine Ev.bind (sum_f l hl hw) (Ev.pos (by omega) (Ev.pos (by omega) ?_))
      obtain ⟨m, rfl⟩ : ∃ m : Nat, n = m := ⟨n.toNat, by omega⟩
      rw [Int.toNat_natCast]
      refine Ev.bind (sum_f (l.take m) (by rw [List.length_take]; omega) (fun x hx => hw x (List.mem_of_mem_take hx))) ?_
      refine cut_l0 l hl hw (l.length - m) m _ _ (by omega) (by omega) ?_
      have hs := summed_append (l.take m) (l.drop m) 0
      rw [List.take_append_drop] at hs
      rcases summed_in (l.take m) 0 (by unfold In; omega) with ⟨h5, h6⟩ | h5
      · rw [if_pos h5] at hs
        exact .inl ⟨h5, h6, hs⟩
      · rw [h5] at hs ⊢
        rw [if_neg (by decide)] at hs
        exact .inr ⟨rfl, rfl, hs⟩

end Go.Proofs.Ytogbeegkhgkdaaa.Pure
