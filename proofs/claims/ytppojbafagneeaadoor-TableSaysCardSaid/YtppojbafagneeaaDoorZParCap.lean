/- Own text, for this claim: capital names, the columns' map, what Valid answers: plain laws over the printed functions. -/
import Derived.Test.YtppojbafagneeaaDoorZQTabv
import Derived.Test.YtppojbafagneeaaDoorZTabIntact
import Derived.SizedLaws
import Derived.Laws.BitsLemmas
namespace Go.Proofs.YtppojbafagneeaaDoor.Pure
open Go.RowKit Go.Maps Go.ChangeShapes Go.WideShapes Go.Proofs.YtppojbafagneeaaDoor.PTab Go.Proofs.YtppojbafagneeaaDoorW.PrintWords Go.Proofs.YtppojbafagneeaaDoorW.PrintLast Go.Proofs.YtppojbafagneeaaDoorW.PrintMore
set_option linter.unusedVariables false
set_option linter.unusedSimpArgs false
theorem Ev.pos {α : Type} {c : Prop} [Decidable c] {a b : Nat → Option α} {r : α} (h : c) (k : Ev a r) : Ev (fun n => if c then a n else b n) r := by
 simpa only [if_pos h] using k
theorem Ev.neg {α : Type} {c : Prop} [Decidable c] {a b : Nat → Option α} {r : α} (h : ¬c) (k : Ev b r) : Ev (fun n => if c then a n else b n) r := by
 simpa only [if_neg h] using k
theorem Ev.call {α β : Type} {x : Option α} {f : Nat → α → Option β} {a : α} {r : β} (h : x = some a) (k : Ev (fun n => f n a) r) : Ev (fun n => x.bind (f n)) r := by
 subst h; simpa only [Option.bind_some] using k
theorem Ev.ret {α : Type} {r s : α} (h : s = r) : Ev (fun _ => some s) r := ⟨0, fun _ _ => by rw [h]⟩
theorem w64 {n : Int} (h : -9223372036854775808 ≤ n ∧ n ≤ 9223372036854775807) : wrap64 n = n := by unfold wrap64; omega
theorem wf64 {a : Int} (h : (Lit.int .i64 a).wf = true) : -9223372036854775808 ≤ a ∧ a ≤ 9223372036854775807 := by
 simp only [Lit.wf, IntKind.min, IntKind.max, IntKind.signed, IntKind.bits, Bool.and_eq_true, decide_eq_true_eq, if_true] at h
 omega
def letB (c : Int) : Bool := decide (65 ≤ c) && decide (c ≤ 90)
def okB (c : Int) : Bool := letB c || (decide (48 ≤ c) && decide (c ≤ 57)) || decide (c = 95)
def capl (s : ByteArray) : Nat → Nat → Bool
 | 0, _ => true
 | d + 1, i => okB (bt s (i : Int)) && capl s d (i + 1)
def capB (s : ByteArray) : Bool := decide (1 ≤ s.size) && decide (s.size ≤ 31) && letB (bt s 0) && capl s (s.size - 1) 1
theorem okB_iff (c : Int) : okB c = true ↔ ((65 ≤ c ∧ c ≤ 90) ∨ (48 ≤ c ∧ c ≤ 57) ∨ c = 95) := by
 simp [okB, letB, or_assoc]
theorem letB_iff (c : Int) : letB c = true ↔ (65 ≤ c ∧ c ≤ 90) := by
 simp [letB]
theorem cap_step (k : Nat) (s : ByteArray) (n i : Int) : table_capital.l0 (k + 1) s n i = if i < n then (if 0 ≤ i then (if i < (s.size : Int) then (if okB (bt s i) = true then table_capital.l0 k s n (wrap64 (i + 1)) else some false) else none) else none) else some true := by
 rw [table_capital.l0.eq_2]
 generalize bt s i = c
 by_cases hok : okB c = true
 ·rw [if_pos hok]
  rw [okB_iff] at hok
  by_cases h1 : c < 65 <;> by_cases h2 : c > 90 <;> by_cases h3 : c < 48 <;> by_cases h4 : c > 57 <;> by_cases h5 : c = 95 <;> first | (exfalso; omega) | (simp only [h1, h2, h3, h4, if_true, if_false]; done) | (simp only [h1, h2, h3, h4, if_true, if_false]; rw [if_pos h5]) | (simp only [h1, h2, h3, h4, if_true, if_false]; rw [if_neg h5])
 ·rw [if_neg hok]
  rw [okB_iff] at hok
  by_cases h1 : c < 65 <;> by_cases h2 : c > 90 <;> by_cases h3 : c < 48 <;> by_cases h4 : c > 57 <;> by_cases h5 : c = 95 <;> first | (exfalso; omega) | (simp only [h1, h2, h3, h4, if_true, if_false]; done) | (simp only [h1, h2, h3, h4, if_true, if_false]; rw [if_pos h5]) | (simp only [h1, h2, h3, h4, if_true, if_false]; rw [if_neg h5])
theorem cap_l0 (s : ByteArray) (hs : s.size ≤ 31) : ∀ d i : Nat, i + d = s.size → Ev (fun k => table_capital.l0 k s (s.size : Int) (i : Int)) (capl s d i) := by
 intro d
 induction d with
 | zero => intro i hi; exact Ev.step (fun k => cap_step ..) (Ev.neg (by omega) (Ev.ret rfl))
 | succ d ih =>
  intro i hi
  refine Ev.step (fun k => cap_step ..) (Ev.pos (by omega) (Ev.pos (by omega) (Ev.pos (by omega) ?_)))
  rw [w64n i (by omega), capl]
  by_cases h : okB (bt s (i : Int)) = true
  ·rw [h, Bool.true_and]
   exact Ev.pos rfl (ih (i + 1) (by omega))
  ·rw [Bool.eq_false_iff.2 h, Bool.false_and]
   exact Ev.neg (by simp) (Ev.ret rfl)
theorem cap_ev (s : ByteArray) : Ev (fun k => table_capital.f k s) (capB s) := by
 have no : capB s = false → Ev (fun k => table_capital.j0 k s true) (capB s) := fun h => Ev.step (fun k => table_capital.j0.eq_2 ..) (Ev.pos rfl (Ev.ret h.symm))
 unfold table_capital.f
 by_cases h1 : (s.size : Int) < 1
 ·exact Ev.pos h1 (no (by unfold capB; rw [yM (by omega)]; rfl))
 refine Ev.neg h1 ?_
 by_cases h2 : (s.size : Int) > 31
 ·exact Ev.pos h2 (no (by unfold capB; rw [yM (p := s.size ≤ 31) (by omega)]; simp))
 refine Ev.neg h2 (Ev.pos (by omega) ?_)
 by_cases h3 : bt s 0 < 65
 ·exact Ev.pos h3 (no (by unfold capB letB; rw [yM (p := 65 ≤ bt s 0) (by omega)]; simp))
 refine Ev.neg h3 ?_
 by_cases h4 : bt s 0 > 90
 ·rw [yL h4]
  exact no (by unfold capB letB; rw [yM (p := bt s 0 ≤ 90) (by omega)]; simp)
 rw [yM h4]
 refine Ev.step (fun k => table_capital.j0.eq_2 ..) (Ev.neg (by decide) ?_)
 have h := cap_l0 s (by omega) s.size 0 (by omega)
 have e : capl s s.size 0 = capB s := by
  obtain ⟨d, hd⟩ : ∃ d, s.size = d + 1 := ⟨s.size - 1, by omega⟩
  have hl : letB (bt s 0) = true := (letB_iff _).2 (by omega)
  have ho : okB (bt s ((0 : Nat) : Int)) = true := by unfold okB; rw [show ((0 : Nat) : Int) = 0 from rfl, hl]; rfl
  unfold capB
  rw [hd, capl, ho, hl, yL (p := 1 ≤ d + 1) (by omega), yL (p := d + 1 ≤ 31) (by omega)]
  rfl
 rw [← e]
 exact h
def nth (l : List ByteArray) (i : Nat) : ByteArray := rdOf ByteArray.empty l (i : Int)
theorem nth_get (l : List ByteArray) (i : Nat) (h : i < l.length) : nth l i = l[i] := by
 unfold nth rdOf
 rw [Int.toNat_natCast, List.getD_eq_getElem?_getD, List.getElem?_eq_getElem h]; rfl
def capsl (l : List ByteArray) : Nat → Nat → Bool
 | 0, _ => true
 | d + 1, i => capB (nth l i) && capsl l d (i + 1)
theorem capsl_iff (l : List ByteArray) : ∀ d i : Nat, i + d = l.length → (capsl l d i = true ↔ ∀ j, i ≤ j → j < l.length → capB (nth l j) = true) := by
 intro d
 induction d with
 | zero => intro i hi; simp only [capsl, true_iff]; intro j h1 h2; omega
 | succ d ih =>
  intro i hi
  rw [capsl, Bool.and_eq_true, ih (i + 1) (by omega)]
  constructor
  ·rintro ⟨h1, h2⟩ j h3 h4
   by_cases e : j = i
   ·rw [e]; exact h1
   ·exact h2 j (by omega) h4
  ·intro h
   exact ⟨h i (Nat.le_refl _) (by omega), fun j h1 h2 => h j (by omega) h2⟩
theorem caps_ev (l : List ByteArray) (hl : l.length ≤ 9223372036854775806) : Ev (fun k => table_capitals.f k l) (capsl l l.length 0) := by
 have key : ∀ d i : Nat, i + d = l.length → Ev (fun k => table_capitals.l0 k l (l.length : Int) (i : Int)) (capsl l d i) := by
  intro d
  induction d with
  | zero => intro i hi; exact Ev.step (fun k => table_capitals.l0.eq_2 ..) (Ev.neg (by omega) (Ev.ret rfl))
  | succ d ih =>
   intro i hi
   refine Ev.step (fun k => table_capitals.l0.eq_2 ..) (Ev.pos (by omega) (Ev.pos (by omega) (Ev.pos (by omega) (Ev.bind (cap_ev (nth l i)) ?_))))
   rw [w64n i (by omega), capsl]
   cases h : capB (nth l i) with
   | true => rw [Bool.true_and]; exact Ev.pos rfl (ih (i + 1) (by omega))
   | false => rw [Bool.false_and]; exact Ev.neg (by decide) (Ev.ret rfl)
 exact key l.length 0 (by omega)
theorem keyS_inj {a b : ByteArray} (h : keyS a = keyS b) : a = b := by
 injection h with h
 exact ByteArray.ext (Array.toList_inj.1 h)
theorem keyS_key (n : ByteArray) : WideAt.IsKeyLit (keyS n) := trivial
theorem rev_ind {α : Type} {P : List α → Prop} (h0 : P []) (h1 : ∀ l x, P l → P (l ++ [x])) : ∀ l, P l := by
 intro l
 rw [← List.reverse_reverse l]
 generalize l.reverse = m
 induction m with
 | nil => exact h0
 | cons x m ih => rw [List.reverse_cons]; exact h1 _ _ ih
theorem colD_facts : ∀ l : List ByteArray, Tidy (colD l 0 (.map [])) ∧ (∀ n, has (colD l 0 (.map [])) (keyS n) = true ↔ n ∈ l) ∧ Maps.size (colD l 0 (.map [])) ≤ l.length ∧ (Maps.size (colD l 0 (.map [])) = l.length ↔ l.Nodup) := by
 refine rev_ind ?_ ?_
 ·exact ⟨tidy_empty, by simp [colD, has], Nat.le_refl _, by simp [colD, Maps.size]⟩
 ·intro l n ih
  obtain ⟨h1, h2, h3, h4⟩ := ih
  rw [colD_snoc]
  have hm : IsMap (colD l 0 (.map [])) := by obtain ⟨es, e, -⟩ := h1; exact ⟨es, e⟩
  by_cases h : has (colD l 0 (.map [])) (keyS n) = true
  ·rw [if_pos h]
   have hn := (h2 n).1 h
   refine ⟨h1, fun m => ?_, ?_, ?_⟩
   ·rw [h2 m, List.mem_append, List.mem_singleton]
    constructor
    ·exact Or.inl
    ·rintro (h | rfl)
     ·exact h
     ·exact hn
   ·rw [List.length_append, List.length_singleton]; omega
   ·rw [List.length_append, List.length_singleton]
    constructor
    ·intro e; omega
    ·intro e
     have := (List.nodup_append.1 e).2.2 n hn n (by simp)
     exact absurd rfl this
  ·rw [if_neg h]
   have hn : ¬ n ∈ l := fun hm => h ((h2 n).2 hm)
   have hsz := size_put h1 (k := keyS n) (.lit (.int .i64 ((0 + l.length : Nat) : Int)))
   rw [if_neg h] at hsz
   refine ⟨h1.put (keyS_key n) _, fun m => ?_, ?_, ?_⟩
   ·by_cases e : m = n
    ·subst e
     rw [has_put_same hm (keyS_key m)]
     simp
    ·rw [has_put_other (fun e' => e (keyS_inj e')), h2 m, List.mem_append, List.mem_singleton]
     simp [e]
   ·rw [hsz, List.length_append, List.length_singleton]; omega
   ·rw [hsz, List.length_append, List.length_singleton, Nat.add_right_cancel_iff, h4, List.nodup_append]
    constructor
    ·intro hd
     refine ⟨hd, by simp, ?_⟩
     intro a ha b hb e
     rw [List.mem_singleton.1 hb] at e
     exact hn (e ▸ ha)
    ·intro h; exact h.1
def okRows (n : Nat) (rows : List (List S52)) : Nat → Nat → Bool
 | 0, _ => true
 | d + 1, i => decide ((rd_L4 rows (i : Int)).length = n) && okRows n rows d (i + 1)
theorem pv_l0 (l0 : List ByteArray) (l1 : List (List S52)) (hl : l1.length ≤ 9223372036854775806) (r : Int) : ∀ d i : Nat, i + d = l1.length →
  (okRows l0.length l1 d i = true → Ev (fun k => if (l0.length : Int) > 64 then table_Valid.j1 k true l0 l1 else table_Valid.j1 k (decide ((l1.length : Int) > 4096)) l0 l1) r) → (okRows l0.length l1 d i = false → r = 3) →
  Ev (fun k => table_Valid.l0 k l1 (l1.length : Int) (i : Int) l0 l1) r := by
 intro d
 induction d with
 | zero => intro i hi h1 h2; exact Ev.step (fun k => table_Valid.l0.eq_2 ..) (Ev.neg (by omega) (h1 rfl))
 | succ d ih =>
  intro i hi h1 h2
  refine Ev.step (fun k => table_Valid.l0.eq_2 ..) (Ev.pos (by omega) (Ev.pos (by omega) (Ev.pos (by omega) ?_)))
  rw [w64n i (by omega)]
  rw [okRows] at h1 h2
  by_cases h : (rd_L4 l1 (i : Int)).length = l0.length
  ·rw [yL h, Bool.true_and] at h1 h2
   exact Ev.pos (by omega) (ih (i + 1) (by omega) h1 h2)
  ·rw [yM h, Bool.false_and] at h2
   rw [h2 rfl]
   exact Ev.neg (by omega) (Ev.ret rfl)
def okC (c : S52) : Bool := c.f0 || c.f1 == 0
def okRow (row : List S52) : Nat → Nat → Bool
 | 0, _ => true
 | d + 1, j => okC (rd_T52 row (j : Int)) && okRow row d (j + 1)
def okCells (rows : List (List S52)) : Nat → Nat → Bool
 | 0, _ => true
 | d + 1, i => okRow (rd_L4 rows (i : Int)) (rd_L4 rows (i : Int)).length 0 && okCells rows d (i + 1)
theorem rdL_len (l1 : List (List S52)) (hB : ∀ r ∈ l1, r.length ≤ 9223372036854775806) (i : Nat) : (rd_L4 l1 (i : Int)).length ≤ 9223372036854775806 := by
 unfold rd_L4
 rw [Int.toNat_natCast, List.getD_eq_getElem?_getD]
 cases h : l1[i]? with
 | none => simp
 | some r => exact hB r (List.mem_of_getElem? h)
theorem pv_l2 (l1 : List (List S52)) (n i : Int) (row : List S52) (hr : row.length ≤ 9223372036854775806) (r : Int) : ∀ d j : Nat, j + d = row.length →
  (okRow row d j = true → Ev (fun k => table_Valid.l1 k l1 n (wrap64 (i + 1))) r) → (okRow row d j = false → r = 51) → Ev (fun k => table_Valid.l2 k l1 n i row (row.length : Int) (j : Int)) r := by
 intro d
 induction d with
 | zero => intro j hj h1 h2; exact Ev.step (fun k => table_Valid.l2.eq_2 ..) (Ev.neg (by omega) (h1 rfl))
 | succ d ih =>
  intro j hj h1 h2
  refine Ev.step (fun k => table_Valid.l2.eq_2 ..) (Ev.pos (by omega) (Ev.pos (by omega) (Ev.pos (by omega) ?_)))
  rw [w64n j (by omega)]
  rw [okRow] at h1 h2
  by_cases h0 : (rd_T52 row (j : Int)).f0 = true
  ·have e : okC (rd_T52 row (j : Int)) = true := by unfold okC; rw [h0]; rfl
   rw [e, Bool.true_and] at h1 h2
   exact Ev.pos h0 (ih (j + 1) (by omega) h1 h2)
  ·refine Ev.neg h0 ?_
   by_cases hv : (rd_T52 row (j : Int)).f1 = 0
   ·have e : okC (rd_T52 row (j : Int)) = true := by unfold okC; rw [hv]; simp
    rw [e, Bool.true_and] at h1 h2
    exact Ev.pos hv (ih (j + 1) (by omega) h1 h2)
   ·have e : okC (rd_T52 row (j : Int)) = false := by unfold okC; rw [Bool.eq_false_iff.2 h0, Bool.false_or, beq_eq_false_iff_ne]; exact hv
    rw [e, Bool.false_and] at h2
    rw [h2 rfl]
    exact Ev.neg hv (Ev.ret rfl)
theorem pv_l1 (l1 : List (List S52)) (hl : l1.length ≤ 9223372036854775806) (hB : ∀ r ∈ l1, r.length ≤ 9223372036854775806) (r : Int) : ∀ d i : Nat, i + d = l1.length →
  (okCells l1 d i = true → r = 0) → (okCells l1 d i = false → r = 51) → Ev (fun k => table_Valid.l1 k l1 (l1.length : Int) (i : Int)) r := by
 intro d
 induction d with
 | zero => intro i hi h1 h2; rw [h1 rfl]; exact Ev.step (fun k => table_Valid.l1.eq_2 ..) (Ev.neg (by omega) (Ev.ret rfl))
 | succ d ih =>
  intro i hi h1 h2
  refine Ev.step (fun k => table_Valid.l1.eq_2 ..) (Ev.pos (by omega) (Ev.pos (by omega) (Ev.pos (by omega) ?_)))
  rw [okCells] at h1 h2
  refine pv_l2 l1 _ _ _ (rdL_len l1 hB i) r (rd_L4 l1 (i : Int)).length 0 (by omega) (fun h => ?_) (fun h => h2 (by rw [h, Bool.false_and]))
  rw [h, Bool.true_and] at h1 h2
  rw [w64n i (by omega)]
  exact ih (i + 1) (by omega) h1 h2
def Good (l : List ByteArray) (i : Nat) : Prop := ∀ j, i ≤ j → j < l.length → capB (nth l j) = true ∧ ∀ p, p < j → nth l p ≠ nth l j
theorem good_iff (l : List ByteArray) : Good l 0 ↔ (l.Nodup ∧ capsl l l.length 0 = true) := by
 rw [capsl_iff l l.length 0 (by omega), List.nodup_iff_pairwise_ne, List.pairwise_iff_getElem]
 constructor
 ·intro h
  refine ⟨fun i j hi hj hij e => ?_, fun j a b => (h j a b).1⟩
  exact (h j (by omega) hj).2 i hij (by rw [nth_get l i hi, nth_get l j hj, e])
 ·rintro ⟨h1, h2⟩ j a b
  refine ⟨h2 j a b, fun p hp e => ?_⟩
  rw [nth_get l p (by omega), nth_get l j b] at e
  exact h1 p j (by omega) b hp e
end Go.Proofs.YtppojbafagneeaaDoor.Pure
