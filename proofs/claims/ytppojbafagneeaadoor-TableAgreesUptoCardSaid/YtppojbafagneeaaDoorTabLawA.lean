/- Own text: TableAgrees: Agree of any two tables is the document's, and the tables are as they were, behind the ends of their lists too. -/
import Derived.Test.YtppojbafagneeaaDoorQTableAgrees
import Derived.SizedLaws
import Derived.Test.YtppojbafagneeaaDoorTabOpen
namespace Go.Proofs.YtppojbafagneeaaDoor.Pure
open Go.RowKit Go.Maps Go.ChangeShapes Go.WideShapes Go.Proofs.YtppojbafagneeaaDoor.PTab Go.Proofs.YtppojbafagneeaaDoorW.PrintWords Go.Proofs.YtppojbafagneeaaDoorW.PrintLast Go.Proofs.YtppojbafagneeaaDoorW.PrintMore
set_option linter.unusedVariables false
set_option linter.unusedSimpArgs false
/-! Rounds: an answer that stands from some number of rounds on -/
theorem Ev.pos {α : Type} {c : Prop} [Decidable c] {a b : Nat → Option α} {r : α} (h : c) (k : Ev a r) : Ev (fun n => if c then a n else b n) r := by
  simpa only [if_pos h] using k
theorem Ev.neg {α : Type} {c : Prop} [Decidable c] {a b : Nat → Option α} {r : α} (h : ¬c) (k : Ev b r) : Ev (fun n => if c then a n else b n) r := by
  simpa only [if_neg h] using k
/-- A call without rounds. -/
theorem Ev.call {α β : Type} {x : Option α} {f : Nat → α → Option β} {a : α} {r : β} (h : x = some a) (k : Ev (fun n => f n a) r) : Ev (fun n => x.bind (f n)) r := by
  subst h; simpa only [Option.bind_some] using k
theorem Ev.ret {α : Type} {r s : α} (h : s = r) : Ev (fun _ => some s) r := ⟨0, fun _ _ => by rw [h]⟩
theorem w64 {n : Int} (h : -9223372036854775808 ≤ n ∧ n ≤ 9223372036854775807) : wrap64 n = n := by unfold wrap64; omega
theorem wu64 {n : Int} (h : 0 ≤ n ∧ n ≤ 18446744073709551615) : IntKind.u64.wrap n = n := by
  simp only [IntKind.wrap, IntKind.bits, IntKind.signed]; simp; omega
theorem wf64 {a : Int} (h : (Lit.int .i64 a).wf = true) : -9223372036854775808 ≤ a ∧ a ≤ 9223372036854775807 := by
  simp only [Lit.wf, IntKind.min, IntKind.max, IntKind.signed, IntKind.bits, Bool.and_eq_true, decide_eq_true_eq, if_true] at h
  omega
theorem wfu64 {a : Int} (h : (Lit.int .u64 a).wf = true) : 0 ≤ a ∧ a ≤ 18446744073709551615 := by
  simp only [Lit.wf, IntKind.min, IntKind.max, IntKind.signed, IntKind.bits, Bool.and_eq_true, decide_eq_true_eq] at h
  simp at h
  omega
theorem wf8 {a : Int} (h : (Lit.int .u8 a).wf = true) : 0 ≤ a ∧ a ≤ 255 := by
  simp only [Lit.wf, IntKind.min, IntKind.max, IntKind.signed, IntKind.bits, Bool.and_eq_true, decide_eq_true_eq] at h
  simp at h
  omega

def nth (l : List ByteArray) (i : Nat) : ByteArray := rdOf ByteArray.empty l (i : Int)
theorem nth_get (l : List ByteArray) (i : Nat) (h : i < l.length) : nth l i = l[i] := by
  unfold nth rdOf
  rw [Int.toNat_natCast, List.getD_eq_getElem?_getD, List.getElem?_eq_getElem h]; rfl
/-! the columns' map has as many names as there are different ones -/
theorem keyS_inj {a b : ByteArray} (h : keyS a = keyS b) : a = b := by
  injection h with h
  exact ByteArray.ext (Array.toList_inj.1 h)
theorem keyS_key (n : ByteArray) : WideAt.IsKeyLit (keyS n) := trivial
theorem rev_ind {α : Type} {P : List α → Prop} (h0 : P []) (h1 : ∀ l x, P l → P (l ++ [x])) : ∀ l, P l := by
  intro l
  rw [← List.reverse_reverse l]
  generalize l.reverse = m
  induction m with
  | nil => exact h0
  | cons x m ih => rw [List.reverse_cons]; exact h1 _ _ ih
theorem colD_facts : ∀ l : List ByteArray, Tidy (colD l 0 (.map [])) ∧ (∀ n, has (colD l 0 (.map [])) (keyS n) = true ↔ n ∈ l) ∧ Maps.size (colD l 0 (.map [])) ≤ l.length ∧ (Maps.size (colD l 0 (.map [])) = l.length ↔ l.Nodup) := by
  refine rev_ind ?_ ?_
  · exact ⟨tidy_empty, by simp [colD, has], Nat.le_refl _, by simp [colD, Maps.size]⟩
  · intro l n ih
    obtain ⟨h1, h2, h3, h4⟩ := ih
    rw [colD_snoc]
    have hm : IsMap (colD l 0 (.map [])) := by obtain ⟨es, e, -⟩ := h1; exact ⟨es, e⟩
    by_cases h : has (colD l 0 (.map [])) (keyS n) = true
    · rw [if_pos h]
      have hn := (h2 n).1 h
      refine ⟨h1, fun m => ?_, ?_, ?_⟩
      · rw [h2 m, List.mem_append, List.mem_singleton]
        constructor
        · exact Or.inl
        · rintro (h | rfl)
          · exact h
          · exact hn
      · rw [List.length_append, List.length_singleton]; omega
      · rw [List.length_append, List.length_singleton]
        constructor
        · intro e; omega
        · intro e
          have := (List.nodup_append.1 e).2.2 n hn n (by simp)
          exact absurd rfl this
    · rw [if_neg h]
      have hn : ¬ n ∈ l := fun hm => h ((h2 n).2 hm)
      have hsz := size_put h1 (k := keyS n) (.lit (.int .i64 ((0 + l.length : Nat) : Int)))
      rw [if_neg h] at hsz
      refine ⟨h1.put (keyS_key n) _, fun m => ?_, ?_, ?_⟩
      · by_cases e : m = n
        · subst e
          rw [has_put_same hm (keyS_key m)]
          simp
        · rw [has_put_other (fun e' => e (keyS_inj e')), h2 m, List.mem_append, List.mem_singleton]
          simp [e]
      · rw [hsz, List.length_append, List.length_singleton]; omega
      · rw [hsz, List.length_append, List.length_singleton, Nat.add_right_cancel_iff, h4, List.nodup_append]
        constructor
        · intro hd
          refine ⟨hd, by simp, ?_⟩
          intro a ha b hb e
          rw [List.mem_singleton.1 hb] at e
          exact hn (e ▸ ha)
        · intro h; exact h.1
theorem col_ev (l : List ByteArray) (hl : l.length ≤ 9223372036854775806) (a : ByteArray) : ∀ d j m : Nat, j + d = m → m < l.length → nth l m = a → (∀ p, j ≤ p → p < m → nth l p ≠ a) → Ev (fun k => payoffref05_column.l0 k l a (j : Int)) (m : Int) := by
  intro d
  induction d with
  | zero =>
    intro j m hj hm ha _
    obtain rfl : j = m := by omega
    refine Ev.step (fun k => payoffref05_column.l0.eq_2 ..) (Ev.pos (by omega) (Ev.pos (by omega) (Ev.pos ?_ (Ev.ret rfl))))
    show (nth l j).toList = _
    rw [ha]
  | succ d ih =>
    intro j m hj hm ha hn
    refine Ev.step (fun k => payoffref05_column.l0.eq_2 ..) (Ev.pos (by omega) (Ev.pos (by omega) (Ev.neg ?_ ?_)))
    · intro e
      refine hn j (Nat.le_refl _) (by omega) ?_
      rw [ByteArray.toList_eq, ByteArray.toList_eq] at e
      exact ByteArray.ext (Array.toList_inj.1 e)
    · rw [w64n j (by omega)]
      exact ih (j + 1) m (by omega) hm ha (fun p h1 h2 => hn p (by omega) h2)
theorem first_of (l : List ByteArray) (a : ByteArray) : ∀ i, nth l i = a → ∃ m, m ≤ i ∧ nth l m = a ∧ ∀ p, p < m → nth l p ≠ a := by
  intro i
  induction i using Nat.strongRecOn with
  | ind i ih =>
    intro h
    by_cases hp : ∃ p, p < i ∧ nth l p = a
    · obtain ⟨p, h1, h2⟩ := hp
      obtain ⟨m, h3, h4, h5⟩ := ih p h1 h2
      exact ⟨m, by omega, h4, h5⟩
    · exact ⟨i, Nat.le_refl _, h, fun p h1 h2 => hp ⟨p, h1, h2⟩⟩

theorem own_ev (n0 n1 : Bool) (l0 : List ByteArray) (l1 : List (List S52)) (hn1 : n1 = true → l1 = []) (hl0 : l0.length ≤ 8796093022204) (hl1 : l1.length < 5864062014804) (hB : ∀ r ∈ l1, r.length ≤ 8796093022204) :
    Ev (fun k => payofflaw05_own.f k n0 n1 l0 l1) (withN n0 l0, l1.map withC) := by
  have h0 : payofflaw05_ownNames.f n0 l0 = some (withN n0 l0) := by
    unfold payofflaw05_ownNames.f withN
    cases n0 with
    | true => rfl
    | false =>
      rw [if_neg (by decide), if_pos (by omega)]
      show (if ([] ++ ([] : List ByteArray)).length + l0.length < _ then _ else _) = _
      rw [if_pos (by simp; omega)]
      show (if ([] ++ l0).length + 2 < _ then some (([] ++ l0) ++ _) else none) = _
      rw [List.nil_append, if_pos (by omega)]
      rfl
  unfold payofflaw05_own.f
  refine Ev.call h0 ?_
  by_cases h1 : n1 = true
  · rw [hn1 h1]
    exact Ev.pos h1 (Ev.ret rfl)
  refine Ev.neg h1 (Ev.pos hl1 ?_)
  have key : ∀ d i : Nat, i + d = l1.length → Ev (fun k => payofflaw05_own.l0 k (i : Int) l0 l1 (withN n0 l0) ((l1.take i).map withC)) (withN n0 l0, l1.map withC) := by
    intro d
    induction d with
    | zero =>
      intro i hi
      obtain rfl : i = l1.length := by omega
      rw [List.take_length]
      exact Ev.step (fun k => payofflaw05_own.l0.eq_2 ..) (Ev.neg (by omega) (Ev.ret rfl))
    | succ d ih =>
      intro i hi
      have hlt : i < l1.length := by omega
      have hrl : (rd_L4 l1 (i : Int)).length ≤ 8796093022204 := by
        unfold rd_L4
        rw [Int.toNat_natCast, List.getD_eq_getElem?_getD, List.getElem?_eq_getElem hlt]
        exact hB _ (List.getElem_mem hlt)
      refine Ev.step (fun k => payofflaw05_own.l0.eq_2 ..) (Ev.pos (by omega) (Ev.pos (by omega) (Ev.pos (by omega) (Ev.call rfl (Ev.pos ?_ (Ev.call rfl (Ev.call rfl (Ev.pos ?_ (Ev.pos ?_ ?_)))))))))
      · simp; omega
      · simp; omega
      · rw [List.length_map, List.length_take]; omega
      · rw [w64n i (by omega)]
        have e : (l1.take i).map withC ++ [(List.replicate 0 z52 ++ rd_L4 l1 (i : Int)) ++ [(⟨true, -77177⟩ : S52), (⟨true, -77177⟩ : S52)]] = (l1.take (i + 1)).map withC := by
          rw [List.take_add_one, List.getElem?_eq_getElem hlt, Option.toList_some, List.map_append]
          unfold rd_L4
          rw [Int.toNat_natCast, List.getD_eq_getElem?_getD, List.getElem?_eq_getElem hlt]
          rfl
        rw [e]
        exact ih (i + 1) (by omega)
  exact key l1.length 0 (by omega)
theorem Ev.both3 {α β γ : Type} {f : Nat → Option α} {g : Nat → Option β} {h : Nat → Option γ} {a : α} {b : β} {c : γ} (hf : Ev f a) (hg : Ev g b) (hh : Ev h c) : ∃ k, f k = some a ∧ g k = some b ∧ h k = some c := by
  obtain ⟨K, hf⟩ := hf
  obtain ⟨L, hg⟩ := hg
  obtain ⟨M, hh⟩ := hh
  exact ⟨max K (max L M), hf _ (by omega), hg _ (by omega), hh _ (by omega)⟩
theorem nil_of {α : Type} {d : Kd α} {w : World} {A : Option Addr} {l : List α} (h : d.C w A l.length l) (hn : A.isNone = true) : l = [] := by
  apply List.length_eq_zero_iff.1
  apply Classical.byContradiction
  intro hl
  obtain ⟨ad, e, -⟩ := h.2.2 (by omega)
  rw [e] at hn
  cases hn

/-! a name's column -/
theorem nth_app (l : List ByteArray) (x : ByteArray) (p : Nat) (h : p < l.length) : nth (l ++ [x]) p = nth l p := by
  rw [nth_get _ p (by rw [List.length_append]; omega), nth_get l p h, List.getElem_append_left h]
theorem nth_last (l : List ByteArray) (x : ByteArray) : nth (l ++ [x]) l.length = x := by
  rw [nth_get _ l.length (by simp)]
  simp
theorem mem_nth {l : List ByteArray} {n : ByteArray} (h : n ∈ l) : ∃ j, j < l.length ∧ nth l j = n := by
  obtain ⟨j, hj, e⟩ := List.getElem_of_mem h
  exact ⟨j, hj, by rw [nth_get l j hj, e]⟩
theorem nth_mem (l : List ByteArray) (j : Nat) (h : j < l.length) : nth l j ∈ l := by
  rw [nth_get l j h]; exact List.getElem_mem h
theorem colD_at : ∀ (l : List ByteArray) (n : ByteArray), ∃ c : Int, 0 ≤ c ∧ (colD l 0 (.map [])).atKey (keyS n) (.lit (.int .i64 0)) = .lit (.int .i64 c) ∧ (n ∈ l → ∃ m : Nat, c = (m : Int) ∧ m < l.length ∧ nth l m = n ∧ ∀ p, p < m → nth l p ≠ n) := by
  refine rev_ind ?_ ?_
  · intro n
    exact ⟨0, Int.le_refl _, rfl, fun h => by cases h⟩
  · intro l x ih n
    obtain ⟨h1, h2, -, -⟩ := colD_facts l
    have hm : IsMap (colD l 0 (.map [])) := by obtain ⟨es, e, -⟩ := h1; exact ⟨es, e⟩
    have old : n ∈ l → ∀ c : Int, (n ∈ l → ∃ m : Nat, c = (m : Int) ∧ m < l.length ∧ nth l m = n ∧ ∀ p, p < m → nth l p ≠ n) → ∃ m : Nat, c = (m : Int) ∧ m < (l ++ [x]).length ∧ nth (l ++ [x]) m = n ∧ ∀ p, p < m → nth (l ++ [x]) p ≠ n := by
      intro hn c h
      obtain ⟨m, e, hl, e2, hf⟩ := h hn
      exact ⟨m, e, by rw [List.length_append]; omega, by rw [nth_app l x m hl]; exact e2, fun p hp => by rw [nth_app l x p (by omega)]; exact hf p hp⟩
    obtain ⟨c, hc, hat, hin⟩ := ih n
    rw [colD_snoc]
    by_cases h : has (colD l 0 (.map [])) (keyS x) = true
    · rw [if_pos h]
      have hx := (h2 x).1 h
      refine ⟨c, hc, hat, fun hn => old ?_ c hin⟩
      rcases List.mem_append.1 hn with h | h
      · exact h
      · rw [List.mem_singleton.1 h]; exact hx
    · rw [if_neg h]
      have hx : ¬ x ∈ l := fun hm => h ((h2 x).2 hm)
      by_cases e : n = x
      · subst e
        rw [atKey_put_same hm (keyS_key n)]
        refine ⟨_, by omega, rfl, fun _ => ⟨l.length, by omega, by simp, nth_last l n, fun p hp e => hx ?_⟩⟩
        rw [nth_app l n p hp] at e
        rw [← e]; exact nth_mem l p hp
      · rw [atKey_put_other (fun e' => e (keyS_inj e'))]
        refine ⟨c, hc, hat, fun hn => old ?_ c hin⟩
        rcases List.mem_append.1 hn with h | h
        · exact h
        · exact absurd (List.mem_singleton.1 h) e
theorem colC_at (l : List ByteArray) (n : ByteArray) : (colD l 0 (.map [])).atKey (keyS n) (.lit (.int .i64 0)) = .lit (.int .i64 (colC l n)) ∧ 0 ≤ colC l n ∧ (n ∈ l → ∃ m : Nat, colC l n = (m : Int) ∧ m < l.length ∧ nth l m = n ∧ ∀ p, p < m → nth l p ≠ n) := by
  obtain ⟨c, h0, h1, h2⟩ := colD_at l n
  have e : colC l n = c := by unfold colC; rw [h1]
  rw [e]
  exact ⟨h1, h0, h2⟩
theorem col_no (l : List ByteArray) (hl : l.length ≤ 9223372036854775806) (a : ByteArray) (hn : ¬ a ∈ l) : ∀ d j : Nat, j + d = l.length → Ev (fun k => payoffref05_column.l0 k l a (j : Int)) (-1) := by
  intro d
  induction d with
  | zero => intro j hj; exact Ev.step (fun k => payoffref05_column.l0.eq_2 ..) (Ev.neg (by omega) (Ev.ret rfl))
  | succ d ih =>
    intro j hj
    refine Ev.step (fun k => payoffref05_column.l0.eq_2 ..) (Ev.pos (by omega) (Ev.pos (by omega) (Ev.neg ?_ ?_)))
    · intro e
      rw [ByteArray.toList_eq, ByteArray.toList_eq] at e
      have e : nth l j = a := ByteArray.ext (Array.toList_inj.1 e)
      exact hn (e ▸ nth_mem l j (by omega))
    · rw [w64n j (by omega)]
      exact ih (j + 1) (by omega)
/-! the reference's cell -/
theorem rcell_ev (l0 : List ByteArray) (l1 : List (List S52)) (hl : l0.length ≤ 9223372036854775806) (n : ByteArray) (d : Int) : Ev (fun k => payoffref05_Cell.f k l0 l1 n d) ((cellC l0 l1 n d).f0, (cellC l0 l1 n d).f1) := by
  obtain ⟨-, h2, -, -⟩ := colD_facts l0
  unfold payoffref05_Cell.f
  by_cases hn : n ∈ l0
  · obtain ⟨m, hc, hm, hnm, hf⟩ := (colC_at l0 n).2.2 hn
    have e : cellC l0 l1 n d = cellAt true (m : Int) l1 d := by unfold cellC; rw [(h2 n).2 hn, hc]
    rw [e]
    refine Ev.bind (a := (m : Int)) (col_ev l0 hl n m 0 m (by omega) hm hnm (fun p _ h => hf p h)) (Ev.neg (by omega) ?_)
    by_cases h1 : d < 0
    · have e1 : cellAt true (m : Int) l1 d = z52 := by unfold cellAt; rw [if_pos rfl, if_neg (by omega)]
      rw [e1]
      exact Ev.pos h1 (Ev.ret rfl)
    refine Ev.neg h1 ?_
    by_cases h2 : d ≥ (l1.length : Int)
    · have e1 : cellAt true (m : Int) l1 d = z52 := by unfold cellAt; rw [if_pos rfl, if_pos (show 0 ≤ d by omega), if_neg (by omega)]
      rw [e1]
      exact Ev.pos h2 (Ev.ret rfl)
    refine Ev.neg h2 (Ev.pos (by omega) (Ev.pos (by omega) ?_))
    by_cases h3 : (m : Int) ≥ ((rd_L4 l1 d).length : Int)
    · have e1 : cellAt true (m : Int) l1 d = z52 := by unfold cellAt; rw [if_pos rfl, if_pos (show 0 ≤ d by omega), if_pos (show d < (l1.length : Int) by omega), if_neg (by omega)]
      rw [e1]
      exact Ev.pos h3 (Ev.ret rfl)
    refine Ev.neg h3 (Ev.pos (by omega) (Ev.pos (by omega) ?_))
    by_cases h4 : (rd_T52 (rd_L4 l1 d) (m : Int)).f0 = true
    · have e1 : cellAt true (m : Int) l1 d = rd_T52 (rd_L4 l1 d) (m : Int) := by unfold cellAt; rw [if_pos rfl, if_pos (show 0 ≤ d by omega), if_pos (show d < (l1.length : Int) by omega), if_pos (by omega), if_pos h4]
      rw [e1]
      exact Ev.pos h4 (Ev.ret rfl)
    · have e1 : cellAt true (m : Int) l1 d = z52 := by unfold cellAt; rw [if_pos rfl, if_pos (show 0 ≤ d by omega), if_pos (show d < (l1.length : Int) by omega), if_pos (by omega), if_neg h4]
      rw [e1]
      exact Ev.neg h4 (Ev.ret rfl)
  · have e : cellC l0 l1 n d = z52 := by
      unfold cellC cellAt
      rw [if_neg (fun h => hn ((h2 n).1 h))]
    rw [e]
    exact Ev.bind (a := -1) (col_no l0 hl n hn l0.length 0 (by omega)) (Ev.pos (by omega) (Ev.ret rfl))
/-! the reference's Agree -/
def okD (l0 : List ByteArray) (l1 : List (List S52)) (m0 : List ByteArray) (m1 : List (List S52)) (d : Nat) : Prop := ∀ n, n ∈ l0 ∨ n ∈ m0 → cellC l0 l1 n d = cellC m0 m1 n d
section
variable (l0 : List ByteArray) (l1 : List (List S52)) (m0 : List ByteArray) (m1 : List (List S52))
theorem ra_l1 (hl : l0.length + m0.length < 8796093022208) (x2 : Int) (d : Nat) (r : Bool) : ∀ g i : Nat, i + g = (l0 ++ m0).length →
    ((∀ j, i ≤ j → j < (l0 ++ m0).length → cellC l0 l1 (nth (l0 ++ m0) j) d = cellC m0 m1 (nth (l0 ++ m0) j) d) → Ev (fun k => payoffref05_Agree.l0 k x2 (l0 ++ m0) (wrap64 ((d : Int) + 1)) l0 l1 m0 m1) r) →
    (¬ (∀ j, i ≤ j → j < (l0 ++ m0).length → cellC l0 l1 (nth (l0 ++ m0) j) d = cellC m0 m1 (nth (l0 ++ m0) j) d) → r = false) →
    Ev (fun k => payoffref05_Agree.l1 k x2 (l0 ++ m0) (d : Int) (i : Int) l0 l1 m0 m1) r := by
  have hln : (l0 ++ m0).length = l0.length + m0.length := List.length_append
  intro g
  induction g with
  | zero => intro i hi h1 h2; exact Ev.step (fun k => payoffref05_Agree.l1.eq_2 ..) (Ev.neg (by omega) (h1 (fun j a b => by omega)))
  | succ g ih =>
    intro i hi h1 h2
    refine Ev.step (fun k => payoffref05_Agree.l1.eq_2 ..) (Ev.pos (by omega) (Ev.pos (by omega) (Ev.bind (rcell_ev l0 l1 (by omega) (nth (l0 ++ m0) i) d) (Ev.bind (rcell_ev m0 m1 (by omega) (nth (l0 ++ m0) i) d) ?_))))
    by_cases he : cellC l0 l1 (nth (l0 ++ m0) i) d = cellC m0 m1 (nth (l0 ++ m0) i) d
    · refine Ev.neg (fun h => Bool.noConfusion (h.symm.trans (ne52_no he))) ?_
      rw [w64n i (by omega)]
      refine ih (i + 1) (by omega) (fun h => h1 (fun j a b => ?_)) (fun h => h2 (fun h' => h (fun j a b => h' j (by omega) b)))
      by_cases e : j = i
      · subst e; exact he
      · exact h j (by omega) b
    · rw [h2 (fun h => he (h i (Nat.le_refl _) (by omega)))]
      exact Ev.pos (ne52_yes he) (Ev.ret rfl)
theorem ra_l0 (hl : l0.length + m0.length < 8796093022208) (x2 : Int) (hx : x2 ≤ 9223372036854775805) (r : Bool) : ∀ g d : Nat, (x2 + 1 - (d : Int)).toNat = g →
    ((∀ d' : Nat, d ≤ d' → (d' : Int) ≤ x2 → okD l0 l1 m0 m1 d') → r = true) → (¬ (∀ d' : Nat, d ≤ d' → (d' : Int) ≤ x2 → okD l0 l1 m0 m1 d') → r = false) →
    Ev (fun k => payoffref05_Agree.l0 k x2 (l0 ++ m0) (d : Int) l0 l1 m0 m1) r := by
  intro g
  induction g with
  | zero =>
    intro d hd h1 h2
    rw [h1 (fun d' a b => by omega)]
    exact Ev.step (fun k => payoffref05_Agree.l0.eq_2 ..) (Ev.neg (by omega) (Ev.ret rfl))
  | succ g ih =>
    intro d hd h1 h2
    refine Ev.step (fun k => payoffref05_Agree.l0.eq_2 ..) (Ev.pos (by omega) (ra_l1 l0 l1 m0 m1 hl x2 d r (l0 ++ m0).length 0 (by omega) (fun hall => ?_) (fun hn => h2 (fun h => hn (fun j _ hj => h d (Nat.le_refl _) (by omega) _ (List.mem_append.1 (nth_mem _ j hj)))))))
    have hd0 : okD l0 l1 m0 m1 d := fun n hn => by
      obtain ⟨j, hj, e⟩ := mem_nth (List.mem_append.2 hn)
      rw [← e]; exact hall j (by omega) hj
    rw [w64n d (by omega)]
    refine ih (d + 1) (by omega) (fun h => h1 (fun d' a b => ?_)) (fun h => h2 (fun h' => h (fun d' a b => h' d' (by omega) b)))
    by_cases e : d' = d
    · subst e; exact hd0
    · exact h d' (by omega) b
theorem ragree_ev (hl : l0.length + m0.length < 8796093022208) (hl1 : l1.length ≤ 140737488351232) (hm1 : m1.length ≤ 140737488351232) (last : Int) (r : Bool)
    (h1 : (∀ d : Nat, d < max l1.length m1.length → (d : Int) ≤ last → okD l0 l1 m0 m1 d) → r = true) (h2 : ¬ (∀ d : Nat, d < max l1.length m1.length → (d : Int) ≤ last → okD l0 l1 m0 m1 d) → r = false) :
    Ev (fun k => payoffref05_Agree.f k l0 l1 m0 m1 last) r := by
  have key1 : ∀ x2 : Int, x2 ≤ 9223372036854775805 → (∀ d : Nat, (d : Int) ≤ x2 ↔ (d < max l1.length m1.length ∧ (d : Int) ≤ last)) → Ev (fun k => payoffref05_Agree.j1 k x2 l0 l1 m0 m1) r := by
    intro x2 hx he
    refine Ev.step (fun k => payoffref05_Agree.j1.eq_2 ..) (Ev.pos (by simp; omega) (Ev.call (a := l0) rfl (Ev.pos (by omega) ?_)))
    exact ra_l0 l0 l1 m0 m1 hl x2 hx r _ 0 rfl (fun h => h1 (fun d a b => h d (by omega) ((he d).2 ⟨a, b⟩))) (fun h => h2 (fun h' => h (fun d _ b => h' d ((he d).1 b).1 ((he d).1 b).2)))
  have key0 : ∀ M : Nat, M = max l1.length m1.length → Ev (fun k => payoffref05_Agree.j0 k last (M : Int) l0 l1 m0 m1) r := by
    intro M hM
    by_cases hg : last ≥ (M : Int)
    · refine Ev.step (fun k => payoffref05_Agree.j0.eq_2 ..) (Ev.pos hg ?_)
      rw [show wrap64 ((M : Int) - 1) = (M : Int) - 1 from w64 (by omega)]
      exact key1 _ (by omega) (fun d => by omega)
    · exact Ev.step (fun k => payoffref05_Agree.j0.eq_2 ..) (Ev.neg hg (key1 _ (by omega) (fun d => by omega)))
  unfold payoffref05_Agree.f
  by_cases hg : (m1.length : Int) > (l1.length : Int)
  · exact Ev.pos hg (key0 m1.length (by omega))
  · exact Ev.neg hg (key0 l1.length (by omega))
end
theorem Ev.one {α : Type} {f : Nat → Option α} {a : α} (h : Ev f a) (k : Nat) : ∃ k', k ≤ k' ∧ ∀ n, k' ≤ n → f n = some a := by
  obtain ⟨K, hK⟩ := h
  exact ⟨max k K, by omega, fun n hn => hK n (by omega)⟩
theorem TableAgrees_walk (A0 : Option Addr) (c0 : Nat) (l0 : List ByteArray) (A1 : Option Addr) (c1 : Nat) (l1 : List (List S52)) (B0 : Option Addr) (d0 : Nat) (m0 : List ByteArray) (B1 : Option Addr) (d1 : Nat) (m1 : List (List S52)) (last : Int) (w : World)
    (h0 : Kd.C Kd.string w A0 l0.length l0) (hc0 : l0.length ≤ c0) (h1 : Kd.C (Kd.slice 52 k52) w A1 l1.length l1) (hc1 : l1.length ≤ c1)
    (b0 : l0.length * 16 ≤ 140737488351232) (b1 : ∀ n ∈ l0, n.size ≤ 140737488351232) (b2 : l1.length * 24 ≤ 140737488351232) (b3 : ∀ r ∈ l1, r.length * 16 ≤ 140737488351232)
    (g0 : Kd.C Kd.string w B0 m0.length m0) (gc0 : m0.length ≤ d0) (g1 : Kd.C (Kd.slice 52 k52) w B1 m1.length m1) (gc1 : m1.length ≤ d1)
    (e0 : m0.length * 16 ≤ 140737488351232) (e1 : ∀ n ∈ m0, n.size ≤ 140737488351232) (e2 : m1.length * 24 ≤ 140737488351232) (e3 : ∀ r ∈ m1, r.length * 16 ≤ 140737488351232) (hsum : l0.length + m0.length < 8796093022208) (hG : Gl w) :
    Calls Tryd.prog 3 #[.agg #[.slice A0 l0.length c0, .slice A1 l1.length c1], .agg #[.slice B0 m0.length d0, .slice B1 m1.length d1], .int .i64 last] w fun e w' => e = .returned (.bool true) ∧ Below w.heap.size w w' := by
  have hB : ∀ r ∈ l1, r.length ≤ 8796093022204 := fun r hr => by have := b3 r hr; omega
  have hB' : ∀ r ∈ m1, r.length ≤ 8796093022204 := fun r hr => by have := e3 r hr; omega
  obtain ⟨r, hr1, hr2⟩ : ∃ r : Bool, ((∀ d : Nat, d < max l1.length m1.length → (d : Int) ≤ last → okD l0 l1 m0 m1 d) → r = true) ∧ (¬ (∀ d : Nat, d < max l1.length m1.length → (d : Int) ≤ last → okD l0 l1 m0 m1 d) → r = false) := by
    rcases Classical.em (∀ d : Nat, d < max l1.length m1.length → (d : Int) ≤ last → okD l0 l1 m0 m1 d) with h | h
    · exact ⟨true, fun _ => rfl, fun h' => absurd h h'⟩
    · exact ⟨false, fun h' => absurd h' h, fun _ => rfl⟩
  have hyes : r = true → ∀ d : Nat, d < max l1.length m1.length → (d : Int) ≤ last → okD l0 l1 m0 m1 d := fun e => by
    refine Classical.byContradiction fun h => ?_
    rw [hr2 h] at e; cases e
  have hno : r = false → ∃ d : Nat, d < max l1.length m1.length ∧ (d : Int) ≤ last ∧ ∃ n, (n ∈ l0 ∨ n ∈ m0) ∧ cellC l0 l1 n d ≠ cellC m0 m1 n d := fun e => by
    refine Classical.byContradiction fun h => ?_
    have : r = true := hr1 (fun d a b n hn => Classical.byContradiction fun hne => h ⟨d, a, b, n, hn, hne⟩)
    rw [this] at e; cases e
  have hv : AgreeIs l0 l1 m0 m1 last r := { sa := b1, la := by omega, ma := by omega, sb := e1, lb := by omega, mb := by omega, ca := fun n => ⟨(colC_at l0 n).1, (colC_at l0 n).2.1⟩, cb := fun n => ⟨(colC_at m0 n).1, (colC_at m0 n).2.1⟩, ha := (colD_facts l0).2.1, hb := (colD_facts m0).2.1, yes := hyes, no := hno }
  obtain ⟨k, f1, f2, f3⟩ := Ev.both3 (own_ev A0.isNone A1.isNone l0 l1 (nil_of h1) (by omega) (by omega) hB) (own_ev B0.isNone B1.isNone m0 m1 (nil_of g1) (by omega) (by omega) hB') (ragree_ev l0 l1 m0 m1 hsum (by omega) (by omega) last r hr1 hr2)
  exact payofflaw05_TableAgrees.calls k A0 c0 l0 A1 c1 l1 B0 d0 m0 B1 d1 m1 last _ _ _ _ r w h0 hc0 h1 hc1 g0 gc0 g1 gc1 f1 f2 hv f3 ⟨rfl, by omega⟩ ⟨rfl, by omega, fun r hr => by have := hB r hr; omega⟩ (nil_of h0) ⟨rfl, by omega⟩ ⟨rfl, by omega, fun r hr => by have := hB' r hr; omega⟩ (nil_of g0) hG
end Go.Proofs.YtppojbafagneeaaDoor.Pure
