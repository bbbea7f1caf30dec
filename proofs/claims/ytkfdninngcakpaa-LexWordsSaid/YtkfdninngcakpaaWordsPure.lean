/- Own text: what the reference answers of a text (chapter 06: words), in plain Lean; no condition but that the text has room in memory. -/
import Derived.Test.YtkfdninngcakpaaWords
namespace Go.Proofs.Ytkfdninngcakpaa.Pure
open Go.RowKit Go.Maps Go.WideMaps Go.WideElems Go.Proofs.Ytkfdninngcakpaa.PLexWords Go.Proofs.YtkfdninngcakpaaW.PrintWords Go.Proofs.YtkfdninngcakpaaW.PrintLast Go.Proofs.YtkfdninngcakpaaW.PrintMore
set_option linter.unusedVariables false
set_option linter.unusedSimpArgs false
/-! Rounds: an answer that stands from some number of rounds on -/
theorem Ev.pos {α : Type} {c : Prop} [Decidable c] {a b : Nat → Option α} {r : α} (h : c) (k : Ev a r) : Ev (fun n => if c then a n else b n) r := by
  simpa only [if_pos h] using k
theorem Ev.neg {α : Type} {c : Prop} [Decidable c] {a b : Nat → Option α} {r : α} (h : ¬c) (k : Ev b r) : Ev (fun n => if c then a n else b n) r := by
  simpa only [if_neg h] using k
/-- A call without rounds. -/
theorem Ev.call {α β : Type} {x : Option α} {f : Nat → α → Option β} {a : α} {r : β} (h : x = some a) (k : Ev (fun n => f n a) r) : Ev (fun n => x.bind (f n)) r := by
  subst h; simpa only [Option.bind_some] using k
theorem Ev.ret {α : Type} {r s : α} (h : s = r) : Ev (fun _ => some s) r := ⟨0, fun _ _ => by rw [h]⟩
theorem w64 {n : Int} (h : -9223372036854775808 ≤ n ∧ n ≤ 9223372036854775807) : wrap64 n = n := by unfold wrap64; omega
theorem wu64 {n : Int} (h : 0 ≤ n ∧ n ≤ 18446744073709551615) : IntKind.u64.wrap n = n := by
  simp only [IntKind.wrap, IntKind.bits, IntKind.signed]; simp; omega
theorem wf64 {a : Int} (h : (Lit.int .i64 a).wf = true) : -9223372036854775808 ≤ a ∧ a ≤ 9223372036854775807 := by
  simp only [Lit.wf, IntKind.min, IntKind.max, IntKind.signed, IntKind.bits, Bool.and_eq_true, decide_eq_true_eq, if_true] at h
  omega
theorem wfu64 {a : Int} (h : (Lit.int .u64 a).wf = true) : 0 ≤ a ∧ a ≤ 18446744073709551615 := by
  simp only [Lit.wf, IntKind.min, IntKind.max, IntKind.signed, IntKind.bits, Bool.and_eq_true, decide_eq_true_eq] at h
  simp at h
  omega
theorem wf8 {a : Int} (h : (Lit.int .u8 a).wf = true) : 0 ≤ a ∧ a ≤ 255 := by
  simp only [Lit.wf, IntKind.min, IntKind.max, IntKind.signed, IntKind.bits, Bool.and_eq_true, decide_eq_true_eq] at h
  simp at h
  omega

/-! The words of chapter 06: what the reference answers of a text. -/
theorem mem_kw {a0 : ByteArray} : kwB a0 = true ↔ a0.toList ∈ KW := by simp [kwB]
def runB (c : Int) : Bool := digitB c || smallB c || bigB c || (c == 95)
def allL (P : Int → Bool) (a0 : ByteArray) : Nat → Int → Bool
  | 0, _ => true
  | n + 1, i => P (bt a0 i) && allL P a0 n (i + 1)
theorem allL_and (P Q R : Int → Bool) (a0 : ByteArray) (h : ∀ c, 0 ≤ c → c ≤ 255 → (P c && Q c) = R c) : ∀ n i, (allL P a0 n i && allL Q a0 n i) = allL R a0 n i := by
  intro n
  induction n with
  | zero => intro i; rfl
  | succ n ih =>
    intro i
    rw [allL, allL, allL, ← ih, ← h _ (bt_range a0 i).1 (bt_range a0 i).2]
    cases P (bt a0 i) <;> cases Q (bt a0 i) <;> cases allL P a0 n (i + 1) <;> rfl
theorem nameL_all (L : Int → Bool) (a0 : ByteArray) : ∀ n i, nameL L a0 n i = allL (fun c => L c || digitB c || (c == 95)) a0 n i := by
  intro n
  induction n with
  | zero => intro i; rfl
  | succ n ih => intro i; rw [nameL, allL, ih]
theorem capital_is (c : Int) : payoffref06_capital.f c = some (bigB c) := by unfold payoffref06_capital.f bigB; by_cases h : c ≥ 65 <;> simp [h]
theorem small_is (c : Int) : payoffref06_small.f c = some (smallB c) := by unfold payoffref06_small.f smallB; by_cases h : c ≥ 97 <;> simp [h]
theorem digit_is (c : Int) : payoffref06_digit.f c = some (digitB c) := by unfold payoffref06_digit.f digitB; by_cases h : c ≥ 48 <;> simp [h]
theorem big_is (c : Int) : lex_big.f c = some (bigB c) := by unfold lex_big.f bigB; by_cases h : c ≥ 65 <;> simp [h]
theorem runs_is (c : Int) : payoffref06_runs.f c = some (runB c) := by
  unfold payoffref06_runs.f runB
  rw [digit_is, small_is, capital_is]
  cases digitB c <;> cases smallB c <;> cases bigB c <;> simp
theorem run_is (a0 : ByteArray) (hs : a0.size ≤ 140737488351232) : ∀ (n : Nat) (i : Int), 0 ≤ i → i + n = a0.size →
    ∃ t, Ev (fun k => payoffref06_run.l0 k a0 0 i) t ∧ (t.toList = a0.toList ↔ allL runB a0 n i = true) := by
  intro n
  induction n with
  | zero =>
    intro i h0 h1
    refine ⟨a0, Ev.step (fun k => payoffref06_run.l0.eq_2 ..) (Ev.neg (by omega) (Ev.pos (by omega) (Ev.pos (by omega) (Ev.pos (by omega) (Ev.ret ?_))))), by simp [allL]⟩
    rw [show (i : Int).toNat = a0.size by omega]; simp
  | succ n ih =>
    intro i h0 h1
    cases hr : runB (bt a0 i) with
    | true =>
      obtain ⟨t, ht, hi⟩ := ih (i + 1) (by omega) (by omega)
      refine ⟨t, Ev.step (fun k => payoffref06_run.l0.eq_2 ..) (Ev.pos (by omega) (Ev.pos h0 (Ev.call (runs_is _) (Ev.pos hr ?_)))), by rw [hi, allL, hr]; simp⟩
      rw [w64 (by omega)]; exact ht
    | false =>
      refine ⟨a0.extract 0 i.toNat, Ev.step (fun k => payoffref06_run.l0.eq_2 ..) (Ev.pos (by omega) (Ev.pos h0 (Ev.call (runs_is _) (Ev.neg (by rw [hr]; decide) (Ev.pos (by omega) (Ev.pos h0 (Ev.pos (by omega) (Ev.ret rfl)))))))), ?_⟩
      rw [allL, hr]
      simp only [Bool.false_and, Bool.false_eq_true, iff_false]
      intro e
      have := congrArg List.length e
      rw [size_list, size_list, ByteArray.size_extract] at this
      omega
theorem names1_is (a0 : ByteArray) (hs : a0.size ≤ 140737488351232) (s : ByteArray) : ∀ (n : Nat) (i : Int), 0 ≤ i → i + n = a0.size →
    ∃ t, Ev (fun k => payoffref06_names.l0 k a0 0 i 1 s 0 0 0 0 0 0 0) t ∧ (t.2.2.2.2.2.2.2.2.2.2 = 0 ↔ (allL (fun c => !bigB c) a0 n i = true ∧ a0.size ≤ 31)) := by
  intro n
  induction n with
  | zero =>
    intro i h0 h1
    by_cases h : (a0.size : Int) > 31
    · exact ⟨_, Ev.step (fun k => payoffref06_names.l0.eq_2 ..) (Ev.neg (by omega) (Ev.pos h (Ev.ret rfl))), by simp [allL]; omega⟩
    · exact ⟨_, Ev.step (fun k => payoffref06_names.l0.eq_2 ..) (Ev.neg (by omega) (Ev.neg h (Ev.ret rfl))), by simp [allL]; omega⟩
  | succ n ih =>
    intro i h0 h1
    cases hr : bigB (bt a0 i) with
    | true => exact ⟨_, Ev.step (fun k => payoffref06_names.l0.eq_2 ..) (Ev.pos (by omega) (Ev.pos rfl (Ev.pos h0 (Ev.call (capital_is _) (Ev.pos hr (Ev.ret rfl)))))), by simp [allL, hr]⟩
    | false =>
      obtain ⟨t, ht, hi⟩ := ih (i + 1) (by omega) (by omega)
      refine ⟨t, Ev.step (fun k => payoffref06_names.l0.eq_2 ..) (Ev.pos (by omega) (Ev.pos rfl (Ev.pos h0 (Ev.call (capital_is _) (Ev.neg (by rw [hr]; decide) (Ev.neg (by decide) ?_)))))), by rw [hi, allL, hr]; simp⟩
      rw [w64 (by omega)]; exact ht
theorem names2_is (a0 : ByteArray) (hs : a0.size ≤ 140737488351232) (s : ByteArray) : ∀ (n : Nat) (i : Int), 0 ≤ i → i + n = a0.size →
    ∃ t, Ev (fun k => payoffref06_names.l0 k a0 0 i 2 s 0 0 0 0 0 0 0) t ∧ (t.2.2.2.2.2.2.2.2.2.2 = 0 ↔ (allL (fun c => !smallB c) a0 n i = true ∧ a0.size ≤ 31)) := by
  intro n
  induction n with
  | zero =>
    intro i h0 h1
    by_cases h : (a0.size : Int) > 31
    · exact ⟨_, Ev.step (fun k => payoffref06_names.l0.eq_2 ..) (Ev.neg (by omega) (Ev.pos h (Ev.ret rfl))), by simp [allL]; omega⟩
    · exact ⟨_, Ev.step (fun k => payoffref06_names.l0.eq_2 ..) (Ev.neg (by omega) (Ev.neg h (Ev.ret rfl))), by simp [allL]; omega⟩
  | succ n ih =>
    intro i h0 h1
    cases hr : smallB (bt a0 i) with
    | true => exact ⟨_, Ev.step (fun k => payoffref06_names.l0.eq_2 ..) (Ev.pos (by omega) (Ev.neg (by decide) (Ev.pos rfl (Ev.pos h0 (Ev.call (small_is _) (Ev.pos hr (Ev.ret rfl))))))), by simp [allL, hr]⟩
    | false =>
      obtain ⟨t, ht, hi⟩ := ih (i + 1) (by omega) (by omega)
      refine ⟨t, Ev.step (fun k => payoffref06_names.l0.eq_2 ..) (Ev.pos (by omega) (Ev.neg (by decide) (Ev.pos rfl (Ev.pos h0 (Ev.call (small_is _) (Ev.neg (by rw [hr]; decide) ?_)))))), by rw [hi, allL, hr]; simp⟩
      rw [w64 (by omega)]; exact ht
theorem keyword_is' (a0 : ByteArray) : Ev (fun k => payoffref06_Keyword.f k a0) (kwB a0) := by
  obtain ⟨l, hl⟩ : ∃ l, payoffref06_keywords.f = some l := ⟨_, rfl⟩
  have hm : l.map (fun b => b.toList) = KW := by
    cases hl
    simp only [ByteArray.toList_eq]
    rfl
  refine Ev.call (f := fun k t => payoffref06_Keyword.l0 k a0 t 0) hl ?_
  have hlen : l.length = 43 := by rw [← List.length_map (fun b : ByteArray => b.toList), hm]; rfl
  have : ∀ (n : Nat) (i : Int), 0 ≤ i → i + n = l.length → Ev (fun k => payoffref06_Keyword.l0 k a0 l i) (decide (a0.toList ∈ (l.drop i.toNat).map (fun b => b.toList))) := by
    intro n
    induction n with
    | zero =>
      intro i h0 h1
      refine Ev.step (fun k => payoffref06_Keyword.l0.eq_2 ..) (Ev.neg (by omega) (Ev.ret ?_))
      rw [List.drop_eq_nil_of_le (by omega)]; simp
    | succ n ih =>
      intro i h0 h1
      have hi : i.toNat < l.length := by omega
      have hd : l.drop i.toNat = l[i.toNat] :: l.drop (i.toNat + 1) := List.drop_eq_getElem_cons hi
      have hg : rdOf ByteArray.empty l i = l[i.toNat] := by unfold rdOf; rw [List.getD_eq_getElem?_getD, List.getElem?_eq_getElem hi]; rfl
      refine Ev.step (fun k => payoffref06_Keyword.l0.eq_2 ..) (Ev.pos (by omega) (Ev.pos h0 ?_))
      rw [hg, hd]
      by_cases e : l[i.toNat].toList = a0.toList
      · exact Ev.pos e (Ev.ret (decide_eq_true (by rw [List.map_cons, List.mem_cons]; exact .inl e.symm)).symm)
      · refine Ev.neg e ?_
        rw [w64 (by omega)]
        have := ih (i + 1) (by omega) (by omega)
        rw [show (i + 1).toNat = i.toNat + 1 by omega] at this
        have e' : (a0.toList ∈ (l[i.toNat] :: l.drop (i.toNat + 1)).map (fun b => b.toList)) ↔ (a0.toList ∈ (l.drop (i.toNat + 1)).map (fun b => b.toList)) := by
          rw [List.map_cons, List.mem_cons]; constructor
          · rintro (h | h)
            · exact absurd h.symm e
            · exact h
          · exact .inr
        rw [decide_eq_decide.mpr e']
        exact this
  have := this 43 0 (by omega) (by omega)
  rwa [show (0 : Int).toNat = 0 from rfl, List.drop_zero, hm] at this
theorem pair_small (c : Int) (h0 : 0 ≤ c) (h1 : c ≤ 255) : (runB c && !bigB c) = (smallB c || digitB c || (c == 95)) := by
  unfold runB bigB smallB digitB
  by_cases a : 65 ≤ c <;> by_cases b : c ≤ 90 <;> by_cases d : 97 ≤ c <;> by_cases e : c ≤ 122 <;> by_cases f : 48 ≤ c <;> by_cases g : c ≤ 57 <;> by_cases k : c = 95 <;> first | (exfalso; omega) | simp [a, b, d, e, f, g, k]
theorem pair_big (c : Int) (h0 : 0 ≤ c) (h1 : c ≤ 255) : (runB c && !smallB c) = (bigB c || digitB c || (c == 95)) := by
  unfold runB bigB smallB digitB
  by_cases a : 65 ≤ c <;> by_cases b : c ≤ 90 <;> by_cases d : 97 ≤ c <;> by_cases e : c ≤ 122 <;> by_cases f : 48 ≤ c <;> by_cases g : c ≤ 57 <;> by_cases k : c = 95 <;> first | (exfalso; omega) | simp [a, b, d, e, f, g, k]
theorem small_not_big (c : Int) (h : smallB c = true) : bigB c = false := by
  simp only [smallB, bigB, Bool.and_eq_true, decide_eq_true_eq] at *
  simp; omega
theorem nil_size {a0 : ByteArray} : a0.toList = [] ↔ a0.size = 0 := by rw [← size_list]; exact List.length_eq_zero_iff.symm
theorem name_small (a0 : ByteArray) (h0 : 1 ≤ a0.size) (hl : smallB (bt a0 0) = true) : nameB smallB a0 = (allL runB a0 a0.size 0 && (allL (fun c => !bigB c) a0 a0.size 0 && decide (a0.size ≤ 31))) := by
  rw [nameB, nameL_all, ← allL_and runB (fun c => !bigB c) _ a0 pair_small, decide_eq_true h0, hl]
  cases decide (a0.size ≤ 31) <;> simp
theorem name_big (a0 : ByteArray) (h0 : 1 ≤ a0.size) (hl : bigB (bt a0 0) = true) : nameB bigB a0 = (allL runB a0 a0.size 0 && (allL (fun c => !smallB c) a0 a0.size 0 && decide (a0.size ≤ 31))) := by
  rw [nameB, nameL_all, ← allL_and runB (fun c => !smallB c) _ a0 pair_big, decide_eq_true h0, hl]
  cases decide (a0.size ≤ 31) <;> simp
theorem refSmall_is (a0 : ByteArray) (hs : a0.size ≤ 140737488351232) : Ev (fun k => payoffref06_Small.f k a0) (nameB smallB a0 && !kwB a0) := by
  have hbad : ∀ b, b = false → Ev (fun k => payoffref06_Small.j0 k a0 true) b := fun b hb => Ev.step (fun k => payoffref06_Small.j0.eq_2 ..) (Ev.pos rfl (Ev.ret hb.symm))
  by_cases h : a0.toList = []
  · refine Ev.pos h (hbad _ ?_)
    rw [nameB, decide_eq_false (by rw [nil_size] at h; omega)]; rfl
  · have h0 : 1 ≤ a0.size := by rw [nil_size] at h; omega
    refine Ev.neg h (Ev.pos (by omega) (Ev.call (small_is _) ?_))
    cases hl : smallB (bt a0 0) with
    | false =>
      refine Ev.neg (by decide) (hbad _ ?_)
      rw [nameB, hl]; simp
    | true =>
      obtain ⟨t, ht, hi⟩ := run_is a0 hs a0.size 0 (by omega) (by omega)
      refine Ev.pos rfl (Ev.bind (f := fun k t => payoffref06_Small.j0 k a0 (t.toList != a0.toList)) (g := fun k => payoffref06_run.f k a0 0) ht ?_)
      rw [name_small a0 h0 hl]
      cases hr : allL runB a0 a0.size 0 with
      | false =>
        rw [show (t.toList != a0.toList) = true by rw [bne_iff_ne]; intro e; rw [hi.mp e] at hr; cases hr]
        exact hbad _ (by simp)
      | true =>
        rw [show (t.toList != a0.toList) = false by rw [bne_eq_false_iff_eq]; exact hi.mpr hr]
        obtain ⟨u, hu, hj⟩ := names1_is a0 hs a0 a0.size 0 (by omega) (by omega)
        refine Ev.step (fun k => payoffref06_Small.j0.eq_2 ..) (Ev.neg (by decide) (Ev.bind (g := fun k => payoffref06_names.f k a0 0) (a := u) ?_ ?_))
        · exact Ev.pos (by omega) (Ev.call (capital_is _) (Ev.neg (by rw [small_not_big _ hl]; decide) (Ev.step (fun k => payoffref06_names.j0.eq_2 ..) hu)))
        · by_cases hz : u.2.2.2.2.2.2.2.2.2.2 = 0
          · refine Ev.pos hz (Ev.bind (keyword_is' a0) (Ev.ret ?_))
            rw [(hj.mp hz).1, decide_eq_true (hj.mp hz).2]; rfl
          · refine Ev.neg hz (Ev.ret ?_)
            cases h1 : allL (fun c => !bigB c) a0 a0.size 0
            · rfl
            · rw [decide_eq_false (fun h2 => hz (hj.mpr ⟨h1, h2⟩))]; rfl
theorem refCapital_is (a0 : ByteArray) (hs : a0.size ≤ 140737488351232) : Ev (fun k => payoffref06_Capital.f k a0) (nameB bigB a0) := by
  by_cases h : a0.toList = []
  · refine Ev.pos h (Ev.ret ?_)
    rw [nameB, decide_eq_false (by rw [nil_size] at h; omega)]; rfl
  · have h0 : 1 ≤ a0.size := by rw [nil_size] at h; omega
    refine Ev.neg h (Ev.pos (by omega) (Ev.call (capital_is _) ?_))
    cases hl : bigB (bt a0 0) with
    | false =>
      refine Ev.neg (by decide) (Ev.ret ?_)
      rw [nameB, hl]; simp
    | true =>
      obtain ⟨t, ht, hi⟩ := run_is a0 hs a0.size 0 (by omega) (by omega)
      refine Ev.pos rfl (Ev.bind (g := fun k => payoffref06_run.f k a0 0) ht ?_)
      rw [name_big a0 h0 hl]
      cases hr : allL runB a0 a0.size 0 with
      | false => exact Ev.neg (fun e => by rw [hi.mp e] at hr; cases hr) (Ev.ret (by simp))
      | true =>
        obtain ⟨u, hu, hj⟩ := names2_is a0 hs a0 a0.size 0 (by omega) (by omega)
        refine Ev.pos (hi.mpr hr) (Ev.bind (g := fun k => payoffref06_names.f k a0 0) (a := u) ?_ (Ev.ret ?_))
        · exact Ev.pos (by omega) (Ev.call (capital_is _) (Ev.pos hl (Ev.step (fun k => payoffref06_names.j0.eq_2 ..) hu)))
        · by_cases hz : u.2.2.2.2.2.2.2.2.2.2 = 0
          · rw [(hj.mp hz).1, decide_eq_true (hj.mp hz).2, hz]; rfl
          · rw [show (u.2.2.2.2.2.2.2.2.2.2 == 0) = false from beq_eq_false_iff_ne.mpr hz]
            cases h1 : allL (fun c => !smallB c) a0 a0.size 0
            · rfl
            · rw [decide_eq_false (fun h2 => hz (hj.mpr ⟨h1, h2⟩))]; rfl
def curB (a0 : ByteArray) : Bool := decide ((a0.size : Int) = 3) && (bigB (bt a0 0) && (bigB (bt a0 1) && bigB (bt a0 2)))
theorem cur_is (a0 : ByteArray) : lex_Currency.f a0 = some (curB a0) := by
  unfold lex_Currency.f curB
  by_cases h : (a0.size : Int) = 3
  · rw [if_pos h, if_pos (by omega), big_is, Option.bind_some]
    cases bigB (bt a0 0) <;> cases h1 : bigB (bt a0 1) <;> cases h2 : bigB (bt a0 2) <;> simp [big_is, h1, h2, h, show 1 < a0.size by omega, show 2 < a0.size by omega]
  · simp [h]
theorem refCur_is (a0 : ByteArray) : payoffref06_Currency.f a0 = some (curB a0) := by
  unfold payoffref06_Currency.f curB
  by_cases h : (a0.size : Int) = 3
  · rw [if_pos h, if_pos (by omega), capital_is, Option.bind_some]
    cases bigB (bt a0 0) <;> cases h1 : bigB (bt a0 1) <;> cases h2 : bigB (bt a0 2) <;> simp [capital_is, h1, h2, h, show 1 < a0.size by omega, show 2 < a0.size by omega]
  · simp [h]

end Go.Proofs.Ytkfdninngcakpaa.Pure
