/- Own text: LexNames: a text is a name just if it is one token of that kind, whole; a keyword is a word that is no name; a currency is a capital name; no condition but that the listed package variables stand. -/
import Derived.Test.YtkfdninngcakpaaDoorLexTellP
import Derived.Test.YtkfdninngcakpaaDoorQLexNames
namespace Go.Proofs.YtkfdninngcakpaaDoor.Pure
open Go.RowKit Go.Proofs.YtkfdninngcakpaaDoor.PLex Go.Proofs.YtkfdninngcakpaaDoorW.PrintWords Go.Proofs.YtkfdninngcakpaaDoorW.PrintLast Go.Proofs.YtkfdninngcakpaaDoorW.PrintMore
set_option linter.unusedVariables false
set_option linter.unusedSimpArgs false
theorem name_bad (L : Int → Bool) (s : ByteArray) : ∀ (n : Nat) (i : Int), badAt L s n i ≤ i + (n : Int) ∧ (nameL L s n i = true ↔ badAt L s n i = i + (n : Int)) := by
  intro n
  induction n with
  | zero => intro i; exact ⟨by show i ≤ i + 0; omega, ⟨fun _ => by show i = i + 0; omega, fun _ => rfl⟩⟩
  | succ n ih =>
    intro i
    obtain ⟨h1, h2⟩ := ih (i + 1)
    rw [badAt, nameL]
    by_cases g : okB L (bt s i) = true
    · rw [if_pos g]
      have g' := g
      unfold okB at g'
      rw [g', Bool.true_and]
      refine ⟨by omega, ?_⟩
      rw [h2]; constructor <;> intro h <;> omega
    · rw [if_neg g]
      have g' := Bool.eq_false_iff.mpr g
      unfold okB at g'
      rw [g', Bool.false_and]
      exact ⟨by omega, ⟨fun h => (by cases h), fun h => by exfalso; omega⟩⟩
theorem name_parts {L : Int → Bool} {s : ByteArray} (h : nameB L s = true) : 1 ≤ s.size ∧ s.size ≤ 31 ∧ L (bt s 0) = true ∧ nameL L s s.size 0 = true := by
  unfold nameB at h
  simp only [Bool.and_eq_true, decide_eq_true_eq] at h
  exact ⟨h.1.1.1, h.1.1.2, h.1.2, h.2⟩
theorem name_of {L : Int → Bool} {s : ByteArray} (h1 : 1 ≤ s.size) (h2 : s.size ≤ 31) (h3 : L (bt s 0) = true) (h4 : nameL L s s.size 0 = true) : nameB L s = true := by
  unfold nameB
  rw [decide_eq_true h1, decide_eq_true h2, h3, h4]; rfl
theorem name_word {L : Int → Bool} {s : ByteArray} (q : Int) (h : nameB L s = true) : wordOf L q s = (q, s, 0, 0, 0, 0, 0, 0, 0, 0, 0) := by
  obtain ⟨h1, h2, h3, h4⟩ := name_parts h
  have := (name_bad L s s.size 0).2.mp h4
  unfold wordOf
  rw [if_neg (by omega), if_neg (by omega)]
theorem word_name {L : Int → Bool} {s : ByteArray} {q : Int} (h : errOf (wordOf L q s) = 0) : nameL L s s.size 0 = true ∧ s.size ≤ 31 ∧ (wordOf L q s).1 = q := by
  have hb := (name_bad L s s.size 0)
  unfold wordOf at h ⊢
  by_cases g1 : badAt L s s.size 0 < s.size
  · rw [if_pos g1] at h; exact absurd h (by show ¬ (61 : Int) = 0; decide)
  · rw [if_neg g1] at h ⊢
    by_cases g2 : (s.size : Int) > 31
    · rw [if_pos g2] at h; exact absurd h (by show ¬ (6 : Int) = 0; decide)
    · rw [if_neg g2]
      exact ⟨hb.2.mpr (by omega), by omega, rfl⟩
theorem name_chars {L : Int → Bool} {s : ByteArray} : ∀ (n i : Nat), nameL L s n (i : Int) = true → ∀ j : Nat, i ≤ j → j < i + n → okB L (bt s (j : Int)) = true := by
  intro n
  induction n with
  | zero => intro i _ j h1 h2; omega
  | succ n ih =>
    intro i h j h1 h2
    rw [nameL, Bool.and_eq_true] at h
    by_cases g : j = i
    · subst g; exact h.1
    · exact ih (i + 1) h.2 j (by omega) (by omega)
theorem ok_run {L : Int → Bool} (hL : ∀ c, L c = true → runB c = true) {c : Int} (h : okB L c = true) : runB c = true := by
  unfold okB at h
  simp only [Bool.or_eq_true] at h
  rcases h with (h | h) | h
  · exact hL c h
  · exact run_of_digit h
  · unfold runB; rw [h]; simp
theorem name_run {L : Int → Bool} (hL : ∀ c, L c = true → runB c = true) {s : ByteArray} (h : nameB L s = true) : runN s = s.size := by
  obtain ⟨h1, h2, h3, h4⟩ := name_parts h
  exact span_unique (runN_spec s) ⟨by omega, Nat.le_refl _, fun j j1 j2 => ok_run hL (name_chars s.size 0 h4 j j1 (by omega)), fun g => absurd g (Nat.lt_irrefl _)⟩
theorem small_bd {c : Int} (h : smallB c = true) : 97 ≤ c ∧ c ≤ 122 := by
  unfold smallB at h; simp only [Bool.and_eq_true, decide_eq_true_eq] at h; exact h
theorem big_bd {c : Int} (h : bigB c = true) : 65 ≤ c ∧ c ≤ 90 := by
  unfold bigB at h; simp only [Bool.and_eq_true, decide_eq_true_eq] at h; exact h
theorem not_digit {c : Int} (h : 65 ≤ c) : digitB c = false := by
  rw [Bool.eq_false_iff]; intro g; have := dig_bd g; omega
theorem not_dated {s : ByteArray} (h : 65 ≤ bt s 0) : ¬ datedB s = true := fun g => by
  have := form_digit (dated_parts g).2.2 0 (by omega) (by omega) (by omega)
  rw [show bt s ((0 : Nat) : Int) = bt s 0 from rfl, not_digit h] at this; cases this
theorem tok_small {s : ByteArray} (h : nameB smallB s = true) : tokA s = (1, s, 0, 0, 0, 0, 0, 0, 0, 0, 0) := by
  obtain ⟨h1, h2, h3, h4⟩ := name_parts h
  have b := small_bd h3
  unfold tokA
  rw [if_neg (not_dated (by omega)), if_neg (by rw [not_digit (by omega)]; decide), if_pos h3, name_run (fun c => run_of_small) h, ext_all s s.size (Nat.le_refl _)]
  exact name_word 1 h
theorem tok_big {s : ByteArray} (h : nameB bigB s = true) : tokA s = (2, s, 0, 0, 0, 0, 0, 0, 0, 0, 0) := by
  obtain ⟨h1, h2, h3, h4⟩ := name_parts h
  have b := big_bd h3
  unfold tokA
  rw [if_neg (not_dated (by omega)), if_neg (by rw [not_digit (by omega)]; decide), if_neg (fun g => by have := small_bd g; omega), if_pos h3, name_run (fun c => run_of_big) h, ext_all s s.size (Nat.le_refl _)]
  exact name_word 2 h
theorem number_kind (u : ByteArray) : (numberOf u).1 ≠ 1 ∧ (numberOf u).1 ≠ 2 := by
  unfold numberOf errR
  split
  · exact ⟨by decide, by decide⟩
  · split
    · exact ⟨by decide, by decide⟩
    · split
      · exact ⟨by show ¬ (3 : Int) = 1; decide, by show ¬ (3 : Int) = 2; decide⟩
      · split
        · exact ⟨by show ¬ (5 : Int) = 1; decide, by show ¬ (5 : Int) = 2; decide⟩
        · exact ⟨by decide, by decide⟩
theorem run_whole {s : ByteArray} (h : (s.extract 0 (runN s)).size = s.size) : s.extract 0 (runN s) = s := by
  rw [ext_size] at h
  exact ext_all s (runN s) (by omega)
theorem tok_kind {s : ByteArray} (h0 : 0 < s.size) (he : errOf (tokA s) = 0) (ht : (tokA s).2.1.size = s.size) : ((tokA s).1 = 1 → nameB smallB s = true) ∧ ((tokA s).1 = 2 → nameB bigB s = true) := by
  unfold tokA at he ht ⊢
  by_cases g0 : datedB s = true
  · rw [if_pos g0]
    unfold dateR errR
    split
    · exact ⟨fun h => absurd h (by show ¬ (4 : Int) = 1; decide), fun h => absurd h (by show ¬ (4 : Int) = 2; decide)⟩
    · exact ⟨fun h => absurd h (by decide), fun h => absurd h (by decide)⟩
  · rw [if_neg g0] at he ht ⊢
    by_cases g1 : digitB (bt s 0) = true
    · rw [if_pos g1]
      have := number_kind (s.extract 0 (runN s))
      exact ⟨fun h => absurd h this.1, fun h => absurd h this.2⟩
    · rw [if_neg g1] at he ht ⊢
      by_cases g2 : smallB (bt s 0) = true
      · rw [if_pos g2] at he ht ⊢
        rw [word_text _ _ _ he] at ht
        rw [run_whole ht] at he ⊢
        obtain ⟨w1, w2, w3⟩ := word_name he
        exact ⟨fun _ => name_of (by omega) w2 g2 w1, fun h => by rw [w3] at h; exact absurd h (by decide)⟩
      · rw [if_neg g2] at he ht ⊢
        by_cases g3 : bigB (bt s 0) = true
        · rw [if_pos g3] at he ht ⊢
          rw [word_text _ _ _ he] at ht
          rw [run_whole ht] at he ⊢
          obtain ⟨w1, w2, w3⟩ := word_name he
          exact ⟨fun h => by rw [w3] at h; exact absurd h (by decide), fun _ => name_of (by omega) w2 g3 w1⟩
        · rw [if_neg g3] at he ht ⊢
          by_cases g4 : markOf s > 0
          · rw [if_pos g4]
            exact ⟨fun h => absurd h (by show ¬ (6 : Int) = 1; decide), fun h => absurd h (by show ¬ (6 : Int) = 2; decide)⟩
          · rw [if_neg g4] at he; exact absurd he (by decide)
theorem tl_one {z : ByteArray} {t : S32} {a e : Nat} (h : TL z [t] a e) : 1 ≤ t.f1.size ∧ a + t.f1.size ≤ z.size := by
  cases h with
  | cons _ _ _ p s _ hp lo hs hz f1 f2 k =>
    rw [f1, ext_size]; omega
theorem sc_one {s : ByteArray} {r : List S32 × Int × Int} (h : Sc s 0 [] r) {t : S32} (hr : r.1 = [t]) (ht : t.f1.size = s.size) : 0 < s.size ∧ errOf (tokA s) = 0 ∧ t = mkT (tokA s) 0 := by
  have late : ∀ i, 1 ≤ i → i ≤ s.size → Sc s i [] r → False := fun i h1 h2 k => by
    obtain ⟨m, e, m1, m2, -⟩ := sc_tells k i false h2 (Lo.nil _ _) (fun g => by cases g)
    rw [hr, List.nil_append] at m1
    subst m1
    have := tl_one m2
    omega
  cases h with
  | done _ _ h => cases hr
  | blank _ _ _ h hb k => exact absurd (late 1 (by omega) (by omega) k) id
  | hash _ _ _ h hb k => have := nl_gt h hb; exact absurd (late _ (by omega) (by omega) k) id
  | tok _ _ _ h hb hh he k =>
    obtain ⟨m, hm⟩ := sc_pre k
    rw [hr, ext_all s s.size (Nat.le_refl _)] at hm
    rw [ext_all s s.size (Nat.le_refl _)] at he
    simp only [List.nil_append, List.singleton_append, List.cons.injEq] at hm
    exact ⟨h, he, hm.1⟩
  | err _ _ h hb hh he => cases hr
theorem scan_name {s : ByteArray} {q : Int} (h0 : 0 < s.size) (h65 : 65 ≤ bt s 0) (ht : tokA s = (q, s, 0, 0, 0, 0, 0, 0, 0, 0, 0)) : Sc s 0 [] ([mkT (tokA s) 0], 0, 0) := by
  have e : s.extract 0 s.size = s := ext_all s s.size (Nat.le_refl _)
  refine Sc.tok 0 [] _ h0 ?_ ?_ (by rw [e, ht]) ?_
  · rw [Bool.eq_false_iff]
    show ¬ blankB (bt s 0) = true
    unfold blankB
    simp only [Bool.or_eq_true, beq_iff_eq]
    omega
  · show bt s 0 ≠ 35
    omega
  · rw [e]
    refine Sc.done _ _ ?_
    rw [ht]; show 0 + s.size = s.size; omega
/-- What LexNames asks of what Scan answers. -/
def WholeB (s : ByteArray) (r : List S32 × Int × Int) : Prop := r.2.2 = 0 ∧ ∃ t, r.1 = [t] ∧ t.f1.toList = s.toList
theorem toList_inj {a b : ByteArray} (h : a.toList = b.toList) : a = b := by
  rw [toList_data, toList_data] at h; exact ba_ext h
theorem names_scan (s : ByteArray) : ∃ r, Sc s 0 [] r ∧ (∀ t, r.2.2 = 0 → r.1 = [t] → t.f1.toList = s.toList → (t.f0 = 1 ↔ nameB smallB s = true) ∧ (t.f0 = 2 ↔ nameB bigB s = true)) ∧ (¬ WholeB s r → nameB smallB s = false ∧ nameB bigB s = false) := by
  by_cases g1 : nameB smallB s = true
  · obtain ⟨h1, h2, h3, h4⟩ := name_parts g1
    have b := small_bd h3
    have ht := tok_small g1
    refine ⟨_, scan_name h1 (by omega) ht, fun t _ hr _ => ?_, fun h => absurd ⟨rfl, _, rfl, by rw [ht]; rfl⟩ h⟩
    cases hr
    rw [ht]
    refine ⟨⟨fun _ => g1, fun _ => rfl⟩, ⟨fun h => absurd h (by show ¬ (1 : Int) = 2; decide), fun h => ?_⟩⟩
    have := big_bd (name_parts h).2.2.1; omega
  · by_cases g2 : nameB bigB s = true
    · obtain ⟨h1, h2, h3, h4⟩ := name_parts g2
      have b := big_bd h3
      have ht := tok_big g2
      refine ⟨_, scan_name h1 (by omega) ht, fun t _ hr _ => ?_, fun h => absurd ⟨rfl, _, rfl, by rw [ht]; rfl⟩ h⟩
      cases hr
      rw [ht]
      exact ⟨⟨fun h => absurd h (by show ¬ (2 : Int) = 1; decide), fun h => absurd h g1⟩, ⟨fun _ => g2, fun _ => rfl⟩⟩
    · obtain ⟨r, hr⟩ := sc_total s s.size 0 [] (by omega) (by omega)
      refine ⟨r, hr, fun t e1 e2 e3 => ?_, fun _ => ⟨Bool.eq_false_iff.mpr g1, Bool.eq_false_iff.mpr g2⟩⟩
      have e4 := toList_inj e3
      obtain ⟨k0, k1, k2⟩ := sc_one hr e2 (by rw [e4])
      subst k2
      obtain ⟨n1, n2⟩ := tok_kind k0 k1 (by rw [show (tokA s).2.1 = s from e4])
      exact ⟨⟨fun h => absurd (n1 h) g1, fun h => absurd h g1⟩, ⟨fun h => absurd (n2 h) g2, fun h => absurd h g2⟩⟩
theorem kw_all : KW.all (fun l => nameB smallB ⟨l.toArray⟩) = true := by kernel_rfl
theorem kw_small {s : ByteArray} (h : kwB s = true) : nameB smallB s = true := by
  have hm : s.toList ∈ KW := of_decide_eq_true h
  have := List.all_eq_true.mp kw_all _ hm
  rwa [show (⟨s.toList.toArray⟩ : ByteArray) = s by apply ba_ext; rw [toList_data]] at this
def curB (s : ByteArray) : Bool := decide (s.size = 3) && bigB (bt s 0) && bigB (bt s 1) && bigB (bt s 2)
theorem cur_is (s : ByteArray) : lex_Currency.f s = some (curB s) := by
  unfold lex_Currency.f curB
  by_cases h : s.size = 3
  · rw [if_pos (by omega), if_pos (by omega), big_is, decide_eq_true h, Option.bind_some, Bool.true_and]
    by_cases g0 : bigB (bt s 0) = true
    · rw [if_pos g0, if_pos (by omega), big_is, Option.bind_some, g0, Bool.true_and]
      by_cases g1 : bigB (bt s 1) = true
      · rw [if_pos g1, if_pos (by omega), big_is, Option.bind_some, g1, Bool.true_and]
      · rw [if_neg g1, Bool.eq_false_iff.mpr g1, Bool.false_and]
    · rw [if_neg g0, Bool.eq_false_iff.mpr g0, Bool.false_and, Bool.false_and]
  · rw [if_neg (by omega), decide_eq_false h]; rfl
theorem name3 {s : ByteArray} (h : s.size = 3) : nameB bigB s = (bigB (bt s 0) && (okB bigB (bt s 0) && (okB bigB (bt s 1) && (okB bigB (bt s 2) && true)))) := by
  unfold nameB
  rw [h]
  rfl
theorem cur_big {s : ByteArray} (h : curB s = true) : s.size = 3 ∧ nameB bigB s = true := by
  unfold curB at h
  simp only [Bool.and_eq_true, decide_eq_true_eq] at h
  obtain ⟨⟨⟨h3, b0⟩, b1⟩, b2⟩ := h
  refine ⟨h3, ?_⟩
  rw [name3 h3]
  unfold okB
  rw [b0, b1, b2]; rfl
theorem ok_not_big {c : Int} (h : okB bigB c = true) (hb : bigB c = false) : c < 65 ∨ c = 95 := by
  unfold okB at h
  rw [hb, Bool.false_or, Bool.or_eq_true, beq_iff_eq] at h
  rcases h with h | h
  · have := dig_bd h; omega
  · exact .inr h
theorem names_j5 (s : ByteArray) : Ev (fun k => payofflaw06_LexNames.j5 k s (nameB bigB s) (curB s) false) true := by
  refine Ev.step (fun k => payofflaw06_LexNames.j5.eq_2 ..) (Ev.neg (by decide) ?_)
  by_cases gb : nameB bigB s = true
  · refine Ev.pos gb ?_
    by_cases g3 : (s.size : Int) = 3
    · refine Ev.pos g3 ?_
      by_cases gc : curB s = true
      · exact Ev.pos gc (Ev.ret rfl)
      · refine Ev.neg gc (Ev.pos (by omega) ?_)
        have h3 : s.size = 3 := by omega
        rw [name3 h3] at gb
        simp only [Bool.and_eq_true, and_true] at gb
        obtain ⟨b0, -, o1, o2⟩ := gb
        have nc : bigB (bt s 1) = true → bigB (bt s 2) = false := fun h => by
          rw [Bool.eq_false_iff]; intro h'
          apply gc
          unfold curB
          rw [decide_eq_true h3, b0, h, h']; rfl
        by_cases k1 : bt s 1 < 65
        · exact Ev.pos k1 (Ev.ret rfl)
        · refine Ev.neg k1 ?_
          by_cases k2 : bt s 1 = 95
          · exact Ev.pos k2 (Ev.ret rfl)
          · refine Ev.neg k2 (Ev.pos (by omega) ?_)
            have b1 : bigB (bt s 1) = true := by
              cases hb : bigB (bt s 1) with
              | true => rfl
              | false => rcases ok_not_big o1 hb with x | x
                         · exact absurd x k1
                         · exact absurd x k2
            have b2 := ok_not_big o2 (nc b1)
            by_cases k3 : bt s 2 < 65
            · exact Ev.pos k3 (Ev.ret rfl)
            · refine Ev.neg k3 (Ev.ret ?_)
              rw [beq_iff_eq]
              rcases b2 with x | x
              · exact absurd x k3
              · exact x
    · exact Ev.neg g3 (Ev.ret rfl)
  · exact Ev.neg gb (Ev.ret rfl)
theorem names_j4 (s : ByteArray) : Ev (fun k => payofflaw06_LexNames.j4 k s (nameB bigB s) (curB s) false) true := by
  refine Ev.step (fun k => payofflaw06_LexNames.j4.eq_2 ..) (Ev.neg (by decide) ?_)
  have j5 := names_j5 s
  by_cases gc : curB s = true
  · obtain ⟨h3, hb⟩ := cur_big gc
    refine Ev.pos gc (Ev.pos hb ?_)
    rw [show ((s.size : Int) != 3) = false by rw [h3]; rfl]; exact j5
  · exact Ev.neg gc j5
theorem names_j3 (s : ByteArray) : Ev (fun k => payofflaw06_LexNames.j3 k s (kwB s) (nameB bigB s) (curB s) false) true := by
  refine Ev.step (fun k => payofflaw06_LexNames.j3.eq_2 ..) (Ev.neg (by decide) (Ev.call (a := nameB smallB s && !kwB s) rfl ?_))
  by_cases g : (nameB smallB s && !kwB s) = true
  · refine Ev.pos g ?_
    have hk : kwB s = false := by
      rw [Bool.and_eq_true, Bool.not_eq_true'] at g; exact g.2
    rw [hk]
    exact names_j4 s
  · exact Ev.neg g (names_j4 s)
theorem names_j2 (s : ByteArray) (l : List S32) (W : Bool) (hW : W = true → ∃ t, l = [t] ∧ (t.f0 = 1 ↔ nameB smallB s = true) ∧ (t.f0 = 2 ↔ nameB bigB s = true)) (hN : W = false → nameB smallB s = false ∧ nameB bigB s = false) :
    Ev (fun k => payofflaw06_LexNames.j2 k s l W (kwB s) (nameB smallB s)) true := by
  refine Ev.step (fun k => payofflaw06_LexNames.j2.eq_2 ..) (Ev.call (a := nameB bigB s) rfl (Ev.call (cur_is s) ?_))
  have j3 := names_j3 s
  cases W with
  | true =>
    obtain ⟨t, rfl, t1, t2⟩ := hW rfl
    refine Ev.pos rfl (Ev.pos (by show (0 : Int) < 1; decide) ?_)
    rw [show rd_T32 [t] 0 = t from rfl]
    have e1 : (t.f0 == 1) = nameB smallB s := by rw [Bool.eq_iff_iff, beq_iff_eq]; exact t1
    have e2 : (t.f0 == 2) = nameB bigB s := by rw [Bool.eq_iff_iff, beq_iff_eq]; exact t2
    rw [e1, e2]
    refine Ev.neg (by simp) ?_
    rw [show (nameB bigB s != nameB bigB s) = false by simp]; exact j3
  | false =>
    obtain ⟨n1, n2⟩ := hN rfl
    refine Ev.neg (by decide) (Ev.neg (by rw [n1]; decide) ?_)
    rw [show (nameB bigB s != false) = false by rw [n2]; rfl]; exact j3
theorem names_j1 (s : ByteArray) (l : List S32) (W : Bool) (hW : W = true → ∃ t, l = [t] ∧ (t.f0 = 1 ↔ nameB smallB s = true) ∧ (t.f0 = 2 ↔ nameB bigB s = true)) (hN : W = false → nameB smallB s = false ∧ nameB bigB s = false) :
    Ev (fun k => payofflaw06_LexNames.j1 k s l W) true := by
  have j2 := names_j2 s l W hW hN
  refine Ev.step (fun k => payofflaw06_LexNames.j1.eq_2 ..) (Ev.call (a := kwB s) rfl (Ev.call (a := nameB smallB s && !kwB s) rfl ?_))
  by_cases g : (nameB smallB s && !kwB s) = true
  · refine Ev.pos g ?_
    rw [Bool.and_eq_true] at g
    rw [g.1] at j2; exact j2
  · refine Ev.neg g ?_
    have : nameB smallB s = kwB s := by
      cases hk : kwB s with
      | true => exact kw_small hk
      | false => rw [hk] at g; simpa using g
    rw [this] at j2; exact j2
theorem small_a : lex_Small.f (⟨#[97]⟩ : ByteArray) = some true := by kernel_rfl
theorem cap_eur : lex_Capital.f (⟨#[69, 85, 82]⟩ : ByteArray) = some true := by kernel_rfl
theorem cur_eur : lex_Currency.f (⟨#[69, 85, 82]⟩ : ByteArray) = some true := by kernel_rfl
theorem names_all (s : ByteArray) : Ev (fun k => payofflaw06_LexNames.f k s) true := by
  unfold payofflaw06_LexNames.f
  refine Ev.bind takes_ev (Ev.pos rfl (Ev.call small_a (Ev.pos rfl (Ev.call cap_eur (Ev.pos rfl (Ev.call cur_eur ?_))))))
  refine Ev.step (fun k => payofflaw06_LexNames.j0.eq_2 ..) (Ev.neg (by decide) ?_)
  by_cases hb : (s.size : Int) > 65536
  · refine Ev.bind (big_scan' s hb) (Ev.neg (by show ¬ (6 : Int) = 0; decide) (names_j1 s _ false (fun h => by cases h) (fun _ => ?_)))
    refine ⟨?_, ?_⟩ <;> (rw [Bool.eq_false_iff]; intro h; have := (name_parts h).2.1; omega)
  · obtain ⟨r, hr, h1, h2⟩ := names_scan s
    refine Ev.bind (scan_ev s (by omega) r hr) ?_
    by_cases e1 : r.2.2 = 0
    · refine Ev.pos e1 ?_
      by_cases e2 : (r.1.length : Int) = 1
      · refine Ev.pos e2 (Ev.pos (by omega) ?_)
        obtain ⟨t, ht⟩ : ∃ t, r.1 = [t] := List.length_eq_one_iff.mp (by omega)
        rw [ht, show rd_T32 [t] 0 = t from rfl]
        refine names_j1 s _ _ (fun h => ⟨t, rfl, h1 t e1 ht (beq_iff_eq.mp h)⟩) (fun h => h2 (fun g => ?_))
        obtain ⟨-, u, hu, hl⟩ := g
        rw [ht] at hu
        cases hu
        exact absurd (beq_iff_eq.mpr hl) (by rw [h]; decide)
      · exact Ev.neg e2 (names_j1 s _ false (fun h => by cases h) (fun _ => h2 (fun g => by obtain ⟨-, u, hu, -⟩ := g; rw [hu] at e2; exact e2 rfl)))
    · exact Ev.neg e1 (names_j1 s _ false (fun h => by cases h) (fun _ => h2 (fun g => e1 g.1)))

theorem LexNames_walk (a0 : ByteArray) (w : World) (w0 : a0.size ≤ 140737488351232) (hL : Gl w) :
    Calls Tryd.prog 7 #[.string a0] w fun e w' => e = .returned (.bool true) ∧ Below w.heap.size w w' := by
  obtain ⟨k, h⟩ := (names_all a0).rounds
  exact payofflaw06_LexNames.calls k a0 true w h hL
end Go.Proofs.YtkfdninngcakpaaDoor.Pure
