/- Own text: LexDates: the text of each date that exists is one token, with the date; of four, two and two digits that are no date it is refused; no condition but that the listed package variables stand. -/
import Derived.Test.YtkfdninngcakpaaDoorNumbersP
import Derived.Test.YtkfdninngcakpaaDoorQLexDates
import Derived.Lib.ItoaLen
import Derived.Lib.SmallJoins
import Derived.OpenShut
import Derived.ShutString
import Derived.ChangeOld
import Derived.Below
import Derived.SizedLaws
namespace Go.Proofs.YtkfdninngcakpaaDoor.Pure
open Go.RowKit Go.ChangeShapes Go.WideShapes Go.Proofs.YtkfdninngcakpaaDoor.PLex Go.Proofs.YtkfdninngcakpaaDoorW.PrintWords Go.Proofs.YtkfdninngcakpaaDoorW.PrintLast Go.Proofs.YtkfdninngcakpaaDoorW.PrintMore
set_option linter.unusedVariables false
set_option linter.unusedSimpArgs false
/-! A struct of three ints by value -/
theorem open_st3 {H : Type} {enc : TypeId × Value → H} {P : Program} {w : World} {base b0 : Nat} {spare : Nat → Bool} {held : Bool} {r : Reach} {t e : TypeId} {f0 f1 f2 : Field} {v : Value} {d : DataW H} {p : List MemPlace}
    (hs : P.underlying t = some (.struct #[f0, f1, f2])) (he : P.underlying e = some (.int .i64)) (hk : (Deep.oneCellFields P #[f0, f1, f2] && P.cellsOf t == 3 && f0.type == e && f1.type == e && f2.type == e) = true)
    (hv : Value.okWide P w r b0 t v) (h : DataW.Trod enc P w base spare held t v d p) :
    ∃ x y z : Int, v = .agg #[.int .i64 x, .int .i64 y, .int .i64 z] ∧ d = .agg [.lit (.int .i64 x), .lit (.int .i64 y), .lit (.int .i64 z)] ∧ p = [] ∧ (Lit.int .i64 x).wf = true ∧ (Lit.int .i64 y).wf = true ∧ (Lit.int .i64 z).wf = true := by
  simp only [Bool.and_eq_true, beq_iff_eq] at hk
  obtain ⟨⟨⟨⟨hone, hC⟩, rfl⟩, h1⟩, h2⟩ := hk
  obtain ⟨v0, v1, v2, y0, y1, y2, n, rfl, rfl, rfl, t0, t1, t2⟩ := Joins.open_agg3 hs hone hC hv h
  rw [h1] at t1
  rw [h2] at t2
  obtain ⟨x, e0, e1, e2⟩ := DataW.trod_int he t0
  obtain ⟨y, g0, g1, g2⟩ := DataW.trod_int he t1
  obtain ⟨z, k0, k1, k2⟩ := DataW.trod_int he t2
  simp only [List.cons.injEq, and_true] at e0 g0 k0
  subst e0 g0 k0 e1 g1 k1
  exact ⟨x, y, z, rfl, rfl, rfl, e2, g2, k2⟩
theorem shut_st3 {H : Type} {enc : TypeId × Value → H} {P : Program} {w : World} {base : Nat} {spare : Nat → Bool} {held : Bool} {t e : TypeId} {f0 f1 f2 : Field} {x y z : Int}
    (hs : P.underlying t = some (.struct #[f0, f1, f2])) (he : P.underlying e = some (.int .i64)) (hk : (Deep.oneCellFields P #[f0, f1, f2] && P.cellsOf t == 3 && f0.type == e && f1.type == e && f2.type == e) = true)
    (hx : (Lit.int .i64 x).wf = true) (hy : (Lit.int .i64 y).wf = true) (hz : (Lit.int .i64 z).wf = true) :
    DataW.Trod enc P w base spare held t (.agg #[.int .i64 x, .int .i64 y, .int .i64 z]) (.agg [.lit (.int .i64 x), .lit (.int .i64 y), .lit (.int .i64 z)]) [] := by
  simp only [Bool.and_eq_true, beq_iff_eq] at hk
  obtain ⟨⟨⟨⟨hone, hC⟩, rfl⟩, h1⟩, h2⟩ := hk
  exact Joins.shut_agg3 (y0 := (.lit (.int .i64 x), [])) (y1 := (.lit (.int .i64 y), [])) (y2 := (.lit (.int .i64 z), [])) hs hone hC ⟨1, trod_int_mk 0 he hx⟩ ⟨1, by rw [h1]; exact trod_int_mk 0 he hy⟩ ⟨1, by rw [h2]; exact trod_int_mk 0 he hz⟩

theorem text_ev (v : Int) (h0 : -9223372036854775808 ≤ v) (h1 : v ≤ 9223372036854775807) : Ev (fun k => num_Text.f k v 0) (SB (Lib.itoa v), 0) := by
  have hl : (SB (Lib.itoa v)).size ≤ 21 := by rw [sb_size]; exact Lib.itoa_length_le v h0 h1
  unfold num_Text.f
  refine Ev.neg (by decide) ?_
  rw [show (decide ((0 : Int) > 18)) = false by decide]
  refine Ev.step (fun k => num_Text.j0.eq_2 ..) (Ev.neg (by decide) (Ev.call (a := SB (Lib.itoa v)) (by unfold strconv_Itoa_29.f; rw [if_pos ⟨h0, h1⟩]) ?_))
  by_cases g : v < 0
  · have e : Lib.itoa v = 45 :: DD v.natAbs := by unfold Lib.itoa; rw [if_pos g]
    have ex : (SB (Lib.itoa v)).extract 1 (SB (Lib.itoa v)).size = SB (DD v.natAbs) := by rw [e]; exact minus_drop _
    have hs : (SB (Lib.itoa v)).size = (DD v.natAbs).length + 1 := by rw [e, sb_size]; rfl
    refine Ev.pos g (Ev.pos (by omega) (Ev.neg (by decide) ?_))
    rw [ex]
    refine Ev.pos (by rw [sb_size]; omega) (Ev.ret ?_)
    rw [show (⟨#[45]⟩ : ByteArray) = SB [45] from rfl, sb_app, e]; rfl
  · refine Ev.neg g (Ev.neg (by decide) (Ev.pos (by omega) (Ev.ret ?_)))
    rw [show (⟨#[]⟩ : ByteArray) = SB [] from rfl, sb_app]; rfl

theorem app_size' (a b : ByteArray) : (a ++ b).size = a.size + b.size := by
  rw [← data_length, ← data_length, ← data_length, ByteArray.data_append, Array.toList_append, List.length_append]
theorem lenOf_le (y m : Int) (h1 : 1 ≤ m) (h2 : m ≤ 12) : lenOf y m ≤ 31 := by
  unfold lenOf
  split
  · decide
  · obtain h | h | h | h | h | h | h | h | h | h | h | h : m = 1 ∨ m = 2 ∨ m = 3 ∨ m = 4 ∨ m = 5 ∨ m = 6 ∨ m = 7 ∨ m = 8 ∨ m = 9 ∨ m = 10 ∨ m = 11 ∨ m = 12 := by omega
    all_goals (subst h; decide)
abbrev ch (n : Nat) : UInt8 := UInt8.ofNat (48 + n)
def TT (Y M D : Nat) : List UInt8 := [ch (Y / 1000 % 10), ch (Y / 100 % 10), ch (Y / 10 % 10), ch (Y % 10), 45, ch (M / 10 % 10), ch (M % 10), 45, ch (D / 10 % 10), ch (D % 10)]
theorem form_of (s : ByteArray) : ∀ d i, (∀ j, i ≤ j → j < i + d → okD s j = true) → formF s d i = true := by
  intro d
  induction d with
  | zero => intro i _; rfl
  | succ d ih =>
    intro i h
    rw [formF, h i (by omega) (by omega), ih (i + 1) (fun j h1 h2 => h j (by omega) (by omega))]; rfl
theorem ch_bt (Y M D : Nat) : bt (SB (TT Y M D)) 0 = ((48 + Y / 1000 % 10 : Nat) : Int) ∧ bt (SB (TT Y M D)) 1 = ((48 + Y / 100 % 10 : Nat) : Int) ∧ bt (SB (TT Y M D)) 2 = ((48 + Y / 10 % 10 : Nat) : Int) ∧ bt (SB (TT Y M D)) 3 = ((48 + Y % 10 : Nat) : Int) ∧
    bt (SB (TT Y M D)) 4 = 45 ∧ bt (SB (TT Y M D)) 5 = ((48 + M / 10 % 10 : Nat) : Int) ∧ bt (SB (TT Y M D)) 6 = ((48 + M % 10 : Nat) : Int) ∧ bt (SB (TT Y M D)) 7 = 45 ∧ bt (SB (TT Y M D)) 8 = ((48 + D / 10 % 10 : Nat) : Int) ∧ bt (SB (TT Y M D)) 9 = ((48 + D % 10 : Nat) : Int) := by
  have g : ∀ (j n : Nat), n < 10 → (TT Y M D)[j]?.getD 0 = ch n → bt (SB (TT Y M D)) (j : Int) = ((48 + n : Nat) : Int) := fun j n hn h => by rw [sb_bt, h, dd_chr hn]
  refine ⟨g 0 _ (by omega) rfl, g 1 _ (by omega) rfl, g 2 _ (by omega) rfl, g 3 _ (by omega) rfl, ?_, g 5 _ (by omega) rfl, g 6 _ (by omega) rfl, ?_, g 8 _ (by omega) rfl, g 9 _ (by omega) rfl⟩
  · show bt (SB (TT Y M D)) ((4 : Nat) : Int) = 45
    rw [sb_bt]; rfl
  · show bt (SB (TT Y M D)) ((7 : Nat) : Int) = 45
    rw [sb_bt]; rfl
theorem dgB (n : Nat) (h : n < 10) : digitB ((48 + n : Nat) : Int) = true := by
  unfold digitB; rw [decide_eq_true (by omega), decide_eq_true (by omega)]; rfl
theorem tok_date (Y M D : Nat) (hY : Y ≤ 9999) (hM : M ≤ 99) (hD : D ≤ 99) :
    tokA (SB (TT Y M D)) = if exB (Y : Int) (M : Int) (D : Int) = true then (4, SB (TT Y M D), 0, 0, (Y : Int), (M : Int), (D : Int), 0, 0, 0, 0) else errR 0 62 := by
  obtain ⟨b0, b1, b2, b3, b4, b5, b6, b7, b8, b9⟩ := ch_bt Y M D
  have sz : (SB (TT Y M D)).size = 10 := by rw [sb_size]; rfl
  have f : formF (SB (TT Y M D)) 10 0 = true := by
    refine form_of _ 10 0 (fun j _ h2 => ?_)
    have : j = 0 ∨ j = 1 ∨ j = 2 ∨ j = 3 ∨ j = 4 ∨ j = 5 ∨ j = 6 ∨ j = 7 ∨ j = 8 ∨ j = 9 := by omega
    unfold okD
    rcases this with rfl | rfl | rfl | rfl | rfl | rfl | rfl | rfl | rfl | rfl
    · rw [if_neg (by decide)]; exact b0 ▸ dgB _ (by omega)
    · rw [if_neg (by decide)]; exact b1 ▸ dgB _ (by omega)
    · rw [if_neg (by decide)]; exact b2 ▸ dgB _ (by omega)
    · rw [if_neg (by decide)]; exact b3 ▸ dgB _ (by omega)
    · rw [if_pos (by decide)]; exact beq_iff_eq.mpr b4
    · rw [if_neg (by decide)]; exact b5 ▸ dgB _ (by omega)
    · rw [if_neg (by decide)]; exact b6 ▸ dgB _ (by omega)
    · rw [if_pos (by decide)]; exact beq_iff_eq.mpr b7
    · rw [if_neg (by decide)]; exact b8 ▸ dgB _ (by omega)
    · rw [if_neg (by decide)]; exact b9 ▸ dgB _ (by omega)
  have e : (SB (TT Y M D)).extract 0 10 = SB (TT Y M D) := ext_all _ _ (by omega)
  have y : dateY (SB (TT Y M D)) = (Y : Int) := by unfold dateY; rw [b0, b1, b2, b3]; omega
  have m : dateM (SB (TT Y M D)) = (M : Int) := by unfold dateM; rw [b5, b6]; omega
  have d : dateD (SB (TT Y M D)) = (D : Int) := by unfold dateD; rw [b8, b9]; omega
  unfold tokA
  rw [if_pos (dated_of (by omega) (.inl sz) f), e]
  unfold dateR
  rw [y, m, d]
theorem date_scan (Y M D : Nat) : 0 < (SB (TT Y M D)).size ∧ blankB (bt (SB (TT Y M D)) 0) = false ∧ bt (SB (TT Y M D)) 0 ≠ 35 := by
  have b0 := (ch_bt Y M D).1
  have := dig_not (dgB (Y / 1000 % 10) (by omega))
  rw [b0]
  exact ⟨by rw [sb_size]; exact (by decide : 0 < 10), this.2.1, this.2.2⟩
theorem dg_chr (a : Nat) : (wrap64 (48 + Int.tmod (a : Int) 10)) % 256 = ((48 + a % 10 : Nat) : Int) := by
  rw [Int.tmod_eq_emod_of_nonneg (by omega), w64 (by omega)]; omega
theorem dg_div (a : Nat) (h : a ≤ 1000000) : wrap64 (Int.tdiv (a : Int) 10) = ((a / 10 : Nat) : Int) := by
  rw [Int.tdiv_eq_ediv_of_nonneg (by omega), w64 (by omega)]; omega
theorem digs1 (l : List Int) (hl : l.length < 140737488355328) (a : Nat) : Ev (fun k => cal_digits.f k l (a : Int) 1) (l ++ [((48 + a % 10 : Nat) : Int)]) := by
  refine Ev.step (fun k => cal_digits.f.eq_2 ..) (Ev.neg (by decide) (Ev.pos hl (Ev.ret ?_)))
  rw [dg_chr]
theorem digsS (l t : List Int) (a : Nat) (ha : a ≤ 1000000) (n n' : Int) (hn : n > 1) (hw : wrap64 (n - 1) = n') (ht : t.length < 140737488355328) (h : Ev (fun k => cal_digits.f k l ((a / 10 : Nat) : Int) n') t) :
    Ev (fun k => cal_digits.f k l (a : Int) n) (t ++ [((48 + a % 10 : Nat) : Int)]) := by
  refine Ev.step (fun k => cal_digits.f.eq_2 ..) (Ev.pos hn ?_)
  rw [dg_div a ha, hw, dg_chr]
  exact Ev.bind h (Ev.pos ht (Ev.ret rfl))
theorem digs2 (l : List Int) (hl : l.length < 100) (a : Nat) (ha : a ≤ 1000000) : Ev (fun k => cal_digits.f k l (a : Int) 2) (l ++ [((48 + a / 10 % 10 : Nat) : Int)] ++ [((48 + a % 10 : Nat) : Int)]) :=
  digsS l _ a ha 2 1 (by decide) (by rw [w64 (by decide)]; decide) (by simp; omega) (digs1 l (by omega) (a / 10))
theorem digs4 (l : List Int) (hl : l.length < 100) (a : Nat) (ha : a ≤ 1000000) :
    Ev (fun k => cal_digits.f k l (a : Int) 4) (l ++ [((48 + a / 10 / 10 / 10 % 10 : Nat) : Int)] ++ [((48 + a / 10 / 10 % 10 : Nat) : Int)] ++ [((48 + a / 10 % 10 : Nat) : Int)] ++ [((48 + a % 10 : Nat) : Int)]) :=
  digsS l _ a ha 4 3 (by decide) (by rw [w64 (by decide)]; decide) (by simp; omega) (digsS l _ (a / 10) (by omega) 3 2 (by decide) (by rw [w64 (by decide)]; decide) (by simp; omega) (digs2 l hl (a / 10 / 10) (by omega)))
theorem nums_TT (Y M D : Nat) : strOfNums ((((([] : List Int) ++ [((48 + Y / 10 / 10 / 10 % 10 : Nat) : Int)] ++ [((48 + Y / 10 / 10 % 10 : Nat) : Int)] ++ [((48 + Y / 10 % 10 : Nat) : Int)] ++ [((48 + Y % 10 : Nat) : Int)]) ++ [45]) ++ [((48 + M / 10 % 10 : Nat) : Int)] ++ [((48 + M % 10 : Nat) : Int)]) ++ [45] ++ [((48 + D / 10 % 10 : Nat) : Int)] ++ [((48 + D % 10 : Nat) : Int)]) = SB (TT Y M D) := by
  unfold TT
  rw [show Y / 1000 % 10 = Y / 10 / 10 / 10 % 10 by omega, show Y / 100 % 10 = Y / 10 / 10 % 10 by omega]
  rfl
theorem ctext_ev (Y M D : Nat) (hY : Y ≤ 9999) (hM : M ≤ 99) (hD : D ≤ 99) (he : exB (Y : Int) (M : Int) (D : Int) = true) : Ev (fun k => cal_Text.f k (Y : Int) (M : Int) (D : Int)) (SB (TT Y M D), 0) := by
  unfold cal_Text.f
  refine Ev.call (exists_is _ _ _) (Ev.pos he (Ev.bind (digs4 [] (by decide) Y (by omega)) (Ev.pos (by simp) (Ev.bind (digs2 _ (by simp) M (by omega)) (Ev.pos (by simp) (Ev.bind (digs2 _ (by simp) D (by omega)) (Ev.ret ?_)))))))
  rw [nums_TT]
theorem ctext_no (y m d : Int) (he : ¬ exB y m d = true) : Ev (fun k => cal_Text.f k y m d) ((⟨#[]⟩ : ByteArray), 21) := by
  unfold cal_Text.f
  exact Ev.call (exists_is _ _ _) (Ev.neg he (Ev.ret rfl))
theorem dd_eight (Y M D : Nat) (h0 : 1000 ≤ Y) (hY : Y ≤ 9999) (hM : M ≤ 99) (hD : D ≤ 99) :
    DD (10000 * Y + 100 * M + D) = [ch (Y / 1000 % 10), ch (Y / 100 % 10), ch (Y / 10 % 10), ch (Y % 10), ch (M / 10 % 10), ch (M % 10), ch (D / 10 % 10), ch (D % 10)] := by
  obtain ⟨n, hn⟩ : ∃ n, n = 10000 * Y + 100 * M + D := ⟨_, rfl⟩
  rw [← hn, dd_big (by omega), dd_big (by omega), dd_big (by omega), dd_big (by omega), dd_big (by omega), dd_big (by omega), dd_big (by omega), dd_small (by omega)]
  rw [show Y / 1000 % 10 = n / 10 / 10 / 10 / 10 / 10 / 10 / 10 by omega, show Y / 100 % 10 = n / 10 / 10 / 10 / 10 / 10 / 10 % 10 by omega, show Y / 10 % 10 = n / 10 / 10 / 10 / 10 / 10 % 10 by omega, show Y % 10 = n / 10 / 10 / 10 / 10 % 10 by omega,
    show M / 10 % 10 = n / 10 / 10 / 10 % 10 by omega, show M % 10 = n / 10 / 10 % 10 by omega, show D / 10 % 10 = n / 10 % 10 by omega, show D % 10 = n % 10 by omega]
  rfl
theorem dates_all (y m d : Int) : Ev (fun k => payofflaw06_LexDates.f k y m d) true := by
  unfold payofflaw06_LexDates.f
  by_cases he : exB y m d = true
  · have hb := he
    unfold exB at hb
    simp only [Bool.and_eq_true, decide_eq_true_eq] at hb
    obtain ⟨⟨⟨⟨⟨k1, k2⟩, k3⟩, k4⟩, k5⟩, k6⟩ := hb
    have k7 : lenOf y m ≤ 31 := lenOf_le y m k3 k4
    obtain ⟨Y, rfl⟩ : ∃ Y : Nat, y = (Y : Int) := ⟨y.toNat, by omega⟩
    obtain ⟨M, rfl⟩ : ∃ M : Nat, m = (M : Int) := ⟨m.toNat, by omega⟩
    obtain ⟨D, rfl⟩ : ∃ D : Nat, d = (D : Int) := ⟨d.toNat, by omega⟩
    have ht := tok_date Y M D (by omega) (by omega) (by omega)
    rw [if_pos he] at ht
    have ds := date_scan Y M D
    have sc := scan_tok ds.1 ds.2.1 ds.2.2 (by rw [ht]) (by rw [ht])
    refine Ev.bind (ctext_ev Y M D (by omega) (by omega) (by omega) he) ?_
    dsimp only
    refine Ev.pos rfl (Ev.bind (scan_ev _ (by rw [sb_size]; exact (by decide : 10 ≤ 65536)) _ sc) (Ev.pos rfl (Ev.pos rfl (Ev.pos rfl (Ev.pos (by show (0 : Int) < 1; decide) (Ev.ret ?_))))))
    rw [ht]
    show ((4 : Int) == 4 && ((SB (TT Y M D)).toList == (SB (TT Y M D)).toList && ((0 : Int) == 0 && ((0 : Int) == 0 && (((Y : Int) == (Y : Int) && ((M : Int) == (M : Int) && (D : Int) == (D : Int))) && ((0 : Int) == 0 && (0 : Int) == 0)))))) = true
    simp
  · refine Ev.bind (ctext_no y m d he) ?_
    dsimp only
    have jT : Ev (fun k => payofflaw06_LexDates.j0 k true y m d) true := Ev.step (fun k => payofflaw06_LexDates.j0.eq_2 ..) (Ev.pos rfl (Ev.ret rfl))
    refine Ev.neg (by decide) ?_
    by_cases g1 : y < 1000
    · exact Ev.pos g1 jT
    refine Ev.neg g1 ?_
    by_cases g2 : y > 9999
    · exact Ev.pos g2 jT
    refine Ev.neg g2 ?_
    by_cases g3 : m < 0
    · exact Ev.pos g3 jT
    refine Ev.neg g3 ?_
    by_cases g4 : m > 99
    · exact Ev.pos g4 jT
    refine Ev.neg g4 ?_
    by_cases g5 : d < 0
    · exact Ev.pos g5 jT
    refine Ev.neg g5 ?_
    by_cases g6 : d > 99
    · rw [decide_eq_true g6]; exact jT
    rw [decide_eq_false g6]
    obtain ⟨Y, rfl⟩ : ∃ Y : Nat, y = (Y : Int) := ⟨y.toNat, by omega⟩
    obtain ⟨M, rfl⟩ : ∃ M : Nat, m = (M : Int) := ⟨m.toNat, by omega⟩
    obtain ⟨D, rfl⟩ : ∃ D : Nat, d = (D : Int) := ⟨d.toNat, by omega⟩
    have ht := tok_date Y M D (by omega) (by omega) (by omega)
    rw [if_neg he] at ht
    have ds := date_scan Y M D
    have sc := scan_err ds.1 ds.2.1 ds.2.2 ht
    have e8 := dd_eight Y M D (by omega) (by omega) (by omega) (by omega)
    have tx := text_ev ((10000 * Y + 100 * M + D : Nat) : Int) (by omega) (by omega)
    rw [Lib.itoa_nonneg] at tx
    refine Ev.step (fun k => payofflaw06_LexDates.j0.eq_2 ..) (Ev.neg (by decide) ?_)
    rw [show wrap64 ((wrap64 ((wrap64 (10000 * (Y : Int))) + (wrap64 (100 * (M : Int))))) + (D : Int)) = ((10000 * Y + 100 * M + D : Nat) : Int) by
      rw [w64 (n := 10000 * (Y : Int)) (by omega), w64 (n := 100 * (M : Int)) (by omega), w64 (n := 10000 * (Y : Int) + 100 * (M : Int)) (by omega), w64 (by omega)]; omega]
    refine Ev.bind tx ?_
    dsimp only
    have e8' : Lib.decDigits (10000 * Y + 100 * M + D) = _ := e8
    rw [e8']
    refine Ev.pos rfl ?_
    refine Ev.step (fun k => payofflaw06_LexDates.j1.eq_2 ..) (Ev.neg (by rw [sb_size]; show ¬ ((8 : Int) != 8) = true; decide) (Ev.pos (by decide) (Ev.pos (by rw [sb_size]; exact (by decide : (4 : Int) ≤ 8)) (Ev.pos (by rw [ext_size, sb_size]; exact (by decide : min 4 8 - 0 + 1 ≤ 9223372036854775807)) (Ev.pos (by decide) (Ev.pos (by rw [sb_size]; exact (by decide : (6 : Int) ≤ 8)) ?_))))))
    have z : ∀ l : List UInt8, l = [ch (Y / 1000 % 10), ch (Y / 100 % 10), ch (Y / 10 % 10), ch (Y % 10), ch (M / 10 % 10), ch (M % 10), ch (D / 10 % 10), ch (D % 10)] →
        ((((SB l).extract 0 4 ++ (⟨#[45]⟩ : ByteArray)) ++ (SB l).extract 4 6) ++ (⟨#[45]⟩ : ByteArray)) ++ (SB l).extract 6 (SB l).size = SB (TT Y M D) := fun l hl => by
      subst hl
      rfl
    rw [z _ rfl]
    have sm : ∀ (n a b : Nat), (a = n) → (b ≤ 20) → a ≤ 20 → a + b ≤ 9223372036854775807 := fun n a b _ _ _ => by omega
    refine Ev.pos ?_ (Ev.pos ?_ (Ev.pos ?_ (Ev.bind (scan_ev _ (by rw [sb_size]; exact (by decide : 10 ≤ 65536)) _ sc) (Ev.pos rfl (Ev.pos rfl (Ev.ret rfl))))))
    · rw [app_size', ext_size, ext_size, sb_size]; exact (by decide : 4 + 1 + 2 ≤ 9223372036854775807)
    · rw [app_size', app_size', ext_size, ext_size, sb_size]; exact (by decide : 4 + 1 + 2 + 1 ≤ 9223372036854775807)
    · rw [app_size', app_size', app_size', ext_size, ext_size, ext_size, sb_size]; exact (by decide : 4 + 1 + 2 + 1 + 2 ≤ 9223372036854775807)

theorem LexDates_walk (x y z : Int) (w : World) (wx : (Lit.int .i64 x).wf = true) (wy : (Lit.int .i64 y).wf = true) (wz : (Lit.int .i64 z).wf = true) (hL : Gl w) :
    Calls Tryd.prog 9 #[.agg #[.int .i64 x, .int .i64 y, .int .i64 z]] w fun e w' => e = .returned (.bool true) ∧ Below w.heap.size w w' := by
  obtain ⟨k, h⟩ := (dates_all x y z).rounds
  exact payofflaw06_LexDates.calls k x y z true w h hL
end Go.Proofs.YtkfdninngcakpaaDoor.Pure
