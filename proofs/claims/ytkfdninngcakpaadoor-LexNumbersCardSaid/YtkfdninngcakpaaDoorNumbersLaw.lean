/- Own text: LexNumbers: each number that is not below 0 is one token, with its value, and so is a count of units; a 0 ahead is refused; a minus is a mark of its own; no condition but that the listed package variables stand. -/
import Derived.Test.YtkfdninngcakpaaDoorNumbersP
import Derived.Test.YtkfdninngcakpaaDoorQLexNumbers
import Derived.Lib.ItoaLen
namespace Go.Proofs.YtkfdninngcakpaaDoor.Pure
open Go.RowKit Go.Proofs.YtkfdninngcakpaaDoor.PLex Go.Proofs.YtkfdninngcakpaaDoorW.PrintWords Go.Proofs.YtkfdninngcakpaaDoorW.PrintLast Go.Proofs.YtkfdninngcakpaaDoorW.PrintMore
set_option linter.unusedVariables false
set_option linter.unusedSimpArgs false
theorem text_ev (v : Int) (h0 : -9223372036854775808 ≤ v) (h1 : v ≤ 9223372036854775807) : Ev (fun k => num_Text.f k v 0) (SB (Lib.itoa v), 0) := by
  have hl : (SB (Lib.itoa v)).size ≤ 21 := by rw [sb_size]; exact Lib.itoa_length_le v h0 h1
  unfold num_Text.f
  refine Ev.neg (by decide) ?_
  rw [show (decide ((0 : Int) > 18)) = false by decide]
  refine Ev.step (fun k => num_Text.j0.eq_2 ..) (Ev.neg (by decide) (Ev.call (a := SB (Lib.itoa v)) (by unfold strconv_Itoa_29.f; rw [if_pos ⟨h0, h1⟩]) ?_))
  by_cases g : v < 0
  · have e : Lib.itoa v = 45 :: DD v.natAbs := by unfold Lib.itoa; rw [if_pos g]
    have ex : (SB (Lib.itoa v)).extract 1 (SB (Lib.itoa v)).size = SB (DD v.natAbs) := by rw [e]; exact minus_drop _
    have hs : (SB (Lib.itoa v)).size = (DD v.natAbs).length + 1 := by rw [e, sb_size]; rfl
    refine Ev.pos g (Ev.pos (by omega) (Ev.neg (by decide) ?_))
    rw [ex]
    refine Ev.pos (by rw [sb_size]; omega) (Ev.ret ?_)
    rw [show (⟨#[45]⟩ : ByteArray) = SB [45] from rfl, sb_app, e]; rfl
  · refine Ev.neg g (Ev.neg (by decide) (Ev.pos (by omega) (Ev.ret ?_)))
    rw [show (⟨#[]⟩ : ByteArray) = SB [] from rfl, sb_app]; rfl
theorem unit_rng (x : Int) : 0 ≤ Go.bits .and .i64 x 3 ∧ Go.bits .and .i64 x 3 ≤ 3 := by
  have e : Go.bits .and .i64 x 3 = IntKind.i64.wrap (((BitVec.ofInt 64 x &&& BitVec.ofInt 64 3).toNat : Nat) : Int) := rfl
  have h : (BitVec.ofInt 64 x &&& BitVec.ofInt 64 3).toNat < 2 ^ 2 := by
    rw [BitVec.toNat_and]
    exact Nat.and_lt_two_pow _ (by decide)
  rw [e, IntKind.wrap_i64]
  omega
def unitC (U : Int) : UInt8 := if U = 0 then 100 else if U = 1 then 119 else if U = 2 then 109 else 121
theorem unit_cut {U : Int} (h0 : 0 ≤ U) (h1 : U ≤ 3) : (⟨#[100, 119, 109, 121]⟩ : ByteArray).extract U.toNat (U + 1).toNat = SB [unitC U] ∧ smallB (((unitC U).toNat : Nat) : Int) = true ∧ unitOf (((unitC U).toNat : Nat) : Int) = U + 1 := by
  obtain rfl | rfl | rfl | rfl : U = 0 ∨ U = 1 ∨ U = 2 ∨ U = 3 := by omega
  · exact ⟨by kernel_rfl, by kernel_rfl, by kernel_rfl⟩
  · exact ⟨by kernel_rfl, by kernel_rfl, by kernel_rfl⟩
  · exact ⟨by kernel_rfl, by kernel_rfl, by kernel_rfl⟩
  · exact ⟨by kernel_rfl, by kernel_rfl, by kernel_rfl⟩
theorem digit_scan {s : ByteArray} {n : Nat} (T : NumT s n) : 0 < s.size ∧ blankB (bt s 0) = false ∧ bt s 0 ≠ 35 := by
  have := dig_not (T.digs 0 T.pos)
  have p := T.pos
  refine ⟨?_, this.2.1, this.2.2⟩
  rcases T.last with e | e <;> omega
theorem num_j1 (u : Nat) (h : u < 9223372036854775808) (x : Int) : Ev (fun k => payofflaw06_LexNumbers.j1 k (u : Int) x (SB (DD u)) false) true := by
  obtain ⟨U, hU⟩ : ∃ U, Go.bits .and .i64 x 3 = U := ⟨_, rfl⟩
  have hr := unit_rng x
  refine Ev.step (fun k => payofflaw06_LexNumbers.j1.eq_2 ..) (Ev.neg (by decide) ?_)
  rw [hU] at hr ⊢
  rw [w64 (n := U + 1) (by omega)]
  obtain ⟨c1, c2, c3⟩ := unit_cut hr.1 hr.2
  rw [c1, sb_app]
  have T := numT_unit u (unitC U) c2
  have ds := digit_scan T
  have ht := num_unit h (unitC U) c2 (by rw [c3]; omega)
  have hl : (DD u).length ≤ 21 := by show (Lib.decDigits u).length ≤ 21; rw [← Lib.itoa_nonneg]; exact Lib.itoa_length_le _ (by omega) (by omega)
  have s1 : (SB (DD u)).size = (DD u).length := sb_size _
  have s2 : (SB [unitC U]).size = 1 := sb_size _
  have s3 : (SB (DD u ++ [unitC U])).size = (DD u).length + 1 := by rw [sb_size]; simp
  refine Ev.pos (by omega) (Ev.pos (by omega) (Ev.pos (by omega) (Ev.pos (by omega) ?_)))
  by_cases g : 1 ≤ u ∧ u ≤ 999
  · rw [if_pos g, c3] at ht
    have sc := scan_tok ds.1 ds.2.1 ds.2.2 (by rw [ht]) (by rw [ht])
    refine Ev.bind (scan_ev _ (by omega) _ sc) (Ev.neg (by omega) (Ev.neg (by omega) (Ev.pos rfl (Ev.pos rfl (Ev.pos (by show (0 : Int) < 1; decide) (Ev.ret ?_))))))
    rw [ht]
    show ((5 : Int) == 5 && ((SB (DD u ++ [unitC U])).toList == (SB (DD u ++ [unitC U])).toList && ((0 : Int) == 0 && ((0 : Int) == 0 && (((0 : Int) == 0 && ((0 : Int) == 0 && (0 : Int) == 0)) && ((u : Int) == (u : Int) && (U + 1 == U + 1))))))) = true
    simp
  · rw [if_neg g] at ht
    have sc := scan_err ds.1 ds.2.1 ds.2.2 ht
    refine Ev.bind (scan_ev _ (by omega) _ sc) ?_
    by_cases g1 : (u : Int) < 1
    · exact Ev.pos g1 (Ev.pos rfl (Ev.ret rfl))
    · exact Ev.neg g1 (Ev.pos (by omega) (Ev.pos rfl (Ev.ret rfl)))
theorem num_j0 (u : Nat) (h : u < 9223372036854775808) (x : Int) : Ev (fun k => payofflaw06_LexNumbers.j0 k (u : Int) x (SB (DD u)) false) true := by
  have hl : (DD u).length ≤ 21 := by show (Lib.decDigits u).length ≤ 21; rw [← Lib.itoa_nonneg]; exact Lib.itoa_length_le _ (by omega) (by omega)
  have s1 : (SB (DD u)).size = (DD u).length := sb_size _
  have ds := digit_scan (numT_zero u)
  have sc := scan_err ds.1 ds.2.1 ds.2.2 (num_zero u)
  have s3 : (SB (48 :: DD u)).size = (DD u).length + 1 := by rw [sb_size]; rfl
  refine Ev.step (fun k => payofflaw06_LexNumbers.j0.eq_2 ..) (Ev.neg (by decide) (Ev.pos (by omega) ?_))
  rw [show (⟨#[48]⟩ : ByteArray) = SB [48] from rfl, sb_app, show [48] ++ DD u = 48 :: DD u from rfl]
  refine Ev.bind (scan_ev _ (by omega) _ sc) (Ev.pos rfl ?_)
  exact num_j1 u h x
theorem numbers_all (v x : Int) (h0 : -9223372036854775808 ≤ v) (h1 : v ≤ 9223372036854775807) : Ev (fun k => payofflaw06_LexNumbers.f k v x) true := by
  unfold payofflaw06_LexNumbers.f
  refine Ev.bind (text_ev v h0 h1) ?_
  dsimp only
  have hl : (SB (Lib.itoa v)).size ≤ 21 := by rw [sb_size]; exact Lib.itoa_length_le v h0 h1
  by_cases g : v < 0
  · obtain ⟨n, hn⟩ : ∃ n : Nat, v = -(n : Int) := ⟨v.natAbs, by omega⟩
    have e : Lib.itoa v = 45 :: DD n := by rw [hn]; exact Lib.itoa_neg n (by omega)
    rw [e] at hl ⊢
    have s1 : (SB (45 :: DD n)).size = (DD n).length + 1 := by rw [sb_size]; rfl
    by_cases gm : v = -9223372036854775808
    · have en : n = 9223372036854775808 := by omega
      subst en
      exact Ev.bind (scan_ev _ (by omega) _ scan_least) (Ev.pos rfl (Ev.pos g (Ev.pos gm (Ev.pos rfl (Ev.pos rfl (Ev.ret rfl))))))
    · have hn' : n < 9223372036854775808 := by omega
      refine Ev.bind (scan_ev _ (by omega) _ (scan_minus hn')) (Ev.pos rfl (Ev.pos g (Ev.neg gm (Ev.pos rfl (Ev.pos rfl (Ev.pos (by show (0 : Int) < 2; decide) (Ev.pos ?_ (Ev.pos (by show (1 : Int) < 2; decide) (Ev.pos (by omega) (Ev.ret ?_))))))))))
      · show (SB [45]).toList = [45]
        rw [toList_data, sb_list]
      · rw [num_plain hn', minus_drop, show wrap64 (-v) = (n : Int) by rw [w64 (by omega)]; omega]
        show ((3 : Int) == 3 && ((SB (DD n)).toList == (SB (DD n)).toList && ((1 : Int) == 1 && ((n : Int) == (n : Int) && (((0 : Int) == 0 && ((0 : Int) == 0 && (0 : Int) == 0)) && ((0 : Int) == 0 && (0 : Int) == 0)))))) = true
        simp
  · obtain ⟨n, hn⟩ : ∃ n : Nat, v = (n : Int) := ⟨v.toNat, by omega⟩
    subst hn
    rw [Lib.itoa_nonneg] at hl ⊢
    have hn' : n < 9223372036854775808 := by omega
    have ds := digit_scan (numT_dd n)
    have sc := scan_tok ds.1 ds.2.1 ds.2.2 (by rw [num_plain hn']) (by rw [num_plain hn'])
    refine Ev.bind (scan_ev _ (by omega) _ sc) (Ev.pos rfl (Ev.neg g (Ev.pos rfl (Ev.pos rfl (Ev.pos (by show (0 : Int) < 1; decide) ?_)))))
    rw [num_plain hn']
    have key : (!((3 : Int) == 3) || (!((SB (DD n)).toList == (SB (DD n)).toList) || (!((0 : Int) == 0) || (!((n : Int) == (n : Int)) || ((!((0 : Int) == 0) || (!((0 : Int) == 0) || !((0 : Int) == 0))) || (!((0 : Int) == 0) || !((0 : Int) == 0))))))) = false := by simp
    have := num_j0 n hn' x
    rw [← key] at this
    exact this

theorem LexNumbers_walk (a0 a1 : Int) (w : World) (w0 : (Lit.int .i64 a0).wf = true) (w1 : (Lit.int .i64 a1).wf = true) (hL : Gl w) :
    Calls Tryd.prog 8 #[.int .i64 a0, .int .i64 a1] w fun e w' => e = .returned (.bool true) ∧ Below w.heap.size w w' := by
  have b := wf64 w0
  obtain ⟨k, h⟩ := (numbers_all a0 a1 b.1 b.2).rounds
  exact payofflaw06_LexNumbers.calls k a0 a1 true w h hL
end Go.Proofs.YtkfdninngcakpaaDoor.Pure
