/- Own text, for this claim: lex.token, after the text that the kit's printer writes. -/
import Derived.Test.YtkfdninngcakpaaDoorZLexOwn
import Derived.Test.YtkfdninngcakpaaDoorZQLexxn
import Derived.WalkMore
import Derived.Deep.DeepMust
import Derived.Outline
import Derived.Deep.RegionWith
namespace Go.Proofs.YtkfdninngcakpaaDoor.PLex
open Go.RowKit Go.Proofs.YtkfdninngcakpaaDoorW.PrintWords Go.Proofs.YtkfdninngcakpaaDoorW.PrintLast Go.Proofs.YtkfdninngcakpaaDoorW.PrintMore
attribute [local go_sem] max2_int min2_int max_two min_two max_three min_three max_four min_four
set_option linter.unusedVariables false
set_option linter.unusedSimpArgs false
mutual
def lex_token.j1 : Nat → ByteArray → Int → Option (Int × ByteArray × Int × Int × Int × Int × Int × Int × Int × Int × Int)
 | 0, _, _ => none
 | k + 1, x0, x7 => if 0 < (x0.size : Int) then ((lex_digit.f (bt x0 0)).bind fun t161 => (if t161 = true then (if 0 ≤ x7 then (if x7 ≤ (x0.size : Int) then ((lex_number.f k (x0.extract 0 (x7 : Int).toNat)).bind fun bt162 => (some (bt162.1, bt162.2.1, bt162.2.2.1, bt162.2.2.2.1, bt162.2.2.2.2.1, bt162.2.2.2.2.2.1, bt162.2.2.2.2.2.2.1, bt162.2.2.2.2.2.2.2.1, bt162.2.2.2.2.2.2.2.2.1, bt162.2.2.2.2.2.2.2.2.2.1, bt162.2.2.2.2.2.2.2.2.2.2))) else (none)) else (none)) else ((lex_small.f (bt x0 0)).bind fun t173 => (if t173 = true then (if 0 ≤ x7 then (if x7 ≤ (x0.size : Int) then ((lex_word.f (x0.extract 0 (x7 : Int).toNat) 1).bind fun bt174 => (some (bt174.1, bt174.2.1, bt174.2.2.1, bt174.2.2.2.1, bt174.2.2.2.2.1, bt174.2.2.2.2.2.1, bt174.2.2.2.2.2.2.1, bt174.2.2.2.2.2.2.2.1, bt174.2.2.2.2.2.2.2.2.1, bt174.2.2.2.2.2.2.2.2.2.1, bt174.2.2.2.2.2.2.2.2.2.2))) else (none)) else (none)) else ((lex_big.f (bt x0 0)).bind fun t185 => (if t185 = true then (if 0 ≤ x7 then (if x7 ≤ (x0.size : Int) then ((lex_word.f (x0.extract 0 (x7 : Int).toNat) 2).bind fun bt186 => (some (bt186.1, bt186.2.1, bt186.2.2.1, bt186.2.2.2.1, bt186.2.2.2.2.1, bt186.2.2.2.2.2.1, bt186.2.2.2.2.2.2.1, bt186.2.2.2.2.2.2.2.1, bt186.2.2.2.2.2.2.2.2.1, bt186.2.2.2.2.2.2.2.2.2.1, bt186.2.2.2.2.2.2.2.2.2.2))) else (none)) else (none)) else ((lex_mark.f x0).bind fun t197 => (if t197 > 0 then (if 0 ≤ t197 then (if t197 ≤ (x0.size : Int) then (some (6, x0.extract 0 (t197 : Int).toNat, 0, 0, 0, 0, 0, 0, 0, 0, 0)) else (none)) else (none)) else (some (0, (⟨#[]⟩ : ByteArray), 0, 0, 0, 0, 0, 0, 0, 0, 61)))))))))) else (none)
def lex_token.l0 : Nat → ByteArray → Int → Option (Int × ByteArray × Int × Int × Int × Int × Int × Int × Int × Int × Int)
 | 0, _, _ => none
 | k + 1, x0, x7 => if x7 < (x0.size : Int) then (if 0 ≤ x7 then ((lex_run.f (bt x0 x7)).bind fun t160 => (if t160 = true then (lex_token.l0 k x0 (wrap64 (x7 + 1))) else (lex_token.j1 k x0 x7))) else (none)) else (lex_token.j1 k x0 x7)
end
def lex_token.f (k : Nat) (a0 : ByteArray) : Option (Int × ByteArray × Int × Int × Int × Int × Int × Int × Int × Int × Int) := (lex_dated.f k a0).bind fun t154 => (if t154 = true then (if 0 ≤ 10 then (if 10 ≤ (a0.size : Int) then ((cal_Parse.f (a0.extract 0 10)).bind fun bt155 => (if bt155.2.2.2 = 0 then (some (4, a0.extract 0 10, 0, 0, bt155.1, bt155.2.1, bt155.2.2.1, 0, 0, 0, 0)) else (some (0, (⟨#[]⟩ : ByteArray), 0, 0, 0, 0, 0, 0, 0, 0, 62)))) else (none)) else (none)) else (lex_token.l0 k a0 0))
set_option maxHeartbeats 8000000 in
set_option maxRecDepth 100000 in
theorem lex_token.calls (k : Nat) (a0 : ByteArray) (r1 : Int) (r2 : ByteArray) (r3 : Int) (r4 : Int) (r5 : Int) (r6 : Int) (r7 : Int) (r8 : Int) (r9 : Int) (r10 : Int) (r11 : Int) (w : World) (h : lex_token.f k a0 = some (r1, r2, r3, r4, r5, r6, r7, r8, r9, r10, r11)) (hG : Pure.Gl w) :
  Calls Tryd.prog 21 #[.string a0] w fun e w' => e = .returned (.tuple #[.agg #[.int .i64 r1, .string r2, .int .i64 r3, .int .i64 r4, .int .i64 r5, .int .i64 r6, .int .i64 r7, .int .i64 r8, .int .i64 r9], .int .i64 r10, .int .i64 r11]) ∧ Below w.heap.size w w' := by
 have HG := yA hG
 clear hG
 have hu32 := Tryd.underlying32
 have hu28 := Tryd.underlying28
 have HB := yA (Below.refl w.heap.size w)
 have H : ((lex_dated.f k a0).bind fun t154 => (if t154 = true then (if 0 ≤ 10 then (if 10 ≤ (a0.size : Int) then ((cal_Parse.f (a0.extract 0 10)).bind fun bt155 => (if bt155.2.2.2 = 0 then (some (4, a0.extract 0 10, 0, 0, bt155.1, bt155.2.1, bt155.2.2.1, 0, 0, 0, 0)) else (some (0, (⟨#[]⟩ : ByteArray), 0, 0, 0, 0, 0, 0, 0, 0, 62)))) else (none)) else (none)) else (lex_token.l0 k a0 0))) = some (r1, r2, r3, r4, r5, r6, r7, r8, r9, r10, r11) := h
 clear h
 replace H := Option.bind_eq_some_iff.mp H
 obtain ⟨t154, A20, H⟩ := H
 replace H : (if t154 = true then (if 0 ≤ 10 then (if 10 ≤ (a0.size : Int) then ((cal_Parse.f (a0.extract 0 10)).bind fun bt155 => (if bt155.2.2.2 = 0 then (some (4, a0.extract 0 10, 0, 0, bt155.1, bt155.2.1, bt155.2.2.1, 0, 0, 0, 0)) else (some (0, (⟨#[]⟩ : ByteArray), 0, 0, 0, 0, 0, 0, 0, 0, 62)))) else (none)) else (none)) else (lex_token.l0 k a0 0)) = some (r1, r2, r3, r4, r5, r6, r7, r8, r9, r10, r11) := H
 have A2 := yA A20
 clear A20
 by_cases c3 : t154 = true
 ·subst c3
  have H1 : (if 0 ≤ 10 then (if 10 ≤ (a0.size : Int) then ((cal_Parse.f (a0.extract 0 10)).bind fun bt155 => (if bt155.2.2.2 = 0 then (some (4, a0.extract 0 10, 0, 0, bt155.1, bt155.2.1, bt155.2.2.1, 0, 0, 0, 0)) else (some (0, (⟨#[]⟩ : ByteArray), 0, 0, 0, 0, 0, 0, 0, 0, 62)))) else (none)) else (none)) = some (r1, r2, r3, r4, r5, r6, r7, r8, r9, r10, r11) := by rw [if_pos rfl] at H; exact H
  clear H
  have H := H1
  clear H1
  by_cases c4 : 0 ≤ 10
  ·rw [if_pos c4] at H
   have c4b0 := eq_true c4
   have c4b1 : decide (0 ≤ 10) = true := yL c4
   clear c4
   by_cases c5 : 10 ≤ (a0.size : Int)
   ·rw [if_pos c5] at H
    have c5b0 := eq_true c5
    have c5b1 : decide (10 ≤ (a0.size : Int)) = true := yL c5
    clear c5
    replace H := Option.bind_eq_some_iff.mp H
    obtain ⟨⟨t155, t156, t157, t158⟩, A60, H⟩ := H
    replace H : (if t158 = 0 then (some (4, a0.extract 0 10, 0, 0, t155, t156, t157, 0, 0, 0, 0)) else (some (0, (⟨#[]⟩ : ByteArray), 0, 0, 0, 0, 0, 0, 0, 0, 62))) = some (r1, r2, r3, r4, r5, r6, r7, r8, r9, r10, r11) := H
    have A6 := yA A60
    clear A60
    by_cases c7 : t158 = 0
    ·rw [if_pos c7] at H
     have c7b0 : (t158 == 0) = true := beq_iff_eq.mpr c7
     have c7b1 : (t158 != 0) = false := bne_eq_false_iff_eq.mpr c7
     clear c7
     have c8b0 := eq_true (yN (by first | (with_reducible assumption) | assumption) : 0 ≤ 10)
     have c9b0 := eq_true (yN (by first | (with_reducible assumption) | assumption) : 10 ≤ (a0.size : Int))
     simp only [Option.some.injEq, Prod.mk.injEq] at H
     obtain ⟨rfl, rfl, rfl, rfl, rfl, rfl, rfl, rfl, rfl, rfl, rfl⟩ := H
     go_enter Tryd.func21, Tryd.ntmps21
     try go_wp2_with (first | ((with_reducible refine yP (N := 2) rfl ?_); refine yQ ?hg (N := 2) ?hd (cs := #[.int .i64 0, .string (⟨#[]⟩ : ByteArray), .int .i64 0, .int .i64 0, .int .i64 0, .int .i64 0, .int .i64 0, .int .i64 0, .int .i64 0]) (t := 32) ?hr ?_; (case hd => rfl); (case hg => rfl); (case hr => first | (go_simp; done) | (go_simp; rfl)); intro gb153 hg w10 hbox hb; have n0_ := yA (yB (by repeat (first | (with_reducible first | exact HB.out | apply yE | apply yF | apply yD) | exact HB.out)) hb); have n1_ := yA (hbox); have n2_ := yA ((by rw [hg]; exact (below_size (by repeat (first | (with_reducible first | exact HB.out | apply yE | apply yF | apply yD) | exact HB.out))) : w.heap.size ≤ gb153)); have n3_ := yA ((by rw [hg]; exact (below_size (by repeat (first | (with_reducible first | exact HB.out | apply yE | apply yF | apply yD) | exact HB.out))) : w.heap.size ≤ gb153)); clear HB; have HB := n0_; have BK153 := n1_; have GW153 := n2_; have GE153 := n3_; clear n0_ n1_ n2_ n3_; clear hb hbox hg) | ((with_reducible refine yO (f := 33) rfl ?_); refine goesL_ (some 11) rfl rfl Tryd.func33 (by kernel_rfl) rfl #[.string a0] rfl (by (try simp only [List.map_toArray, List.map_cons, List.map_nil]); first | done | rfl | (simp only [List.length_drop, List.length_take]; rfl)) ?_; (with_reducible refine (lex_dated.calls k a0 true _ A2.out).mono ?_); rintro e w' ⟨rfl, ⟨nd, rfl⟩⟩; refine ⟨_, rfl, ?_⟩; (try (rw [drewN_self w10]; generalize hq_ : World.drewN w10 _ = w10; have n0_ : Aside0 (w10.heap[gb153]? = some (.cells #[.int .i64 0, .string (⟨#[]⟩ : ByteArray), .int .i64 0, .int .i64 0, .int .i64 0, .int .i64 0, .int .i64 0, .int .i64 0, .int .i64 0] 32 (0, 0))) := ⟨by rw [← hq_]; exact (by (with_reducible repeat (first | refine yG ?_ _ | refine yH ?_ | refine yI ?_ _)); exact BK153.out)⟩; have n1_ : Aside0 (Below w.heap.size w w10) := ⟨by rw [← hq_]; exact (by repeat (first | (with_reducible first | exact HB.out | apply yE | apply yF | apply yD | refine yJ ?_ GE153.out) | exact HB.out))⟩; clear BK153 HB hq_; have BK153 := n0_; have HB := n1_; clear n0_ n1_))) | ((with_reducible refine yO (f := 34) rfl ?_); refine goesL_ (some 15) rfl rfl Tryd.func34 (by kernel_rfl) rfl #[.string (a0.extract 0 10)] rfl (by (try simp only [List.map_toArray, List.map_cons, List.map_nil]); first | done | rfl | (simp only [List.length_drop, List.length_take]; rfl)) ?_; (with_reducible refine (cal_Parse.calls (a0.extract 0 10) t155 t156 t157 t158 _ A6.out (Pure.Gl.below HG.out (by repeat (first | (with_reducible first | exact HB.out | apply yE | apply yF | apply yD | (refine yJ ?_ (by first | exact GE153.out | exact GE159.out)) ) | exact HB.out)))).mono ?_); rintro e w11 ⟨rfl, hb⟩; refine ⟨_, rfl, ?_⟩; have n0_ := yA (yC (g := gb153) (o := .cells #[.int .i64 0, .string (⟨#[]⟩ : ByteArray), .int .i64 0, .int .i64 0, .int .i64 0, .int .i64 0, .int .i64 0, .int .i64 0, .int .i64 0] 32 (0, 0)) (by (with_reducible repeat (first | refine yG ?_ _ | refine yH ?_ | refine yI ?_ _)); exact BK153.out) hb); have n1_ := yA (yB (by repeat (first | (with_reducible first | exact HB.out | apply yE | apply yF | apply yD | refine yJ ?_ GE153.out) | exact HB.out)) hb); clear BK153; clear HB; have BK153 := n0_; have HB := n1_; clear n0_ n1_; (try clear hb); (try clear hb2); (try clear hk); (try clear hi)) | ((with_reducible refine yP (N := 5) rfl ?_); refine yQ ?hg (N := 5) ?hd (cs := #[.int .i64 0, .int .i64 0, .int .i64 0]) (t := 28) ?hr ?_; (case hd => rfl); (case hg => rfl); (case hr => first | (go_simp; done) | (go_simp; rfl)); intro gb159 hg w12 hbox hb; have n0_ := yA (yC (g := gb153) (o := .cells #[.int .i64 0, .string (⟨#[]⟩ : ByteArray), .int .i64 0, .int .i64 0, .int .i64 0, .int .i64 0, .int .i64 0, .int .i64 0, .int .i64 0] 32 (0, 0)) (by (with_reducible repeat (first | refine yG ?_ _ | refine yH ?_ | refine yI ?_ _)); exact BK153.out) hb); have n1_ := yA (yB (by repeat (first | (with_reducible first | exact HB.out | apply yE | apply yF | apply yD | refine yJ ?_ GE153.out) | exact HB.out)) hb); have n2_ := yA (hbox); have n3_ := yA ((by rw [hg]; exact (below_size (by repeat (first | (with_reducible first | exact HB.out | apply yE | apply yF | apply yD | refine yJ ?_ GE153.out) | exact HB.out))) : w.heap.size ≤ gb159)); have n4_ := yA ((by rw [hg]; exact (below_size (by repeat (first | (with_reducible first | exact HB.out | apply yE | apply yF | apply yD | refine yJ ?_ GE153.out) | exact HB.out))) : w.heap.size ≤ gb159)); have n5_ := yA ((by rw [hg]; exact Nat.ne_of_lt (blk_lt (g := gb153) (o := .cells #[.int .i64 0, .string (⟨#[]⟩ : ByteArray), .int .i64 0, .int .i64 0, .int .i64 0, .int .i64 0, .int .i64 0, .int .i64 0, .int .i64 0] 32 (0, 0)) (by (with_reducible repeat (first | refine yG ?_ _ | refine yH ?_ | refine yI ?_ _)); exact BK153.out)) : gb153 ≠ gb159)); have n6_ := yA ((by rw [hg]; exact Nat.ne_of_gt (blk_lt (g := gb153) (o := .cells #[.int .i64 0, .string (⟨#[]⟩ : ByteArray), .int .i64 0, .int .i64 0, .int .i64 0, .int .i64 0, .int .i64 0, .int .i64 0, .int .i64 0] 32 (0, 0)) (by (with_reducible repeat (first | refine yG ?_ _ | refine yH ?_ | refine yI ?_ _)); exact BK153.out)) : gb159 ≠ gb153)); clear BK153; clear HB; have BK153 := n0_; have HB := n1_; have BK159 := n2_; have GW159 := n3_; have GE159 := n4_; have NB153_159 := n5_; have NB159_153 := n6_; clear n0_ n1_ n2_ n3_ n4_ n5_ n6_; clear hb hbox hg; have hnb13 := NB159_153.out; have hnc13 := NB153_159.out; have hcz14_0 : w12.cell? ⟨gb159, 0, none⟩ = some (.int .i64 0) := (yR BK159.out 0).trans rfl; have hcz14_1 : w12.cell? ⟨gb159, 1, none⟩ = some (.int .i64 0) := (yR BK159.out 1).trans rfl; have hcz14_2 : w12.cell? ⟨gb159, 2, none⟩ = some (.int .i64 0) := (yR BK159.out 2).trans rfl; have hfz14_0 := yS BK159.out 0; have hfz14_1 := yS BK159.out 1; have hfz14_2 := yS BK159.out 2))
     have n0_ : Aside0 ((((w12.setCell ⟨gb159, 0, none⟩ (.int .i64 t155)).setCell ⟨gb159, 1, none⟩ (.int .i64 t156)).setCell ⟨gb159, 2, none⟩ (.int .i64 t157)).heap[gb153]? = some (.cells #[.int .i64 0, .string (⟨#[]⟩ : ByteArray), .int .i64 0, .int .i64 0, .int .i64 0, .int .i64 0, .int .i64 0, .int .i64 0, .int .i64 0] 32 (0, 0))) := ⟨by (with_reducible repeat (first | refine yG ?_ _ | refine yH ?_ | refine yI ?_ _)); refine blk_far ?_ NB153_159.out _; (with_reducible repeat (first | refine yG ?_ _ | refine yH ?_ | refine yI ?_ _)); refine blk_far ?_ NB153_159.out _; (with_reducible repeat (first | refine yG ?_ _ | refine yH ?_ | refine yI ?_ _)); refine blk_far ?_ NB153_159.out _; (with_reducible repeat (first | refine yG ?_ _ | refine yH ?_ | refine yI ?_ _)); exact BK153.out⟩
     have n1_ : Aside0 ((((w12.setCell ⟨gb159, 0, none⟩ (.int .i64 t155)).setCell ⟨gb159, 1, none⟩ (.int .i64 t156)).setCell ⟨gb159, 2, none⟩ (.int .i64 t157)).heap[gb159]? = some (.cells #[.int .i64 t155, .int .i64 t156, .int .i64 t157] 28 (0, 0))) := ⟨by (with_reducible repeat (first | refine yG ?_ _ | refine yH ?_ | refine yI ?_ _)); refine blk_put (cs := #[.int .i64 t155, .int .i64 t156, .int .i64 0]) ?_ 2 _ rfl; (with_reducible repeat (first | refine yG ?_ _ | refine yH ?_ | refine yI ?_ _)); refine blk_put (cs := #[.int .i64 t155, .int .i64 0, .int .i64 0]) ?_ 1 _ rfl; (with_reducible repeat (first | refine yG ?_ _ | refine yH ?_ | refine yI ?_ _)); refine blk_put (cs := #[.int .i64 0, .int .i64 0, .int .i64 0]) ?_ 0 _ rfl; (with_reducible repeat (first | refine yG ?_ _ | refine yH ?_ | refine yI ?_ _)); exact BK159.out⟩
     have n2_ : Aside0 (Below w.heap.size w (((w12.setCell ⟨gb159, 0, none⟩ (.int .i64 t155)).setCell ⟨gb159, 1, none⟩ (.int .i64 t156)).setCell ⟨gb159, 2, none⟩ (.int .i64 t157))) := ⟨by repeat (first | (with_reducible first | exact HB.out | apply yE | apply yF | apply yD | refine yJ ?_ GE153.out | refine yJ ?_ GE159.out) | exact HB.out)⟩
     (try clear BK153)
     (try clear BK159)
     (try clear HB)
     generalize (((w12.setCell ⟨gb159, 0, none⟩ (.int .i64 t155)).setCell ⟨gb159, 1, none⟩ (.int .i64 t156)).setCell ⟨gb159, 2, none⟩ (.int .i64 t157)) = w15 at n0_ n1_ n2_ ⊢
     have BK153 := n0_
     have BK159 := n1_
     have HB := n2_
     clear n0_ n1_ n2_
     have n0_ := yA (yH BK153.out)
     have n1_ := yA (yH BK159.out)
     have n2_ := yA (yD HB.out)
     clear BK153
     clear BK159
     clear HB
     have BK153 := n0_
     have BK159 := n1_
     have HB := n2_
     clear n0_ n1_ n2_
     refine start_ (n := 7) (S := fun w' => w'.cell? ⟨gb159, 0, none⟩ = some (.int .i64 t155) ∧ w'.cell? ⟨gb159, 1, none⟩ = some (.int .i64 t156) ∧ w'.cell? ⟨gb159, 2, none⟩ = some (.int .i64 t157)) (ds := []) #[false, false, false, false, false, false, false] (by kernel_rfl) rfl rfl ⟨(yR BK159.out 0).trans rfl, (yR BK159.out 1).trans rfl, (yR BK159.out 2).trans rfl⟩ (fun hHeld => ?_)
     generalize w15.drew = w16 at BK153 BK159 HB hHeld ⊢
     refine pure_ (i := 0) (N := some 21) (v := ?_) (a' := ?_) #[true, false, false, false, false, false, false] rfl rfl (by kernel_rfl) (fun _ _ _ h => h) (Or.inl ⟨by rfl, ?_⟩) ?_ ?_
     rotate_left
     ·intro w'
      go_simp
      with_reducible rfl
     rotate_left
     ·simp only [Act.put, lA, lB, lC, i64_w, i32_w]
      rfl
     refine pure_ (i := 1) (N := some 22) (v := ?_) (a' := ?_) #[true, true, false, false, false, false, false] rfl rfl (by kernel_rfl) (fun _ _ _ h => h) (Or.inl ⟨by rfl, ?_⟩) ?_ ?_
     rotate_left
     ·intro w'
      go_simp
      with_reducible rfl
     rotate_left
     ·simp only [Act.put, lA, lB, lC, i64_w, i32_w]
      rfl
     refine take_ (i := 2) (N := some 23) (v := ?_) (a' := ?_) #[true, true, true, false, false, false, false] rfl rfl (by kernel_rfl) (fun _ _ _ h => h) (Or.inl ⟨by rfl, ?_⟩) hHeld ?_ ?_
     rotate_left
     ·rintro w' ⟨s0, s1, s2⟩
      go_simp
      with_reducible rfl
     rotate_left
     ·simp only [Act.put, lA, lB, lC, i64_w, i32_w]
      rfl
     refine pure_ (i := 3) (N := some 24) (v := ?_) (a' := ?_) #[true, true, true, true, false, false, false] rfl rfl (by kernel_rfl) (fun _ _ _ h => h) (Or.inl ⟨by rfl, ?_⟩) ?_ ?_
     rotate_left
     ·intro w'
      go_simp
      with_reducible rfl
     rotate_left
     ·simp only [Act.put, lA, lB, lC, i64_w, i32_w]
      rfl
     refine one_ (i := 4) (N := none) #[true, true, true, true, true, false, false] rfl rfl (by kernel_rfl) (by decide) (fun K hK => ?_)
     have hs17 : w16.cell? ⟨gb153, 0, none⟩ = some (.int .i64 0) := (yR BK153.out 0).trans rfl
     have hfs17 := yS BK153.out 0
     have hns17_1 := NB159_153.out
     have hms17_1 := NB153_159.out
     have hs18 : w16.cell? ⟨gb153, 1, none⟩ = some (.string (⟨#[]⟩ : ByteArray)) := (yR BK153.out 1).trans rfl
     have hfs18 := yS BK153.out 1
     have hns18_1 := NB159_153.out
     have hms18_1 := NB153_159.out
     have hs19 : w16.cell? ⟨gb153, 2, none⟩ = some (.int .i64 0) := (yR BK153.out 2).trans rfl
     have hfs19 := yS BK153.out 2
     have hns19_1 := NB159_153.out
     have hms19_1 := NB153_159.out
     have hs20 : w16.cell? ⟨gb153, 3, none⟩ = some (.int .i64 0) := (yR BK153.out 3).trans rfl
     have hfs20 := yS BK153.out 3
     have hns20_1 := NB159_153.out
     have hms20_1 := NB153_159.out
     have hs21 : w16.cell? ⟨gb153, 4, none⟩ = some (.int .i64 0) := (yR BK153.out 4).trans rfl
     have hfs21 := yS BK153.out 4
     have hns21_1 := NB159_153.out
     have hms21_1 := NB153_159.out
     have hs22 : w16.cell? ⟨gb153, 5, none⟩ = some (.int .i64 0) := (yR BK153.out 5).trans rfl
     have hfs22 := yS BK153.out 5
     have hns22_1 := NB159_153.out
     have hms22_1 := NB153_159.out
     have hs23 : w16.cell? ⟨gb153, 6, none⟩ = some (.int .i64 0) := (yR BK153.out 6).trans rfl
     have hfs23 := yS BK153.out 6
     have hns23_1 := NB159_153.out
     have hms23_1 := NB153_159.out
     have hs24 : w16.cell? ⟨gb153, 7, none⟩ = some (.int .i64 0) := (yR BK153.out 7).trans rfl
     have hfs24 := yS BK153.out 7
     have hns24_1 := NB159_153.out
     have hms24_1 := NB153_159.out
     have hs25 : w16.cell? ⟨gb153, 8, none⟩ = some (.int .i64 0) := (yR BK153.out 8).trans rfl
     have hfs25 := yS BK153.out 8
     have hns25_1 := NB159_153.out
     have hms25_1 := NB153_159.out
     refine skip_ (w1 := ?_) (by rfl) rfl ?_ ?_
     rotate_left
     ·go_simp
      rfl
     refine hK.out _ _ ⟨((cell_far (p := ⟨gb153, _, none⟩) NB159_153.out _).trans (((cell_far (p := ⟨gb153, _, none⟩) NB159_153.out _).trans (((cell_far (p := ⟨gb153, _, none⟩) NB159_153.out _).trans (((cell_far (p := ⟨gb153, _, none⟩) NB159_153.out _).trans (((cell_far (p := ⟨gb153, _, none⟩) NB159_153.out _).trans (((cell_far (p := ⟨gb153, _, none⟩) NB159_153.out _).trans (((cell_far (p := ⟨gb153, _, none⟩) NB159_153.out _).trans (((cell_far (p := ⟨gb153, _, none⟩) NB159_153.out _).trans (((cell_far (p := ⟨gb153, _, none⟩) NB159_153.out _).trans (hHeld.1)))))))))))))))))), ((cell_far (p := ⟨gb153, _, none⟩) NB159_153.out _).trans (((cell_far (p := ⟨gb153, _, none⟩) NB159_153.out _).trans (((cell_far (p := ⟨gb153, _, none⟩) NB159_153.out _).trans (((cell_far (p := ⟨gb153, _, none⟩) NB159_153.out _).trans (((cell_far (p := ⟨gb153, _, none⟩) NB159_153.out _).trans (((cell_far (p := ⟨gb153, _, none⟩) NB159_153.out _).trans (((cell_far (p := ⟨gb153, _, none⟩) NB159_153.out _).trans (((cell_far (p := ⟨gb153, _, none⟩) NB159_153.out _).trans (((cell_far (p := ⟨gb153, _, none⟩) NB159_153.out _).trans (hHeld.2.1)))))))))))))))))), ((cell_far (p := ⟨gb153, _, none⟩) NB159_153.out _).trans (((cell_far (p := ⟨gb153, _, none⟩) NB159_153.out _).trans (((cell_far (p := ⟨gb153, _, none⟩) NB159_153.out _).trans (((cell_far (p := ⟨gb153, _, none⟩) NB159_153.out _).trans (((cell_far (p := ⟨gb153, _, none⟩) NB159_153.out _).trans (((cell_far (p := ⟨gb153, _, none⟩) NB159_153.out _).trans (((cell_far (p := ⟨gb153, _, none⟩) NB159_153.out _).trans (((cell_far (p := ⟨gb153, _, none⟩) NB159_153.out _).trans (((cell_far (p := ⟨gb153, _, none⟩) NB159_153.out _).trans (hHeld.2.2))))))))))))))))))⟩ (fun hHeld => ?_)
     clear hK K
     refine pure_ (i := 5) (N := some 3) (v := ?_) (a' := ?_) #[true, true, true, true, true, true, false] rfl rfl (by kernel_rfl) (fun _ _ _ h => h) (Or.inl ⟨by rfl, ?_⟩) ?_ ?_
     rotate_left
     ·intro w'
      go_simp
      with_reducible rfl
     rotate_left
     ·simp only [Act.put, lA, lB, lC, i64_w, i32_w]
      rfl
     refine pure_ (i := 6) (N := some 4) (v := ?_) (a' := ?_) #[true, true, true, true, true, true, true] rfl rfl (by kernel_rfl) (fun _ _ _ h => h) (Or.inl ⟨by rfl, ?_⟩) ?_ ?_
     rotate_left
     ·intro w'
      go_simp
      with_reducible rfl
     rotate_left
     ·simp only [Act.put, lA, lB, lC, i64_w, i32_w]
      rfl
     refine done_ (by kernel_rfl) ?_
     try go_wp2
     refine bodyPost_ret (results_ctt rfl _ _ gb153 32 #[.int .i64 4, .string (a0.extract 0 10), .int .i64 0, .int .i64 0, .int .i64 t155, .int .i64 t156, .int .i64 t157, .int .i64 0, .int .i64 0] (0, 0) _ rfl (by (with_reducible repeat (first | refine yG ?_ _ | refine yH ?_ | refine yI ?_ _)); refine blk_put (cs := #[.int .i64 4, .string (a0.extract 0 10), .int .i64 0, .int .i64 0, .int .i64 t155, .int .i64 t156, .int .i64 t157, .int .i64 0, .int .i64 0]) ?_ 8 _ rfl; (with_reducible repeat (first | refine yG ?_ _ | refine yH ?_ | refine yI ?_ _)); refine blk_put (cs := #[.int .i64 4, .string (a0.extract 0 10), .int .i64 0, .int .i64 0, .int .i64 t155, .int .i64 t156, .int .i64 t157, .int .i64 0, .int .i64 0]) ?_ 7 _ rfl; (with_reducible repeat (first | refine yG ?_ _ | refine yH ?_ | refine yI ?_ _)); refine blk_put (cs := #[.int .i64 4, .string (a0.extract 0 10), .int .i64 0, .int .i64 0, .int .i64 t155, .int .i64 t156, .int .i64 0, .int .i64 0, .int .i64 0]) ?_ 6 _ rfl; (with_reducible repeat (first | refine yG ?_ _ | refine yH ?_ | refine yI ?_ _)); refine blk_put (cs := #[.int .i64 4, .string (a0.extract 0 10), .int .i64 0, .int .i64 0, .int .i64 t155, .int .i64 0, .int .i64 0, .int .i64 0, .int .i64 0]) ?_ 5 _ rfl; (with_reducible repeat (first | refine yG ?_ _ | refine yH ?_ | refine yI ?_ _)); refine blk_put (cs := #[.int .i64 4, .string (a0.extract 0 10), .int .i64 0, .int .i64 0, .int .i64 0, .int .i64 0, .int .i64 0, .int .i64 0, .int .i64 0]) ?_ 4 _ rfl; (with_reducible repeat (first | refine yG ?_ _ | refine yH ?_ | refine yI ?_ _)); refine blk_put (cs := #[.int .i64 4, .string (a0.extract 0 10), .int .i64 0, .int .i64 0, .int .i64 0, .int .i64 0, .int .i64 0, .int .i64 0, .int .i64 0]) ?_ 3 _ rfl; (with_reducible repeat (first | refine yG ?_ _ | refine yH ?_ | refine yI ?_ _)); refine blk_put (cs := #[.int .i64 4, .string (a0.extract 0 10), .int .i64 0, .int .i64 0, .int .i64 0, .int .i64 0, .int .i64 0, .int .i64 0, .int .i64 0]) ?_ 2 _ rfl; (with_reducible repeat (first | refine yG ?_ _ | refine yH ?_ | refine yI ?_ _)); refine blk_put (cs := #[.int .i64 4, .string (⟨#[]⟩ : ByteArray), .int .i64 0, .int .i64 0, .int .i64 0, .int .i64 0, .int .i64 0, .int .i64 0, .int .i64 0]) ?_ 1 _ rfl; (with_reducible repeat (first | refine yG ?_ _ | refine yH ?_ | refine yI ?_ _)); refine blk_put (cs := #[.int .i64 0, .string (⟨#[]⟩ : ByteArray), .int .i64 0, .int .i64 0, .int .i64 0, .int .i64 0, .int .i64 0, .int .i64 0, .int .i64 0]) ?_ 0 _ rfl; (with_reducible repeat (first | refine yG ?_ _ | refine yH ?_ | refine yI ?_ _)); exact BK153.out) Tryd.underlying32 rfl (by kernel_rfl)) rfl ?_
     exact ⟨by first | rfl | (simp [errW_none, errW_some] <;> rfl) | (simp [*, errW_none, errW_some] <;> rfl), by repeat (first | (with_reducible first | exact HB.out | apply yE | apply yF | apply yD | refine yJ ?_ GE153.out | refine yJ ?_ GE159.out) | exact HB.out)⟩
    ·rw [if_neg c7] at H
     have c7b0 : (t158 == 0) = false := beq_eq_false_iff_ne.mpr c7
     have c7b1 : (t158 != 0) = true := bne_iff_ne.mpr c7
     simp only [Option.some.injEq, Prod.mk.injEq] at H
     obtain ⟨rfl, rfl, rfl, rfl, rfl, rfl, rfl, rfl, rfl, rfl, rfl⟩ := H
     go_enter Tryd.func21, Tryd.ntmps21
     go_wp2_with (first | ((with_reducible refine yP (N := 2) rfl ?_); refine yQ ?hg (N := 2) ?hd (cs := #[.int .i64 0, .string (⟨#[]⟩ : ByteArray), .int .i64 0, .int .i64 0, .int .i64 0, .int .i64 0, .int .i64 0, .int .i64 0, .int .i64 0]) (t := 32) ?hr ?_; (case hd => rfl); (case hg => rfl); (case hr => first | (go_simp; done) | (go_simp; rfl)); intro gb153 hg w26 hbox hb; have n0_ := yA (yB (by repeat (first | (with_reducible first | exact HB.out | apply yE | apply yF | apply yD) | exact HB.out)) hb); have n1_ := yA (hbox); have n2_ := yA ((by rw [hg]; exact (below_size (by repeat (first | (with_reducible first | exact HB.out | apply yE | apply yF | apply yD) | exact HB.out))) : w.heap.size ≤ gb153)); have n3_ := yA ((by rw [hg]; exact (below_size (by repeat (first | (with_reducible first | exact HB.out | apply yE | apply yF | apply yD) | exact HB.out))) : w.heap.size ≤ gb153)); clear HB; have HB := n0_; have BK153 := n1_; have GW153 := n2_; have GE153 := n3_; clear n0_ n1_ n2_ n3_; clear hb hbox hg) | ((with_reducible refine yO (f := 33) rfl ?_); refine goesL_ (some 11) rfl rfl Tryd.func33 (by kernel_rfl) rfl #[.string a0] rfl (by (try simp only [List.map_toArray, List.map_cons, List.map_nil]); first | done | rfl | (simp only [List.length_drop, List.length_take]; rfl)) ?_; (with_reducible refine (lex_dated.calls k a0 true _ A2.out).mono ?_); rintro e w' ⟨rfl, ⟨nd, rfl⟩⟩; refine ⟨_, rfl, ?_⟩; (try (rw [drewN_self w26]; generalize hq_ : World.drewN w26 _ = w26; have n0_ : Aside0 (w26.heap[gb153]? = some (.cells #[.int .i64 0, .string (⟨#[]⟩ : ByteArray), .int .i64 0, .int .i64 0, .int .i64 0, .int .i64 0, .int .i64 0, .int .i64 0, .int .i64 0] 32 (0, 0))) := ⟨by rw [← hq_]; exact (by (with_reducible repeat (first | refine yG ?_ _ | refine yH ?_ | refine yI ?_ _)); exact BK153.out)⟩; have n1_ : Aside0 (Below w.heap.size w w26) := ⟨by rw [← hq_]; exact (by repeat (first | (with_reducible first | exact HB.out | apply yE | apply yF | apply yD | refine yJ ?_ GE153.out) | exact HB.out))⟩; clear BK153 HB hq_; have BK153 := n0_; have HB := n1_; clear n0_ n1_))) | ((with_reducible refine yO (f := 34) rfl ?_); refine goesL_ (some 15) rfl rfl Tryd.func34 (by kernel_rfl) rfl #[.string (a0.extract 0 10)] rfl (by (try simp only [List.map_toArray, List.map_cons, List.map_nil]); first | done | rfl | (simp only [List.length_drop, List.length_take]; rfl)) ?_; (with_reducible refine (cal_Parse.calls (a0.extract 0 10) t155 t156 t157 t158 _ A6.out (Pure.Gl.below HG.out (by repeat (first | (with_reducible first | exact HB.out | apply yE | apply yF | apply yD | (refine yJ ?_ (by first | exact GE153.out | exact GE159.out)) ) | exact HB.out)))).mono ?_); rintro e w27 ⟨rfl, hb⟩; refine ⟨_, rfl, ?_⟩; have n0_ := yA (yC (g := gb153) (o := .cells #[.int .i64 0, .string (⟨#[]⟩ : ByteArray), .int .i64 0, .int .i64 0, .int .i64 0, .int .i64 0, .int .i64 0, .int .i64 0, .int .i64 0] 32 (0, 0)) (by (with_reducible repeat (first | refine yG ?_ _ | refine yH ?_ | refine yI ?_ _)); exact BK153.out) hb); have n1_ := yA (yB (by repeat (first | (with_reducible first | exact HB.out | apply yE | apply yF | apply yD | refine yJ ?_ GE153.out) | exact HB.out)) hb); clear BK153; clear HB; have BK153 := n0_; have HB := n1_; clear n0_ n1_; (try clear hb); (try clear hb2); (try clear hk); (try clear hi)) | ((with_reducible refine yP (N := 5) rfl ?_); refine yQ ?hg (N := 5) ?hd (cs := #[.int .i64 0, .int .i64 0, .int .i64 0]) (t := 28) ?hr ?_; (case hd => rfl); (case hg => rfl); (case hr => first | (go_simp; done) | (go_simp; rfl)); intro gb159 hg w28 hbox hb; have n0_ := yA (yC (g := gb153) (o := .cells #[.int .i64 0, .string (⟨#[]⟩ : ByteArray), .int .i64 0, .int .i64 0, .int .i64 0, .int .i64 0, .int .i64 0, .int .i64 0, .int .i64 0] 32 (0, 0)) (by (with_reducible repeat (first | refine yG ?_ _ | refine yH ?_ | refine yI ?_ _)); exact BK153.out) hb); have n1_ := yA (yB (by repeat (first | (with_reducible first | exact HB.out | apply yE | apply yF | apply yD | refine yJ ?_ GE153.out) | exact HB.out)) hb); have n2_ := yA (hbox); have n3_ := yA ((by rw [hg]; exact (below_size (by repeat (first | (with_reducible first | exact HB.out | apply yE | apply yF | apply yD | refine yJ ?_ GE153.out) | exact HB.out))) : w.heap.size ≤ gb159)); have n4_ := yA ((by rw [hg]; exact (below_size (by repeat (first | (with_reducible first | exact HB.out | apply yE | apply yF | apply yD | refine yJ ?_ GE153.out) | exact HB.out))) : w.heap.size ≤ gb159)); have n5_ := yA ((by rw [hg]; exact Nat.ne_of_lt (blk_lt (g := gb153) (o := .cells #[.int .i64 0, .string (⟨#[]⟩ : ByteArray), .int .i64 0, .int .i64 0, .int .i64 0, .int .i64 0, .int .i64 0, .int .i64 0, .int .i64 0] 32 (0, 0)) (by (with_reducible repeat (first | refine yG ?_ _ | refine yH ?_ | refine yI ?_ _)); exact BK153.out)) : gb153 ≠ gb159)); have n6_ := yA ((by rw [hg]; exact Nat.ne_of_gt (blk_lt (g := gb153) (o := .cells #[.int .i64 0, .string (⟨#[]⟩ : ByteArray), .int .i64 0, .int .i64 0, .int .i64 0, .int .i64 0, .int .i64 0, .int .i64 0, .int .i64 0] 32 (0, 0)) (by (with_reducible repeat (first | refine yG ?_ _ | refine yH ?_ | refine yI ?_ _)); exact BK153.out)) : gb159 ≠ gb153)); clear BK153; clear HB; have BK153 := n0_; have HB := n1_; have BK159 := n2_; have GW159 := n3_; have GE159 := n4_; have NB153_159 := n5_; have NB159_153 := n6_; clear n0_ n1_ n2_ n3_ n4_ n5_ n6_; clear hb hbox hg; have hnb29 := NB159_153.out; have hnc29 := NB153_159.out; have hcz30_0 : w28.cell? ⟨gb159, 0, none⟩ = some (.int .i64 0) := (yR BK159.out 0).trans rfl; have hcz30_1 : w28.cell? ⟨gb159, 1, none⟩ = some (.int .i64 0) := (yR BK159.out 1).trans rfl; have hcz30_2 : w28.cell? ⟨gb159, 2, none⟩ = some (.int .i64 0) := (yR BK159.out 2).trans rfl; have hfz30_0 := yS BK159.out 0; have hfz30_1 := yS BK159.out 1; have hfz30_2 := yS BK159.out 2; have hcz31_0 : w28.cell? ⟨gb153, 0, none⟩ = some (.int .i64 0) := (yR BK153.out 0).trans rfl; have hcz31_1 : w28.cell? ⟨gb153, 1, none⟩ = some (.string (⟨#[]⟩ : ByteArray)) := (yR BK153.out 1).trans rfl; have hcz31_2 : w28.cell? ⟨gb153, 2, none⟩ = some (.int .i64 0) := (yR BK153.out 2).trans rfl; have hcz31_3 : w28.cell? ⟨gb153, 3, none⟩ = some (.int .i64 0) := (yR BK153.out 3).trans rfl; have hcz31_4 : w28.cell? ⟨gb153, 4, none⟩ = some (.int .i64 0) := (yR BK153.out 4).trans rfl; have hcz31_5 : w28.cell? ⟨gb153, 5, none⟩ = some (.int .i64 0) := (yR BK153.out 5).trans rfl; have hcz31_6 : w28.cell? ⟨gb153, 6, none⟩ = some (.int .i64 0) := (yR BK153.out 6).trans rfl; have hcz31_7 : w28.cell? ⟨gb153, 7, none⟩ = some (.int .i64 0) := (yR BK153.out 7).trans rfl; have hcz31_8 : w28.cell? ⟨gb153, 8, none⟩ = some (.int .i64 0) := (yR BK153.out 8).trans rfl; have hfz31_0 := yS BK153.out 0; have hfz31_1 := yS BK153.out 1; have hfz31_2 := yS BK153.out 2; have hfz31_3 := yS BK153.out 3; have hfz31_4 := yS BK153.out 4; have hfz31_5 := yS BK153.out 5; have hfz31_6 := yS BK153.out 6; have hfz31_7 := yS BK153.out 7; have hfz31_8 := yS BK153.out 8))
     refine bodyPost_ret (results_ctt rfl _ _ gb153 32 #[.int .i64 0, .string (⟨#[]⟩ : ByteArray), .int .i64 0, .int .i64 0, .int .i64 0, .int .i64 0, .int .i64 0, .int .i64 0, .int .i64 0] (0, 0) _ rfl (by (with_reducible repeat (first | refine yG ?_ _ | refine yH ?_ | refine yI ?_ _)); refine blk_put (cs := #[.int .i64 0, .string (⟨#[]⟩ : ByteArray), .int .i64 0, .int .i64 0, .int .i64 0, .int .i64 0, .int .i64 0, .int .i64 0, .int .i64 0]) ?_ 8 _ rfl; (with_reducible repeat (first | refine yG ?_ _ | refine yH ?_ | refine yI ?_ _)); refine blk_put (cs := #[.int .i64 0, .string (⟨#[]⟩ : ByteArray), .int .i64 0, .int .i64 0, .int .i64 0, .int .i64 0, .int .i64 0, .int .i64 0, .int .i64 0]) ?_ 7 _ rfl; (with_reducible repeat (first | refine yG ?_ _ | refine yH ?_ | refine yI ?_ _)); refine blk_put (cs := #[.int .i64 0, .string (⟨#[]⟩ : ByteArray), .int .i64 0, .int .i64 0, .int .i64 0, .int .i64 0, .int .i64 0, .int .i64 0, .int .i64 0]) ?_ 6 _ rfl; (with_reducible repeat (first | refine yG ?_ _ | refine yH ?_ | refine yI ?_ _)); refine blk_put (cs := #[.int .i64 0, .string (⟨#[]⟩ : ByteArray), .int .i64 0, .int .i64 0, .int .i64 0, .int .i64 0, .int .i64 0, .int .i64 0, .int .i64 0]) ?_ 5 _ rfl; (with_reducible repeat (first | refine yG ?_ _ | refine yH ?_ | refine yI ?_ _)); refine blk_put (cs := #[.int .i64 0, .string (⟨#[]⟩ : ByteArray), .int .i64 0, .int .i64 0, .int .i64 0, .int .i64 0, .int .i64 0, .int .i64 0, .int .i64 0]) ?_ 4 _ rfl; (with_reducible repeat (first | refine yG ?_ _ | refine yH ?_ | refine yI ?_ _)); refine blk_put (cs := #[.int .i64 0, .string (⟨#[]⟩ : ByteArray), .int .i64 0, .int .i64 0, .int .i64 0, .int .i64 0, .int .i64 0, .int .i64 0, .int .i64 0]) ?_ 3 _ rfl; (with_reducible repeat (first | refine yG ?_ _ | refine yH ?_ | refine yI ?_ _)); refine blk_put (cs := #[.int .i64 0, .string (⟨#[]⟩ : ByteArray), .int .i64 0, .int .i64 0, .int .i64 0, .int .i64 0, .int .i64 0, .int .i64 0, .int .i64 0]) ?_ 2 _ rfl; (with_reducible repeat (first | refine yG ?_ _ | refine yH ?_ | refine yI ?_ _)); refine blk_put (cs := #[.int .i64 0, .string (⟨#[]⟩ : ByteArray), .int .i64 0, .int .i64 0, .int .i64 0, .int .i64 0, .int .i64 0, .int .i64 0, .int .i64 0]) ?_ 1 _ rfl; (with_reducible repeat (first | refine yG ?_ _ | refine yH ?_ | refine yI ?_ _)); refine blk_put (cs := #[.int .i64 0, .string (⟨#[]⟩ : ByteArray), .int .i64 0, .int .i64 0, .int .i64 0, .int .i64 0, .int .i64 0, .int .i64 0, .int .i64 0]) ?_ 0 _ rfl; (with_reducible repeat (first | refine yG ?_ _ | refine yH ?_ | refine yI ?_ _)); refine blk_far ?_ NB153_159.out _; (with_reducible repeat (first | refine yG ?_ _ | refine yH ?_ | refine yI ?_ _)); refine blk_far ?_ NB153_159.out _; (with_reducible repeat (first | refine yG ?_ _ | refine yH ?_ | refine yI ?_ _)); refine blk_far ?_ NB153_159.out _; (with_reducible repeat (first | refine yG ?_ _ | refine yH ?_ | refine yI ?_ _)); exact BK153.out) Tryd.underlying32 rfl (by kernel_rfl)) rfl ?_
     exact ⟨by first | rfl | (simp [errW_none, errW_some] <;> rfl) | (simp [*, errW_none, errW_some] <;> rfl), by repeat (first | (with_reducible first | exact HB.out | apply yE | apply yF | apply yD | refine yJ ?_ GE153.out | refine yJ ?_ GE159.out) | exact HB.out)⟩
   ·rw [if_neg c5] at H
    exact absurd H (by simp)
  ·rw [if_neg c4] at H
   exact absurd H (by simp)
 ·replace c3 := Bool.eq_false_iff.mpr c3
  subst c3
  have H1 : (lex_token.l0 k a0 0) = some (r1, r2, r3, r4, r5, r6, r7, r8, r9, r10, r11) := by rw [if_neg (show ¬ (false = true) by decide)] at H; exact H
  clear H
  have H := H1
  clear H1
  have HC32 := yA H
  clear H
  go_enter Tryd.func21, Tryd.ntmps21
  go_upto_block 0 with (first | ((with_reducible refine yP (N := 2) rfl ?_); refine yQ ?hg (N := 2) ?hd (cs := #[.int .i64 0, .string (⟨#[]⟩ : ByteArray), .int .i64 0, .int .i64 0, .int .i64 0, .int .i64 0, .int .i64 0, .int .i64 0, .int .i64 0]) (t := 32) ?hr ?_; (case hd => rfl); (case hg => rfl); (case hr => first | (go_simp; done) | (go_simp; rfl)); intro gb153 hg w33 hbox hb; have n0_ := yA (yB (by repeat (first | (with_reducible first | exact HB.out | apply yE | apply yF | apply yD) | exact HB.out)) hb); have n1_ := yA (hbox); have n2_ := yA ((by rw [hg]; exact (below_size (by repeat (first | (with_reducible first | exact HB.out | apply yE | apply yF | apply yD) | exact HB.out))) : w.heap.size ≤ gb153)); have n3_ := yA ((by rw [hg]; exact (below_size (by repeat (first | (with_reducible first | exact HB.out | apply yE | apply yF | apply yD) | exact HB.out))) : w.heap.size ≤ gb153)); clear HB; have HB := n0_; have BK153 := n1_; have GW153 := n2_; have GE153 := n3_; clear n0_ n1_ n2_ n3_; clear hb hbox hg) | ((with_reducible refine yO (f := 33) rfl ?_); refine goesL_ (some 11) rfl rfl Tryd.func33 (by kernel_rfl) rfl #[.string a0] rfl (by (try simp only [List.map_toArray, List.map_cons, List.map_nil]); first | done | rfl | (simp only [List.length_drop, List.length_take]; rfl)) ?_; (with_reducible refine (lex_dated.calls k a0 false _ A2.out).mono ?_); rintro e w' ⟨rfl, ⟨nd, rfl⟩⟩; refine ⟨_, rfl, ?_⟩))
  (try simp only [Act.put, lA, lB, lC])
  go_cut [7] (fun v7 wc => ∃ (kq : Nat) (x7_31 : Int), v7 = .int .i64 x7_31 ∧ Aside0 (lex_token.j1 kq a0 x7_31 = some (r1, r2, r3, r4, r5, r6, r7, r8, r9, r10, r11)) ∧ Aside0 (kq ≤ k) ∧ Aside0 (wc.heap[gb153]? = some (.cells #[.int .i64 0, .string (⟨#[]⟩ : ByteArray), .int .i64 0, .int .i64 0, .int .i64 0, .int .i64 0, .int .i64 0, .int .i64 0, .int .i64 0] 32 (0, 0))) ∧ Aside0 (Below w.heap.size w wc))
  case first =>
   have H := HC32.out
   clear HC32
   have H' := yA H
   clear H
   go_wp2
   go_loopg [7] k (fun kq v7 w' => ∃ (x7_1 : Int), v7 = .int .i64 x7_1 ∧ Aside0 (lex_token.l0 kq a0 x7_1 = some (r1, r2, r3, r4, r5, r6, r7, r8, r9, r10, r11)) ∧ Aside0 (kq ≤ k) ∧ Aside0 (w'.heap[gb153]? = some (.cells #[.int .i64 0, .string (⟨#[]⟩ : ByteArray), .int .i64 0, .int .i64 0, .int .i64 0, .int .i64 0, .int .i64 0, .int .i64 0, .int .i64 0] 32 (0, 0))) ∧ Aside0 (Below w.heap.size w w'))
   case atStart => exact ⟨(0), (by first | rfl | (simp; done) | (simp [*]; done)), H', ⟨Nat.le_refl _⟩, ⟨by (with_reducible repeat (first | refine yG ?_ _ | refine yH ?_ | refine yI ?_ _)); exact BK153.out⟩, ⟨by repeat (first | (with_reducible first | exact HB.out | apply yE | apply yF | apply yD | refine yJ ?_ GE153.out) | exact HB.out)⟩⟩
   case round =>
    clear H'
    try clear c1
    try clear c2
    try clear p2
    try clear c3
    try clear c4
    try clear c4b0
    try clear c4b1
    try clear c5
    try clear c5b0
    try clear c5b1
    try clear c7
    try clear c7b0
    try clear c7b1
    try clear c8
    try clear c8b0
    try clear c9
    try clear c9b0
    try clear c13
    try clear c21
    try clear c29
    try clear c33
    try clear hcz14_0
    try clear hcz14_1
    try clear hcz14_2
    try clear hcz30_0
    try clear hcz30_1
    try clear hcz30_2
    try clear hcz31_0
    try clear hcz31_1
    try clear hcz31_2
    try clear hcz31_3
    try clear hcz31_4
    try clear hcz31_5
    try clear hcz31_6
    try clear hcz31_7
    try clear hcz31_8
    try clear hfz14_0
    try clear hfz14_1
    try clear hfz14_2
    try clear hfz30_0
    try clear hfz30_1
    try clear hfz30_2
    try clear hfz31_0
    try clear hfz31_1
    try clear hfz31_2
    try clear hfz31_3
    try clear hfz31_4
    try clear hfz31_5
    try clear hfz31_6
    try clear hfz31_7
    try clear hfz31_8
    obtain ⟨x7_1, rfl, HA, HK1, BK153, HB⟩ := hrel
    cases gk with
    | zero => exact absurd HA.out (by simp [lex_token.l0])
    | succ k1 =>
     have H := HA.out
     clear HA
     simp only [lex_token.l0] at H
     by_cases c34 : x7_1 < (a0.size : Int)
     ·rw [if_pos c34] at H
      have c34b0 : decide (x7_1 < (a0.size : Int)) = true := yL c34
      clear c34
      (first | rw [c34b0] | (simp only [i64_w, i32_w]; rw [c34b0]) | skip)
      by_cases c35 : 0 ≤ x7_1
      ·rw [if_pos c35] at H
       have c35b0 : decide (0 ≤ x7_1) = true := yL c35
       clear c35
       replace H := Option.bind_eq_some_iff.mp H
       obtain ⟨t160, A370, H⟩ := H
       replace H : (if t160 = true then (lex_token.l0 k1 a0 (wrap64 (x7_1 + 1))) else (lex_token.j1 k1 a0 x7_1)) = some (r1, r2, r3, r4, r5, r6, r7, r8, r9, r10, r11) := H
       have A37 := yA A370
       clear A370
       by_cases c38 : t160 = true
       ·subst c38
        have H1 : (lex_token.l0 k1 a0 (wrap64 (x7_1 + 1))) = some (r1, r2, r3, r4, r5, r6, r7, r8, r9, r10, r11) := by rw [if_pos rfl] at H; exact H
        clear H
        have H := H1
        clear H1
        have H' := yA H
        clear H
        have p36 : 0 ≤ (x7_1 : Int) := yN (by first | (with_reducible assumption) | assumption)
        have q36 : x7_1 < (a0.size : Int) := yN (by first | (with_reducible assumption) | assumption)
        have hx36 := bt_at a0 x7_1
        replace p36 := eq_true p36
        replace q36 := eq_true q36
        go_wp2_with (first | (go_at_call 35; (with_reducible refine (lex_run.calls (bt a0 x7_1) true _ A37.out).mono ?_); rintro e w' ⟨rfl, ⟨nd, rfl⟩⟩))
        go_roundg k1
        case measure => have := HK1.out; omega
        case rel => exact ⟨(wrap64 (x7_1 + 1)), (by first | rfl | (simp; done) | (simp [*]; done)), H', ⟨by have := HK1.out; omega⟩, ⟨by (with_reducible repeat (first | refine yG ?_ _ | refine yH ?_ | refine yI ?_ _)); exact BK153.out⟩, ⟨by repeat (first | (with_reducible first | exact HB.out | apply yE | apply yF | apply yD | refine yJ ?_ GE153.out) | exact HB.out)⟩⟩
       ·replace c38 := Bool.eq_false_iff.mpr c38
        subst c38
        have H1 : (lex_token.j1 k1 a0 x7_1) = some (r1, r2, r3, r4, r5, r6, r7, r8, r9, r10, r11) := by rw [if_neg (show ¬ (false = true) by decide)] at H; exact H
        clear H
        have H := H1
        clear H1
        have H' := yA H
        clear H
        have p36 : 0 ≤ (x7_1 : Int) := yN (by first | (with_reducible assumption) | assumption)
        have q36 : x7_1 < (a0.size : Int) := yN (by first | (with_reducible assumption) | assumption)
        have hx36 := bt_at a0 x7_1
        replace p36 := eq_true p36
        replace q36 := eq_true q36
        go_wp2_with (first | (go_at_call 35; (with_reducible refine (lex_run.calls (bt a0 x7_1) false _ A37.out).mono ?_); rintro e w' ⟨rfl, ⟨nd, rfl⟩⟩))
        go_meet
        case rel => exact ⟨_, (x7_1), (by first | rfl | (simp; done) | (simp [*]; done)), H', ⟨by have := HK1.out; first | omega | exact Nat.le_refl _⟩, ⟨by (with_reducible repeat (first | refine yG ?_ _ | refine yH ?_ | refine yI ?_ _)); exact BK153.out⟩, ⟨by repeat (first | (with_reducible first | exact HB.out | apply yE | apply yF | apply yD | refine yJ ?_ GE153.out) | exact HB.out)⟩⟩
      ·rw [if_neg c35] at H
       exact absurd H (by simp)
     ·rw [if_neg c34] at H
      have c34b0 : decide (x7_1 < (a0.size : Int)) = false := yM c34
      clear c34
      (first | rw [c34b0] | (simp only [i64_w, i32_w]; rw [c34b0]) | skip)
      have H' := yA H
      clear H
      go_wp2
      go_meet
      case rel => exact ⟨_, (x7_1), (by first | rfl | (simp; done) | (simp [*]; done)), H', ⟨by have := HK1.out; first | omega | exact Nat.le_refl _⟩, ⟨by (with_reducible repeat (first | refine yG ?_ _ | refine yH ?_ | refine yI ?_ _)); exact BK153.out⟩, ⟨by repeat (first | (with_reducible first | exact HB.out | apply yE | apply yF | apply yD | refine yJ ?_ GE153.out) | exact HB.out)⟩⟩
  case rest =>
   clear HC32
   try clear c1
   try clear c2
   try clear p2
   try clear c3
   try clear p3
   try clear q3
   try clear hx3
   try clear c4
   try clear c4b0
   try clear c4b1
   try clear c5
   try clear c5b0
   try clear c5b1
   try clear p6
   try clear c7
   try clear c7b0
   try clear c7b1
   try clear c8
   try clear c8b0
   try clear c9
   try clear c9b0
   try clear c13
   try clear c21
   try clear c29
   try clear c33
   try clear c34
   try clear c34b0
   try clear c35
   try clear c35b0
   try clear p36
   try clear q36
   try clear hx36
   try clear c38
   try clear hcz14_0
   try clear hcz14_1
   try clear hcz14_2
   try clear hcz30_0
   try clear hcz30_1
   try clear hcz30_2
   try clear hcz31_0
   try clear hcz31_1
   try clear hcz31_2
   try clear hcz31_3
   try clear hcz31_4
   try clear hcz31_5
   try clear hcz31_6
   try clear hcz31_7
   try clear hcz31_8
   try clear hfz14_0
   try clear hfz14_1
   try clear hfz14_2
   try clear hfz30_0
   try clear hfz30_1
   try clear hfz30_2
   try clear hfz31_0
   try clear hfz31_1
   try clear hfz31_2
   try clear hfz31_3
   try clear hfz31_4
   try clear hfz31_5
   try clear hfz31_6
   try clear hfz31_7
   try clear hfz31_8
   try clear p2
   try clear p36
   try clear q36
   obtain ⟨kq, x7_31, rfl, HA, HJ31, BK153, HB⟩ := hcut
   cases kq with
   | zero => exact absurd HA.out (by simp [lex_token.j1])
   | succ kj31 =>
    have H := HA.out
    clear HA
    simp only [lex_token.j1] at H
    by_cases c39 : 0 < (a0.size : Int)
    ·rw [if_pos c39] at H
     have c39b0 : decide (0 < (a0.size : Int)) = true := yL c39
     have c39b1 : decide (0 < a0.size) = true := yL (by omega)
     clear c39
     replace H := Option.bind_eq_some_iff.mp H
     obtain ⟨t161, A410, H⟩ := H
     replace H : (if t161 = true then (if 0 ≤ x7_31 then (if x7_31 ≤ (a0.size : Int) then ((lex_number.f kj31 (a0.extract 0 (x7_31 : Int).toNat)).bind fun bt162 => (some (bt162.1, bt162.2.1, bt162.2.2.1, bt162.2.2.2.1, bt162.2.2.2.2.1, bt162.2.2.2.2.2.1, bt162.2.2.2.2.2.2.1, bt162.2.2.2.2.2.2.2.1, bt162.2.2.2.2.2.2.2.2.1, bt162.2.2.2.2.2.2.2.2.2.1, bt162.2.2.2.2.2.2.2.2.2.2))) else (none)) else (none)) else ((lex_small.f (bt a0 0)).bind fun t173 => (if t173 = true then (if 0 ≤ x7_31 then (if x7_31 ≤ (a0.size : Int) then ((lex_word.f (a0.extract 0 (x7_31 : Int).toNat) 1).bind fun bt174 => (some (bt174.1, bt174.2.1, bt174.2.2.1, bt174.2.2.2.1, bt174.2.2.2.2.1, bt174.2.2.2.2.2.1, bt174.2.2.2.2.2.2.1, bt174.2.2.2.2.2.2.2.1, bt174.2.2.2.2.2.2.2.2.1, bt174.2.2.2.2.2.2.2.2.2.1, bt174.2.2.2.2.2.2.2.2.2.2))) else (none)) else (none)) else ((lex_big.f (bt a0 0)).bind fun t185 => (if t185 = true then (if 0 ≤ x7_31 then (if x7_31 ≤ (a0.size : Int) then ((lex_word.f (a0.extract 0 (x7_31 : Int).toNat) 2).bind fun bt186 => (some (bt186.1, bt186.2.1, bt186.2.2.1, bt186.2.2.2.1, bt186.2.2.2.2.1, bt186.2.2.2.2.2.1, bt186.2.2.2.2.2.2.1, bt186.2.2.2.2.2.2.2.1, bt186.2.2.2.2.2.2.2.2.1, bt186.2.2.2.2.2.2.2.2.2.1, bt186.2.2.2.2.2.2.2.2.2.2))) else (none)) else (none)) else ((lex_mark.f a0).bind fun t197 => (if t197 > 0 then (if 0 ≤ t197 then (if t197 ≤ (a0.size : Int) then (some (6, a0.extract 0 (t197 : Int).toNat, 0, 0, 0, 0, 0, 0, 0, 0, 0)) else (none)) else (none)) else (some (0, (⟨#[]⟩ : ByteArray), 0, 0, 0, 0, 0, 0, 0, 0, 61))))))))) = some (r1, r2, r3, r4, r5, r6, r7, r8, r9, r10, r11) := H
     have A41 := yA A410
     clear A410
     by_cases c42 : t161 = true
     ·subst c42
      have H1 : (if 0 ≤ x7_31 then (if x7_31 ≤ (a0.size : Int) then ((lex_number.f kj31 (a0.extract 0 (x7_31 : Int).toNat)).bind fun bt162 => (some (bt162.1, bt162.2.1, bt162.2.2.1, bt162.2.2.2.1, bt162.2.2.2.2.1, bt162.2.2.2.2.2.1, bt162.2.2.2.2.2.2.1, bt162.2.2.2.2.2.2.2.1, bt162.2.2.2.2.2.2.2.2.1, bt162.2.2.2.2.2.2.2.2.2.1, bt162.2.2.2.2.2.2.2.2.2.2))) else (none)) else (none)) = some (r1, r2, r3, r4, r5, r6, r7, r8, r9, r10, r11) := by rw [if_pos rfl] at H; exact H
      clear H
      have H := H1
      clear H1
      by_cases c43 : 0 ≤ x7_31
      ·rw [if_pos c43] at H
       have c43b0 := eq_true c43
       have c43b1 : decide (0 ≤ x7_31) = true := yL c43
       clear c43
       by_cases c44 : x7_31 ≤ (a0.size : Int)
       ·rw [if_pos c44] at H
        have c44b0 := eq_true c44
        have c44b1 : decide (x7_31 ≤ (a0.size : Int)) = true := yL c44
        clear c44
        replace H := Option.bind_eq_some_iff.mp H
        obtain ⟨⟨t162, t163, t164, t165, t166, t167, t168, t169, t170, t171, t172⟩, A450, H⟩ := H
        replace H : (some (t162, t163, t164, t165, t166, t167, t168, t169, t170, t171, t172)) = some (r1, r2, r3, r4, r5, r6, r7, r8, r9, r10, r11) := H
        have A45 := yA A450
        clear A450
        simp only [Option.some.injEq, Prod.mk.injEq] at H
        obtain ⟨rfl, rfl, rfl, rfl, rfl, rfl, rfl, rfl, rfl, rfl, rfl⟩ := H
        have p40 : 0 ≤ (0 : Int) := (by omega)
        have q40 : 0 < a0.size := (by have : (0 : Int) < (a0.size : Int) := yN (by first | (with_reducible assumption) | assumption); omega)
        have hx40 : ∀ h : 0 < a0.size, ((a0[0]'h).toNat : Int) = bt a0 0 := bt_at a0 0
        clear p40
        have qi40 : (0 < (a0.size : Int)) = True := eq_true (yN (by first | (with_reducible assumption) | assumption))
        replace q40 := eq_true q40
        go_wp2_with (first | ((with_reducible refine yO (f := 36) rfl ?_); refine goesL_ (some 41) rfl rfl Tryd.func36 (by kernel_rfl) rfl #[.int .u8 (bt a0 0)] rfl (by (try simp only [List.map_toArray, List.map_cons, List.map_nil]); first | done | rfl | (simp only [List.length_drop, List.length_take]; rfl)) ?_; (with_reducible refine (lex_digit.calls (bt a0 0) true _ A41.out).mono ?_); rintro e w' ⟨rfl, ⟨nd, rfl⟩⟩; refine ⟨_, rfl, ?_⟩; (try (rw [drewN_self wc]; generalize hq_ : World.drewN wc _ = wc; have n0_ : Aside0 (wc.heap[gb153]? = some (.cells #[.int .i64 0, .string (⟨#[]⟩ : ByteArray), .int .i64 0, .int .i64 0, .int .i64 0, .int .i64 0, .int .i64 0, .int .i64 0, .int .i64 0] 32 (0, 0))) := ⟨by rw [← hq_]; exact (by (with_reducible repeat (first | refine yG ?_ _ | refine yH ?_ | refine yI ?_ _)); exact BK153.out)⟩; have n1_ : Aside0 (Below w.heap.size w wc) := ⟨by rw [← hq_]; exact (by repeat (first | (with_reducible first | exact HB.out | apply yE | apply yF | apply yD | refine yJ ?_ GE153.out) | exact HB.out))⟩; clear BK153 HB hq_; have BK153 := n0_; have HB := n1_; clear n0_ n1_))) | ((with_reducible refine yO (f := 37) rfl ?_); refine goesL_ (some 45) rfl rfl Tryd.func37 (by kernel_rfl) rfl #[.string (a0.extract 0 (x7_31 : Int).toNat)] rfl (by (try simp only [List.map_toArray, List.map_cons, List.map_nil]); first | done | rfl | (simp only [List.length_drop, List.length_take]; rfl)) ?_; (with_reducible refine (lex_number.calls kj31 (a0.extract 0 (x7_31 : Int).toNat) t162 t163 t164 t165 t166 t167 t168 t169 t170 t171 t172 _ A45.out (Pure.Gl.below HG.out (by repeat (first | (with_reducible first | exact HB.out | apply yE | apply yF | apply yD | (refine yJ ?_ (by first | exact GE153.out | exact GE159.out)) ) | exact HB.out)))).mono ?_); rintro e w46 ⟨rfl, hb⟩; refine ⟨_, rfl, ?_⟩; have n0_ := yA (yC (g := gb153) (o := .cells #[.int .i64 0, .string (⟨#[]⟩ : ByteArray), .int .i64 0, .int .i64 0, .int .i64 0, .int .i64 0, .int .i64 0, .int .i64 0, .int .i64 0] 32 (0, 0)) (by (with_reducible repeat (first | refine yG ?_ _ | refine yH ?_ | refine yI ?_ _)); exact BK153.out) hb); have n1_ := yA (yB (by repeat (first | (with_reducible first | exact HB.out | apply yE | apply yF | apply yD | refine yJ ?_ GE153.out) | exact HB.out)) hb); clear BK153; clear HB; have BK153 := n0_; have HB := n1_; clear n0_ n1_; (try clear hb); (try clear hb2); (try clear hk); (try clear hi); have hcz47_0 : w46.cell? ⟨gb153, 0, none⟩ = some (.int .i64 0) := (yR BK153.out 0).trans rfl; have hcz47_1 : w46.cell? ⟨gb153, 1, none⟩ = some (.string (⟨#[]⟩ : ByteArray)) := (yR BK153.out 1).trans rfl; have hcz47_2 : w46.cell? ⟨gb153, 2, none⟩ = some (.int .i64 0) := (yR BK153.out 2).trans rfl; have hcz47_3 : w46.cell? ⟨gb153, 3, none⟩ = some (.int .i64 0) := (yR BK153.out 3).trans rfl; have hcz47_4 : w46.cell? ⟨gb153, 4, none⟩ = some (.int .i64 0) := (yR BK153.out 4).trans rfl; have hcz47_5 : w46.cell? ⟨gb153, 5, none⟩ = some (.int .i64 0) := (yR BK153.out 5).trans rfl; have hcz47_6 : w46.cell? ⟨gb153, 6, none⟩ = some (.int .i64 0) := (yR BK153.out 6).trans rfl; have hcz47_7 : w46.cell? ⟨gb153, 7, none⟩ = some (.int .i64 0) := (yR BK153.out 7).trans rfl; have hcz47_8 : w46.cell? ⟨gb153, 8, none⟩ = some (.int .i64 0) := (yR BK153.out 8).trans rfl; have hfz47_0 := yS BK153.out 0; have hfz47_1 := yS BK153.out 1; have hfz47_2 := yS BK153.out 2; have hfz47_3 := yS BK153.out 3; have hfz47_4 := yS BK153.out 4; have hfz47_5 := yS BK153.out 5; have hfz47_6 := yS BK153.out 6; have hfz47_7 := yS BK153.out 7; have hfz47_8 := yS BK153.out 8))
        refine bodyPost_ret (results_ctt rfl _ _ gb153 32 #[.int .i64 t162, .string t163, .int .i64 t164, .int .i64 t165, .int .i64 t166, .int .i64 t167, .int .i64 t168, .int .i64 t169, .int .i64 t170] (0, 0) _ rfl (by (with_reducible repeat (first | refine yG ?_ _ | refine yH ?_ | refine yI ?_ _)); refine blk_put (cs := #[.int .i64 t162, .string t163, .int .i64 t164, .int .i64 t165, .int .i64 t166, .int .i64 t167, .int .i64 t168, .int .i64 t169, .int .i64 0]) ?_ 8 _ rfl; (with_reducible repeat (first | refine yG ?_ _ | refine yH ?_ | refine yI ?_ _)); refine blk_put (cs := #[.int .i64 t162, .string t163, .int .i64 t164, .int .i64 t165, .int .i64 t166, .int .i64 t167, .int .i64 t168, .int .i64 0, .int .i64 0]) ?_ 7 _ rfl; (with_reducible repeat (first | refine yG ?_ _ | refine yH ?_ | refine yI ?_ _)); refine blk_put (cs := #[.int .i64 t162, .string t163, .int .i64 t164, .int .i64 t165, .int .i64 t166, .int .i64 t167, .int .i64 0, .int .i64 0, .int .i64 0]) ?_ 6 _ rfl; (with_reducible repeat (first | refine yG ?_ _ | refine yH ?_ | refine yI ?_ _)); refine blk_put (cs := #[.int .i64 t162, .string t163, .int .i64 t164, .int .i64 t165, .int .i64 t166, .int .i64 0, .int .i64 0, .int .i64 0, .int .i64 0]) ?_ 5 _ rfl; (with_reducible repeat (first | refine yG ?_ _ | refine yH ?_ | refine yI ?_ _)); refine blk_put (cs := #[.int .i64 t162, .string t163, .int .i64 t164, .int .i64 t165, .int .i64 0, .int .i64 0, .int .i64 0, .int .i64 0, .int .i64 0]) ?_ 4 _ rfl; (with_reducible repeat (first | refine yG ?_ _ | refine yH ?_ | refine yI ?_ _)); refine blk_put (cs := #[.int .i64 t162, .string t163, .int .i64 t164, .int .i64 0, .int .i64 0, .int .i64 0, .int .i64 0, .int .i64 0, .int .i64 0]) ?_ 3 _ rfl; (with_reducible repeat (first | refine yG ?_ _ | refine yH ?_ | refine yI ?_ _)); refine blk_put (cs := #[.int .i64 t162, .string t163, .int .i64 0, .int .i64 0, .int .i64 0, .int .i64 0, .int .i64 0, .int .i64 0, .int .i64 0]) ?_ 2 _ rfl; (with_reducible repeat (first | refine yG ?_ _ | refine yH ?_ | refine yI ?_ _)); refine blk_put (cs := #[.int .i64 t162, .string (⟨#[]⟩ : ByteArray), .int .i64 0, .int .i64 0, .int .i64 0, .int .i64 0, .int .i64 0, .int .i64 0, .int .i64 0]) ?_ 1 _ rfl; (with_reducible repeat (first | refine yG ?_ _ | refine yH ?_ | refine yI ?_ _)); refine blk_put (cs := #[.int .i64 0, .string (⟨#[]⟩ : ByteArray), .int .i64 0, .int .i64 0, .int .i64 0, .int .i64 0, .int .i64 0, .int .i64 0, .int .i64 0]) ?_ 0 _ rfl; (with_reducible repeat (first | refine yG ?_ _ | refine yH ?_ | refine yI ?_ _)); exact BK153.out) Tryd.underlying32 rfl (by kernel_rfl)) rfl ?_
        exact ⟨by first | rfl | (simp [errW_none, errW_some] <;> rfl) | (simp [*, errW_none, errW_some] <;> rfl), by repeat (first | (with_reducible first | exact HB.out | apply yE | apply yF | apply yD | refine yJ ?_ GE153.out) | exact HB.out)⟩
       ·rw [if_neg c44] at H
        exact absurd H (by simp)
      ·rw [if_neg c43] at H
       exact absurd H (by simp)
     ·replace c42 := Bool.eq_false_iff.mpr c42
      subst c42
      have H1 : ((lex_small.f (bt a0 0)).bind fun t173 => (if t173 = true then (if 0 ≤ x7_31 then (if x7_31 ≤ (a0.size : Int) then ((lex_word.f (a0.extract 0 (x7_31 : Int).toNat) 1).bind fun bt174 => (some (bt174.1, bt174.2.1, bt174.2.2.1, bt174.2.2.2.1, bt174.2.2.2.2.1, bt174.2.2.2.2.2.1, bt174.2.2.2.2.2.2.1, bt174.2.2.2.2.2.2.2.1, bt174.2.2.2.2.2.2.2.2.1, bt174.2.2.2.2.2.2.2.2.2.1, bt174.2.2.2.2.2.2.2.2.2.2))) else (none)) else (none)) else ((lex_big.f (bt a0 0)).bind fun t185 => (if t185 = true then (if 0 ≤ x7_31 then (if x7_31 ≤ (a0.size : Int) then ((lex_word.f (a0.extract 0 (x7_31 : Int).toNat) 2).bind fun bt186 => (some (bt186.1, bt186.2.1, bt186.2.2.1, bt186.2.2.2.1, bt186.2.2.2.2.1, bt186.2.2.2.2.2.1, bt186.2.2.2.2.2.2.1, bt186.2.2.2.2.2.2.2.1, bt186.2.2.2.2.2.2.2.2.1, bt186.2.2.2.2.2.2.2.2.2.1, bt186.2.2.2.2.2.2.2.2.2.2))) else (none)) else (none)) else ((lex_mark.f a0).bind fun t197 => (if t197 > 0 then (if 0 ≤ t197 then (if t197 ≤ (a0.size : Int) then (some (6, a0.extract 0 (t197 : Int).toNat, 0, 0, 0, 0, 0, 0, 0, 0, 0)) else (none)) else (none)) else (some (0, (⟨#[]⟩ : ByteArray), 0, 0, 0, 0, 0, 0, 0, 0, 61)))))))) = some (r1, r2, r3, r4, r5, r6, r7, r8, r9, r10, r11) := by rw [if_neg (show ¬ (false = true) by decide)] at H; exact H
      clear H
      have H := H1
      clear H1
      replace H := Option.bind_eq_some_iff.mp H
      obtain ⟨t173, A480, H⟩ := H
      replace H : (if t173 = true then (if 0 ≤ x7_31 then (if x7_31 ≤ (a0.size : Int) then ((lex_word.f (a0.extract 0 (x7_31 : Int).toNat) 1).bind fun bt174 => (some (bt174.1, bt174.2.1, bt174.2.2.1, bt174.2.2.2.1, bt174.2.2.2.2.1, bt174.2.2.2.2.2.1, bt174.2.2.2.2.2.2.1, bt174.2.2.2.2.2.2.2.1, bt174.2.2.2.2.2.2.2.2.1, bt174.2.2.2.2.2.2.2.2.2.1, bt174.2.2.2.2.2.2.2.2.2.2))) else (none)) else (none)) else ((lex_big.f (bt a0 0)).bind fun t185 => (if t185 = true then (if 0 ≤ x7_31 then (if x7_31 ≤ (a0.size : Int) then ((lex_word.f (a0.extract 0 (x7_31 : Int).toNat) 2).bind fun bt186 => (some (bt186.1, bt186.2.1, bt186.2.2.1, bt186.2.2.2.1, bt186.2.2.2.2.1, bt186.2.2.2.2.2.1, bt186.2.2.2.2.2.2.1, bt186.2.2.2.2.2.2.2.1, bt186.2.2.2.2.2.2.2.2.1, bt186.2.2.2.2.2.2.2.2.2.1, bt186.2.2.2.2.2.2.2.2.2.2))) else (none)) else (none)) else ((lex_mark.f a0).bind fun t197 => (if t197 > 0 then (if 0 ≤ t197 then (if t197 ≤ (a0.size : Int) then (some (6, a0.extract 0 (t197 : Int).toNat, 0, 0, 0, 0, 0, 0, 0, 0, 0)) else (none)) else (none)) else (some (0, (⟨#[]⟩ : ByteArray), 0, 0, 0, 0, 0, 0, 0, 0, 61))))))) = some (r1, r2, r3, r4, r5, r6, r7, r8, r9, r10, r11) := H
      have A48 := yA A480
      clear A480
      by_cases c49 : t173 = true
      ·subst c49
       have H1 : (if 0 ≤ x7_31 then (if x7_31 ≤ (a0.size : Int) then ((lex_word.f (a0.extract 0 (x7_31 : Int).toNat) 1).bind fun bt174 => (some (bt174.1, bt174.2.1, bt174.2.2.1, bt174.2.2.2.1, bt174.2.2.2.2.1, bt174.2.2.2.2.2.1, bt174.2.2.2.2.2.2.1, bt174.2.2.2.2.2.2.2.1, bt174.2.2.2.2.2.2.2.2.1, bt174.2.2.2.2.2.2.2.2.2.1, bt174.2.2.2.2.2.2.2.2.2.2))) else (none)) else (none)) = some (r1, r2, r3, r4, r5, r6, r7, r8, r9, r10, r11) := by rw [if_pos rfl] at H; exact H
       clear H
       have H := H1
       clear H1
       by_cases c50 : 0 ≤ x7_31
       ·rw [if_pos c50] at H
        have c50b0 := eq_true c50
        have c50b1 : decide (0 ≤ x7_31) = true := yL c50
        clear c50
        by_cases c51 : x7_31 ≤ (a0.size : Int)
        ·rw [if_pos c51] at H
         have c51b0 := eq_true c51
         have c51b1 : decide (x7_31 ≤ (a0.size : Int)) = true := yL c51
         clear c51
         replace H := Option.bind_eq_some_iff.mp H
         obtain ⟨⟨t174, t175, t176, t177, t178, t179, t180, t181, t182, t183, t184⟩, A520, H⟩ := H
         replace H : (some (t174, t175, t176, t177, t178, t179, t180, t181, t182, t183, t184)) = some (r1, r2, r3, r4, r5, r6, r7, r8, r9, r10, r11) := H
         have A52 := yA A520
         clear A520
         simp only [Option.some.injEq, Prod.mk.injEq] at H
         obtain ⟨rfl, rfl, rfl, rfl, rfl, rfl, rfl, rfl, rfl, rfl, rfl⟩ := H
         have p40 : 0 ≤ (0 : Int) := (by omega)
         have q40 : 0 < a0.size := (by have : (0 : Int) < (a0.size : Int) := yN (by first | (with_reducible assumption) | assumption); omega)
         have hx40 : ∀ h : 0 < a0.size, ((a0[0]'h).toNat : Int) = bt a0 0 := bt_at a0 0
         clear p40
         have qi40 : (0 < (a0.size : Int)) = True := eq_true (yN (by first | (with_reducible assumption) | assumption))
         replace q40 := eq_true q40
         go_wp2_with (first | ((with_reducible refine yO (f := 36) rfl ?_); refine goesL_ (some 41) rfl rfl Tryd.func36 (by kernel_rfl) rfl #[.int .u8 (bt a0 0)] rfl (by (try simp only [List.map_toArray, List.map_cons, List.map_nil]); first | done | rfl | (simp only [List.length_drop, List.length_take]; rfl)) ?_; (with_reducible refine (lex_digit.calls (bt a0 0) false _ A41.out).mono ?_); rintro e w' ⟨rfl, ⟨nd, rfl⟩⟩; refine ⟨_, rfl, ?_⟩; (try (rw [drewN_self wc]; generalize hq_ : World.drewN wc _ = wc; have n0_ : Aside0 (wc.heap[gb153]? = some (.cells #[.int .i64 0, .string (⟨#[]⟩ : ByteArray), .int .i64 0, .int .i64 0, .int .i64 0, .int .i64 0, .int .i64 0, .int .i64 0, .int .i64 0] 32 (0, 0))) := ⟨by rw [← hq_]; exact (by (with_reducible repeat (first | refine yG ?_ _ | refine yH ?_ | refine yI ?_ _)); exact BK153.out)⟩; have n1_ : Aside0 (Below w.heap.size w wc) := ⟨by rw [← hq_]; exact (by repeat (first | (with_reducible first | exact HB.out | apply yE | apply yF | apply yD | refine yJ ?_ GE153.out) | exact HB.out))⟩; clear BK153 HB hq_; have BK153 := n0_; have HB := n1_; clear n0_ n1_))) | ((with_reducible refine yO (f := 26) rfl ?_); refine goesL_ (some 51) rfl rfl Tryd.func26 (by kernel_rfl) rfl #[.int .u8 (bt a0 0)] rfl (by (try simp only [List.map_toArray, List.map_cons, List.map_nil]); first | done | rfl | (simp only [List.length_drop, List.length_take]; rfl)) ?_; (with_reducible refine (lex_small.calls (bt a0 0) true _ A48.out).mono ?_); rintro e w' ⟨rfl, ⟨nd, rfl⟩⟩; refine ⟨_, rfl, ?_⟩; (try (rw [drewN_self wc]; generalize hq_ : World.drewN wc _ = wc; have n0_ : Aside0 (wc.heap[gb153]? = some (.cells #[.int .i64 0, .string (⟨#[]⟩ : ByteArray), .int .i64 0, .int .i64 0, .int .i64 0, .int .i64 0, .int .i64 0, .int .i64 0, .int .i64 0] 32 (0, 0))) := ⟨by rw [← hq_]; exact (by (with_reducible repeat (first | refine yG ?_ _ | refine yH ?_ | refine yI ?_ _)); exact BK153.out)⟩; have n1_ : Aside0 (Below w.heap.size w wc) := ⟨by rw [← hq_]; exact (by repeat (first | (with_reducible first | exact HB.out | apply yE | apply yF | apply yD | refine yJ ?_ GE153.out) | exact HB.out))⟩; clear BK153 HB hq_; have BK153 := n0_; have HB := n1_; clear n0_ n1_))) | ((with_reducible refine yO (f := 38) rfl ?_); refine goesL_ (some 55) rfl rfl Tryd.func38 (by kernel_rfl) rfl #[.string (a0.extract 0 (x7_31 : Int).toNat), .int .i64 1, .func (.func 26) #[] #[]] rfl (by (try simp only [List.map_toArray, List.map_cons, List.map_nil]); first | done | rfl | (simp only [List.length_drop, List.length_take]; rfl)) ?_; (with_reducible refine (lex_word.calls1 (a0.extract 0 (x7_31 : Int).toNat) 1 t174 t175 t176 t177 t178 t179 t180 t181 t182 t183 t184 _ A52.out).mono ?_); rintro e w53 ⟨rfl, hb⟩; refine ⟨_, rfl, ?_⟩; have n0_ := yA (yC (g := gb153) (o := .cells #[.int .i64 0, .string (⟨#[]⟩ : ByteArray), .int .i64 0, .int .i64 0, .int .i64 0, .int .i64 0, .int .i64 0, .int .i64 0, .int .i64 0] 32 (0, 0)) (by (with_reducible repeat (first | refine yG ?_ _ | refine yH ?_ | refine yI ?_ _)); exact BK153.out) hb); have n1_ := yA (yB (by repeat (first | (with_reducible first | exact HB.out | apply yE | apply yF | apply yD | refine yJ ?_ GE153.out) | exact HB.out)) hb); clear BK153; clear HB; have BK153 := n0_; have HB := n1_; clear n0_ n1_; (try clear hb); (try clear hb2); (try clear hk); (try clear hi); have hcz54_0 : w53.cell? ⟨gb153, 0, none⟩ = some (.int .i64 0) := (yR BK153.out 0).trans rfl; have hcz54_1 : w53.cell? ⟨gb153, 1, none⟩ = some (.string (⟨#[]⟩ : ByteArray)) := (yR BK153.out 1).trans rfl; have hcz54_2 : w53.cell? ⟨gb153, 2, none⟩ = some (.int .i64 0) := (yR BK153.out 2).trans rfl; have hcz54_3 : w53.cell? ⟨gb153, 3, none⟩ = some (.int .i64 0) := (yR BK153.out 3).trans rfl; have hcz54_4 : w53.cell? ⟨gb153, 4, none⟩ = some (.int .i64 0) := (yR BK153.out 4).trans rfl; have hcz54_5 : w53.cell? ⟨gb153, 5, none⟩ = some (.int .i64 0) := (yR BK153.out 5).trans rfl; have hcz54_6 : w53.cell? ⟨gb153, 6, none⟩ = some (.int .i64 0) := (yR BK153.out 6).trans rfl; have hcz54_7 : w53.cell? ⟨gb153, 7, none⟩ = some (.int .i64 0) := (yR BK153.out 7).trans rfl; have hcz54_8 : w53.cell? ⟨gb153, 8, none⟩ = some (.int .i64 0) := (yR BK153.out 8).trans rfl; have hfz54_0 := yS BK153.out 0; have hfz54_1 := yS BK153.out 1; have hfz54_2 := yS BK153.out 2; have hfz54_3 := yS BK153.out 3; have hfz54_4 := yS BK153.out 4; have hfz54_5 := yS BK153.out 5; have hfz54_6 := yS BK153.out 6; have hfz54_7 := yS BK153.out 7; have hfz54_8 := yS BK153.out 8))
         refine bodyPost_ret (results_ctt rfl _ _ gb153 32 #[.int .i64 t174, .string t175, .int .i64 t176, .int .i64 t177, .int .i64 t178, .int .i64 t179, .int .i64 t180, .int .i64 t181, .int .i64 t182] (0, 0) _ rfl (by (with_reducible repeat (first | refine yG ?_ _ | refine yH ?_ | refine yI ?_ _)); refine blk_put (cs := #[.int .i64 t174, .string t175, .int .i64 t176, .int .i64 t177, .int .i64 t178, .int .i64 t179, .int .i64 t180, .int .i64 t181, .int .i64 0]) ?_ 8 _ rfl; (with_reducible repeat (first | refine yG ?_ _ | refine yH ?_ | refine yI ?_ _)); refine blk_put (cs := #[.int .i64 t174, .string t175, .int .i64 t176, .int .i64 t177, .int .i64 t178, .int .i64 t179, .int .i64 t180, .int .i64 0, .int .i64 0]) ?_ 7 _ rfl; (with_reducible repeat (first | refine yG ?_ _ | refine yH ?_ | refine yI ?_ _)); refine blk_put (cs := #[.int .i64 t174, .string t175, .int .i64 t176, .int .i64 t177, .int .i64 t178, .int .i64 t179, .int .i64 0, .int .i64 0, .int .i64 0]) ?_ 6 _ rfl; (with_reducible repeat (first | refine yG ?_ _ | refine yH ?_ | refine yI ?_ _)); refine blk_put (cs := #[.int .i64 t174, .string t175, .int .i64 t176, .int .i64 t177, .int .i64 t178, .int .i64 0, .int .i64 0, .int .i64 0, .int .i64 0]) ?_ 5 _ rfl; (with_reducible repeat (first | refine yG ?_ _ | refine yH ?_ | refine yI ?_ _)); refine blk_put (cs := #[.int .i64 t174, .string t175, .int .i64 t176, .int .i64 t177, .int .i64 0, .int .i64 0, .int .i64 0, .int .i64 0, .int .i64 0]) ?_ 4 _ rfl; (with_reducible repeat (first | refine yG ?_ _ | refine yH ?_ | refine yI ?_ _)); refine blk_put (cs := #[.int .i64 t174, .string t175, .int .i64 t176, .int .i64 0, .int .i64 0, .int .i64 0, .int .i64 0, .int .i64 0, .int .i64 0]) ?_ 3 _ rfl; (with_reducible repeat (first | refine yG ?_ _ | refine yH ?_ | refine yI ?_ _)); refine blk_put (cs := #[.int .i64 t174, .string t175, .int .i64 0, .int .i64 0, .int .i64 0, .int .i64 0, .int .i64 0, .int .i64 0, .int .i64 0]) ?_ 2 _ rfl; (with_reducible repeat (first | refine yG ?_ _ | refine yH ?_ | refine yI ?_ _)); refine blk_put (cs := #[.int .i64 t174, .string (⟨#[]⟩ : ByteArray), .int .i64 0, .int .i64 0, .int .i64 0, .int .i64 0, .int .i64 0, .int .i64 0, .int .i64 0]) ?_ 1 _ rfl; (with_reducible repeat (first | refine yG ?_ _ | refine yH ?_ | refine yI ?_ _)); refine blk_put (cs := #[.int .i64 0, .string (⟨#[]⟩ : ByteArray), .int .i64 0, .int .i64 0, .int .i64 0, .int .i64 0, .int .i64 0, .int .i64 0, .int .i64 0]) ?_ 0 _ rfl; (with_reducible repeat (first | refine yG ?_ _ | refine yH ?_ | refine yI ?_ _)); exact BK153.out) Tryd.underlying32 rfl (by kernel_rfl)) rfl ?_
         exact ⟨by first | rfl | (simp [errW_none, errW_some] <;> rfl) | (simp [*, errW_none, errW_some] <;> rfl), by repeat (first | (with_reducible first | exact HB.out | apply yE | apply yF | apply yD | refine yJ ?_ GE153.out) | exact HB.out)⟩
        ·rw [if_neg c51] at H
         exact absurd H (by simp)
       ·rw [if_neg c50] at H
        exact absurd H (by simp)
      ·replace c49 := Bool.eq_false_iff.mpr c49
       subst c49
       have H1 : ((lex_big.f (bt a0 0)).bind fun t185 => (if t185 = true then (if 0 ≤ x7_31 then (if x7_31 ≤ (a0.size : Int) then ((lex_word.f (a0.extract 0 (x7_31 : Int).toNat) 2).bind fun bt186 => (some (bt186.1, bt186.2.1, bt186.2.2.1, bt186.2.2.2.1, bt186.2.2.2.2.1, bt186.2.2.2.2.2.1, bt186.2.2.2.2.2.2.1, bt186.2.2.2.2.2.2.2.1, bt186.2.2.2.2.2.2.2.2.1, bt186.2.2.2.2.2.2.2.2.2.1, bt186.2.2.2.2.2.2.2.2.2.2))) else (none)) else (none)) else ((lex_mark.f a0).bind fun t197 => (if t197 > 0 then (if 0 ≤ t197 then (if t197 ≤ (a0.size : Int) then (some (6, a0.extract 0 (t197 : Int).toNat, 0, 0, 0, 0, 0, 0, 0, 0, 0)) else (none)) else (none)) else (some (0, (⟨#[]⟩ : ByteArray), 0, 0, 0, 0, 0, 0, 0, 0, 61)))))) = some (r1, r2, r3, r4, r5, r6, r7, r8, r9, r10, r11) := by rw [if_neg (show ¬ (false = true) by decide)] at H; exact H
       clear H
       have H := H1
       clear H1
       replace H := Option.bind_eq_some_iff.mp H
       obtain ⟨t185, A550, H⟩ := H
       replace H : (if t185 = true then (if 0 ≤ x7_31 then (if x7_31 ≤ (a0.size : Int) then ((lex_word.f (a0.extract 0 (x7_31 : Int).toNat) 2).bind fun bt186 => (some (bt186.1, bt186.2.1, bt186.2.2.1, bt186.2.2.2.1, bt186.2.2.2.2.1, bt186.2.2.2.2.2.1, bt186.2.2.2.2.2.2.1, bt186.2.2.2.2.2.2.2.1, bt186.2.2.2.2.2.2.2.2.1, bt186.2.2.2.2.2.2.2.2.2.1, bt186.2.2.2.2.2.2.2.2.2.2))) else (none)) else (none)) else ((lex_mark.f a0).bind fun t197 => (if t197 > 0 then (if 0 ≤ t197 then (if t197 ≤ (a0.size : Int) then (some (6, a0.extract 0 (t197 : Int).toNat, 0, 0, 0, 0, 0, 0, 0, 0, 0)) else (none)) else (none)) else (some (0, (⟨#[]⟩ : ByteArray), 0, 0, 0, 0, 0, 0, 0, 0, 61))))) = some (r1, r2, r3, r4, r5, r6, r7, r8, r9, r10, r11) := H
       have A55 := yA A550
       clear A550
       by_cases c56 : t185 = true
       ·subst c56
        have H1 : (if 0 ≤ x7_31 then (if x7_31 ≤ (a0.size : Int) then ((lex_word.f (a0.extract 0 (x7_31 : Int).toNat) 2).bind fun bt186 => (some (bt186.1, bt186.2.1, bt186.2.2.1, bt186.2.2.2.1, bt186.2.2.2.2.1, bt186.2.2.2.2.2.1, bt186.2.2.2.2.2.2.1, bt186.2.2.2.2.2.2.2.1, bt186.2.2.2.2.2.2.2.2.1, bt186.2.2.2.2.2.2.2.2.2.1, bt186.2.2.2.2.2.2.2.2.2.2))) else (none)) else (none)) = some (r1, r2, r3, r4, r5, r6, r7, r8, r9, r10, r11) := by rw [if_pos rfl] at H; exact H
        clear H
        have H := H1
        clear H1
        by_cases c57 : 0 ≤ x7_31
        ·rw [if_pos c57] at H
         have c57b0 := eq_true c57
         have c57b1 : decide (0 ≤ x7_31) = true := yL c57
         clear c57
         by_cases c58 : x7_31 ≤ (a0.size : Int)
         ·rw [if_pos c58] at H
          have c58b0 := eq_true c58
          have c58b1 : decide (x7_31 ≤ (a0.size : Int)) = true := yL c58
          clear c58
          replace H := Option.bind_eq_some_iff.mp H
          obtain ⟨⟨t186, t187, t188, t189, t190, t191, t192, t193, t194, t195, t196⟩, A590, H⟩ := H
          replace H : (some (t186, t187, t188, t189, t190, t191, t192, t193, t194, t195, t196)) = some (r1, r2, r3, r4, r5, r6, r7, r8, r9, r10, r11) := H
          have A59 := yA A590
          clear A590
          simp only [Option.some.injEq, Prod.mk.injEq] at H
          obtain ⟨rfl, rfl, rfl, rfl, rfl, rfl, rfl, rfl, rfl, rfl, rfl⟩ := H
          have p40 : 0 ≤ (0 : Int) := (by omega)
          have q40 : 0 < a0.size := (by have : (0 : Int) < (a0.size : Int) := yN (by first | (with_reducible assumption) | assumption); omega)
          have hx40 : ∀ h : 0 < a0.size, ((a0[0]'h).toNat : Int) = bt a0 0 := bt_at a0 0
          clear p40
          have qi40 : (0 < (a0.size : Int)) = True := eq_true (yN (by first | (with_reducible assumption) | assumption))
          replace q40 := eq_true q40
          go_wp2_with (first | ((with_reducible refine yO (f := 36) rfl ?_); refine goesL_ (some 41) rfl rfl Tryd.func36 (by kernel_rfl) rfl #[.int .u8 (bt a0 0)] rfl (by (try simp only [List.map_toArray, List.map_cons, List.map_nil]); first | done | rfl | (simp only [List.length_drop, List.length_take]; rfl)) ?_; (with_reducible refine (lex_digit.calls (bt a0 0) false _ A41.out).mono ?_); rintro e w' ⟨rfl, ⟨nd, rfl⟩⟩; refine ⟨_, rfl, ?_⟩; (try (rw [drewN_self wc]; generalize hq_ : World.drewN wc _ = wc; have n0_ : Aside0 (wc.heap[gb153]? = some (.cells #[.int .i64 0, .string (⟨#[]⟩ : ByteArray), .int .i64 0, .int .i64 0, .int .i64 0, .int .i64 0, .int .i64 0, .int .i64 0, .int .i64 0] 32 (0, 0))) := ⟨by rw [← hq_]; exact (by (with_reducible repeat (first | refine yG ?_ _ | refine yH ?_ | refine yI ?_ _)); exact BK153.out)⟩; have n1_ : Aside0 (Below w.heap.size w wc) := ⟨by rw [← hq_]; exact (by repeat (first | (with_reducible first | exact HB.out | apply yE | apply yF | apply yD | refine yJ ?_ GE153.out) | exact HB.out))⟩; clear BK153 HB hq_; have BK153 := n0_; have HB := n1_; clear n0_ n1_))) | ((with_reducible refine yO (f := 26) rfl ?_); refine goesL_ (some 51) rfl rfl Tryd.func26 (by kernel_rfl) rfl #[.int .u8 (bt a0 0)] rfl (by (try simp only [List.map_toArray, List.map_cons, List.map_nil]); first | done | rfl | (simp only [List.length_drop, List.length_take]; rfl)) ?_; (with_reducible refine (lex_small.calls (bt a0 0) false _ A48.out).mono ?_); rintro e w' ⟨rfl, ⟨nd, rfl⟩⟩; refine ⟨_, rfl, ?_⟩; (try (rw [drewN_self wc]; generalize hq_ : World.drewN wc _ = wc; have n0_ : Aside0 (wc.heap[gb153]? = some (.cells #[.int .i64 0, .string (⟨#[]⟩ : ByteArray), .int .i64 0, .int .i64 0, .int .i64 0, .int .i64 0, .int .i64 0, .int .i64 0, .int .i64 0] 32 (0, 0))) := ⟨by rw [← hq_]; exact (by (with_reducible repeat (first | refine yG ?_ _ | refine yH ?_ | refine yI ?_ _)); exact BK153.out)⟩; have n1_ : Aside0 (Below w.heap.size w wc) := ⟨by rw [← hq_]; exact (by repeat (first | (with_reducible first | exact HB.out | apply yE | apply yF | apply yD | refine yJ ?_ GE153.out) | exact HB.out))⟩; clear BK153 HB hq_; have BK153 := n0_; have HB := n1_; clear n0_ n1_))) | ((with_reducible refine yO (f := 27) rfl ?_); refine goesL_ (some 61) rfl rfl Tryd.func27 (by kernel_rfl) rfl #[.int .u8 (bt a0 0)] rfl (by (try simp only [List.map_toArray, List.map_cons, List.map_nil]); first | done | rfl | (simp only [List.length_drop, List.length_take]; rfl)) ?_; (with_reducible refine (lex_big.calls (bt a0 0) true _ A55.out).mono ?_); rintro e w' ⟨rfl, ⟨nd, rfl⟩⟩; refine ⟨_, rfl, ?_⟩; (try (rw [drewN_self wc]; generalize hq_ : World.drewN wc _ = wc; have n0_ : Aside0 (wc.heap[gb153]? = some (.cells #[.int .i64 0, .string (⟨#[]⟩ : ByteArray), .int .i64 0, .int .i64 0, .int .i64 0, .int .i64 0, .int .i64 0, .int .i64 0, .int .i64 0] 32 (0, 0))) := ⟨by rw [← hq_]; exact (by (with_reducible repeat (first | refine yG ?_ _ | refine yH ?_ | refine yI ?_ _)); exact BK153.out)⟩; have n1_ : Aside0 (Below w.heap.size w wc) := ⟨by rw [← hq_]; exact (by repeat (first | (with_reducible first | exact HB.out | apply yE | apply yF | apply yD | refine yJ ?_ GE153.out) | exact HB.out))⟩; clear BK153 HB hq_; have BK153 := n0_; have HB := n1_; clear n0_ n1_))) | ((with_reducible refine yO (f := 38) rfl ?_); refine goesL_ (some 65) rfl rfl Tryd.func38 (by kernel_rfl) rfl #[.string (a0.extract 0 (x7_31 : Int).toNat), .int .i64 2, .func (.func 27) #[] #[]] rfl (by (try simp only [List.map_toArray, List.map_cons, List.map_nil]); first | done | rfl | (simp only [List.length_drop, List.length_take]; rfl)) ?_; (with_reducible refine (lex_word.calls2 (a0.extract 0 (x7_31 : Int).toNat) 2 t186 t187 t188 t189 t190 t191 t192 t193 t194 t195 t196 _ A59.out).mono ?_); rintro e w60 ⟨rfl, hb⟩; refine ⟨_, rfl, ?_⟩; have n0_ := yA (yC (g := gb153) (o := .cells #[.int .i64 0, .string (⟨#[]⟩ : ByteArray), .int .i64 0, .int .i64 0, .int .i64 0, .int .i64 0, .int .i64 0, .int .i64 0, .int .i64 0] 32 (0, 0)) (by (with_reducible repeat (first | refine yG ?_ _ | refine yH ?_ | refine yI ?_ _)); exact BK153.out) hb); have n1_ := yA (yB (by repeat (first | (with_reducible first | exact HB.out | apply yE | apply yF | apply yD | refine yJ ?_ GE153.out) | exact HB.out)) hb); clear BK153; clear HB; have BK153 := n0_; have HB := n1_; clear n0_ n1_; (try clear hb); (try clear hb2); (try clear hk); (try clear hi); have hcz61_0 : w60.cell? ⟨gb153, 0, none⟩ = some (.int .i64 0) := (yR BK153.out 0).trans rfl; have hcz61_1 : w60.cell? ⟨gb153, 1, none⟩ = some (.string (⟨#[]⟩ : ByteArray)) := (yR BK153.out 1).trans rfl; have hcz61_2 : w60.cell? ⟨gb153, 2, none⟩ = some (.int .i64 0) := (yR BK153.out 2).trans rfl; have hcz61_3 : w60.cell? ⟨gb153, 3, none⟩ = some (.int .i64 0) := (yR BK153.out 3).trans rfl; have hcz61_4 : w60.cell? ⟨gb153, 4, none⟩ = some (.int .i64 0) := (yR BK153.out 4).trans rfl; have hcz61_5 : w60.cell? ⟨gb153, 5, none⟩ = some (.int .i64 0) := (yR BK153.out 5).trans rfl; have hcz61_6 : w60.cell? ⟨gb153, 6, none⟩ = some (.int .i64 0) := (yR BK153.out 6).trans rfl; have hcz61_7 : w60.cell? ⟨gb153, 7, none⟩ = some (.int .i64 0) := (yR BK153.out 7).trans rfl; have hcz61_8 : w60.cell? ⟨gb153, 8, none⟩ = some (.int .i64 0) := (yR BK153.out 8).trans rfl; have hfz61_0 := yS BK153.out 0; have hfz61_1 := yS BK153.out 1; have hfz61_2 := yS BK153.out 2; have hfz61_3 := yS BK153.out 3; have hfz61_4 := yS BK153.out 4; have hfz61_5 := yS BK153.out 5; have hfz61_6 := yS BK153.out 6; have hfz61_7 := yS BK153.out 7; have hfz61_8 := yS BK153.out 8))
          refine bodyPost_ret (results_ctt rfl _ _ gb153 32 #[.int .i64 t186, .string t187, .int .i64 t188, .int .i64 t189, .int .i64 t190, .int .i64 t191, .int .i64 t192, .int .i64 t193, .int .i64 t194] (0, 0) _ rfl (by (with_reducible repeat (first | refine yG ?_ _ | refine yH ?_ | refine yI ?_ _)); refine blk_put (cs := #[.int .i64 t186, .string t187, .int .i64 t188, .int .i64 t189, .int .i64 t190, .int .i64 t191, .int .i64 t192, .int .i64 t193, .int .i64 0]) ?_ 8 _ rfl; (with_reducible repeat (first | refine yG ?_ _ | refine yH ?_ | refine yI ?_ _)); refine blk_put (cs := #[.int .i64 t186, .string t187, .int .i64 t188, .int .i64 t189, .int .i64 t190, .int .i64 t191, .int .i64 t192, .int .i64 0, .int .i64 0]) ?_ 7 _ rfl; (with_reducible repeat (first | refine yG ?_ _ | refine yH ?_ | refine yI ?_ _)); refine blk_put (cs := #[.int .i64 t186, .string t187, .int .i64 t188, .int .i64 t189, .int .i64 t190, .int .i64 t191, .int .i64 0, .int .i64 0, .int .i64 0]) ?_ 6 _ rfl; (with_reducible repeat (first | refine yG ?_ _ | refine yH ?_ | refine yI ?_ _)); refine blk_put (cs := #[.int .i64 t186, .string t187, .int .i64 t188, .int .i64 t189, .int .i64 t190, .int .i64 0, .int .i64 0, .int .i64 0, .int .i64 0]) ?_ 5 _ rfl; (with_reducible repeat (first | refine yG ?_ _ | refine yH ?_ | refine yI ?_ _)); refine blk_put (cs := #[.int .i64 t186, .string t187, .int .i64 t188, .int .i64 t189, .int .i64 0, .int .i64 0, .int .i64 0, .int .i64 0, .int .i64 0]) ?_ 4 _ rfl; (with_reducible repeat (first | refine yG ?_ _ | refine yH ?_ | refine yI ?_ _)); refine blk_put (cs := #[.int .i64 t186, .string t187, .int .i64 t188, .int .i64 0, .int .i64 0, .int .i64 0, .int .i64 0, .int .i64 0, .int .i64 0]) ?_ 3 _ rfl; (with_reducible repeat (first | refine yG ?_ _ | refine yH ?_ | refine yI ?_ _)); refine blk_put (cs := #[.int .i64 t186, .string t187, .int .i64 0, .int .i64 0, .int .i64 0, .int .i64 0, .int .i64 0, .int .i64 0, .int .i64 0]) ?_ 2 _ rfl; (with_reducible repeat (first | refine yG ?_ _ | refine yH ?_ | refine yI ?_ _)); refine blk_put (cs := #[.int .i64 t186, .string (⟨#[]⟩ : ByteArray), .int .i64 0, .int .i64 0, .int .i64 0, .int .i64 0, .int .i64 0, .int .i64 0, .int .i64 0]) ?_ 1 _ rfl; (with_reducible repeat (first | refine yG ?_ _ | refine yH ?_ | refine yI ?_ _)); refine blk_put (cs := #[.int .i64 0, .string (⟨#[]⟩ : ByteArray), .int .i64 0, .int .i64 0, .int .i64 0, .int .i64 0, .int .i64 0, .int .i64 0, .int .i64 0]) ?_ 0 _ rfl; (with_reducible repeat (first | refine yG ?_ _ | refine yH ?_ | refine yI ?_ _)); exact BK153.out) Tryd.underlying32 rfl (by kernel_rfl)) rfl ?_
          exact ⟨by first | rfl | (simp [errW_none, errW_some] <;> rfl) | (simp [*, errW_none, errW_some] <;> rfl), by repeat (first | (with_reducible first | exact HB.out | apply yE | apply yF | apply yD | refine yJ ?_ GE153.out) | exact HB.out)⟩
         ·rw [if_neg c58] at H
          exact absurd H (by simp)
        ·rw [if_neg c57] at H
         exact absurd H (by simp)
       ·replace c56 := Bool.eq_false_iff.mpr c56
        subst c56
        have H1 : ((lex_mark.f a0).bind fun t197 => (if t197 > 0 then (if 0 ≤ t197 then (if t197 ≤ (a0.size : Int) then (some (6, a0.extract 0 (t197 : Int).toNat, 0, 0, 0, 0, 0, 0, 0, 0, 0)) else (none)) else (none)) else (some (0, (⟨#[]⟩ : ByteArray), 0, 0, 0, 0, 0, 0, 0, 0, 61)))) = some (r1, r2, r3, r4, r5, r6, r7, r8, r9, r10, r11) := by rw [if_neg (show ¬ (false = true) by decide)] at H; exact H
        clear H
        have H := H1
        clear H1
        replace H := Option.bind_eq_some_iff.mp H
        obtain ⟨t197, A620, H⟩ := H
        replace H : (if t197 > 0 then (if 0 ≤ t197 then (if t197 ≤ (a0.size : Int) then (some (6, a0.extract 0 (t197 : Int).toNat, 0, 0, 0, 0, 0, 0, 0, 0, 0)) else (none)) else (none)) else (some (0, (⟨#[]⟩ : ByteArray), 0, 0, 0, 0, 0, 0, 0, 0, 61))) = some (r1, r2, r3, r4, r5, r6, r7, r8, r9, r10, r11) := H
        have A62 := yA A620
        clear A620
        by_cases c63 : t197 > 0
        ·rw [if_pos c63] at H
         have c63b0 : decide (0 < t197) = true := yL c63
         clear c63
         by_cases c64 : 0 ≤ t197
         ·rw [if_pos c64] at H
          have c64b0 := eq_true c64
          have c64b1 : decide (0 ≤ t197) = true := yL c64
          clear c64
          by_cases c65 : t197 ≤ (a0.size : Int)
          ·rw [if_pos c65] at H
           have c65b0 := eq_true c65
           have c65b1 : decide (t197 ≤ (a0.size : Int)) = true := yL c65
           clear c65
           simp only [Option.some.injEq, Prod.mk.injEq] at H
           obtain ⟨rfl, rfl, rfl, rfl, rfl, rfl, rfl, rfl, rfl, rfl, rfl⟩ := H
           have p40 : 0 ≤ (0 : Int) := (by omega)
           have q40 : 0 < a0.size := (by have : (0 : Int) < (a0.size : Int) := yN (by first | (with_reducible assumption) | assumption); omega)
           have hx40 : ∀ h : 0 < a0.size, ((a0[0]'h).toNat : Int) = bt a0 0 := bt_at a0 0
           clear p40
           have qi40 : (0 < (a0.size : Int)) = True := eq_true (yN (by first | (with_reducible assumption) | assumption))
           replace q40 := eq_true q40
           go_wp2_with (first | ((with_reducible refine yO (f := 36) rfl ?_); refine goesL_ (some 41) rfl rfl Tryd.func36 (by kernel_rfl) rfl #[.int .u8 (bt a0 0)] rfl (by (try simp only [List.map_toArray, List.map_cons, List.map_nil]); first | done | rfl | (simp only [List.length_drop, List.length_take]; rfl)) ?_; (with_reducible refine (lex_digit.calls (bt a0 0) false _ A41.out).mono ?_); rintro e w' ⟨rfl, ⟨nd, rfl⟩⟩; refine ⟨_, rfl, ?_⟩; (try (rw [drewN_self wc]; generalize hq_ : World.drewN wc _ = wc; have n0_ : Aside0 (wc.heap[gb153]? = some (.cells #[.int .i64 0, .string (⟨#[]⟩ : ByteArray), .int .i64 0, .int .i64 0, .int .i64 0, .int .i64 0, .int .i64 0, .int .i64 0, .int .i64 0] 32 (0, 0))) := ⟨by rw [← hq_]; exact (by (with_reducible repeat (first | refine yG ?_ _ | refine yH ?_ | refine yI ?_ _)); exact BK153.out)⟩; have n1_ : Aside0 (Below w.heap.size w wc) := ⟨by rw [← hq_]; exact (by repeat (first | (with_reducible first | exact HB.out | apply yE | apply yF | apply yD | refine yJ ?_ GE153.out) | exact HB.out))⟩; clear BK153 HB hq_; have BK153 := n0_; have HB := n1_; clear n0_ n1_))) | ((with_reducible refine yO (f := 26) rfl ?_); refine goesL_ (some 51) rfl rfl Tryd.func26 (by kernel_rfl) rfl #[.int .u8 (bt a0 0)] rfl (by (try simp only [List.map_toArray, List.map_cons, List.map_nil]); first | done | rfl | (simp only [List.length_drop, List.length_take]; rfl)) ?_; (with_reducible refine (lex_small.calls (bt a0 0) false _ A48.out).mono ?_); rintro e w' ⟨rfl, ⟨nd, rfl⟩⟩; refine ⟨_, rfl, ?_⟩; (try (rw [drewN_self wc]; generalize hq_ : World.drewN wc _ = wc; have n0_ : Aside0 (wc.heap[gb153]? = some (.cells #[.int .i64 0, .string (⟨#[]⟩ : ByteArray), .int .i64 0, .int .i64 0, .int .i64 0, .int .i64 0, .int .i64 0, .int .i64 0, .int .i64 0] 32 (0, 0))) := ⟨by rw [← hq_]; exact (by (with_reducible repeat (first | refine yG ?_ _ | refine yH ?_ | refine yI ?_ _)); exact BK153.out)⟩; have n1_ : Aside0 (Below w.heap.size w wc) := ⟨by rw [← hq_]; exact (by repeat (first | (with_reducible first | exact HB.out | apply yE | apply yF | apply yD | refine yJ ?_ GE153.out) | exact HB.out))⟩; clear BK153 HB hq_; have BK153 := n0_; have HB := n1_; clear n0_ n1_))) | ((with_reducible refine yO (f := 27) rfl ?_); refine goesL_ (some 61) rfl rfl Tryd.func27 (by kernel_rfl) rfl #[.int .u8 (bt a0 0)] rfl (by (try simp only [List.map_toArray, List.map_cons, List.map_nil]); first | done | rfl | (simp only [List.length_drop, List.length_take]; rfl)) ?_; (with_reducible refine (lex_big.calls (bt a0 0) false _ A55.out).mono ?_); rintro e w' ⟨rfl, ⟨nd, rfl⟩⟩; refine ⟨_, rfl, ?_⟩; (try (rw [drewN_self wc]; generalize hq_ : World.drewN wc _ = wc; have n0_ : Aside0 (wc.heap[gb153]? = some (.cells #[.int .i64 0, .string (⟨#[]⟩ : ByteArray), .int .i64 0, .int .i64 0, .int .i64 0, .int .i64 0, .int .i64 0, .int .i64 0, .int .i64 0] 32 (0, 0))) := ⟨by rw [← hq_]; exact (by (with_reducible repeat (first | refine yG ?_ _ | refine yH ?_ | refine yI ?_ _)); exact BK153.out)⟩; have n1_ : Aside0 (Below w.heap.size w wc) := ⟨by rw [← hq_]; exact (by repeat (first | (with_reducible first | exact HB.out | apply yE | apply yF | apply yD | refine yJ ?_ GE153.out) | exact HB.out))⟩; clear BK153 HB hq_; have BK153 := n0_; have HB := n1_; clear n0_ n1_))) | ((with_reducible refine yO (f := 39) rfl ?_); refine goesL_ (some 70) rfl rfl Tryd.func39 (by kernel_rfl) rfl #[.string a0] rfl (by (try simp only [List.map_toArray, List.map_cons, List.map_nil]); first | done | rfl | (simp only [List.length_drop, List.length_take]; rfl)) ?_; (with_reducible refine (lex_mark.calls a0 t197 _ A62.out).mono ?_); rintro e w66 ⟨rfl, hb⟩; refine ⟨_, rfl, ?_⟩; have n0_ := yA (yC (g := gb153) (o := .cells #[.int .i64 0, .string (⟨#[]⟩ : ByteArray), .int .i64 0, .int .i64 0, .int .i64 0, .int .i64 0, .int .i64 0, .int .i64 0, .int .i64 0] 32 (0, 0)) (by (with_reducible repeat (first | refine yG ?_ _ | refine yH ?_ | refine yI ?_ _)); exact BK153.out) hb); have n1_ := yA (yB (by repeat (first | (with_reducible first | exact HB.out | apply yE | apply yF | apply yD | refine yJ ?_ GE153.out) | exact HB.out)) hb); clear BK153; clear HB; have BK153 := n0_; have HB := n1_; clear n0_ n1_; (try clear hb); (try clear hb2); (try clear hk); (try clear hi); have hcz67_0 : w66.cell? ⟨gb153, 0, none⟩ = some (.int .i64 0) := (yR BK153.out 0).trans rfl; have hcz67_1 : w66.cell? ⟨gb153, 1, none⟩ = some (.string (⟨#[]⟩ : ByteArray)) := (yR BK153.out 1).trans rfl; have hcz67_2 : w66.cell? ⟨gb153, 2, none⟩ = some (.int .i64 0) := (yR BK153.out 2).trans rfl; have hcz67_3 : w66.cell? ⟨gb153, 3, none⟩ = some (.int .i64 0) := (yR BK153.out 3).trans rfl; have hcz67_4 : w66.cell? ⟨gb153, 4, none⟩ = some (.int .i64 0) := (yR BK153.out 4).trans rfl; have hcz67_5 : w66.cell? ⟨gb153, 5, none⟩ = some (.int .i64 0) := (yR BK153.out 5).trans rfl; have hcz67_6 : w66.cell? ⟨gb153, 6, none⟩ = some (.int .i64 0) := (yR BK153.out 6).trans rfl; have hcz67_7 : w66.cell? ⟨gb153, 7, none⟩ = some (.int .i64 0) := (yR BK153.out 7).trans rfl; have hcz67_8 : w66.cell? ⟨gb153, 8, none⟩ = some (.int .i64 0) := (yR BK153.out 8).trans rfl; have hfz67_0 := yS BK153.out 0; have hfz67_1 := yS BK153.out 1; have hfz67_2 := yS BK153.out 2; have hfz67_3 := yS BK153.out 3; have hfz67_4 := yS BK153.out 4; have hfz67_5 := yS BK153.out 5; have hfz67_6 := yS BK153.out 6; have hfz67_7 := yS BK153.out 7; have hfz67_8 := yS BK153.out 8))
           refine bodyPost_ret (results_ctt rfl _ _ gb153 32 #[.int .i64 6, .string (a0.extract 0 (t197 : Int).toNat), .int .i64 0, .int .i64 0, .int .i64 0, .int .i64 0, .int .i64 0, .int .i64 0, .int .i64 0] (0, 0) _ rfl (by (with_reducible repeat (first | refine yG ?_ _ | refine yH ?_ | refine yI ?_ _)); refine blk_put (cs := #[.int .i64 6, .string (a0.extract 0 (t197 : Int).toNat), .int .i64 0, .int .i64 0, .int .i64 0, .int .i64 0, .int .i64 0, .int .i64 0, .int .i64 0]) ?_ 8 _ rfl; (with_reducible repeat (first | refine yG ?_ _ | refine yH ?_ | refine yI ?_ _)); refine blk_put (cs := #[.int .i64 6, .string (a0.extract 0 (t197 : Int).toNat), .int .i64 0, .int .i64 0, .int .i64 0, .int .i64 0, .int .i64 0, .int .i64 0, .int .i64 0]) ?_ 7 _ rfl; (with_reducible repeat (first | refine yG ?_ _ | refine yH ?_ | refine yI ?_ _)); refine blk_put (cs := #[.int .i64 6, .string (a0.extract 0 (t197 : Int).toNat), .int .i64 0, .int .i64 0, .int .i64 0, .int .i64 0, .int .i64 0, .int .i64 0, .int .i64 0]) ?_ 6 _ rfl; (with_reducible repeat (first | refine yG ?_ _ | refine yH ?_ | refine yI ?_ _)); refine blk_put (cs := #[.int .i64 6, .string (a0.extract 0 (t197 : Int).toNat), .int .i64 0, .int .i64 0, .int .i64 0, .int .i64 0, .int .i64 0, .int .i64 0, .int .i64 0]) ?_ 5 _ rfl; (with_reducible repeat (first | refine yG ?_ _ | refine yH ?_ | refine yI ?_ _)); refine blk_put (cs := #[.int .i64 6, .string (a0.extract 0 (t197 : Int).toNat), .int .i64 0, .int .i64 0, .int .i64 0, .int .i64 0, .int .i64 0, .int .i64 0, .int .i64 0]) ?_ 4 _ rfl; (with_reducible repeat (first | refine yG ?_ _ | refine yH ?_ | refine yI ?_ _)); refine blk_put (cs := #[.int .i64 6, .string (a0.extract 0 (t197 : Int).toNat), .int .i64 0, .int .i64 0, .int .i64 0, .int .i64 0, .int .i64 0, .int .i64 0, .int .i64 0]) ?_ 3 _ rfl; (with_reducible repeat (first | refine yG ?_ _ | refine yH ?_ | refine yI ?_ _)); refine blk_put (cs := #[.int .i64 6, .string (a0.extract 0 (t197 : Int).toNat), .int .i64 0, .int .i64 0, .int .i64 0, .int .i64 0, .int .i64 0, .int .i64 0, .int .i64 0]) ?_ 2 _ rfl; (with_reducible repeat (first | refine yG ?_ _ | refine yH ?_ | refine yI ?_ _)); refine blk_put (cs := #[.int .i64 6, .string (⟨#[]⟩ : ByteArray), .int .i64 0, .int .i64 0, .int .i64 0, .int .i64 0, .int .i64 0, .int .i64 0, .int .i64 0]) ?_ 1 _ rfl; (with_reducible repeat (first | refine yG ?_ _ | refine yH ?_ | refine yI ?_ _)); refine blk_put (cs := #[.int .i64 0, .string (⟨#[]⟩ : ByteArray), .int .i64 0, .int .i64 0, .int .i64 0, .int .i64 0, .int .i64 0, .int .i64 0, .int .i64 0]) ?_ 0 _ rfl; (with_reducible repeat (first | refine yG ?_ _ | refine yH ?_ | refine yI ?_ _)); exact BK153.out) Tryd.underlying32 rfl (by kernel_rfl)) rfl ?_
           exact ⟨by first | rfl | (simp [errW_none, errW_some] <;> rfl) | (simp [*, errW_none, errW_some] <;> rfl), by repeat (first | (with_reducible first | exact HB.out | apply yE | apply yF | apply yD | refine yJ ?_ GE153.out) | exact HB.out)⟩
          ·rw [if_neg c65] at H
           exact absurd H (by simp)
         ·rw [if_neg c64] at H
          exact absurd H (by simp)
        ·rw [if_neg c63] at H
         have c63b0 : decide (0 < t197) = false := yM c63
         clear c63
         simp only [Option.some.injEq, Prod.mk.injEq] at H
         obtain ⟨rfl, rfl, rfl, rfl, rfl, rfl, rfl, rfl, rfl, rfl, rfl⟩ := H
         have p40 : 0 ≤ (0 : Int) := (by omega)
         have q40 : 0 < a0.size := (by have : (0 : Int) < (a0.size : Int) := yN (by first | (with_reducible assumption) | assumption); omega)
         have hx40 : ∀ h : 0 < a0.size, ((a0[0]'h).toNat : Int) = bt a0 0 := bt_at a0 0
         clear p40
         have qi40 : (0 < (a0.size : Int)) = True := eq_true (yN (by first | (with_reducible assumption) | assumption))
         replace q40 := eq_true q40
         go_wp2_with (first | ((with_reducible refine yO (f := 36) rfl ?_); refine goesL_ (some 41) rfl rfl Tryd.func36 (by kernel_rfl) rfl #[.int .u8 (bt a0 0)] rfl (by (try simp only [List.map_toArray, List.map_cons, List.map_nil]); first | done | rfl | (simp only [List.length_drop, List.length_take]; rfl)) ?_; (with_reducible refine (lex_digit.calls (bt a0 0) false _ A41.out).mono ?_); rintro e w' ⟨rfl, ⟨nd, rfl⟩⟩; refine ⟨_, rfl, ?_⟩; (try (rw [drewN_self wc]; generalize hq_ : World.drewN wc _ = wc; have n0_ : Aside0 (wc.heap[gb153]? = some (.cells #[.int .i64 0, .string (⟨#[]⟩ : ByteArray), .int .i64 0, .int .i64 0, .int .i64 0, .int .i64 0, .int .i64 0, .int .i64 0, .int .i64 0] 32 (0, 0))) := ⟨by rw [← hq_]; exact (by (with_reducible repeat (first | refine yG ?_ _ | refine yH ?_ | refine yI ?_ _)); exact BK153.out)⟩; have n1_ : Aside0 (Below w.heap.size w wc) := ⟨by rw [← hq_]; exact (by repeat (first | (with_reducible first | exact HB.out | apply yE | apply yF | apply yD | refine yJ ?_ GE153.out) | exact HB.out))⟩; clear BK153 HB hq_; have BK153 := n0_; have HB := n1_; clear n0_ n1_))) | ((with_reducible refine yO (f := 26) rfl ?_); refine goesL_ (some 51) rfl rfl Tryd.func26 (by kernel_rfl) rfl #[.int .u8 (bt a0 0)] rfl (by (try simp only [List.map_toArray, List.map_cons, List.map_nil]); first | done | rfl | (simp only [List.length_drop, List.length_take]; rfl)) ?_; (with_reducible refine (lex_small.calls (bt a0 0) false _ A48.out).mono ?_); rintro e w' ⟨rfl, ⟨nd, rfl⟩⟩; refine ⟨_, rfl, ?_⟩; (try (rw [drewN_self wc]; generalize hq_ : World.drewN wc _ = wc; have n0_ : Aside0 (wc.heap[gb153]? = some (.cells #[.int .i64 0, .string (⟨#[]⟩ : ByteArray), .int .i64 0, .int .i64 0, .int .i64 0, .int .i64 0, .int .i64 0, .int .i64 0, .int .i64 0] 32 (0, 0))) := ⟨by rw [← hq_]; exact (by (with_reducible repeat (first | refine yG ?_ _ | refine yH ?_ | refine yI ?_ _)); exact BK153.out)⟩; have n1_ : Aside0 (Below w.heap.size w wc) := ⟨by rw [← hq_]; exact (by repeat (first | (with_reducible first | exact HB.out | apply yE | apply yF | apply yD | refine yJ ?_ GE153.out) | exact HB.out))⟩; clear BK153 HB hq_; have BK153 := n0_; have HB := n1_; clear n0_ n1_))) | ((with_reducible refine yO (f := 27) rfl ?_); refine goesL_ (some 61) rfl rfl Tryd.func27 (by kernel_rfl) rfl #[.int .u8 (bt a0 0)] rfl (by (try simp only [List.map_toArray, List.map_cons, List.map_nil]); first | done | rfl | (simp only [List.length_drop, List.length_take]; rfl)) ?_; (with_reducible refine (lex_big.calls (bt a0 0) false _ A55.out).mono ?_); rintro e w' ⟨rfl, ⟨nd, rfl⟩⟩; refine ⟨_, rfl, ?_⟩; (try (rw [drewN_self wc]; generalize hq_ : World.drewN wc _ = wc; have n0_ : Aside0 (wc.heap[gb153]? = some (.cells #[.int .i64 0, .string (⟨#[]⟩ : ByteArray), .int .i64 0, .int .i64 0, .int .i64 0, .int .i64 0, .int .i64 0, .int .i64 0, .int .i64 0] 32 (0, 0))) := ⟨by rw [← hq_]; exact (by (with_reducible repeat (first | refine yG ?_ _ | refine yH ?_ | refine yI ?_ _)); exact BK153.out)⟩; have n1_ : Aside0 (Below w.heap.size w wc) := ⟨by rw [← hq_]; exact (by repeat (first | (with_reducible first | exact HB.out | apply yE | apply yF | apply yD | refine yJ ?_ GE153.out) | exact HB.out))⟩; clear BK153 HB hq_; have BK153 := n0_; have HB := n1_; clear n0_ n1_))) | ((with_reducible refine yO (f := 39) rfl ?_); refine goesL_ (some 70) rfl rfl Tryd.func39 (by kernel_rfl) rfl #[.string a0] rfl (by (try simp only [List.map_toArray, List.map_cons, List.map_nil]); first | done | rfl | (simp only [List.length_drop, List.length_take]; rfl)) ?_; (with_reducible refine (lex_mark.calls a0 t197 _ A62.out).mono ?_); rintro e w68 ⟨rfl, hb⟩; refine ⟨_, rfl, ?_⟩; have n0_ := yA (yC (g := gb153) (o := .cells #[.int .i64 0, .string (⟨#[]⟩ : ByteArray), .int .i64 0, .int .i64 0, .int .i64 0, .int .i64 0, .int .i64 0, .int .i64 0, .int .i64 0] 32 (0, 0)) (by (with_reducible repeat (first | refine yG ?_ _ | refine yH ?_ | refine yI ?_ _)); exact BK153.out) hb); have n1_ := yA (yB (by repeat (first | (with_reducible first | exact HB.out | apply yE | apply yF | apply yD | refine yJ ?_ GE153.out) | exact HB.out)) hb); clear BK153; clear HB; have BK153 := n0_; have HB := n1_; clear n0_ n1_; (try clear hb); (try clear hb2); (try clear hk); (try clear hi); have hcz69_0 : w68.cell? ⟨gb153, 0, none⟩ = some (.int .i64 0) := (yR BK153.out 0).trans rfl; have hcz69_1 : w68.cell? ⟨gb153, 1, none⟩ = some (.string (⟨#[]⟩ : ByteArray)) := (yR BK153.out 1).trans rfl; have hcz69_2 : w68.cell? ⟨gb153, 2, none⟩ = some (.int .i64 0) := (yR BK153.out 2).trans rfl; have hcz69_3 : w68.cell? ⟨gb153, 3, none⟩ = some (.int .i64 0) := (yR BK153.out 3).trans rfl; have hcz69_4 : w68.cell? ⟨gb153, 4, none⟩ = some (.int .i64 0) := (yR BK153.out 4).trans rfl; have hcz69_5 : w68.cell? ⟨gb153, 5, none⟩ = some (.int .i64 0) := (yR BK153.out 5).trans rfl; have hcz69_6 : w68.cell? ⟨gb153, 6, none⟩ = some (.int .i64 0) := (yR BK153.out 6).trans rfl; have hcz69_7 : w68.cell? ⟨gb153, 7, none⟩ = some (.int .i64 0) := (yR BK153.out 7).trans rfl; have hcz69_8 : w68.cell? ⟨gb153, 8, none⟩ = some (.int .i64 0) := (yR BK153.out 8).trans rfl; have hfz69_0 := yS BK153.out 0; have hfz69_1 := yS BK153.out 1; have hfz69_2 := yS BK153.out 2; have hfz69_3 := yS BK153.out 3; have hfz69_4 := yS BK153.out 4; have hfz69_5 := yS BK153.out 5; have hfz69_6 := yS BK153.out 6; have hfz69_7 := yS BK153.out 7; have hfz69_8 := yS BK153.out 8))
         refine bodyPost_ret (results_ctt rfl _ _ gb153 32 #[.int .i64 0, .string (⟨#[]⟩ : ByteArray), .int .i64 0, .int .i64 0, .int .i64 0, .int .i64 0, .int .i64 0, .int .i64 0, .int .i64 0] (0, 0) _ rfl (by (with_reducible repeat (first | refine yG ?_ _ | refine yH ?_ | refine yI ?_ _)); refine blk_put (cs := #[.int .i64 0, .string (⟨#[]⟩ : ByteArray), .int .i64 0, .int .i64 0, .int .i64 0, .int .i64 0, .int .i64 0, .int .i64 0, .int .i64 0]) ?_ 8 _ rfl; (with_reducible repeat (first | refine yG ?_ _ | refine yH ?_ | refine yI ?_ _)); refine blk_put (cs := #[.int .i64 0, .string (⟨#[]⟩ : ByteArray), .int .i64 0, .int .i64 0, .int .i64 0, .int .i64 0, .int .i64 0, .int .i64 0, .int .i64 0]) ?_ 7 _ rfl; (with_reducible repeat (first | refine yG ?_ _ | refine yH ?_ | refine yI ?_ _)); refine blk_put (cs := #[.int .i64 0, .string (⟨#[]⟩ : ByteArray), .int .i64 0, .int .i64 0, .int .i64 0, .int .i64 0, .int .i64 0, .int .i64 0, .int .i64 0]) ?_ 6 _ rfl; (with_reducible repeat (first | refine yG ?_ _ | refine yH ?_ | refine yI ?_ _)); refine blk_put (cs := #[.int .i64 0, .string (⟨#[]⟩ : ByteArray), .int .i64 0, .int .i64 0, .int .i64 0, .int .i64 0, .int .i64 0, .int .i64 0, .int .i64 0]) ?_ 5 _ rfl; (with_reducible repeat (first | refine yG ?_ _ | refine yH ?_ | refine yI ?_ _)); refine blk_put (cs := #[.int .i64 0, .string (⟨#[]⟩ : ByteArray), .int .i64 0, .int .i64 0, .int .i64 0, .int .i64 0, .int .i64 0, .int .i64 0, .int .i64 0]) ?_ 4 _ rfl; (with_reducible repeat (first | refine yG ?_ _ | refine yH ?_ | refine yI ?_ _)); refine blk_put (cs := #[.int .i64 0, .string (⟨#[]⟩ : ByteArray), .int .i64 0, .int .i64 0, .int .i64 0, .int .i64 0, .int .i64 0, .int .i64 0, .int .i64 0]) ?_ 3 _ rfl; (with_reducible repeat (first | refine yG ?_ _ | refine yH ?_ | refine yI ?_ _)); refine blk_put (cs := #[.int .i64 0, .string (⟨#[]⟩ : ByteArray), .int .i64 0, .int .i64 0, .int .i64 0, .int .i64 0, .int .i64 0, .int .i64 0, .int .i64 0]) ?_ 2 _ rfl; (with_reducible repeat (first | refine yG ?_ _ | refine yH ?_ | refine yI ?_ _)); refine blk_put (cs := #[.int .i64 0, .string (⟨#[]⟩ : ByteArray), .int .i64 0, .int .i64 0, .int .i64 0, .int .i64 0, .int .i64 0, .int .i64 0, .int .i64 0]) ?_ 1 _ rfl; (with_reducible repeat (first | refine yG ?_ _ | refine yH ?_ | refine yI ?_ _)); refine blk_put (cs := #[.int .i64 0, .string (⟨#[]⟩ : ByteArray), .int .i64 0, .int .i64 0, .int .i64 0, .int .i64 0, .int .i64 0, .int .i64 0, .int .i64 0]) ?_ 0 _ rfl; (with_reducible repeat (first | refine yG ?_ _ | refine yH ?_ | refine yI ?_ _)); exact BK153.out) Tryd.underlying32 rfl (by kernel_rfl)) rfl ?_
         exact ⟨by first | rfl | (simp [errW_none, errW_some] <;> rfl) | (simp [*, errW_none, errW_some] <;> rfl), by repeat (first | (with_reducible first | exact HB.out | apply yE | apply yF | apply yD | refine yJ ?_ GE153.out) | exact HB.out)⟩
    ·rw [if_neg c39] at H
     exact absurd H (by simp)
end Go.Proofs.YtkfdninngcakpaaDoor.PLex
