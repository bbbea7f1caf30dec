/- Own text, for this claim: cell (a table bound to one name), after the text that the kit's printer writes. -/
import Derived.Test.YtppojbafagneeaaDoorZQSayb
import Derived.WalkMore
import Derived.Deep.DeepMust
import Derived.Outline
import Derived.Deep.RegionWith
namespace Go.Proofs.YtppojbafagneeaaDoor.PTab
open Go.RowKit Go.Maps Go.WideMaps Go.Proofs.YtppojbafagneeaaDoorW.PrintWords Go.Proofs.YtppojbafagneeaaDoorW.PrintLast Go.Proofs.YtppojbafagneeaaDoorW.PrintMore
attribute [local go_sem] max2_int min2_int max_two min_two max_three min_three max_four min_four
set_option linter.unusedVariables false
set_option linter.unusedSimpArgs false
attribute [local go_sem high] eqA52
noncomputable def payofflaw05_cell.j0 : Nat → Int → List (List (S52)) → Bool → Option (Bool × Int × Bool)
 | 0, _, _, _ => none
 | k + 1, x2, x8, x26 => if x26 = true then (some (false, 0, false)) else (if x2 < 0 then (some (false, 0, true)) else (if x2 ≥ (x8.length : Int) then (some (false, 0, decide (x2 ≥ (x8.length : Int)))) else (if 0 ≤ x2 then (if x2 < (x8.length : Int) then (if ((rd_L4 x8 x2).length : Int) = 1 then (if 0 < ((rd_L4 x8 x2).length : Int) then (some ((rd_T52 (rd_L4 x8 x2) 0).f0, (rd_T52 (rd_L4 x8 x2) 0).f1, true)) else (none)) else (some (false, 0, decide (x2 ≥ (x8.length : Int))))) else (none)) else (none))))
noncomputable def payofflaw05_cell.f (k : Nat) (l0_0 : List ByteArray) (l0_1 : List (List (S52))) (a1 : ByteArray) (a2 : Int) : Option (Bool × Int × Bool) := (table_Bind.f k l0_0 l0_1 (([a1] : List ByteArray))).bind fun bt305 => (if bt305.2 = 0 then (payofflaw05_cell.j0 k a2 bt305.1 ((bt305.1.length : Int) != (l0_1.length : Int))) else (payofflaw05_cell.j0 k a2 bt305.1 true))
set_option maxHeartbeats 8000000 in
set_option maxRecDepth 100000 in
theorem payofflaw05_cell.calls (k : Nat) (A0_0 : Option Addr) (c0_0 : Nat) (l0_0 : List ByteArray) (A0_1 : Option Addr) (c0_1 : Nat) (l0_1 : List (List (S52))) (a1 : ByteArray) (a2 : Int) (r1 : Bool) (r2 : Int) (r3 : Bool) (w : World) (hr0_0 : Kd.C Kd.string w A0_0 l0_0.length l0_0) (hc0_0 : l0_0.length ≤ c0_0) (hr0_1 : Kd.C (Kd.slice 52 k52) w A0_1 l0_1.length l0_1) (hc0_1 : l0_1.length ≤ c0_1) (h : payofflaw05_cell.f k l0_0 l0_1 a1 a2 = some (r1, r2, r3)) :
  Calls Tryd.prog 38 #[.agg #[.slice A0_0 l0_0.length c0_0, .slice A0_1 l0_1.length c0_1], .string a1, .int .i64 a2] w fun e w' => e = .returned (.tuple #[.agg #[.bool r1, .int .i64 r2], .bool r3]) ∧ Below w.heap.size w w' := by
 have hu25 := Tryd.underlying25
 have hu52 := Tryd.underlying52
 have HR0_0 := yA hr0_0
 have HC0_0 := yA hc0_0
 clear hr0_0 hc0_0
 have HR0_1 := yA hr0_1
 have HC0_1 := yA hc0_1
 clear hr0_1 hc0_1
 have HB := yA (Below.refl w.heap.size w)
 have H : ((table_Bind.f k l0_0 l0_1 (([a1] : List ByteArray))).bind fun bt305 => (if bt305.2 = 0 then (payofflaw05_cell.j0 k a2 bt305.1 ((bt305.1.length : Int) != (l0_1.length : Int))) else (payofflaw05_cell.j0 k a2 bt305.1 true))) = some (r1, r2, r3) := h
 clear h
 obtain ⟨y302, hy302⟩ : ∃ y_ : List ByteArray, y_ = (([a1] : List ByteArray)) := ⟨_, rfl⟩
 replace H : ((table_Bind.f k l0_0 l0_1 y302).bind fun bt305 => (if bt305.2 = 0 then (payofflaw05_cell.j0 k a2 bt305.1 ((bt305.1.length : Int) != (l0_1.length : Int))) else (payofflaw05_cell.j0 k a2 bt305.1 true))) = some (r1, r2, r3) := by first | (rw [hy302]; with_reducible exact H) | (have H2_ := (Option.bind_some _ _).symm.trans H; rw [hy302]; with_reducible exact H2_) | (have H2_ := (Option.bind_some _ _).symm.trans H; with_reducible exact H2_) | with_reducible exact H | (rw [hy302]; exact H) | exact H
 have Ny302 := yA hy302
 clear hy302
 replace H := Option.bind_eq_some_iff.mp H
 obtain ⟨⟨t305, t308⟩, A40, H⟩ := H
 replace H : (if t308 = 0 then (payofflaw05_cell.j0 k a2 t305 ((t305.length : Int) != (l0_1.length : Int))) else (payofflaw05_cell.j0 k a2 t305 true)) = some (r1, r2, r3) := H
 have A4 := yA A40
 clear A40
 have HC5 := yA H
 clear H
 go_enter Tryd.func38, Tryd.ntmps38
 go_upto_region 2 with (first | ((with_reducible refine yP (N := 3) rfl ?_); (try (refine gate_guard (by rfl) ?_; dsimp only)); refine yQ ?hg (N := 3) ?hd (cs := #[.slice A0_0 l0_0.length c0_0, .slice A0_1 l0_1.length c0_1]) (t := 25) ?hr ?_; (case hd => rfl); (case hg => rfl); (case hr => first | (go_simp; done) | (go_simp; rfl)); intro gb300 hg w6 hbox hb; have n0_ := yA (yB (by repeat (first | (with_reducible first | exact HB.out | apply yE | apply yF | apply yD) | exact HB.out)) hb); have n1_ := yA (hbox); have n2_ := yA ((by rw [hg]; exact (below_size (by repeat (first | (with_reducible first | exact HB.out | apply yE | apply yF | apply yD) | exact HB.out))) : w.heap.size ≤ gb300)); have n3_ := yA ((by rw [hg]; exact (below_size (by repeat (first | (with_reducible first | exact HB.out | apply yE | apply yF | apply yD) | exact HB.out))) : w.heap.size ≤ gb300)); clear HB; have HB := n0_; have BK300 := n1_; have GW300 := n2_; have GE300 := n3_; clear n0_ n1_ n2_ n3_; clear hb hbox hg) | ((with_reducible refine yP (N := 6) rfl ?_); (try (refine gate_guard (by rfl) ?_; dsimp only)); refine yQ ?hg (N := 6) ?hd (cs := #[.bool false, .int .i64 0]) (t := 52) ?hr ?_; (case hd => rfl); (case hg => rfl); (case hr => first | (go_simp; done) | (go_simp; rfl)); intro gb301 hg w7 hbox hb; have n0_ := yA (yC (g := gb300) (o := .cells #[.slice A0_0 l0_0.length c0_0, .slice A0_1 l0_1.length c0_1] 25 (0, 0)) (by (with_reducible repeat (first | refine yG ?_ _ | refine yH ?_ | refine yI ?_ _)); exact BK300.out) hb); have n1_ := yA (yB (by repeat (first | (with_reducible first | exact HB.out | apply yE | apply yF | apply yD | refine yJ ?_ GE300.out) | exact HB.out)) hb); have n2_ := yA (hbox); have n3_ := yA ((by rw [hg]; exact (below_size (by repeat (first | (with_reducible first | exact HB.out | apply yE | apply yF | apply yD | refine yJ ?_ GE300.out) | exact HB.out))) : w.heap.size ≤ gb301)); have n4_ := yA ((by rw [hg]; exact (below_size (by repeat (first | (with_reducible first | exact HB.out | apply yE | apply yF | apply yD | refine yJ ?_ GE300.out) | exact HB.out))) : w.heap.size ≤ gb301)); have n5_ := yA ((by rw [hg]; exact Nat.ne_of_lt (blk_lt (g := gb300) (o := .cells #[.slice A0_0 l0_0.length c0_0, .slice A0_1 l0_1.length c0_1] 25 (0, 0)) (by (with_reducible repeat (first | refine yG ?_ _ | refine yH ?_ | refine yI ?_ _)); exact BK300.out)) : gb300 ≠ gb301)); have n6_ := yA ((by rw [hg]; exact Nat.ne_of_gt (blk_lt (g := gb300) (o := .cells #[.slice A0_0 l0_0.length c0_0, .slice A0_1 l0_1.length c0_1] 25 (0, 0)) (by (with_reducible repeat (first | refine yG ?_ _ | refine yH ?_ | refine yI ?_ _)); exact BK300.out)) : gb301 ≠ gb300)); clear BK300; clear HB; have BK300 := n0_; have HB := n1_; have BK301 := n2_; have GW301 := n3_; have GE301 := n4_; have NB300_301 := n5_; have NB301_300 := n6_; clear n0_ n1_ n2_ n3_ n4_ n5_ n6_; clear hb hbox hg; have hnb8 := NB300_301.out; have hnc8 := NB301_300.out; have hcz9_0 : w7.cell? ⟨gb300, 0, none⟩ = some (.slice A0_0 l0_0.length c0_0) := (yR BK300.out 0).trans rfl; have hcz9_1 : w7.cell? ⟨gb300, 1, none⟩ = some (.slice A0_1 l0_1.length c0_1) := (yR BK300.out 1).trans rfl; have hfz9_0 := yS BK300.out 0; have hfz9_1 := yS BK300.out 1) | ((with_reducible refine yP (N := 13) rfl ?_); (try (refine gate_guard (by rfl) ?_; dsimp only)); refine Kd.R_lit Kd.string _ 9 ?hg (N := 13) ?hd (xs := ([a1] : List ByteArray)) (inner := [.string a1]) (ok := fun _ => True) (okp := fun _ => True) ?hr ?hp (fun _ hk => hk) trivial (Below.refl _ _) (Nat.le_refl _) (by simp) ?_; (case hd => rfl); (case hg => rfl); (case hr => first | (go_simp; done) | (go_simp; rfl)); (case hp => exact (Reps.one (show Kd.M Kd.string _ _ _ a1 [.string a1] from rfl) (Reps.none _ _))); intro v303 w10 ho11 hb hg_ hnew_; clear hg_ hnew_; (first | rw [← Ny302.out] at ho11 | (simp only [Int.reduceToNat] at ho11; rw [← Ny302.out] at ho11)); have n0_ := yA (Kd.R_lower ho11 (below_size (by repeat (first | (with_reducible first | exact HB.out | apply yE | apply yF | apply yD | refine yJ ?_ GE300.out | refine yJ ?_ GE301.out) | exact HB.out)))); have n1_ := yA (yC (g := gb300) (o := .cells #[.slice A0_0 l0_0.length c0_0, .slice A0_1 l0_1.length c0_1] 25 (0, 0)) (by (with_reducible repeat (first | refine yG ?_ _ | refine yH ?_ | refine yI ?_ _)); exact BK300.out) hb); have n2_ := yA (yC (g := gb301) (o := .cells #[.bool false, .int .i64 0] 52 (0, 0)) (by (with_reducible repeat (first | refine yG ?_ _ | refine yH ?_ | refine yI ?_ _)); exact BK301.out) hb); have n3_ := yA (yB (by repeat (first | (with_reducible first | exact HB.out | apply yE | apply yF | apply yD | refine yJ ?_ GE300.out | refine yJ ?_ GE301.out) | exact HB.out)) hb); clear BK300; clear BK301; clear HB; have HO304 := n0_; have BK300 := n1_; have BK301 := n2_; have HB := n3_; clear n0_ n1_ n2_ n3_; clear hb ho11; obtain ⟨Ao12, co12, eo12⟩ := Kd.R_slice HO304.out; subst eo12) | ((with_reducible refine yO (f := 76) rfl ?_); refine goesL_ (some 14) rfl rfl Tryd.func76 (by kernel_rfl) rfl #[.agg #[.slice A0_0 l0_0.length c0_0, .slice A0_1 l0_1.length c0_1], .slice Ao12 y302.length co12] rfl (by (try simp only [List.map_toArray, List.map_cons, List.map_nil]); first | done | rfl | (simp only [List.length_drop, List.length_take]; rfl)) ?_; (with_reducible refine (table_Bind.calls k _ _ l0_0 _ _ l0_1 _ _ y302 t305 t308 _ ?side1 ?side2 ?side3 ?side4 ?side5 ?side6 A4.out).mono ?_); (case side1 => repeat (first | exact (Kd.C_below HR0_0.out HB.out) | (with_reducible refine Kd.C_alloc ?_ _) | (with_reducible refine Kd.C_drewN ?_ _) | (with_reducible refine Kd.C_drew ?_))); (case side2 => exact HC0_0.out); (case side3 => repeat (first | exact (Kd.C_below HR0_1.out HB.out) | (with_reducible refine Kd.C_alloc ?_ _) | (with_reducible refine Kd.C_drewN ?_ _) | (with_reducible refine Kd.C_drew ?_))); (case side4 => exact HC0_1.out); (case side5 => repeat (first | exact (Kd.R_reads' HO304.out).2.2 | (with_reducible refine Kd.C_alloc ?_ _) | (with_reducible refine Kd.C_drewN ?_ _) | (with_reducible refine Kd.C_drew ?_))); (case side6 => exact (Kd.R_reads' HO304.out).2.1); rintro e w13 ⟨v306, rfl, ho0, hb⟩; refine ⟨_, rfl, ?_⟩; have n0_ := yA (Kd.R_below (by (with_reducible repeat (first | apply Kd.R_alloc | apply Kd.R_drewN | apply Kd.R_drew)); exact HO304.out) hb); have n1_ := yA (Kd.S_lower (Kd.S_newB ho0 (g := gb301) (o := .cells #[.bool false, .int .i64 0] 52 (0, 0)) (by (with_reducible repeat (first | refine yG ?_ _ | refine yH ?_ | refine yI ?_ _)); exact BK301.out)) (below_size (by repeat (first | (with_reducible first | exact HB.out | apply yE | apply yF | apply yD | refine yJ ?_ GE300.out | refine yJ ?_ GE301.out) | exact HB.out)))); have n2_ := yA (yC (g := gb300) (o := .cells #[.slice A0_0 l0_0.length c0_0, .slice A0_1 l0_1.length c0_1] 25 (0, 0)) (by (with_reducible repeat (first | refine yG ?_ _ | refine yH ?_ | refine yI ?_ _)); exact BK300.out) hb); have n3_ := yA (yC (g := gb301) (o := .cells #[.bool false, .int .i64 0] 52 (0, 0)) (by (with_reducible repeat (first | refine yG ?_ _ | refine yH ?_ | refine yI ?_ _)); exact BK301.out) hb); have n4_ := yA (yB (by repeat (first | (with_reducible first | exact HB.out | apply yE | apply yF | apply yD | refine yJ ?_ GE300.out | refine yJ ?_ GE301.out) | exact HB.out)) hb); clear HO304; clear BK300; clear BK301; clear HB; have HO304 := n0_; have HO307 := n1_; have BK300 := n2_; have BK301 := n3_; have HB := n4_; clear n0_ n1_ n2_ n3_ n4_; (try clear hb); (try clear hb2); (try clear hk); (try clear hi); (try clear ho0)))
 (try simp only [Act.put, lA, lB, lC])
 go_cut [26] (fun v26 wc => ∃ (kq : Nat) (x26_4 : Bool), v26 = .bool x26_4 ∧ Aside0 (payofflaw05_cell.j0 kq a2 t305 x26_4 = some (r1, r2, r3)) ∧ Aside0 (kq ≤ k) ∧ Aside0 (Kd.S (Kd.slice 52 k52) 54 wc w.heap.size (fun k_ => k_ ≠ gb301) v306 t305) ∧ Aside0 (wc.heap[gb300]? = some (.cells #[(.slice A0_0 l0_0.length c0_0), (.slice A0_1 l0_1.length c0_1)] 25 (0, 0))) ∧ Aside0 (wc.heap[gb301]? = some (.cells #[.bool false, .int .i64 0] 52 (0, 0))) ∧ Aside0 (Below w.heap.size w wc))
 case first =>
  have H := HC5.out
  clear HC5
  by_cases c14 : t308 = 0
  ·rw [if_pos c14] at H
   have c14b0 : (t308 == 0) = true := beq_iff_eq.mpr c14
   have c14b1 : (t308 != 0) = false := bne_eq_false_iff_eq.mpr c14
   clear c14
   (first | rw [c14b0] | (simp only [i64_w, i32_w]; rw [c14b0]) | skip)
   have H' := yA H
   clear H
   obtain ⟨Ao15, co15, eo15⟩ := Kd.S_slice HO307.out
   subst eo15
   have hnb16 := NB300_301.out
   have hnc16 := NB301_300.out
   have hcz17_0 : w13.cell? ⟨gb300, 0, none⟩ = some (.slice A0_0 l0_0.length c0_0) := (yR BK300.out 0).trans rfl
   have hcz17_1 : w13.cell? ⟨gb300, 1, none⟩ = some (.slice A0_1 l0_1.length c0_1) := (yR BK300.out 1).trans rfl
   have hfz17_0 := yS BK300.out 0
   have hfz17_1 := yS BK300.out 1
   go_wp2
   go_meet
   case rel => exact ⟨_, (((t305.length : Int) != (l0_1.length : Int))), (by first | rfl | (simp; done) | (simp [*]; done)), H', ⟨by first | omega | exact Nat.le_refl _⟩, ⟨by (with_reducible repeat (first | apply Kd.S_alloc | apply Kd.S_drewN | apply Kd.S_drew)); exact Kd.S_mono HO307.out (fun _ hk => hk.2)⟩, ⟨by (with_reducible repeat (first | refine yG ?_ _ | refine yH ?_ | refine yI ?_ _)); exact BK300.out⟩, ⟨by (with_reducible repeat (first | refine yG ?_ _ | refine yH ?_ | refine yI ?_ _)); exact BK301.out⟩, ⟨by repeat (first | (with_reducible first | exact HB.out | apply yE | apply yF | apply yD | refine yJ ?_ GE300.out | refine yJ ?_ GE301.out) | exact HB.out)⟩⟩
  ·rw [if_neg c14] at H
   have c14b0 : (t308 == 0) = false := beq_eq_false_iff_ne.mpr c14
   have c14b1 : (t308 != 0) = true := bne_iff_ne.mpr c14
   (first | rw [c14b0] | (simp only [i64_w, i32_w]; rw [c14b0]) | skip)
   have H' := yA H
   clear H
   go_wp2
   go_meet
   case rel => exact ⟨_, (true), (by first | rfl | (simp; done) | (simp [*]; done)), H', ⟨by first | omega | exact Nat.le_refl _⟩, ⟨by (with_reducible repeat (first | apply Kd.S_alloc | apply Kd.S_drewN | apply Kd.S_drew)); exact Kd.S_mono HO307.out (fun _ hk => hk.2)⟩, ⟨by (with_reducible repeat (first | refine yG ?_ _ | refine yH ?_ | refine yI ?_ _)); exact BK300.out⟩, ⟨by (with_reducible repeat (first | refine yG ?_ _ | refine yH ?_ | refine yI ?_ _)); exact BK301.out⟩, ⟨by repeat (first | (with_reducible first | exact HB.out | apply yE | apply yF | apply yD | refine yJ ?_ GE300.out | refine yJ ?_ GE301.out) | exact HB.out)⟩⟩
 case rest =>
  clear HC5; try clear c1; try clear p2; try clear c3; try clear c7; try clear c8; try clear c14; try clear c14b0; try clear c14b1; try clear c16; try clear hcz17_0; try clear hcz17_1; try clear hcz9_0; try clear hcz9_1; try clear hfz17_0; try clear hfz17_1; try clear hfz9_0; try clear hfz9_1
  obtain ⟨kq, x26_4, rfl, HA, HJ4, HO_8, BK300, BK301, HB⟩ := hcut
  cases kq with
  | zero => exact absurd HA.out (by simp [payofflaw05_cell.j0])
  | succ kj4 =>
   have H := HA.out
   clear HA
   simp only [payofflaw05_cell.j0] at H
   by_cases c18 : x26_4 = true
   ·subst c18
    have H1 : (some (false, 0, false)) = some (r1, r2, r3) := by rw [if_pos rfl] at H; exact H
    clear H
    have H := H1
    clear H1
    simp only [Option.some.injEq, Prod.mk.injEq] at H
    obtain ⟨rfl, rfl, rfl⟩ := H
    have hnb19 := NB301_300.out
    have hnc19 := NB300_301.out
    have hcz20_0 : wc.cell? ⟨gb301, 0, none⟩ = some (.bool false) := (yR BK301.out 0).trans rfl
    have hcz20_1 : wc.cell? ⟨gb301, 1, none⟩ = some (.int .i64 0) := (yR BK301.out 1).trans rfl
    have hfz20_0 := yS BK301.out 0
    have hfz20_1 := yS BK301.out 1
    go_wp2
    refine bodyPost_ret (results_ct rfl _ _ gb301 52 #[.bool false, .int .i64 0] (0, 0) _ rfl (by (with_reducible repeat (first | refine yG ?_ _ | refine yH ?_ | refine yI ?_ _)); refine blk_put (cs := #[.bool false, .int .i64 0]) ?_ 1 _ rfl; (with_reducible repeat (first | refine yG ?_ _ | refine yH ?_ | refine yI ?_ _)); refine blk_put (cs := #[.bool false, .int .i64 0]) ?_ 0 _ rfl; (with_reducible repeat (first | refine yG ?_ _ | refine yH ?_ | refine yI ?_ _)); exact BK301.out) Tryd.underlying52 rfl (by kernel_rfl)) rfl ?_
    exact ⟨by first | rfl | (simp [errW_none, errW_some] <;> rfl) | (simp [*, errW_none, errW_some] <;> rfl), by repeat (first | (with_reducible first | exact HB.out | apply yE | apply yF | apply yD | refine yJ ?_ GE300.out | refine yJ ?_ GE301.out) | exact HB.out)⟩
   ·replace c18 := Bool.eq_false_iff.mpr c18
    subst c18
    have H1 : (if a2 < 0 then (some (false, 0, true)) else (if a2 ≥ (t305.length : Int) then (some (false, 0, decide (a2 ≥ (t305.length : Int)))) else (if 0 ≤ a2 then (if a2 < (t305.length : Int) then (if ((rd_L4 t305 a2).length : Int) = 1 then (if 0 < ((rd_L4 t305 a2).length : Int) then (some ((rd_T52 (rd_L4 t305 a2) 0).f0, (rd_T52 (rd_L4 t305 a2) 0).f1, true)) else (none)) else (some (false, 0, decide (a2 ≥ (t305.length : Int))))) else (none)) else (none)))) = some (r1, r2, r3) := by rw [if_neg (show ¬ (false = true) by decide)] at H; exact H
    clear H
    have H := H1
    clear H1
    by_cases c21 : a2 < 0
    ·rw [if_pos c21] at H
     have c21b0 : decide (a2 < 0) = true := yL c21
     clear c21
     simp only [Option.some.injEq, Prod.mk.injEq] at H
     obtain ⟨rfl, rfl, rfl⟩ := H
     have hnb22 := NB301_300.out
     have hnc22 := NB300_301.out
     have hcz23_0 : wc.cell? ⟨gb301, 0, none⟩ = some (.bool false) := (yR BK301.out 0).trans rfl
     have hcz23_1 : wc.cell? ⟨gb301, 1, none⟩ = some (.int .i64 0) := (yR BK301.out 1).trans rfl
     have hfz23_0 := yS BK301.out 0
     have hfz23_1 := yS BK301.out 1
     go_wp2
     refine bodyPost_ret (results_ct rfl _ _ gb301 52 #[.bool false, .int .i64 0] (0, 0) _ rfl (by (with_reducible repeat (first | refine yG ?_ _ | refine yH ?_ | refine yI ?_ _)); refine blk_put (cs := #[.bool false, .int .i64 0]) ?_ 1 _ rfl; (with_reducible repeat (first | refine yG ?_ _ | refine yH ?_ | refine yI ?_ _)); refine blk_put (cs := #[.bool false, .int .i64 0]) ?_ 0 _ rfl; (with_reducible repeat (first | refine yG ?_ _ | refine yH ?_ | refine yI ?_ _)); exact BK301.out) Tryd.underlying52 rfl (by kernel_rfl)) rfl ?_
     exact ⟨by first | rfl | (simp [errW_none, errW_some] <;> rfl) | (simp [*, errW_none, errW_some] <;> rfl), by repeat (first | (with_reducible first | exact HB.out | apply yE | apply yF | apply yD | refine yJ ?_ GE300.out | refine yJ ?_ GE301.out) | exact HB.out)⟩
    ·rw [if_neg c21] at H
     have c21b0 : decide (a2 < 0) = false := yM c21
     clear c21
     by_cases c24 : a2 ≥ (t305.length : Int)
     ·rw [if_pos c24] at H
      have c24b0 : decide ((t305.length : Int) ≤ a2) = true := yL c24
      clear c24
      simp only [Option.some.injEq, Prod.mk.injEq] at H
      obtain ⟨rfl, rfl, rfl⟩ := H
      obtain ⟨Ao25, co25, eo25⟩ := Kd.S_slice HO_8.out
      subst eo25
      have hnb26 := NB301_300.out
      have hnc26 := NB300_301.out
      have hcz27_0 : wc.cell? ⟨gb301, 0, none⟩ = some (.bool false) := (yR BK301.out 0).trans rfl
      have hcz27_1 : wc.cell? ⟨gb301, 1, none⟩ = some (.int .i64 0) := (yR BK301.out 1).trans rfl
      have hfz27_0 := yS BK301.out 0
      have hfz27_1 := yS BK301.out 1
      go_wp2
      refine bodyPost_ret (results_ct rfl _ _ gb301 52 #[.bool false, .int .i64 0] (0, 0) _ rfl (by (with_reducible repeat (first | refine yG ?_ _ | refine yH ?_ | refine yI ?_ _)); refine blk_put (cs := #[.bool false, .int .i64 0]) ?_ 1 _ rfl; (with_reducible repeat (first | refine yG ?_ _ | refine yH ?_ | refine yI ?_ _)); refine blk_put (cs := #[.bool false, .int .i64 0]) ?_ 0 _ rfl; (with_reducible repeat (first | refine yG ?_ _ | refine yH ?_ | refine yI ?_ _)); exact BK301.out) Tryd.underlying52 rfl (by kernel_rfl)) rfl ?_
      exact ⟨by first | rfl | (simp [errW_none, errW_some] <;> rfl) | (simp [*, errW_none, errW_some] <;> rfl), by repeat (first | (with_reducible first | exact HB.out | apply yE | apply yF | apply yD | refine yJ ?_ GE300.out | refine yJ ?_ GE301.out) | exact HB.out)⟩
     ·rw [if_neg c24] at H
      have c24b0 : decide ((t305.length : Int) ≤ a2) = false := yM c24
      clear c24
      by_cases c28 : 0 ≤ a2
      ·rw [if_pos c28] at H
       have c28b0 : decide (0 ≤ a2) = true := yL c28
       clear c28
       by_cases c29 : a2 < (t305.length : Int)
       ·rw [if_pos c29] at H
        have c29b0 : decide (a2 < (t305.length : Int)) = true := yL c29
        clear c29
        by_cases c30 : ((rd_L4 t305 a2).length : Int) = 1
        ·rw [if_pos c30] at H
         have c30b0 : (((rd_L4 t305 a2).length : Int) == 1) = true := beq_iff_eq.mpr c30
         have c30b1 : (((rd_L4 t305 a2).length : Int) != 1) = false := bne_eq_false_iff_eq.mpr c30
         clear c30
         by_cases c31 : 0 < ((rd_L4 t305 a2).length : Int)
         ·rw [if_pos c31] at H
          have c31b0 : decide (0 < ((rd_L4 t305 a2).length : Int)) = true := yL c31
          have c31b1 : decide (0 < (rd_L4 t305 a2).length) = true := yL (by omega)
          clear c31
          simp only [Option.some.injEq, Prod.mk.injEq] at H
          obtain ⟨rfl, rfl, rfl⟩ := H
          obtain ⟨Ao32, co32, eo32⟩ := Kd.S_slice HO_8.out
          subst eo32
          have p309 : 0 ≤ (a2 : Int) := yN (by first | (with_reducible assumption) | assumption)
          have q309 : a2 < (t305.length : Int) := yN (by first | (with_reducible assumption) | assumption)
          obtain ⟨ad309, A309_0, c309_0, e309, hx309_0, hl309_0, hi309_0⟩ := at_L4 (Kd.S_reads' HO_8.out).2.2 a2 p309 q309
          cases e309
          obtain ⟨ce309, hce309, hMe309, hcc309⟩ := Kd.S_get HO_8.out [] a2 p309 (by first | exact q309 | exact yN (by first | (with_reducible assumption) | assumption) | (have e_ := (Kd.S_reads' HO_8.out).1; omega))
          obtain ⟨ve309_0, rfl, ge309_0⟩ := hMe309
          have hv309_0 := hcc309 0 _ rfl
          rw [Nat.add_zero, show ((Kd.slice 52 k52)).sz = 1 from rfl, Nat.mul_one] at hv309_0
          replace hv309_0 := Option.some.inj (hv309_0.symm.trans hx309_0)
          rw [hv309_0] at ge309_0
          have HL309_0 := yA (show Kd.R k52 52 _ _ _ _ (rd_L4 t305 a2) from ge309_0)
          clear hv309_0 ge309_0
          clear hcc309 hce309
          have HR309_0 := yA hi309_0
          have HC309_0 := yA hl309_0
          clear hi309_0 hl309_0
          replace p309 := eq_true p309
          replace q309 := eq_true q309
          have p310 : 0 ≤ (a2 : Int) := yN (by first | (with_reducible assumption) | assumption)
          have q310 : a2 < (t305.length : Int) := yN (by first | (with_reducible assumption) | assumption)
          obtain ⟨ad310, A310_0, c310_0, e310, hx310_0, hl310_0, hi310_0⟩ := at_L4 (Kd.S_reads' HO_8.out).2.2 a2 p310 q310
          obtain rfl : ad309 = ad310 := (by injection e310)
          obtain ⟨ce310, hce310, hMe310, hcc310⟩ := Kd.S_get HO_8.out [] a2 p310 (by first | exact q310 | exact yN (by first | (with_reducible assumption) | assumption) | (have e_ := (Kd.S_reads' HO_8.out).1; omega))
          obtain ⟨ve310_0, rfl, ge310_0⟩ := hMe310
          have hv310_0 := hcc310 0 _ rfl
          rw [Nat.add_zero, show ((Kd.slice 52 k52)).sz = 1 from rfl, Nat.mul_one] at hv310_0
          replace hv310_0 := Option.some.inj (hv310_0.symm.trans hx310_0)
          rw [hv310_0] at ge310_0
          have HL310_0 := yA (show Kd.R k52 52 _ _ _ _ (rd_L4 t305 a2) from ge310_0)
          clear hv310_0 ge310_0
          clear hcc310 hce310
          have HR310_0 := yA hi310_0
          have HC310_0 := yA hl310_0
          clear hi310_0 hl310_0
          replace p310 := eq_true p310
          replace q310 := eq_true q310
          have ea_ := Option.some.inj (hx309_0.symm.trans hx310_0)
          injection ea_ with ea_ en_ ec_
          subst ea_
          subst ec_
          clear en_
          have p311 : 0 ≤ (0 : Int) := (by omega)
          have q311 : 0 < ((rd_L4 t305 a2).length : Int) := yN (by first | (with_reducible assumption) | assumption)
          obtain ⟨ad311, e311, hx311_0, hx311_1⟩ := at_T52 (by repeat (first | (with_reducible exact HR310_0.out) | (with_reducible refine Kd.C_alloc ?_ _) | (with_reducible refine Kd.C_drewN ?_ _) | (with_reducible refine Kd.C_drew ?_) | exact HR310_0.out)) 0 p311 q311
          cases e311
          have qi311 : (0 < (rd_L4 t305 a2).length) = True := eq_true (by omega)
          (try rw [show ((0 : Int)).toNat = 0 from rfl] at hx311_0)
          (try rw [show 0 * 2 = 0 from rfl] at hx311_0)
          (try rw [Addr.add_zero'] at hx311_0)
          (try rw [show ((0 : Int)).toNat = 0 from rfl] at hx311_1)
          (try rw [show 0 * 2 = 0 from rfl] at hx311_1)
          (try rw [Addr.add_zero'] at hx311_1)
          replace p311 := eq_true p311
          replace q311 := eq_true q311
          have hnb33 := NB301_300.out
          have hnc33 := NB300_301.out
          have hcz34_0 : wc.cell? ⟨gb301, 0, none⟩ = some (.bool false) := (yR BK301.out 0).trans rfl
          have hcz34_1 : wc.cell? ⟨gb301, 1, none⟩ = some (.int .i64 0) := (yR BK301.out 1).trans rfl
          have hfz34_0 := yS BK301.out 0
          have hfz34_1 := yS BK301.out 1
          go_wp2
          refine bodyPost_ret (results_ct rfl _ _ gb301 52 #[.bool ((rd_T52 (rd_L4 t305 a2) 0).f0), .int .i64 ((rd_T52 (rd_L4 t305 a2) 0).f1)] (0, 0) _ rfl (by (with_reducible repeat (first | refine yG ?_ _ | refine yH ?_ | refine yI ?_ _)); refine blk_put (cs := #[.bool ((rd_T52 (rd_L4 t305 a2) 0).f0), .int .i64 0]) ?_ 1 _ rfl; (with_reducible repeat (first | refine yG ?_ _ | refine yH ?_ | refine yI ?_ _)); refine blk_put (cs := #[.bool false, .int .i64 0]) ?_ 0 _ rfl; (with_reducible repeat (first | refine yG ?_ _ | refine yH ?_ | refine yI ?_ _)); exact BK301.out) Tryd.underlying52 rfl (by kernel_rfl)) rfl ?_
          exact ⟨by first | rfl | (simp [errW_none, errW_some] <;> rfl) | (simp [*, errW_none, errW_some] <;> rfl), by repeat (first | (with_reducible first | exact HB.out | apply yE | apply yF | apply yD | refine yJ ?_ GE300.out | refine yJ ?_ GE301.out) | exact HB.out)⟩
         ·rw [if_neg c31] at H
          exact absurd H (by simp)
        ·rw [if_neg c30] at H
         have c30b0 : (((rd_L4 t305 a2).length : Int) == 1) = false := beq_eq_false_iff_ne.mpr c30
         have c30b1 : (((rd_L4 t305 a2).length : Int) != 1) = true := bne_iff_ne.mpr c30
         simp only [Option.some.injEq, Prod.mk.injEq] at H
         obtain ⟨rfl, rfl, rfl⟩ := H
         obtain ⟨Ao35, co35, eo35⟩ := Kd.S_slice HO_8.out
         subst eo35
         have p309 : 0 ≤ (a2 : Int) := yN (by first | (with_reducible assumption) | assumption)
         have q309 : a2 < (t305.length : Int) := yN (by first | (with_reducible assumption) | assumption)
         obtain ⟨ad309, A309_0, c309_0, e309, hx309_0, hl309_0, hi309_0⟩ := at_L4 (Kd.S_reads' HO_8.out).2.2 a2 p309 q309
         cases e309
         obtain ⟨ce309, hce309, hMe309, hcc309⟩ := Kd.S_get HO_8.out [] a2 p309 (by first | exact q309 | exact yN (by first | (with_reducible assumption) | assumption) | (have e_ := (Kd.S_reads' HO_8.out).1; omega))
         obtain ⟨ve309_0, rfl, ge309_0⟩ := hMe309
         have hv309_0 := hcc309 0 _ rfl
         rw [Nat.add_zero, show ((Kd.slice 52 k52)).sz = 1 from rfl, Nat.mul_one] at hv309_0
         replace hv309_0 := Option.some.inj (hv309_0.symm.trans hx309_0)
         rw [hv309_0] at ge309_0
         have HL309_0 := yA (show Kd.R k52 52 _ _ _ _ (rd_L4 t305 a2) from ge309_0)
         clear hv309_0 ge309_0
         clear hcc309 hce309
         have HR309_0 := yA hi309_0
         have HC309_0 := yA hl309_0
         clear hi309_0 hl309_0
         replace p309 := eq_true p309
         replace q309 := eq_true q309
         have hnb36 := NB301_300.out
         have hnc36 := NB300_301.out
         have hcz37_0 : wc.cell? ⟨gb301, 0, none⟩ = some (.bool false) := (yR BK301.out 0).trans rfl
         have hcz37_1 : wc.cell? ⟨gb301, 1, none⟩ = some (.int .i64 0) := (yR BK301.out 1).trans rfl
         have hfz37_0 := yS BK301.out 0
         have hfz37_1 := yS BK301.out 1
         go_wp2
         refine bodyPost_ret (results_ct rfl _ _ gb301 52 #[.bool false, .int .i64 0] (0, 0) _ rfl (by (with_reducible repeat (first | refine yG ?_ _ | refine yH ?_ | refine yI ?_ _)); refine blk_put (cs := #[.bool false, .int .i64 0]) ?_ 1 _ rfl; (with_reducible repeat (first | refine yG ?_ _ | refine yH ?_ | refine yI ?_ _)); refine blk_put (cs := #[.bool false, .int .i64 0]) ?_ 0 _ rfl; (with_reducible repeat (first | refine yG ?_ _ | refine yH ?_ | refine yI ?_ _)); exact BK301.out) Tryd.underlying52 rfl (by kernel_rfl)) rfl ?_
         exact ⟨by first | rfl | (simp [errW_none, errW_some] <;> rfl) | (simp [*, errW_none, errW_some] <;> rfl), by repeat (first | (with_reducible first | exact HB.out | apply yE | apply yF | apply yD | refine yJ ?_ GE300.out | refine yJ ?_ GE301.out) | exact HB.out)⟩
       ·rw [if_neg c29] at H
        exact absurd H (by simp)
      ·rw [if_neg c28] at H
       exact absurd H (by simp)
end Go.Proofs.YtppojbafagneeaaDoor.PTab
