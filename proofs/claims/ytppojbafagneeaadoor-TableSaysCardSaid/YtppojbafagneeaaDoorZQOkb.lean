/- Own text, for this claim: told, plain, same, back, after the text that the kit's printer writes. -/
import Derived.Test.YtppojbafagneeaaDoorZParPrn
import Derived.Test.YtppojbafagneeaaDoorZQOkp
import Derived.WalkMore
import Derived.Deep.DeepMust
import Derived.Outline
import Derived.Deep.RegionWith
namespace Go.Proofs.YtppojbafagneeaaDoor.PTab
open Go.RowKit Go.Proofs.YtppojbafagneeaaDoorW.PrintWords Go.Proofs.YtppojbafagneeaaDoorW.PrintLast Go.Proofs.YtppojbafagneeaaDoorW.PrintMore
attribute [local go_sem] max2_int min2_int max_two min_two max_three min_three max_four min_four
set_option linter.unusedVariables false
set_option linter.unusedSimpArgs false
attribute [local go_sem high] eqA52
def payofflaw05_told.f (a0 : Int) : Option (Bool × Int) := some (true, a0)
set_option maxHeartbeats 8000000 in
set_option maxRecDepth 100000 in
theorem payofflaw05_told.calls (a0 : Int) (r1 : Bool) (r2 : Int) (w : World) (h : payofflaw05_told.f a0 = some (r1, r2)) :
  Calls Tryd.prog 33 #[.int .i64 a0] w fun e w' => e = .returned (.agg #[.bool r1, .int .i64 r2]) ∧ Below w.heap.size w w' := by
 have hu52 := Tryd.underlying52
 have HB := yA (Below.refl w.heap.size w)
 have H : (some (true, a0)) = some (r1, r2) := h
 clear h
 simp only [Option.some.injEq, Prod.mk.injEq] at H
 obtain ⟨rfl, rfl⟩ := H
 go_enter Tryd.func33, Tryd.ntmps33
 go_wp2_with (first | ((with_reducible refine yP (N := 2) rfl ?_); refine yQ ?hg (N := 2) ?hd (cs := #[.bool false, .int .i64 0]) (t := 52) ?hr ?_; (case hd => rfl); (case hg => rfl); (case hr => first | (go_simp; done) | (go_simp; rfl)); intro gb297 hg w2 hbox hb; have n0_ := yA (yB (by repeat (first | (with_reducible first | exact HB.out | apply yE | apply yF | apply yD) | exact HB.out)) hb); have n1_ := yA (hbox); have n2_ := yA ((by rw [hg]; exact (below_size (by repeat (first | (with_reducible first | exact HB.out | apply yE | apply yF | apply yD) | exact HB.out))) : w.heap.size ≤ gb297)); have n3_ := yA ((by rw [hg]; exact (below_size (by repeat (first | (with_reducible first | exact HB.out | apply yE | apply yF | apply yD) | exact HB.out))) : w.heap.size ≤ gb297)); clear HB; have HB := n0_; have BK297 := n1_; have GW297 := n2_; have GE297 := n3_; clear n0_ n1_ n2_ n3_; clear hb hbox hg; have hcz3_0 : w2.cell? ⟨gb297, 0, none⟩ = some (.bool false) := (yR BK297.out 0).trans rfl; have hcz3_1 : w2.cell? ⟨gb297, 1, none⟩ = some (.int .i64 0) := (yR BK297.out 1).trans rfl; have hfz3_0 := yS BK297.out 0; have hfz3_1 := yS BK297.out 1))
 refine bodyPost_ret (results_cell_row rfl _ _ gb297 52 #[.bool true, .int .i64 a0] (0, 0) _ rfl (by (with_reducible repeat (first | refine yG ?_ _ | refine yH ?_ | refine yI ?_ _)); refine blk_put (cs := #[.bool true, .int .i64 0]) ?_ 1 _ rfl; (with_reducible repeat (first | refine yG ?_ _ | refine yH ?_ | refine yI ?_ _)); refine blk_put (cs := #[.bool false, .int .i64 0]) ?_ 0 _ rfl; (with_reducible repeat (first | refine yG ?_ _ | refine yH ?_ | refine yI ?_ _)); exact BK297.out) Tryd.underlying52 rfl (by kernel_rfl)) rfl ?_
 exact ⟨by first | rfl | (simp [errW_none, errW_some] <;> rfl) | (simp [*, errW_none, errW_some] <;> rfl), by repeat (first | (with_reducible first | exact HB.out | apply yE | apply yF | apply yD | refine yJ ?_ GE297.out) | exact HB.out)⟩
def payofflaw05_same.f (k : Nat) (l0_0 : List ByteArray) (l0_1 : List (List (S52))) (l1_0 : List ByteArray) (l1_1 : List (List (S52))) : Option (Bool) := (payofflaw05_sameNames.f k l0_0 l1_0).bind fun t273 => (if t273 = true then ((payofflaw05_sameRows.f k l0_1 l1_1).bind fun t274 => (some t274)) else (some false))
set_option maxHeartbeats 8000000 in
set_option maxRecDepth 100000 in
theorem payofflaw05_same.calls (k : Nat) (A0_0 : Option Addr) (c0_0 : Nat) (l0_0 : List ByteArray) (A0_1 : Option Addr) (c0_1 : Nat) (l0_1 : List (List (S52))) (A1_0 : Option Addr) (c1_0 : Nat) (l1_0 : List ByteArray) (A1_1 : Option Addr) (c1_1 : Nat) (l1_1 : List (List (S52))) (r : Bool) (w : World) (hr0_0 : Kd.C Kd.string w A0_0 l0_0.length l0_0) (hc0_0 : l0_0.length ≤ c0_0) (hr0_1 : Kd.C (Kd.slice 52 k52) w A0_1 l0_1.length l0_1) (hc0_1 : l0_1.length ≤ c0_1) (hr1_0 : Kd.C Kd.string w A1_0 l1_0.length l1_0) (hc1_0 : l1_0.length ≤ c1_0) (hr1_1 : Kd.C (Kd.slice 52 k52) w A1_1 l1_1.length l1_1) (hc1_1 : l1_1.length ≤ c1_1) (h : payofflaw05_same.f k l0_0 l0_1 l1_0 l1_1 = some r) :
  Calls Tryd.prog 27 #[.agg #[.slice A0_0 l0_0.length c0_0, .slice A0_1 l0_1.length c0_1], .agg #[.slice A1_0 l1_0.length c1_0, .slice A1_1 l1_1.length c1_1]] w fun e w' => e = .returned (.bool r) ∧ Below w.heap.size w w' := by
 have hu25 := Tryd.underlying25
 have HR0_0 := yA hr0_0
 have HC0_0 := yA hc0_0
 clear hr0_0 hc0_0
 have HR0_1 := yA hr0_1
 have HC0_1 := yA hc0_1
 clear hr0_1 hc0_1
 have HR1_0 := yA hr1_0
 have HC1_0 := yA hc1_0
 clear hr1_0 hc1_0
 have HR1_1 := yA hr1_1
 have HC1_1 := yA hc1_1
 clear hr1_1 hc1_1
 have HB := yA (Below.refl w.heap.size w)
 have H : ((payofflaw05_sameNames.f k l0_0 l1_0).bind fun t273 => (if t273 = true then ((payofflaw05_sameRows.f k l0_1 l1_1).bind fun t274 => (some t274)) else (some false))) = some r := h
 clear h
 replace H := Option.bind_eq_some_iff.mp H
 obtain ⟨t273, A30, H⟩ := H
 replace H : (if t273 = true then ((payofflaw05_sameRows.f k l0_1 l1_1).bind fun t274 => (some t274)) else (some false)) = some r := H
 have A3 := yA A30
 clear A30
 by_cases c4 : t273 = true
 ·subst c4
  have H1 : ((payofflaw05_sameRows.f k l0_1 l1_1).bind fun t274 => (some t274)) = some r := by rw [if_pos rfl] at H; exact H
  clear H
  have H := H1
  clear H1
  replace H := Option.bind_eq_some_iff.mp H
  obtain ⟨t274, A50, H⟩ := H
  replace H : (some t274) = some r := H
  have A5 := yA A50
  clear A50
  obtain rfl := Option.some.inj H
  go_enter Tryd.func27, Tryd.ntmps27
  go_wp2_with (first | ((with_reducible refine yP (N := 2) rfl ?_); refine yQ ?hg (N := 2) ?hd (cs := #[.slice A0_0 l0_0.length c0_0, .slice A0_1 l0_1.length c0_1]) (t := 25) ?hr ?_; (case hd => rfl); (case hg => rfl); (case hr => first | (go_simp; done) | (go_simp; rfl)); intro gb271 hg w6 hbox hb; have n0_ := yA (yB (by repeat (first | (with_reducible first | exact HB.out | apply yE | apply yF | apply yD) | exact HB.out)) hb); have n1_ := yA (hbox); have n2_ := yA ((by rw [hg]; exact (below_size (by repeat (first | (with_reducible first | exact HB.out | apply yE | apply yF | apply yD) | exact HB.out))) : w.heap.size ≤ gb271)); have n3_ := yA ((by rw [hg]; exact (below_size (by repeat (first | (with_reducible first | exact HB.out | apply yE | apply yF | apply yD) | exact HB.out))) : w.heap.size ≤ gb271)); clear HB; have HB := n0_; have BK271 := n1_; have GW271 := n2_; have GE271 := n3_; clear n0_ n1_ n2_ n3_; clear hb hbox hg) | ((with_reducible refine yP (N := 3) rfl ?_); refine yQ ?hg (N := 3) ?hd (cs := #[.slice A1_0 l1_0.length c1_0, .slice A1_1 l1_1.length c1_1]) (t := 25) ?hr ?_; (case hd => rfl); (case hg => rfl); (case hr => first | (go_simp; done) | (go_simp; rfl)); intro gb272 hg w7 hbox hb; have n0_ := yA (yC (g := gb271) (o := .cells #[.slice A0_0 l0_0.length c0_0, .slice A0_1 l0_1.length c0_1] 25 (0, 0)) (by first | exact BK271.out | exact yI BK271.out _) hb); have n1_ := yA (yB (by repeat (first | (with_reducible first | exact HB.out | apply yE | apply yF | apply yD | refine yJ ?_ GE271.out) | exact HB.out)) hb); have n2_ := yA (hbox); have n3_ := yA ((by rw [hg]; exact (below_size (by repeat (first | (with_reducible first | exact HB.out | apply yE | apply yF | apply yD | refine yJ ?_ GE271.out) | exact HB.out))) : w.heap.size ≤ gb272)); have n4_ := yA ((by rw [hg]; exact (below_size (by repeat (first | (with_reducible first | exact HB.out | apply yE | apply yF | apply yD | refine yJ ?_ GE271.out) | exact HB.out))) : w.heap.size ≤ gb272)); have n5_ := yA ((by rw [hg]; exact Nat.ne_of_lt (blk_lt (g := gb271) (o := .cells #[.slice A0_0 l0_0.length c0_0, .slice A0_1 l0_1.length c0_1] 25 (0, 0)) (by first | exact BK271.out | exact yI BK271.out _)) : gb271 ≠ gb272)); have n6_ := yA ((by rw [hg]; exact Nat.ne_of_gt (blk_lt (g := gb271) (o := .cells #[.slice A0_0 l0_0.length c0_0, .slice A0_1 l0_1.length c0_1] 25 (0, 0)) (by first | exact BK271.out | exact yI BK271.out _)) : gb272 ≠ gb271)); clear BK271; clear HB; have BK271 := n0_; have HB := n1_; have BK272 := n2_; have GW272 := n3_; have GE272 := n4_; have NB271_272 := n5_; have NB272_271 := n6_; clear n0_ n1_ n2_ n3_ n4_ n5_ n6_; clear hb hbox hg; have hnb8 := NB271_272.out; have hnc8 := NB272_271.out; have hcz9_0 : w7.cell? ⟨gb271, 0, none⟩ = some (.slice A0_0 l0_0.length c0_0) := (yR BK271.out 0).trans rfl; have hcz9_1 : w7.cell? ⟨gb271, 1, none⟩ = some (.slice A0_1 l0_1.length c0_1) := (yR BK271.out 1).trans rfl; have hfz9_0 := yS BK271.out 0; have hfz9_1 := yS BK271.out 1; have hcz10_0 : w7.cell? ⟨gb272, 0, none⟩ = some (.slice A1_0 l1_0.length c1_0) := (yR BK272.out 0).trans rfl; have hcz10_1 : w7.cell? ⟨gb272, 1, none⟩ = some (.slice A1_1 l1_1.length c1_1) := (yR BK272.out 1).trans rfl; have hfz10_0 := yS BK272.out 0; have hfz10_1 := yS BK272.out 1) | ((with_reducible refine yO (f := 66) rfl ?_); refine goesL_ (some 9) rfl rfl Tryd.func66 (by kernel_rfl) rfl #[.slice A0_0 l0_0.length c0_0, .slice A1_0 l1_0.length c1_0] rfl (by (try simp only [List.map_toArray, List.map_cons, List.map_nil]); first | done | rfl | (simp only [List.length_drop, List.length_take]; rfl)) ?_; (with_reducible refine (payofflaw05_sameNames.calls k _ _ l0_0 _ _ l1_0 true _ ?side1 ?side2 ?side3 ?side4 A3.out).mono ?_); (case side1 => repeat (first | exact (Kd.C_below HR0_0.out HB.out) | (with_reducible refine Kd.C_alloc ?_ _) | (with_reducible refine Kd.C_drewN ?_ _) | (with_reducible refine Kd.C_drew ?_))); (case side2 => exact HC0_0.out); (case side3 => repeat (first | exact (Kd.C_below HR1_0.out HB.out) | (with_reducible refine Kd.C_alloc ?_ _) | (with_reducible refine Kd.C_drewN ?_ _) | (with_reducible refine Kd.C_drew ?_))); (case side4 => exact HC1_0.out); rintro e w' ⟨rfl, ⟨nd, rfl⟩⟩; refine ⟨_, rfl, ?_⟩) | (go_at_call 45; (with_reducible refine (payofflaw05_sameRows.calls k _ _ l0_1 _ _ l1_1 t274 _ ?side1 ?side2 ?side3 ?side4 A5.out).mono ?_); (case side1 => repeat (first | exact (Kd.C_below HR0_1.out (by repeat (first | (with_reducible first | exact HB.out | apply yE | apply yF | apply yD | refine yJ ?_ GE271.out | refine yJ ?_ GE272.out) | exact HB.out))) | (with_reducible refine Kd.C_alloc ?_ _) | (with_reducible refine Kd.C_drewN ?_ _) | (with_reducible refine Kd.C_drew ?_))); (case side2 => exact HC0_1.out); (case side3 => repeat (first | exact (Kd.C_below HR1_1.out (by repeat (first | (with_reducible first | exact HB.out | apply yE | apply yF | apply yD | refine yJ ?_ GE271.out | refine yJ ?_ GE272.out) | exact HB.out))) | (with_reducible refine Kd.C_alloc ?_ _) | (with_reducible refine Kd.C_drewN ?_ _) | (with_reducible refine Kd.C_drew ?_))); (case side4 => exact HC1_1.out); rintro e w' ⟨rfl, ⟨nd, rfl⟩⟩))
  go_ret
  exact ⟨by first | rfl | (simp [errW_none, errW_some] <;> rfl) | (simp [*, errW_none, errW_some] <;> rfl), by repeat (first | (with_reducible first | exact HB.out | apply yE | apply yF | apply yD | refine yJ ?_ GE271.out | refine yJ ?_ GE272.out) | exact HB.out)⟩
 ·replace c4 := Bool.eq_false_iff.mpr c4
  subst c4
  have H1 : (some false) = some r := by rw [if_neg (show ¬ (false = true) by decide)] at H; exact H
  clear H
  have H := H1
  clear H1
  obtain rfl := Option.some.inj H
  go_enter Tryd.func27, Tryd.ntmps27
  go_wp2_with (first | ((with_reducible refine yP (N := 2) rfl ?_); refine yQ ?hg (N := 2) ?hd (cs := #[.slice A0_0 l0_0.length c0_0, .slice A0_1 l0_1.length c0_1]) (t := 25) ?hr ?_; (case hd => rfl); (case hg => rfl); (case hr => first | (go_simp; done) | (go_simp; rfl)); intro gb271 hg w11 hbox hb; have n0_ := yA (yB (by repeat (first | (with_reducible first | exact HB.out | apply yE | apply yF | apply yD) | exact HB.out)) hb); have n1_ := yA (hbox); have n2_ := yA ((by rw [hg]; exact (below_size (by repeat (first | (with_reducible first | exact HB.out | apply yE | apply yF | apply yD) | exact HB.out))) : w.heap.size ≤ gb271)); have n3_ := yA ((by rw [hg]; exact (below_size (by repeat (first | (with_reducible first | exact HB.out | apply yE | apply yF | apply yD) | exact HB.out))) : w.heap.size ≤ gb271)); clear HB; have HB := n0_; have BK271 := n1_; have GW271 := n2_; have GE271 := n3_; clear n0_ n1_ n2_ n3_; clear hb hbox hg) | ((with_reducible refine yP (N := 3) rfl ?_); refine yQ ?hg (N := 3) ?hd (cs := #[.slice A1_0 l1_0.length c1_0, .slice A1_1 l1_1.length c1_1]) (t := 25) ?hr ?_; (case hd => rfl); (case hg => rfl); (case hr => first | (go_simp; done) | (go_simp; rfl)); intro gb272 hg w12 hbox hb; have n0_ := yA (yC (g := gb271) (o := .cells #[.slice A0_0 l0_0.length c0_0, .slice A0_1 l0_1.length c0_1] 25 (0, 0)) (by first | exact BK271.out | exact yI BK271.out _) hb); have n1_ := yA (yB (by repeat (first | (with_reducible first | exact HB.out | apply yE | apply yF | apply yD | refine yJ ?_ GE271.out) | exact HB.out)) hb); have n2_ := yA (hbox); have n3_ := yA ((by rw [hg]; exact (below_size (by repeat (first | (with_reducible first | exact HB.out | apply yE | apply yF | apply yD | refine yJ ?_ GE271.out) | exact HB.out))) : w.heap.size ≤ gb272)); have n4_ := yA ((by rw [hg]; exact (below_size (by repeat (first | (with_reducible first | exact HB.out | apply yE | apply yF | apply yD | refine yJ ?_ GE271.out) | exact HB.out))) : w.heap.size ≤ gb272)); have n5_ := yA ((by rw [hg]; exact Nat.ne_of_lt (blk_lt (g := gb271) (o := .cells #[.slice A0_0 l0_0.length c0_0, .slice A0_1 l0_1.length c0_1] 25 (0, 0)) (by first | exact BK271.out | exact yI BK271.out _)) : gb271 ≠ gb272)); have n6_ := yA ((by rw [hg]; exact Nat.ne_of_gt (blk_lt (g := gb271) (o := .cells #[.slice A0_0 l0_0.length c0_0, .slice A0_1 l0_1.length c0_1] 25 (0, 0)) (by first | exact BK271.out | exact yI BK271.out _)) : gb272 ≠ gb271)); clear BK271; clear HB; have BK271 := n0_; have HB := n1_; have BK272 := n2_; have GW272 := n3_; have GE272 := n4_; have NB271_272 := n5_; have NB272_271 := n6_; clear n0_ n1_ n2_ n3_ n4_ n5_ n6_; clear hb hbox hg; have hnb13 := NB271_272.out; have hnc13 := NB272_271.out; have hcz14_0 : w12.cell? ⟨gb271, 0, none⟩ = some (.slice A0_0 l0_0.length c0_0) := (yR BK271.out 0).trans rfl; have hcz14_1 : w12.cell? ⟨gb271, 1, none⟩ = some (.slice A0_1 l0_1.length c0_1) := (yR BK271.out 1).trans rfl; have hfz14_0 := yS BK271.out 0; have hfz14_1 := yS BK271.out 1; have hcz15_0 : w12.cell? ⟨gb272, 0, none⟩ = some (.slice A1_0 l1_0.length c1_0) := (yR BK272.out 0).trans rfl; have hcz15_1 : w12.cell? ⟨gb272, 1, none⟩ = some (.slice A1_1 l1_1.length c1_1) := (yR BK272.out 1).trans rfl; have hfz15_0 := yS BK272.out 0; have hfz15_1 := yS BK272.out 1) | ((with_reducible refine yO (f := 66) rfl ?_); refine goesL_ (some 9) rfl rfl Tryd.func66 (by kernel_rfl) rfl #[.slice A0_0 l0_0.length c0_0, .slice A1_0 l1_0.length c1_0] rfl (by (try simp only [List.map_toArray, List.map_cons, List.map_nil]); first | done | rfl | (simp only [List.length_drop, List.length_take]; rfl)) ?_; (with_reducible refine (payofflaw05_sameNames.calls k _ _ l0_0 _ _ l1_0 false _ ?side1 ?side2 ?side3 ?side4 A3.out).mono ?_); (case side1 => repeat (first | exact (Kd.C_below HR0_0.out HB.out) | (with_reducible refine Kd.C_alloc ?_ _) | (with_reducible refine Kd.C_drewN ?_ _) | (with_reducible refine Kd.C_drew ?_))); (case side2 => exact HC0_0.out); (case side3 => repeat (first | exact (Kd.C_below HR1_0.out HB.out) | (with_reducible refine Kd.C_alloc ?_ _) | (with_reducible refine Kd.C_drewN ?_ _) | (with_reducible refine Kd.C_drew ?_))); (case side4 => exact HC1_0.out); rintro e w' ⟨rfl, ⟨nd, rfl⟩⟩; refine ⟨_, rfl, ?_⟩))
  go_ret
  exact ⟨by first | rfl | (simp [errW_none, errW_some] <;> rfl) | (simp [*, errW_none, errW_some] <;> rfl), by repeat (first | (with_reducible first | exact HB.out | apply yE | apply yF | apply yD | refine yJ ?_ GE271.out | refine yJ ?_ GE272.out) | exact HB.out)⟩
noncomputable def payofflaw05_back.j0 : Nat → ByteArray → Bool → List ByteArray → List (List (S52)) → Option (Bool)
 | 0, _, _, _, _ => none
 | k + 1, x3, x26, x276000, x276001 => if x26 = true then (none) else ((ok_Parse.f k x3).bind fun bt284 => (if bt284.2.2.2 = 0 then (if bt284.2.2.1 = 0 then ((payofflaw05_same.f k bt284.1 bt284.2.1 x276000 x276001).bind fun t293 => (if t293 = true then ((table_Valid.f k bt284.1 bt284.2.1).bind fun t294 => (if t294 = 0 then ((table_Print.f bt284.1 bt284.2.1).bind fun bt295 => (if bt295.2 = 0 then (some (bt295.1.toList == x3.toList)) else (none))) else (none))) else (none))) else (none)) else (none)))
noncomputable def payofflaw05_back.f (k : Nat) (l0_0 : List ByteArray) (l0_1 : List (List (S52))) : Option (Bool) := (payofflaw05_ownR.f l0_0 l0_1).bind fun bt276 => ((table_Print.f bt276.1 bt276.2).bind fun bt282 => (if bt282.2 = 0 then (if bt282.1.toList = ([] : List UInt8) then (payofflaw05_back.j0 k bt282.1 true l0_0 l0_1) else (payofflaw05_back.j0 k bt282.1 (decide ((bt282.1.size : Int) > 1048576)) l0_0 l0_1)) else (payofflaw05_back.j0 k bt282.1 true l0_0 l0_1)))
set_option maxHeartbeats 8000000 in
set_option maxRecDepth 100000 in
theorem payofflaw05_back.calls (k : Nat) (A0_0 : Option Addr) (c0_0 : Nat) (l0_0 : List ByteArray) (A0_1 : Option Addr) (c0_1 : Nat) (l0_1 : List (List (S52))) (r : Bool) (w : World) (hr0_0 : Kd.C Kd.string w A0_0 l0_0.length l0_0) (hc0_0 : l0_0.length ≤ c0_0) (hr0_1 : Kd.C (Kd.slice 52 k52) w A0_1 l0_1.length l0_1) (hc0_1 : l0_1.length ≤ c0_1) (h : payofflaw05_back.f k l0_0 l0_1 = some r) (hG : Pure.GB w) :
  Calls Tryd.prog 31 #[.agg #[.slice A0_0 l0_0.length c0_0, .slice A0_1 l0_1.length c0_1]] w fun e w' => e = .returned (.bool r) ∧ Below w.heap.size w w' := by
 have HG := yA hG
 clear hG
 have hu25 := Tryd.underlying25
 have HR0_0 := yA hr0_0
 have HC0_0 := yA hc0_0
 clear hr0_0 hc0_0
 have HR0_1 := yA hr0_1
 have HC0_1 := yA hc0_1
 clear hr0_1 hc0_1
 have HB := yA (Below.refl w.heap.size w)
 have H : ((payofflaw05_ownR.f l0_0 l0_1).bind fun bt276 => ((table_Print.f bt276.1 bt276.2).bind fun bt282 => (if bt282.2 = 0 then (if bt282.1.toList = ([] : List UInt8) then (payofflaw05_back.j0 k bt282.1 true l0_0 l0_1) else (payofflaw05_back.j0 k bt282.1 (decide ((bt282.1.size : Int) > 1048576)) l0_0 l0_1)) else (payofflaw05_back.j0 k bt282.1 true l0_0 l0_1)))) = some r := h
 clear h
 replace H := Option.bind_eq_some_iff.mp H
 obtain ⟨⟨t276, t279⟩, A20, H⟩ := H
 replace H : ((table_Print.f t276 t279).bind fun bt282 => (if bt282.2 = 0 then (if bt282.1.toList = ([] : List UInt8) then (payofflaw05_back.j0 k bt282.1 true l0_0 l0_1) else (payofflaw05_back.j0 k bt282.1 (decide ((bt282.1.size : Int) > 1048576)) l0_0 l0_1)) else (payofflaw05_back.j0 k bt282.1 true l0_0 l0_1))) = some r := H
 have A2 := yA A20
 clear A20
 replace H := Option.bind_eq_some_iff.mp H
 obtain ⟨⟨t282, t283⟩, A30, H⟩ := H
 replace H : (if t283 = 0 then (if t282.toList = ([] : List UInt8) then (payofflaw05_back.j0 k t282 true l0_0 l0_1) else (payofflaw05_back.j0 k t282 (decide ((t282.size : Int) > 1048576)) l0_0 l0_1)) else (payofflaw05_back.j0 k t282 true l0_0 l0_1)) = some r := H
 have A3 := yA A30
 clear A30
 have HC4 := yA H
 clear H
 go_enter Tryd.func31, Tryd.ntmps31
 go_upto_region 2 with (first | ((with_reducible refine yP (N := 1) rfl ?_); (try (refine gate_guard (by rfl) ?_; dsimp only)); refine yQ ?hg (N := 1) ?hd (cs := #[.slice A0_0 l0_0.length c0_0, .slice A0_1 l0_1.length c0_1]) (t := 25) ?hr ?_; (case hd => rfl); (case hg => rfl); (case hr => first | (go_simp; done) | (go_simp; rfl)); intro gb275 hg w5 hbox hb; have n0_ := yA (yB (by repeat (first | (with_reducible first | exact HB.out | apply yE | apply yF | apply yD) | exact HB.out)) hb); have n1_ := yA (hbox); have n2_ := yA ((by rw [hg]; exact (below_size (by repeat (first | (with_reducible first | exact HB.out | apply yE | apply yF | apply yD) | exact HB.out))) : w.heap.size ≤ gb275)); have n3_ := yA ((by rw [hg]; exact (below_size (by repeat (first | (with_reducible first | exact HB.out | apply yE | apply yF | apply yD) | exact HB.out))) : w.heap.size ≤ gb275)); clear HB; have HB := n0_; have BK275 := n1_; have GW275 := n2_; have GE275 := n3_; clear n0_ n1_ n2_ n3_; clear hb hbox hg; have hcz6_0 : w5.cell? ⟨gb275, 0, none⟩ = some (.slice A0_0 l0_0.length c0_0) := (yR BK275.out 0).trans rfl; have hcz6_1 : w5.cell? ⟨gb275, 1, none⟩ = some (.slice A0_1 l0_1.length c0_1) := (yR BK275.out 1).trans rfl; have hfz6_0 := yS BK275.out 0; have hfz6_1 := yS BK275.out 1) | ((with_reducible refine yO (f := 16) rfl ?_); refine goesL_ (some 12) rfl rfl Tryd.func16 (by kernel_rfl) rfl #[.agg #[.slice A0_0 l0_0.length c0_0, .slice A0_1 l0_1.length c0_1]] rfl (by (try simp only [List.map_toArray, List.map_cons, List.map_nil]); first | done | rfl | (simp only [List.length_drop, List.length_take]; rfl)) ?_; (with_reducible refine (payofflaw05_ownR.calls _ _ l0_0 _ _ l0_1 t276 t279 _ ?side1 ?side2 ?side3 ?side4 A2.out (Pure.GB.below HG.out (by repeat (first | (with_reducible first | exact HB.out | apply yE | apply yF | apply yD | (refine yJ ?_ (by first | exact GE275.out | exact GE292.out)) ) | exact HB.out))).beh).mono ?_); (case side1 => repeat (first | exact (Kd.C_below HR0_0.out HB.out) | (with_reducible refine Kd.C_alloc ?_ _) | (with_reducible refine Kd.C_drewN ?_ _) | (with_reducible refine Kd.C_drew ?_))); (case side2 => exact HC0_0.out); (case side3 => repeat (first | exact (Kd.C_below HR0_1.out HB.out) | (with_reducible refine Kd.C_alloc ?_ _) | (with_reducible refine Kd.C_drewN ?_ _) | (with_reducible refine Kd.C_drew ?_))); (case side4 => exact HC0_1.out); rintro e w7 ⟨v277, v280, rfl, ho0, ho1, hb⟩; refine ⟨_, rfl, ?_⟩; have n0_ := yA (ho0); have n1_ := yA (ho1); have n2_ := yA (yC (g := gb275) (o := .cells #[.slice A0_0 l0_0.length c0_0, .slice A0_1 l0_1.length c0_1] 25 (0, 0)) (by first | exact BK275.out | exact yI BK275.out _) hb); have n3_ := yA (yB (by repeat (first | (with_reducible first | exact HB.out | apply yE | apply yF | apply yD | refine yJ ?_ GE275.out) | exact HB.out)) hb); clear BK275; clear HB; have HO278 := n0_; have HO281 := n1_; have BK275 := n2_; have HB := n3_; clear n0_ n1_ n2_ n3_; (try clear hb); (try clear hb2); (try clear hk); (try clear hi); (try clear ho0); (try clear ho1); obtain ⟨Ao8, co8, eo8⟩ := Rd_slice HO278.out; subst eo8; obtain ⟨Ao9, co9, eo9⟩ := Rd_slice HO281.out; subst eo9) | ((with_reducible refine yO (f := 23) rfl ?_); refine goesL_ (some 13) rfl rfl Tryd.func23 (by kernel_rfl) rfl #[.agg #[.slice Ao8 t276.length co8, .slice Ao9 t279.length co9]] rfl (by (try simp only [List.map_toArray, List.map_cons, List.map_nil]); first | done | rfl | (simp only [List.length_drop, List.length_take]; rfl)) ?_; (with_reducible refine (table_Print.calls _ _ t276 _ _ t279 t282 t283 _ ?side1 ?side2 ?side3 ?side4 A3.out (Pure.GB.below HG.out (by repeat (first | (with_reducible first | exact HB.out | apply yE | apply yF | apply yD | (refine yJ ?_ (by first | exact GE275.out | exact GE292.out)) ) | exact HB.out))).gr.gp).mono ?_); (case side1 => repeat (first | exact (Rd_reads HO278.out).2.2 | (with_reducible refine Kd.C_alloc ?_ _) | (with_reducible refine Kd.C_drewN ?_ _) | (with_reducible refine Kd.C_drew ?_))); (case side2 => exact (Rd_reads HO278.out).2.1); (case side3 => repeat (first | exact (Rd_reads HO281.out).2.2 | (with_reducible refine Kd.C_alloc ?_ _) | (with_reducible refine Kd.C_drewN ?_ _) | (with_reducible refine Kd.C_drew ?_))); (case side4 => exact (Rd_reads HO281.out).2.1); rintro e w10 ⟨rfl, hb⟩; refine ⟨_, rfl, ?_⟩; have n0_ := yA (Rd_below (by (with_reducible repeat (first | apply Rd_alloc | apply Rd_drewN | apply Rd_drew)); exact HO278.out) hb); have n1_ := yA (Rd_below (by (with_reducible repeat (first | apply Rd_alloc | apply Rd_drewN | apply Rd_drew)); exact HO281.out) hb); have n2_ := yA (yC (g := gb275) (o := .cells #[.slice A0_0 l0_0.length c0_0, .slice A0_1 l0_1.length c0_1] 25 (0, 0)) (by first | exact BK275.out | exact yI BK275.out _) hb); have n3_ := yA (yB (by repeat (first | (with_reducible first | exact HB.out | apply yE | apply yF | apply yD | refine yJ ?_ GE275.out) | exact HB.out)) hb); clear HO278; clear HO281; clear BK275; clear HB; have HO278 := n0_; have HO281 := n1_; have BK275 := n2_; have HB := n3_; clear n0_ n1_ n2_ n3_; (try clear hb); (try clear hb2); (try clear hk); (try clear hi)))
 (try simp only [Act.put, lA, lB, lC])
 go_cut [26] (fun v26 wc => ∃ (kq : Nat) (x26_3 : Bool), v26 = .bool x26_3 ∧ Aside0 (payofflaw05_back.j0 kq t282 x26_3 l0_0 l0_1 = some r) ∧ Aside0 (kq ≤ k) ∧ Aside0 (wc.heap[gb275]? = some (.cells #[(.slice A0_0 l0_0.length c0_0), (.slice A0_1 l0_1.length c0_1)] 25 (0, 0))) ∧ Aside0 (Below w.heap.size w wc))
 case first =>
  have H := HC4.out
  clear HC4
  by_cases c11 : t283 = 0
  ·rw [if_pos c11] at H
   have c11b0 : (t283 == 0) = true := beq_iff_eq.mpr c11
   have c11b1 : (t283 != 0) = false := bne_eq_false_iff_eq.mpr c11
   clear c11
   (first | rw [c11b0] | (simp only [i64_w, i32_w]; rw [c11b0]) | skip)
   by_cases c12 : t282.toList = ([] : List UInt8)
   ·rw [if_pos c12] at H
    have c12b0 : (t282.toList == ([] : List UInt8)) = true := beq_iff_eq.mpr c12
    have c12b1 : (t282.toList != ([] : List UInt8)) = false := bne_eq_false_iff_eq.mpr c12
    clear c12
    have H' := yA H
    clear H
    go_wp2
    go_meet
    case rel => exact ⟨_, (true), (by first | rfl | (simp; done) | (simp [*]; done)), H', ⟨by first | omega | exact Nat.le_refl _⟩, ⟨by (with_reducible repeat (first | refine yG ?_ _ | refine yH ?_ | refine yI ?_ _)); exact BK275.out⟩, ⟨by repeat (first | (with_reducible first | exact HB.out | apply yE | apply yF | apply yD | refine yJ ?_ GE275.out) | exact HB.out)⟩⟩
   ·rw [if_neg c12] at H
    have c12b0 : (t282.toList == ([] : List UInt8)) = false := beq_eq_false_iff_ne.mpr c12
    have c12b1 : (t282.toList != ([] : List UInt8)) = true := bne_iff_ne.mpr c12
    have H' := yA H
    clear H
    go_wp2
    go_meet
    case rel => exact ⟨_, (decide ((t282.size : Int) > 1048576)), (by first | rfl | (simp; done) | (simp [*]; done)), H', ⟨by first | omega | exact Nat.le_refl _⟩, ⟨by (with_reducible repeat (first | refine yG ?_ _ | refine yH ?_ | refine yI ?_ _)); exact BK275.out⟩, ⟨by repeat (first | (with_reducible first | exact HB.out | apply yE | apply yF | apply yD | refine yJ ?_ GE275.out) | exact HB.out)⟩⟩
  ·rw [if_neg c11] at H
   have c11b0 : (t283 == 0) = false := beq_eq_false_iff_ne.mpr c11
   have c11b1 : (t283 != 0) = true := bne_iff_ne.mpr c11
   (first | rw [c11b0] | (simp only [i64_w, i32_w]; rw [c11b0]) | skip)
   have H' := yA H
   clear H
   go_wp2
   go_meet
   case rel => exact ⟨_, (true), (by first | rfl | (simp; done) | (simp [*]; done)), H', ⟨by first | omega | exact Nat.le_refl _⟩, ⟨by (with_reducible repeat (first | refine yG ?_ _ | refine yH ?_ | refine yI ?_ _)); exact BK275.out⟩, ⟨by repeat (first | (with_reducible first | exact HB.out | apply yE | apply yF | apply yD | refine yJ ?_ GE275.out) | exact HB.out)⟩⟩
 case rest =>
  clear HC4; try clear c1; try clear c2; try clear p2; try clear c3; try clear c11; try clear c11b0; try clear c11b1; try clear c12; try clear c12b0; try clear c12b1; try clear hcz6_0; try clear hcz6_1; try clear hfz6_0; try clear hfz6_1
  obtain ⟨kq, x26_3, rfl, HA, HJ3, BK275, HB⟩ := hcut
  cases kq with
  | zero => exact absurd HA.out (by simp [payofflaw05_back.j0])
  | succ kj3 =>
   have H := HA.out
   clear HA
   simp only [payofflaw05_back.j0] at H
   by_cases c13 : x26_3 = true
   ·subst c13
    have H1 : (none) = some r := by rw [if_pos rfl] at H; exact H
    clear H
    have H := H1
    clear H1
    exact absurd H (by simp)
   ·replace c13 := Bool.eq_false_iff.mpr c13
    subst c13
    have H1 : ((ok_Parse.f kj3 t282).bind fun bt284 => (if bt284.2.2.2 = 0 then (if bt284.2.2.1 = 0 then ((payofflaw05_same.f kj3 bt284.1 bt284.2.1 l0_0 l0_1).bind fun t293 => (if t293 = true then ((table_Valid.f kj3 bt284.1 bt284.2.1).bind fun t294 => (if t294 = 0 then ((table_Print.f bt284.1 bt284.2.1).bind fun bt295 => (if bt295.2 = 0 then (some (bt295.1.toList == t282.toList)) else (none))) else (none))) else (none))) else (none)) else (none))) = some r := by rw [if_neg (show ¬ (false = true) by decide)] at H; exact H
    clear H
    have H := H1
    clear H1
    replace H := Option.bind_eq_some_iff.mp H
    obtain ⟨⟨t284, t287, t290, t291⟩, A140, H⟩ := H
    replace H : (if t291 = 0 then (if t290 = 0 then ((payofflaw05_same.f kj3 t284 t287 l0_0 l0_1).bind fun t293 => (if t293 = true then ((table_Valid.f kj3 t284 t287).bind fun t294 => (if t294 = 0 then ((table_Print.f t284 t287).bind fun bt295 => (if bt295.2 = 0 then (some (bt295.1.toList == t282.toList)) else (none))) else (none))) else (none))) else (none)) else (none)) = some r := H
    have A14 := yA A140
    clear A140
    by_cases c15 : t291 = 0
    ·rw [if_pos c15] at H
     have c15b0 : (t291 == 0) = true := beq_iff_eq.mpr c15
     have c15b1 : (t291 != 0) = false := bne_eq_false_iff_eq.mpr c15
     clear c15
     by_cases c16 : t290 = 0
     ·rw [if_pos c16] at H
      have c16b0 : (t290 == 0) = true := beq_iff_eq.mpr c16
      have c16b1 : (t290 != 0) = false := bne_eq_false_iff_eq.mpr c16
      clear c16
      replace H := Option.bind_eq_some_iff.mp H
      obtain ⟨t293, A170, H⟩ := H
      replace H : (if t293 = true then ((table_Valid.f kj3 t284 t287).bind fun t294 => (if t294 = 0 then ((table_Print.f t284 t287).bind fun bt295 => (if bt295.2 = 0 then (some (bt295.1.toList == t282.toList)) else (none))) else (none))) else (none)) = some r := H
      have A17 := yA A170
      clear A170
      by_cases c18 : t293 = true
      ·subst c18
       have H1 : ((table_Valid.f kj3 t284 t287).bind fun t294 => (if t294 = 0 then ((table_Print.f t284 t287).bind fun bt295 => (if bt295.2 = 0 then (some (bt295.1.toList == t282.toList)) else (none))) else (none))) = some r := by rw [if_pos rfl] at H; exact H
       clear H
       have H := H1
       clear H1
       replace H := Option.bind_eq_some_iff.mp H
       obtain ⟨t294, A190, H⟩ := H
       replace H : (if t294 = 0 then ((table_Print.f t284 t287).bind fun bt295 => (if bt295.2 = 0 then (some (bt295.1.toList == t282.toList)) else (none))) else (none)) = some r := H
       have A19 := yA A190
       clear A190
       by_cases c20 : t294 = 0
       ·rw [if_pos c20] at H
        have c20b0 : (t294 == 0) = true := beq_iff_eq.mpr c20
        have c20b1 : (t294 != 0) = false := bne_eq_false_iff_eq.mpr c20
        clear c20
        replace H := Option.bind_eq_some_iff.mp H
        obtain ⟨⟨t295, t296⟩, A210, H⟩ := H
        replace H : (if t296 = 0 then (some (t295.toList == t282.toList)) else (none)) = some r := H
        have A21 := yA A210
        clear A210
        by_cases c22 : t296 = 0
        ·rw [if_pos c22] at H
         have c22b0 : (t296 == 0) = true := beq_iff_eq.mpr c22
         have c22b1 : (t296 != 0) = false := bne_eq_false_iff_eq.mpr c22
         clear c22
         obtain rfl := Option.some.inj H
         go_wp2_with (first | ((with_reducible refine yO (f := 26) rfl ?_); refine goesL_ (some 29) rfl rfl Tryd.func26 (by kernel_rfl) rfl #[.string t282] rfl (by (try simp only [List.map_toArray, List.map_cons, List.map_nil]); first | done | rfl | (simp only [List.length_drop, List.length_take]; rfl)) ?_; (with_reducible refine (ok_Parse.calls kj3 t282 t284 t287 t290 t291 _ A14.out (Pure.GB.below HG.out (by repeat (first | (with_reducible first | exact HB.out | apply yE | apply yF | apply yD | (refine yJ ?_ (by first | exact GE275.out | exact GE292.out)) ) | exact HB.out))).gr).mono ?_); rintro e w23 ⟨v285, v288, rfl, ho0, ho1, hb⟩; refine ⟨_, rfl, ?_⟩; have n0_ := yA (Kd.R_lower ho0 (below_size (by repeat (first | (with_reducible first | exact HB.out | apply yE | apply yF | apply yD | refine yJ ?_ GE275.out) | exact HB.out)))); have n1_ := yA (Kd.S_lower ho1 (below_size (by repeat (first | (with_reducible first | exact HB.out | apply yE | apply yF | apply yD | refine yJ ?_ GE275.out) | exact HB.out)))); have n2_ := yA (yC (g := gb275) (o := .cells #[.slice A0_0 l0_0.length c0_0, .slice A0_1 l0_1.length c0_1] 25 (0, 0)) (by first | exact BK275.out | exact yI BK275.out _) hb); have n3_ := yA (yB (by repeat (first | (with_reducible first | exact HB.out | apply yE | apply yF | apply yD | refine yJ ?_ GE275.out) | exact HB.out)) hb); clear BK275; clear HB; have HO286 := n0_; have HO289 := n1_; have BK275 := n2_; have HB := n3_; clear n0_ n1_ n2_ n3_; (try clear hb); (try clear hb2); (try clear hk); (try clear hi); (try clear ho0); (try clear ho1)) | ((with_reducible refine yP (N := 5) rfl ?_); (try (refine gate_guard (by rfl) ?_; dsimp only)); refine yQ ?hg (N := 5) ?hd (cs := #[.slice none 0 0, .slice none 0 0]) (t := 25) ?hr ?_; (case hd => rfl); (case hg => rfl); (case hr => first | (go_simp; done) | (go_simp; rfl)); intro gb292 hg w24 hbox hb; have n0_ := yA (Kd.R_below (by first | exact HO286.out | exact Kd.R_drew HO286.out | exact Kd.R_alloc HO286.out _) hb); have n1_ := yA (Kd.S_below (by first | exact HO289.out | exact Kd.S_drew HO289.out | exact Kd.S_alloc HO289.out _) hb); have n2_ := yA (yC (g := gb275) (o := .cells #[.slice A0_0 l0_0.length c0_0, .slice A0_1 l0_1.length c0_1] 25 (0, 0)) (by first | exact BK275.out | exact yI BK275.out _) hb); have n3_ := yA (yB (by repeat (first | (with_reducible first | exact HB.out | apply yE | apply yF | apply yD | refine yJ ?_ GE275.out) | exact HB.out)) hb); have n4_ := yA (hbox); have n5_ := yA ((by rw [hg]; exact (below_size (by repeat (first | (with_reducible first | exact HB.out | apply yE | apply yF | apply yD | refine yJ ?_ GE275.out) | exact HB.out))) : w.heap.size ≤ gb292)); have n6_ := yA ((by rw [hg]; exact (below_size (by repeat (first | (with_reducible first | exact HB.out | apply yE | apply yF | apply yD | refine yJ ?_ GE275.out) | exact HB.out))) : w.heap.size ≤ gb292)); have n7_ := yA ((by rw [hg]; exact Nat.ne_of_lt (blk_lt (g := gb275) (o := .cells #[.slice A0_0 l0_0.length c0_0, .slice A0_1 l0_1.length c0_1] 25 (0, 0)) (by first | exact BK275.out | exact yI BK275.out _)) : gb275 ≠ gb292)); have n8_ := yA ((by rw [hg]; exact Nat.ne_of_gt (blk_lt (g := gb275) (o := .cells #[.slice A0_0 l0_0.length c0_0, .slice A0_1 l0_1.length c0_1] 25 (0, 0)) (by first | exact BK275.out | exact yI BK275.out _)) : gb292 ≠ gb275)); clear HO286; clear HO289; clear BK275; clear HB; have HO286 := n0_; have HO289 := n1_; have BK275 := n2_; have HB := n3_; have BK292 := n4_; have GW292 := n5_; have GE292 := n6_; have NB275_292 := n7_; have NB292_275 := n8_; clear n0_ n1_ n2_ n3_ n4_ n5_ n6_ n7_ n8_; clear hb hbox hg; obtain ⟨Ao25, co25, eo25⟩ := Kd.R_slice HO286.out; subst eo25; have hnb26 := NB292_275.out; have hnc26 := NB275_292.out; have hcz27_0 : w24.cell? ⟨gb292, 0, none⟩ = some (.slice none 0 0) := (yR BK292.out 0).trans rfl; have hcz27_1 : w24.cell? ⟨gb292, 1, none⟩ = some (.slice none 0 0) := (yR BK292.out 1).trans rfl; have hfz27_0 := yS BK292.out 0; have hfz27_1 := yS BK292.out 1; obtain ⟨Ao28, co28, eo28⟩ := Kd.S_slice HO289.out; subst eo28; have hcz29_0 : w24.cell? ⟨gb275, 0, none⟩ = some (.slice A0_0 l0_0.length c0_0) := (yR BK275.out 0).trans rfl; have hcz29_1 : w24.cell? ⟨gb275, 1, none⟩ = some (.slice A0_1 l0_1.length c0_1) := (yR BK275.out 1).trans rfl; have hfz29_0 := yS BK275.out 0; have hfz29_1 := yS BK275.out 1) | (go_at_call 27; (with_reducible refine (payofflaw05_same.calls kj3 _ _ t284 _ _ t287 _ _ l0_0 _ _ l0_1 true _ ?side1 ?side2 ?side3 ?side4 ?side5 ?side6 ?side7 ?side8 A17.out).mono ?_); (case side1 => refine (Kd.R_reads' (e := 9) (base := w.heap.size) (ok := fun k_ => True) (n := t284.length) (c := co25) ?_).2.2; exact (by (with_reducible repeat (first | apply Kd.R_alloc | apply Kd.R_drewN | apply Kd.R_drew)); exact (Kd.R_mono (Kd.R_far (p := ⟨gb292, 1, none⟩) (Kd.R_far (p := ⟨gb292, 0, none⟩) (Kd.R_types HO286.out BK292.out (by decide)) (fun _ hk => hk.2) (.slice Ao25 t284.length co25)) (fun _ hk => hk.2) (.slice Ao28 t287.length co28)) (fun _ h_ => h_.1)))); (case side2 => exact (Kd.R_reads' HO286.out).2.1); (case side3 => refine (Kd.S_reads' (e := 54) (base := w.heap.size) (ok := fun k_ => True) (n := t287.length) (c := co28) ?_).2.2; exact (by (with_reducible repeat (first | apply Kd.S_alloc | apply Kd.S_drewN | apply Kd.S_drew)); exact (Kd.S_mono (Kd.S_far (p := ⟨gb292, 1, none⟩) (Kd.S_far (p := ⟨gb292, 0, none⟩) (Kd.S_types HO289.out BK292.out (by decide)) (fun _ hk => hk.2) (.slice Ao25 t284.length co25)) (fun _ hk => hk.2) (.slice Ao28 t287.length co28)) (fun _ h_ => h_.1)))); (case side4 => exact (Kd.S_reads' HO289.out).2.1); (case side5 => exact Kd.C_below HR0_0.out (by repeat (first | (with_reducible first | exact HB.out | apply yE | apply yF | apply yD | refine yJ ?_ GE275.out | refine yJ ?_ GE292.out) | exact HB.out))); (case side6 => exact HC0_0.out); (case side7 => exact Kd.C_below HR0_1.out (by repeat (first | (with_reducible first | exact HB.out | apply yE | apply yF | apply yD | refine yJ ?_ GE275.out | refine yJ ?_ GE292.out) | exact HB.out))); (case side8 => exact HC0_1.out); rintro e w30 ⟨rfl, hb⟩; have n0_ := yA (Kd.R_below (by (with_reducible repeat (first | apply Kd.R_alloc | apply Kd.R_drewN | apply Kd.R_drew)); exact (Kd.R_mono (Kd.R_far (p := ⟨gb292, 1, none⟩) (Kd.R_far (p := ⟨gb292, 0, none⟩) (Kd.R_types HO286.out BK292.out (by decide)) (fun _ hk => hk.2) (.slice Ao25 t284.length co25)) (fun _ hk => hk.2) (.slice Ao28 t287.length co28)) (fun _ h_ => h_.1))) hb); have n1_ := yA (Kd.S_below (by (with_reducible repeat (first | apply Kd.S_alloc | apply Kd.S_drewN | apply Kd.S_drew)); exact (Kd.S_mono (Kd.S_far (p := ⟨gb292, 1, none⟩) (Kd.S_far (p := ⟨gb292, 0, none⟩) (Kd.S_types HO289.out BK292.out (by decide)) (fun _ hk => hk.2) (.slice Ao25 t284.length co25)) (fun _ hk => hk.2) (.slice Ao28 t287.length co28)) (fun _ h_ => h_.1))) hb); have n2_ := yA (yC (g := gb275) (o := .cells #[.slice A0_0 l0_0.length c0_0, .slice A0_1 l0_1.length c0_1] 25 (0, 0)) (by (with_reducible repeat (first | refine yG ?_ _ | refine yH ?_ | refine yI ?_ _)); refine blk_far ?_ NB275_292.out _; (with_reducible repeat (first | refine yG ?_ _ | refine yH ?_ | refine yI ?_ _)); refine blk_far ?_ NB275_292.out _; (with_reducible repeat (first | refine yG ?_ _ | refine yH ?_ | refine yI ?_ _)); exact BK275.out) hb); have n3_ := yA (yC (g := gb292) (o := .cells #[.slice Ao25 t284.length co25, .slice Ao28 t287.length co28] 25 (0, 0)) (by (with_reducible repeat (first | refine yG ?_ _ | refine yH ?_ | refine yI ?_ _)); refine blk_put (cs := #[.slice Ao25 t284.length co25, .slice none 0 0]) ?_ 1 _ rfl; (with_reducible repeat (first | refine yG ?_ _ | refine yH ?_ | refine yI ?_ _)); refine blk_put (cs := #[.slice none 0 0, .slice none 0 0]) ?_ 0 _ rfl; (with_reducible repeat (first | refine yG ?_ _ | refine yH ?_ | refine yI ?_ _)); exact BK292.out) hb); have n4_ := yA (yB (by repeat (first | (with_reducible first | exact HB.out | apply yE | apply yF | apply yD | refine yJ ?_ GE275.out | refine yJ ?_ GE292.out) | exact HB.out)) hb); clear HO286; clear HO289; clear BK275; clear BK292; clear HB; have HO286 := n0_; have HO289 := n1_; have BK275 := n2_; have BK292 := n3_; have HB := n4_; clear n0_ n1_ n2_ n3_ n4_; (try clear hb); (try clear hb2); (try clear hk); (try clear hi); have hcz31_0 : w30.cell? ⟨gb292, 0, none⟩ = some (.slice Ao25 t284.length co25) := (yR BK292.out 0).trans rfl; have hcz31_1 : w30.cell? ⟨gb292, 1, none⟩ = some (.slice Ao28 t287.length co28) := (yR BK292.out 1).trans rfl; have hfz31_0 := yS BK292.out 0; have hfz31_1 := yS BK292.out 1) | (go_at_call 20; (with_reducible refine (table_Valid.calls kj3 _ _ t284 _ _ t287 t294 _ ?side1 ?side2 ?side3 ?side4 A19.out).mono ?_); (case side1 => repeat (first | exact (Kd.R_reads' HO286.out).2.2 | (with_reducible refine Kd.C_alloc ?_ _) | (with_reducible refine Kd.C_drewN ?_ _) | (with_reducible refine Kd.C_drew ?_))); (case side2 => exact (Kd.R_reads' HO286.out).2.1); (case side3 => repeat (first | exact (Kd.S_reads' HO289.out).2.2 | (with_reducible refine Kd.C_alloc ?_ _) | (with_reducible refine Kd.C_drewN ?_ _) | (with_reducible refine Kd.C_drew ?_))); (case side4 => exact (Kd.S_reads' HO289.out).2.1); rintro e w32 ⟨rfl, hb⟩; have n0_ := yA (Kd.R_below (by first | exact HO286.out | exact Kd.R_drew HO286.out | exact Kd.R_alloc HO286.out _) hb); have n1_ := yA (Kd.S_below (by first | exact HO289.out | exact Kd.S_drew HO289.out | exact Kd.S_alloc HO289.out _) hb); have n2_ := yA (yC (g := gb275) (o := .cells #[.slice A0_0 l0_0.length c0_0, .slice A0_1 l0_1.length c0_1] 25 (0, 0)) (by first | exact BK275.out | exact yI BK275.out _) hb); have n3_ := yA (yC (g := gb292) (o := .cells #[.slice Ao25 t284.length co25, .slice Ao28 t287.length co28] 25 (0, 0)) (by first | exact BK292.out | exact yI BK292.out _) hb); have n4_ := yA (yB (by repeat (first | (with_reducible first | exact HB.out | apply yE | apply yF | apply yD | refine yJ ?_ GE275.out | refine yJ ?_ GE292.out) | exact HB.out)) hb); clear HO286; clear HO289; clear BK275; clear BK292; clear HB; have HO286 := n0_; have HO289 := n1_; have BK275 := n2_; have BK292 := n3_; have HB := n4_; clear n0_ n1_ n2_ n3_ n4_; (try clear hb); (try clear hb2); (try clear hk); (try clear hi); have hcz33_0 : w32.cell? ⟨gb292, 0, none⟩ = some (.slice Ao25 t284.length co25) := (yR BK292.out 0).trans rfl; have hcz33_1 : w32.cell? ⟨gb292, 1, none⟩ = some (.slice Ao28 t287.length co28) := (yR BK292.out 1).trans rfl; have hfz33_0 := yS BK292.out 0; have hfz33_1 := yS BK292.out 1) | ((with_reducible refine yO (f := 23) rfl ?_); refine goesL_ (some 52) rfl rfl Tryd.func23 (by kernel_rfl) rfl #[.agg #[.slice Ao25 t284.length co25, .slice Ao28 t287.length co28]] rfl (by (try simp only [List.map_toArray, List.map_cons, List.map_nil]); first | done | rfl | (simp only [List.length_drop, List.length_take]; rfl)) ?_; (with_reducible refine (table_Print.calls _ _ t284 _ _ t287 t295 t296 _ ?side1 ?side2 ?side3 ?side4 A21.out (Pure.GB.below HG.out (by repeat (first | (with_reducible first | exact HB.out | apply yE | apply yF | apply yD | (refine yJ ?_ (by first | exact GE275.out | exact GE292.out)) ) | exact HB.out))).gr.gp).mono ?_); (case side1 => repeat (first | exact (Kd.R_reads' HO286.out).2.2 | (with_reducible refine Kd.C_alloc ?_ _) | (with_reducible refine Kd.C_drewN ?_ _) | (with_reducible refine Kd.C_drew ?_))); (case side2 => exact (Kd.R_reads' HO286.out).2.1); (case side3 => repeat (first | exact (Kd.S_reads' HO289.out).2.2 | (with_reducible refine Kd.C_alloc ?_ _) | (with_reducible refine Kd.C_drewN ?_ _) | (with_reducible refine Kd.C_drew ?_))); (case side4 => exact (Kd.S_reads' HO289.out).2.1); rintro e w34 ⟨rfl, hb⟩; refine ⟨_, rfl, ?_⟩; have n0_ := yA (Kd.R_below (by first | exact HO286.out | exact Kd.R_drew HO286.out | exact Kd.R_alloc HO286.out _) hb); have n1_ := yA (Kd.S_below (by first | exact HO289.out | exact Kd.S_drew HO289.out | exact Kd.S_alloc HO289.out _) hb); have n2_ := yA (yC (g := gb275) (o := .cells #[.slice A0_0 l0_0.length c0_0, .slice A0_1 l0_1.length c0_1] 25 (0, 0)) (by first | exact BK275.out | exact yI BK275.out _) hb); have n3_ := yA (yC (g := gb292) (o := .cells #[.slice Ao25 t284.length co25, .slice Ao28 t287.length co28] 25 (0, 0)) (by first | exact BK292.out | exact yI BK292.out _) hb); have n4_ := yA (yB (by repeat (first | (with_reducible first | exact HB.out | apply yE | apply yF | apply yD | refine yJ ?_ GE275.out | refine yJ ?_ GE292.out) | exact HB.out)) hb); clear HO286; clear HO289; clear BK275; clear BK292; clear HB; have HO286 := n0_; have HO289 := n1_; have BK275 := n2_; have BK292 := n3_; have HB := n4_; clear n0_ n1_ n2_ n3_ n4_; (try clear hb); (try clear hb2); (try clear hk); (try clear hi)))
         go_ret
         exact ⟨by first | rfl | (simp [errW_none, errW_some] <;> rfl) | (simp [*, errW_none, errW_some] <;> rfl), by repeat (first | (with_reducible first | exact HB.out | apply yE | apply yF | apply yD | refine yJ ?_ GE275.out | refine yJ ?_ GE292.out) | exact HB.out)⟩
        ·rw [if_neg c22] at H
         have c22b0 : (t296 == 0) = false := beq_eq_false_iff_ne.mpr c22
         have c22b1 : (t296 != 0) = true := bne_iff_ne.mpr c22
         exact absurd H (by simp)
       ·rw [if_neg c20] at H
        have c20b0 : (t294 == 0) = false := beq_eq_false_iff_ne.mpr c20
        have c20b1 : (t294 != 0) = true := bne_iff_ne.mpr c20
        exact absurd H (by simp)
      ·replace c18 := Bool.eq_false_iff.mpr c18
       subst c18
       have H1 : (none) = some r := by rw [if_neg (show ¬ (false = true) by decide)] at H; exact H
       clear H
       have H := H1
       clear H1
       exact absurd H (by simp)
     ·rw [if_neg c16] at H
      have c16b0 : (t290 == 0) = false := beq_eq_false_iff_ne.mpr c16
      have c16b1 : (t290 != 0) = true := bne_iff_ne.mpr c16
      exact absurd H (by simp)
    ·rw [if_neg c15] at H
     have c15b0 : (t291 == 0) = false := beq_eq_false_iff_ne.mpr c15
     have c15b1 : (t291 != 0) = true := bne_iff_ne.mpr c15
     exact absurd H (by simp)end Go.Proofs.YtppojbafagneeaaDoor.PTab
