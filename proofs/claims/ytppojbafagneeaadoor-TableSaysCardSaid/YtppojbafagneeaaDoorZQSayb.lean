/- Own text, for this claim: table.Bind, after the text that the kit's printer writes. -/
import Derived.Test.YtppojbafagneeaaDoorZQSay0
import Derived.Test.YtppojbafagneeaaDoorZQTabv
import Derived.Test.YtppojbafagneeaaDoorZTabVC
import Derived.WalkMore
import Derived.Deep.DeepMust
import Derived.Outline
import Derived.Deep.RegionWith
namespace Go.Proofs.YtppojbafagneeaaDoor.PTab
open Go.RowKit Go.Maps Go.WideMaps Go.Proofs.YtppojbafagneeaaDoorW.PrintWords Go.Proofs.YtppojbafagneeaaDoorW.PrintLast Go.Proofs.YtppojbafagneeaaDoorW.PrintMore
attribute [local go_sem] max2_int min2_int max_two min_two max_three min_three max_four min_four
set_option linter.unusedVariables false
set_option linter.unusedSimpArgs false
attribute [local go_sem high] eqA52
mutual
def table_Bind.l0 : Nat → List ByteArray → List (List (S52)) → Int → Int → List ByteArray → List (List (S52)) → Option ((List (List (S52))) × Int)
 | 0, _, _, _, _, _, _ => none
 | k + 1, x1, x8, x27, x28, x286000, x286001 => if x28 < x27 then (if 0 ≤ (x1.length : Int) then (if ((x1.length : Int) : Int).toNat ≤ 17592186044416 then (if 0 ≤ x28 then (if x28 < (x8.length : Int) then (table_Bind.l1 k x1 (x8.set (x28 : Int).toNat (List.replicate ((x1.length : Int) : Int).toNat z52)) x28 x27 x28 x1 (x1.length : Int) 0 x286000 x286001) else (none)) else (none)) else (none)) else (none)) else (some (x8, 0))
def table_Bind.l1 : Nat → List ByteArray → List (List (S52)) → Int → Int → Int → List ByteArray → Int → Int → List ByteArray → List (List (S52)) → Option ((List (List (S52))) × Int)
 | 0, _, _, _, _, _, _, _, _, _, _ => none
 | k + 1, x1, x8, x9, x27, x28, x37, x38, x39, x286000, x286001 => if x39 < x38 then (if 0 ≤ x39 then (if x39 < (x37.length : Int) then (if 0 ≤ x9 then (if x9 < (x8.length : Int) then ((table_view_cell.f x286000 x286001 (rdOf ByteArray.empty x37 x39) x9).bind fun bt294 => (if x39 < ((rd_L4 x8 x9).length : Int) then (table_Bind.l1 k x1 (x8.set (x9 : Int).toNat ((rd_L4 x8 x9).set (x39 : Int).toNat (⟨bt294.1, bt294.2⟩ : S52))) x9 x27 x28 x37 x38 (wrap64 (x39 + 1)) x286000 x286001) else (none))) else (none)) else (none)) else (none)) else (none)) else (table_Bind.l0 k x1 x8 x27 (wrap64 (x28 + 1)) x286000 x286001)
end
open Classical in
noncomputable def table_Bind.f (k : Nat) (l0_0 : List ByteArray) (l0_1 : List (List (S52))) (l1 : List ByteArray) : Option ((List (List (S52))) × Int) := if SmallN l0_0 then ((table_Valid.f k l0_0 l0_1).bind fun t282 => (if t282 = 0 then ((table_capitals.f k l1).bind fun t283 => (if t283 = true then (if 0 ≤ (l0_1.length : Int) then (if ((l0_1.length : Int) : Int).toNat ≤ 11728124029610 then ((some (List.replicate ((l0_1.length : Int) : Int).toNat [] : List (List (S52)))).bind fun y286 => (table_Bind.l0 k l1 y286 (y286.length : Int) 0 l0_0 l0_1)) else (none)) else (none)) else (some (([] : List (List (S52))), 52)))) else (some (([] : List (List (S52))), t282)))) else none
set_option maxHeartbeats 8000000 in
set_option maxRecDepth 100000 in
theorem table_Bind.calls (k : Nat) (A0_0 : Option Addr) (c0_0 : Nat) (l0_0 : List ByteArray) (A0_1 : Option Addr) (c0_1 : Nat) (l0_1 : List (List (S52))) (A1 : Option Addr) (c1 : Nat) (l1 : List ByteArray) (r1 : List (List (S52))) (r2 : Int) (w : World) (hr0_0 : Kd.C Kd.string w A0_0 l0_0.length l0_0) (hc0_0 : l0_0.length ≤ c0_0) (hr0_1 : Kd.C (Kd.slice 52 k52) w A0_1 l0_1.length l0_1) (hc0_1 : l0_1.length ≤ c0_1) (hr1 : Kd.C Kd.string w A1 l1.length l1) (hc1 : l1.length ≤ c1) (h : table_Bind.f k l0_0 l0_1 l1 = some (r1, r2)) :
  Calls Tryd.prog 76 #[.agg #[.slice A0_0 l0_0.length c0_0, .slice A0_1 l0_1.length c0_1], .slice A1 l1.length c1] w fun e w' => ∃ v0_ : Value, e = .returned (.tuple #[v0_, .int .i64 r2]) ∧ Kd.S (Kd.slice 52 k52) 54 w' w.heap.size (fun _ => True) v0_ r1 ∧ Below w.heap.size w w' := by
 have hu73 := Tryd.underlying73
 have hsm_ : SmallN l0_0 := by
  by_cases e_ : SmallN l0_0
  ·exact e_
  ·rw [table_Bind.f, if_neg e_] at h; exact absurd h (by simp)
 rw [table_Bind.f, if_pos hsm_] at h
 have HSM0 := yA hsm_
 clear hsm_
 have hu25 := Tryd.underlying25
 have hu68 := Tryd.underlying68
 have HR0_0 := yA hr0_0
 have HC0_0 := yA hc0_0
 clear hr0_0 hc0_0
 have HR0_1 := yA hr0_1
 have HC0_1 := yA hc0_1
 clear hr0_1 hc0_1
 have HR1 := yA hr1
 have HC1 := yA hc1
 clear hr1 hc1
 have HB := yA (Below.refl w.heap.size w)
 have H : ((table_Valid.f k l0_0 l0_1).bind fun t282 => (if t282 = 0 then ((table_capitals.f k l1).bind fun t283 => (if t283 = true then (if 0 ≤ (l0_1.length : Int) then (if ((l0_1.length : Int) : Int).toNat ≤ 11728124029610 then ((some (List.replicate ((l0_1.length : Int) : Int).toNat [] : List (List (S52)))).bind fun y286 => (table_Bind.l0 k l1 y286 (y286.length : Int) 0 l0_0 l0_1)) else (none)) else (none)) else (some (([] : List (List (S52))), 52)))) else (some (([] : List (List (S52))), t282)))) = some (r1, r2) := h
 clear h
 replace H := Option.bind_eq_some_iff.mp H
 obtain ⟨t282, A30, H⟩ := H
 replace H : (if t282 = 0 then ((table_capitals.f k l1).bind fun t283 => (if t283 = true then (if 0 ≤ (l0_1.length : Int) then (if ((l0_1.length : Int) : Int).toNat ≤ 11728124029610 then ((some (List.replicate ((l0_1.length : Int) : Int).toNat [] : List (List (S52)))).bind fun y286 => (table_Bind.l0 k l1 y286 (y286.length : Int) 0 l0_0 l0_1)) else (none)) else (none)) else (some (([] : List (List (S52))), 52)))) else (some (([] : List (List (S52))), t282))) = some (r1, r2) := H
 have A3 := yA A30
 clear A30
 by_cases c4 : t282 = 0
 ·rw [if_pos c4] at H
  have c4b0 : (t282 == 0) = true := beq_iff_eq.mpr c4
  have c4b1 : (t282 != 0) = false := bne_eq_false_iff_eq.mpr c4
  clear c4
  replace H := Option.bind_eq_some_iff.mp H
  obtain ⟨t283, A50, H⟩ := H
  replace H : (if t283 = true then (if 0 ≤ (l0_1.length : Int) then (if ((l0_1.length : Int) : Int).toNat ≤ 11728124029610 then ((some (List.replicate ((l0_1.length : Int) : Int).toNat [] : List (List (S52)))).bind fun y286 => (table_Bind.l0 k l1 y286 (y286.length : Int) 0 l0_0 l0_1)) else (none)) else (none)) else (some (([] : List (List (S52))), 52))) = some (r1, r2) := H
  have A5 := yA A50
  clear A50
  by_cases c6 : t283 = true
  ·subst c6
   have H1 : (if 0 ≤ (l0_1.length : Int) then (if ((l0_1.length : Int) : Int).toNat ≤ 11728124029610 then ((some (List.replicate ((l0_1.length : Int) : Int).toNat [] : List (List (S52)))).bind fun y286 => (table_Bind.l0 k l1 y286 (y286.length : Int) 0 l0_0 l0_1)) else (none)) else (none)) = some (r1, r2) := by rw [if_pos rfl] at H; exact H
   clear H
   have H := H1
   clear H1
   by_cases c7 : 0 ≤ (l0_1.length : Int)
   ·rw [if_pos c7] at H
    have c7b0 := eq_true c7
    have c7b1 : decide (0 ≤ (l0_1.length : Int)) = true := yL c7
    clear c7
    by_cases c8 : ((l0_1.length : Int) : Int).toNat ≤ 11728124029610
    ·rw [if_pos c8] at H
     have c8b0 := eq_true c8
     have c8b1 : decide (((l0_1.length : Int) : Int).toNat ≤ 11728124029610) = true := yL c8
     clear c8
     obtain ⟨y286, hy286⟩ : ∃ y_ : List (List (S52)), y_ = (List.replicate ((l0_1.length : Int) : Int).toNat []) := ⟨_, rfl⟩
     replace H : (table_Bind.l0 k l1 y286 (y286.length : Int) 0 l0_0 l0_1) = some (r1, r2) := by first | (rw [hy286]; with_reducible exact H) | (have H2_ := (Option.bind_some _ _).symm.trans H; rw [hy286]; with_reducible exact H2_) | (have H2_ := (Option.bind_some _ _).symm.trans H; with_reducible exact H2_) | with_reducible exact H | (rw [hy286]; exact H) | exact H
     have Ny286 := yA hy286
     clear hy286
     have H' := yA H
     clear H
     go_enter Tryd.func76, Tryd.ntmps76
     go_wp2_with (first | ((with_reducible refine yP (N := 2) rfl ?_); refine yQ ?hg (N := 2) ?hd (cs := #[.slice A0_0 l0_0.length c0_0, .slice A0_1 l0_1.length c0_1]) (t := 25) ?hr ?_; (case hd => rfl); (case hg => rfl); (case hr => first | (go_simp; done) | (go_simp; rfl)); intro gb281 hg w9 hbox hb; have n0_ := yA (yB (by repeat (first | (with_reducible first | exact HB.out | apply yE | apply yF | apply yD) | exact HB.out)) hb); have n1_ := yA (hbox); have n2_ := yA ((by rw [hg]; exact (below_size (by repeat (first | (with_reducible first | exact HB.out | apply yE | apply yF | apply yD) | exact HB.out))) : w.heap.size ≤ gb281)); have n3_ := yA ((by rw [hg]; exact (below_size (by repeat (first | (with_reducible first | exact HB.out | apply yE | apply yF | apply yD) | exact HB.out))) : w.heap.size ≤ gb281)); clear HB; have HB := n0_; have BK281 := n1_; have GW281 := n2_; have GE281 := n3_; clear n0_ n1_ n2_ n3_; clear hb hbox hg; have hcz10_0 : w9.cell? ⟨gb281, 0, none⟩ = some (.slice A0_0 l0_0.length c0_0) := (yR BK281.out 0).trans rfl; have hcz10_1 : w9.cell? ⟨gb281, 1, none⟩ = some (.slice A0_1 l0_1.length c0_1) := (yR BK281.out 1).trans rfl; have hfz10_0 := yS BK281.out 0; have hfz10_1 := yS BK281.out 1) | ((with_reducible refine yO (f := 20) rfl ?_); refine goesL_ (some 13) rfl rfl Tryd.func20 (by kernel_rfl) rfl #[.agg #[.slice A0_0 l0_0.length c0_0, .slice A0_1 l0_1.length c0_1]] rfl (by (try simp only [List.map_toArray, List.map_cons, List.map_nil]); first | done | rfl | (simp only [List.length_drop, List.length_take]; rfl)) ?_; (with_reducible refine (table_Valid.calls k _ _ l0_0 _ _ l0_1 t282 _ ?side1 ?side2 ?side3 ?side4 A3.out).mono ?_); (case side1 => repeat (first | exact (Kd.C_below HR0_0.out HB.out) | (with_reducible refine Kd.C_alloc ?_ _) | (with_reducible refine Kd.C_drewN ?_ _) | (with_reducible refine Kd.C_drew ?_))); (case side2 => exact HC0_0.out); (case side3 => repeat (first | exact (Kd.C_below HR0_1.out HB.out) | (with_reducible refine Kd.C_alloc ?_ _) | (with_reducible refine Kd.C_drewN ?_ _) | (with_reducible refine Kd.C_drew ?_))); (case side4 => exact HC0_1.out); rintro e w11 ⟨rfl, hb⟩; refine ⟨_, rfl, ?_⟩; have n0_ := yA (yC (g := gb281) (o := .cells #[.slice A0_0 l0_0.length c0_0, .slice A0_1 l0_1.length c0_1] 25 (0, 0)) (by (with_reducible repeat (first | refine yG ?_ _ | refine yH ?_ | refine yI ?_ _)); exact BK281.out) hb); have n1_ := yA (yB (by repeat (first | (with_reducible first | exact HB.out | apply yE | apply yF | apply yD | refine yJ ?_ GE281.out) | exact HB.out)) hb); clear BK281; clear HB; have BK281 := n0_; have HB := n1_; clear n0_ n1_; (try clear hb); (try clear hb2); (try clear hk); (try clear hi)) | ((with_reducible refine yO (f := 47) rfl ?_); refine goesL_ (some 18) rfl rfl Tryd.func47 (by kernel_rfl) rfl #[.slice A1 l1.length c1] rfl (by (try simp only [List.map_toArray, List.map_cons, List.map_nil]); first | done | rfl | (simp only [List.length_drop, List.length_take]; rfl)) ?_; (with_reducible refine (table_capitals.calls k _ _ l1 true _ ?side1 ?side2 A5.out).mono ?_); (case side1 => repeat (first | exact (Kd.C_below HR1.out HB.out) | (with_reducible refine Kd.C_alloc ?_ _) | (with_reducible refine Kd.C_drewN ?_ _) | (with_reducible refine Kd.C_drew ?_))); (case side2 => exact HC1.out); rintro e w' ⟨rfl, ⟨nd, rfl⟩⟩; refine ⟨_, rfl, ?_⟩; (try (rw [drewN_self w11]; generalize hq_ : World.drewN w11 _ = w11; have n0_ : Aside0 (w11.heap[gb281]? = some (.cells #[.slice A0_0 l0_0.length c0_0, .slice A0_1 l0_1.length c0_1] 25 (0, 0))) := ⟨by rw [← hq_]; exact (by (with_reducible repeat (first | refine yG ?_ _ | refine yH ?_ | refine yI ?_ _)); exact BK281.out)⟩; have n1_ : Aside0 (Below w.heap.size w w11) := ⟨by rw [← hq_]; exact (by repeat (first | (with_reducible first | exact HB.out | apply yE | apply yF | apply yD | refine yJ ?_ GE281.out) | exact HB.out))⟩; clear BK281 HB hq_; have BK281 := n0_; have HB := n1_; clear n0_ n1_)); have hcz12_0 : w11.cell? ⟨gb281, 0, none⟩ = some (.slice A0_0 l0_0.length c0_0) := (yR BK281.out 0).trans rfl; have hcz12_1 : w11.cell? ⟨gb281, 1, none⟩ = some (.slice A0_1 l0_1.length c0_1) := (yR BK281.out 1).trans rfl; have hfz12_0 := yS BK281.out 0; have hfz12_1 := yS BK281.out 1) | ((with_reducible refine yO (f := 41) rfl ?_); refine goesL_ (some 21) rfl rfl Tryd.func41 (by kernel_rfl) rfl #[.agg #[.slice A0_0 l0_0.length c0_0, .slice A0_1 l0_1.length c0_1]] rfl (by (try simp only [List.map_toArray, List.map_cons, List.map_nil]); first | done | rfl) ?_; (with_reducible refine (viewed_obj A0_0 c0_0 l0_0 A0_1 l0_1.length c0_1 _ ?side1 HC0_0.out HSM0.out.nm HSM0.out.ln).mono ?_); (case side1 => repeat (first | exact (Kd.C_below HR0_0.out HB.out) | (with_reducible refine Kd.C_alloc ?_ _) | (with_reducible refine Kd.C_drewN ?_ _) | (with_reducible refine Kd.C_drew ?_))); rintro e w13 ⟨gb284, o284, rfl, hg, hbox, hoc_, hmo_, hb⟩; refine ⟨_, rfl, ?_⟩; have OC284 := yA hoc_; have MO284 := yA hmo_; clear hoc_ hmo_; have n0_ := yA (yC (g := gb281) (o := .cells #[.slice A0_0 l0_0.length c0_0, .slice A0_1 l0_1.length c0_1] 25 (0, 0)) (by (with_reducible repeat (first | refine yG ?_ _ | refine yH ?_ | refine yI ?_ _)); exact BK281.out) hb); have n1_ := yA (yB (by repeat (first | (with_reducible first | exact HB.out | apply yE | apply yF | apply yD | refine yJ ?_ GE281.out) | exact HB.out)) hb); have n2_ := yA (hbox); have n3_ := yA ((Nat.le_trans (below_size (by repeat (first | (with_reducible first | exact HB.out | apply yE | apply yF | apply yD | refine yJ ?_ GE281.out) | exact HB.out))) hg : w.heap.size ≤ gb284)); have n4_ := yA ((Nat.le_trans (below_size (by repeat (first | (with_reducible first | exact HB.out | apply yE | apply yF | apply yD | refine yJ ?_ GE281.out) | exact HB.out))) hg : w.heap.size ≤ gb284)); have n5_ := yA ((Nat.ne_of_lt (Nat.lt_of_lt_of_le (blk_lt (g := gb281) (o := .cells #[.slice A0_0 l0_0.length c0_0, .slice A0_1 l0_1.length c0_1] 25 (0, 0)) (by (with_reducible repeat (first | refine yG ?_ _ | refine yH ?_ | refine yI ?_ _)); exact BK281.out)) hg) : gb281 ≠ gb284)); have n6_ := yA ((Nat.ne_of_gt (Nat.lt_of_lt_of_le (blk_lt (g := gb281) (o := .cells #[.slice A0_0 l0_0.length c0_0, .slice A0_1 l0_1.length c0_1] 25 (0, 0)) (by (with_reducible repeat (first | refine yG ?_ _ | refine yH ?_ | refine yI ?_ _)); exact BK281.out)) hg) : gb284 ≠ gb281)); clear BK281; clear HB; have BK281 := n0_; have HB := n1_; have BK284 := n2_; have GW284 := n3_; have GE284 := n4_; have NB281_284 := n5_; have NB284_281 := n6_; clear n0_ n1_ n2_ n3_ n4_ n5_ n6_; clear hb hbox hg) | ((with_reducible refine yP (N := 7) rfl ?_); refine yQ ?hg (N := 7) ?hd (cs := #[.slice none 0 0, .slice none 0 0, .map none]) (t := 73) ?hr ?_; (case hd => rfl); (case hg => rfl); (case hr => first | (go_simp; done) | (go_simp; rfl)); intro gb285 hg w14 hbox hb; have n0_ := yA (yC (g := gb281) (o := .cells #[.slice A0_0 l0_0.length c0_0, .slice A0_1 l0_1.length c0_1] 25 (0, 0)) (by (with_reducible repeat (first | refine yG ?_ _ | refine yH ?_ | refine yI ?_ _)); exact BK281.out) hb); have n1_ := yA (yC (g := gb284) (o := o284) (by (with_reducible repeat (first | refine yG ?_ _ | refine yH ?_ | refine yI ?_ _)); exact BK284.out) hb); have n2_ := yA (yB (by repeat (first | (with_reducible first | exact HB.out | apply yE | apply yF | apply yD | refine yJ ?_ GE281.out | refine yJ ?_ GE284.out) | exact HB.out)) hb); have n3_ := yA (hbox); have n4_ := yA ((by rw [hg]; exact (below_size (by repeat (first | (with_reducible first | exact HB.out | apply yE | apply yF | apply yD | refine yJ ?_ GE281.out | refine yJ ?_ GE284.out) | exact HB.out))) : w.heap.size ≤ gb285)); have n5_ := yA ((by rw [hg]; exact (below_size (by repeat (first | (with_reducible first | exact HB.out | apply yE | apply yF | apply yD | refine yJ ?_ GE281.out | refine yJ ?_ GE284.out) | exact HB.out))) : w.heap.size ≤ gb285)); have n6_ := yA ((by rw [hg]; exact Nat.ne_of_lt (blk_lt (g := gb281) (o := .cells #[.slice A0_0 l0_0.length c0_0, .slice A0_1 l0_1.length c0_1] 25 (0, 0)) (by (with_reducible repeat (first | refine yG ?_ _ | refine yH ?_ | refine yI ?_ _)); exact BK281.out)) : gb281 ≠ gb285)); have n7_ := yA ((by rw [hg]; exact Nat.ne_of_gt (blk_lt (g := gb281) (o := .cells #[.slice A0_0 l0_0.length c0_0, .slice A0_1 l0_1.length c0_1] 25 (0, 0)) (by (with_reducible repeat (first | refine yG ?_ _ | refine yH ?_ | refine yI ?_ _)); exact BK281.out)) : gb285 ≠ gb281)); have n8_ := yA ((by rw [hg]; exact Nat.ne_of_lt (blk_lt (g := gb284) (o := o284) (by (with_reducible repeat (first | refine yG ?_ _ | refine yH ?_ | refine yI ?_ _)); exact BK284.out)) : gb284 ≠ gb285)); have n9_ := yA ((by rw [hg]; exact Nat.ne_of_gt (blk_lt (g := gb284) (o := o284) (by (with_reducible repeat (first | refine yG ?_ _ | refine yH ?_ | refine yI ?_ _)); exact BK284.out)) : gb285 ≠ gb284)); clear BK281; clear BK284; clear HB; have BK281 := n0_; have BK284 := n1_; have HB := n2_; have BK285 := n3_; have GW285 := n4_; have GE285 := n5_; have NB281_285 := n6_; have NB285_281 := n7_; have NB284_285 := n8_; have NB285_284 := n9_; clear n0_ n1_ n2_ n3_ n4_ n5_ n6_ n7_ n8_ n9_; clear hb hbox hg; have hnb15 := NB285_281.out; have hnc15 := NB281_285.out; have hnb16 := NB285_284.out; have hnc16 := NB284_285.out; have hcz17_0 : w14.cell? ⟨gb285, 0, none⟩ = some (.slice none 0 0) := (yR BK285.out 0).trans rfl; have hcz17_1 : w14.cell? ⟨gb285, 1, none⟩ = some (.slice none 0 0) := (yR BK285.out 1).trans rfl; have hcz17_2 : w14.cell? ⟨gb285, 2, none⟩ = some (.map none) := (yR BK285.out 2).trans rfl; have hfz17_0 := yS BK285.out 0; have hfz17_1 := yS BK285.out 1; have hfz17_2 := yS BK285.out 2; have hnb18 := NB281_284.out; have hnc18 := NB284_281.out; have hcz19_0 : w14.cell? ⟨gb281, 0, none⟩ = some (.slice A0_0 l0_0.length c0_0) := (yR BK281.out 0).trans rfl; have hcz19_1 : w14.cell? ⟨gb281, 1, none⟩ = some (.slice A0_1 l0_1.length c0_1) := (yR BK281.out 1).trans rfl; have hfz19_0 := yS BK281.out 0; have hfz19_1 := yS BK281.out 1) | ((with_reducible refine yP (N := 25) rfl ?_); refine Kd.S_make (Kd.slice 52 k52) _ 54 rfl (N := 25) rfl 23 _ _ rfl (l0_1.length : Int) rfl rfl Tryd.underlying23 (.slice none 0 0) 24 info54 rfl (by decide) (by omega) [] (ok := fun _ => True) (okp := fun _ => True) ⟨_, rfl, Kd.R_nil _ _ _ _ _⟩ (fun _ hk => hk) trivial (yN (by first | (with_reducible assumption) | assumption)) (Nat.le_trans (Nat.mul_le_mul_right _ (yN (by first | (with_reducible assumption) | assumption) : (l0_1.length : Int).toNat ≤ 11728124029610)) (by omega)) (Below.refl _ _) (Nat.le_refl _) ?_; intro v287 w20 ho21 hb hg_ hnew_; clear hg_ hnew_; (first | rw [← Ny286.out] at ho21 | (simp only [Int.reduceToNat] at ho21; rw [← Ny286.out] at ho21)); have n0_ := yA (Kd.S_lower ho21 (below_size (by repeat (first | (with_reducible first | exact HB.out | apply yE | apply yF | apply yD | refine yJ ?_ GE281.out | refine yJ ?_ GE284.out | refine yJ ?_ GE285.out) | exact HB.out)))); have n1_ := yA (yC (g := gb281) (o := .cells #[.slice A0_0 l0_0.length c0_0, .slice A0_1 l0_1.length c0_1] 25 (0, 0)) (by (with_reducible repeat (first | refine yG ?_ _ | refine yH ?_ | refine yI ?_ _)); refine blk_far ?_ NB281_285.out _; (with_reducible repeat (first | refine yG ?_ _ | refine yH ?_ | refine yI ?_ _)); refine blk_far ?_ NB281_285.out _; (with_reducible repeat (first | refine yG ?_ _ | refine yH ?_ | refine yI ?_ _)); refine blk_far ?_ NB281_285.out _; (with_reducible repeat (first | refine yG ?_ _ | refine yH ?_ | refine yI ?_ _)); exact BK281.out) hb); have n2_ := yA (yC (g := gb284) (o := o284) (by (with_reducible repeat (first | refine yG ?_ _ | refine yH ?_ | refine yI ?_ _)); refine blk_farO ?_ NB284_285.out _; (with_reducible repeat (first | refine yG ?_ _ | refine yH ?_ | refine yI ?_ _)); refine blk_farO ?_ NB284_285.out _; (with_reducible repeat (first | refine yG ?_ _ | refine yH ?_ | refine yI ?_ _)); refine blk_farO ?_ NB284_285.out _; (with_reducible repeat (first | refine yG ?_ _ | refine yH ?_ | refine yI ?_ _)); exact BK284.out) hb); have n3_ := yA (yC (g := gb285) (o := .cells #[.slice A0_0 l0_0.length c0_0, .slice A0_1 l0_1.length c0_1, .map (some gb284)] 73 (0, 0)) (by (with_reducible repeat (first | refine yG ?_ _ | refine yH ?_ | refine yI ?_ _)); refine blk_put (cs := #[.slice A0_0 l0_0.length c0_0, .slice A0_1 l0_1.length c0_1, .map none]) ?_ 2 _ rfl; (with_reducible repeat (first | refine yG ?_ _ | refine yH ?_ | refine yI ?_ _)); refine blk_put (cs := #[.slice A0_0 l0_0.length c0_0, .slice none 0 0, .map none]) ?_ 1 _ rfl; (with_reducible repeat (first | refine yG ?_ _ | refine yH ?_ | refine yI ?_ _)); refine blk_put (cs := #[.slice none 0 0, .slice none 0 0, .map none]) ?_ 0 _ rfl; (with_reducible repeat (first | refine yG ?_ _ | refine yH ?_ | refine yI ?_ _)); exact BK285.out) hb); have n4_ := yA (yB (by repeat (first | (with_reducible first | exact HB.out | apply yE | apply yF | apply yD | refine yJ ?_ GE281.out | refine yJ ?_ GE284.out | refine yJ ?_ GE285.out) | exact HB.out)) hb); clear BK281; clear BK284; clear BK285; clear HB; have HO288 := n0_; have BK281 := n1_; have BK284 := n2_; have BK285 := n3_; have HB := n4_; clear n0_ n1_ n2_ n3_ n4_; clear hb ho21; obtain ⟨Ao22, co22, eo22⟩ := Kd.S_slice HO288.out; subst eo22))
     go_loopg [28] k (fun kq v28 w' => ∃ (x8_1 : List (List (S52))) (x28_1 : Int), v28 = .int .i64 x28_1 ∧ Aside0 (table_Bind.l0 kq l1 x8_1 (y286.length : Int) x28_1 l0_0 l0_1 = some (r1, r2)) ∧ Aside0 (kq ≤ k) ∧ Aside0 (Kd.S (Kd.slice 52 k52) 54 w' w.heap.size (fun _ => True) (.slice Ao22 y286.length co22) x8_1) ∧ Aside0 (w'.heap[gb281]? = some (.cells #[(.slice A0_0 l0_0.length c0_0), (.slice A0_1 l0_1.length c0_1)] 25 (0, 0))) ∧ Aside0 (w'.heap[gb284]? = some o284) ∧ Aside0 (w'.heap[gb285]? = some (.cells #[.slice A0_0 l0_0.length c0_0, .slice A0_1 l0_1.length c0_1, .map (some gb284)] 73 (0, 0))) ∧ Aside0 (Below w.heap.size w w'))
     case atStart => exact ⟨(y286), (0), (by first | rfl | (simp; done) | (simp [*]; done)), H', ⟨Nat.le_refl _⟩, ⟨by (with_reducible repeat (first | apply Kd.S_alloc | apply Kd.S_drewN | apply Kd.S_drew)); exact HO288.out⟩, ⟨by (with_reducible repeat (first | refine yG ?_ _ | refine yH ?_ | refine yI ?_ _)); exact BK281.out⟩, ⟨by (with_reducible repeat (first | refine yG ?_ _ | refine yH ?_ | refine yI ?_ _)); exact BK284.out⟩, ⟨by (with_reducible repeat (first | refine yG ?_ _ | refine yH ?_ | refine yI ?_ _)); exact BK285.out⟩, ⟨by repeat (first | (with_reducible first | exact HB.out | apply yE | apply yF | apply yD | refine yJ ?_ GE281.out | refine yJ ?_ GE284.out | refine yJ ?_ GE285.out) | exact HB.out)⟩⟩
     case round =>
      clear H'
      try clear c1; try clear c2; try clear p2; try clear c4; try clear c4b0; try clear c4b1; try clear c6; try clear c7; try clear c7b0; try clear c7b1; try clear c8; try clear c8b0; try clear c8b1; try clear c15; try clear c16; try clear c18; try clear c20; try clear hcz10_0; try clear hcz10_1; try clear hcz12_0; try clear hcz12_1; try clear hcz17_0; try clear hcz17_1; try clear hcz17_2; try clear hfz17_2; try clear hcz19_0; try clear hcz19_1; try clear hfz10_0; try clear hfz10_1; try clear hfz12_0; try clear hfz12_1; try clear hfz17_0; try clear hfz17_1; try clear hfz19_0; try clear hfz19_1
      obtain ⟨x8_1, x28_1, rfl, HA, HK1, HO_8, BK281, BK284, BK285, HB⟩ := hrel
      have hl8_1 := (Kd.S_reads' HO_8.out).1
      rw [hl8_1] at HO_8
      (try simp only [hl8_1])
      (try simp only [hl8_1] at BK281)
      (try simp only [hl8_1] at BK284)
      (try simp only [hl8_1] at BK285)
      cases gk with
      | zero => exact absurd HA.out (by simp [table_Bind.l0])
      | succ k1 =>
       have H := HA.out
       clear HA
       simp only [table_Bind.l0] at H
       by_cases c23 : x28_1 < (y286.length : Int)
       ·rw [if_pos c23] at H
        have c23b0 : decide (x28_1 < (y286.length : Int)) = true := yL c23
        clear c23
        by_cases c24 : 0 ≤ (l1.length : Int)
        ·rw [if_pos c24] at H
         have c24b0 := eq_true c24
         have c24b1 : decide (0 ≤ (l1.length : Int)) = true := yL c24
         clear c24
         by_cases c25 : ((l1.length : Int) : Int).toNat ≤ 17592186044416
         ·rw [if_pos c25] at H
          have c25b0 := eq_true c25
          have c25b1 : decide (((l1.length : Int) : Int).toNat ≤ 17592186044416) = true := yL c25
          clear c25
          obtain ⟨y289, hy289⟩ : ∃ y_ : List (S52), y_ = (List.replicate ((l1.length : Int) : Int).toNat z52) := ⟨_, rfl⟩
          replace H : (if 0 ≤ x28_1 then (if x28_1 < (x8_1.length : Int) then (table_Bind.l1 k1 l1 (x8_1.set (x28_1 : Int).toNat y289) x28_1 (y286.length : Int) x28_1 l1 (l1.length : Int) 0 l0_0 l0_1) else (none)) else (none)) = some (r1, r2) := by first | (rw [hy289]; with_reducible exact H) | (have H2_ := (Option.bind_some _ _).symm.trans H; rw [hy289]; with_reducible exact H2_) | (have H2_ := (Option.bind_some _ _).symm.trans H; with_reducible exact H2_) | with_reducible exact H | (rw [hy289]; exact H) | exact H
          have Ny289 := yA hy289
          clear hy289
          by_cases c26 : 0 ≤ x28_1
          ·rw [if_pos c26] at H
           have c26b0 : decide (0 ≤ x28_1) = true := yL c26
           clear c26
           by_cases c27 : x28_1 < (x8_1.length : Int)
           ·rw [if_pos c27] at H
            have c27b0 : decide (x28_1 < (x8_1.length : Int)) = true := yL c27
            clear c27
            obtain ⟨y292, hy292⟩ : ∃ y_ : List (List (S52)), y_ = (x8_1.set (x28_1 : Int).toNat y289) := ⟨_, rfl⟩
            replace H : (table_Bind.l1 k1 l1 y292 x28_1 (y286.length : Int) x28_1 l1 (l1.length : Int) 0 l0_0 l0_1) = some (r1, r2) := by first | (rw [hy292]; with_reducible exact H) | (have H2_ := (Option.bind_some _ _).symm.trans H; rw [hy292]; with_reducible exact H2_) | (have H2_ := (Option.bind_some _ _).symm.trans H; with_reducible exact H2_) | with_reducible exact H | (rw [hy292]; exact H) | exact H
            have Ny292 := yA hy292
            clear hy292
            have H' := yA H
            clear H
            go_wp2_with (first | ((with_reducible refine yP (N := 35) rfl ?_); refine Kd.R_make k52 _ 52 rfl (N := 35) rfl 54 _ _ rfl (l1.length : Int) rfl rfl Tryd.underlying54 (.agg #[(.bool false), (.int .i64 0)]) 16 info52 rfl (by decide) (by omega) z52 (ok := fun _ => True) (okp := fun _ => True) (k52_mkM _ _ _ z52 ) (fun _ hk => hk) trivial (yN (by first | (with_reducible assumption) | assumption)) (Nat.le_trans (Nat.mul_le_mul_right _ (yN (by first | (with_reducible assumption) | assumption) : (l1.length : Int).toNat ≤ 17592186044416)) (by omega)) (Below.refl _ _) (Nat.le_refl _) ?_; intro v290 w29 ho30 hb hg_ hnew_; clear hg_ hnew_; (first | rw [← Ny289.out] at ho30 | (simp only [Int.reduceToNat] at ho30; rw [← Ny289.out] at ho30)); have n0_ := yA (Kd.S_elder' (by (with_reducible repeat (first | apply Kd.S_alloc | apply Kd.S_drewN | apply Kd.S_drew)); exact HO_8.out) (Kd.R_base ho30) hb); have n1_ := yA (Kd.R_lower ho30 (below_size (by repeat (first | (with_reducible first | exact HB.out | apply yE | apply yF | apply yD | refine yJ ?_ GE281.out | refine yJ ?_ GE284.out | refine yJ ?_ GE285.out) | exact HB.out)))); have n2_ := yA (yC (g := gb281) (o := .cells #[.slice A0_0 l0_0.length c0_0, .slice A0_1 l0_1.length c0_1] 25 (0, 0)) (by (with_reducible repeat (first | refine yG ?_ _ | refine yH ?_ | refine yI ?_ _)); exact BK281.out) hb); have n3_ := yA (yC (g := gb284) (o := o284) (by (with_reducible repeat (first | refine yG ?_ _ | refine yH ?_ | refine yI ?_ _)); exact BK284.out) hb); have n4_ := yA (yC (g := gb285) (o := .cells #[.slice A0_0 l0_0.length c0_0, .slice A0_1 l0_1.length c0_1, .map (some gb284)] 73 (0, 0)) (by (with_reducible repeat (first | refine yG ?_ _ | refine yH ?_ | refine yI ?_ _)); exact BK285.out) hb); have n5_ := yA (yB (by repeat (first | (with_reducible first | exact HB.out | apply yE | apply yF | apply yD | refine yJ ?_ GE281.out | refine yJ ?_ GE284.out | refine yJ ?_ GE285.out) | exact HB.out)) hb); clear HO_8; clear BK281; clear BK284; clear BK285; clear HB; have HO_8 := n0_; have HO291 := n1_; have BK281 := n2_; have BK284 := n3_; have BK285 := n4_; have HB := n5_; clear n0_ n1_ n2_ n3_ n4_ n5_; clear hb ho30; have p28 : 0 ≤ (x28_1 : Int) := yN (by first | (with_reducible assumption) | assumption); have q28 : (x28_1 : Int) < ((x8_1.length : Int) : Int) := yN (by first | (with_reducible assumption) | assumption); obtain ⟨go28, co28, eo28, gb28, gl28, cl28, HG28⟩ := Kd.S_form HO_8.out (by omega); (first | cases eo28 | (injection eo28 with ea_ en_ ec_; (first | subst ea_ | (injection ea_ with ea_; subst ea_)); subst ec_; clear en_)); have GB28 := yA gb28; have GG28 := yA HG28; clear gb28 gl28 HG28; obtain ⟨_, ce28, hcl28, hM28, hcc28, hfr28, _, _⟩ := Kd.S_elem HO_8.out [] (x28_1 : Int) p28 q28; obtain ⟨ve28_0, rfl, ge28_0⟩ := hM28; have hx28_0 := hcc28 0 _ rfl; have hf28_0 := hfr28 0; (try simp only [show ((Kd.slice 52 k52)).sz = 1 from rfl, Nat.mul_one, Nat.add_zero] at hx28_0); (try simp only [show ((Kd.slice 52 k52)).sz = 1 from rfl, Nat.mul_one, Nat.add_zero] at hf28_0); clear hcl28 hcc28 hfr28; (try clear hM28); replace p28 := eq_true p28; replace q28 := eq_true q28; have n_ := yA (Kd.S_mono (ok' := (fun k_ => some k_ ≠ (v290 : Value).ownBlock)) HO_8.out (fun k_ hk => hk.2)); clear HO_8; have HO_8 := n_; clear n_; have HX31 := yA (show Kd.S (Kd.slice 52 k52) 54 w29 w.heap.size (fun k_ => ((fun _ => True)) k_ ∧ ¬ ((fun k_ => some k_ = (v290 : Value).ownBlock)) k_) (.slice (some ⟨go28, 0, none⟩) x8_1.length co22) x8_1 from (by (with_reducible repeat (first | apply Kd.S_alloc | apply Kd.S_drewN | apply Kd.S_drew)); exact Kd.S_mono HO_8.out (fun k_ hk => ⟨trivial, fun e_ => hk e_⟩))); obtain ⟨oki31, ce31, hcl31, hM31, hcc31, hfr31, hoki31, hH31⟩ := Kd.S_elem HX31.out [] (x28_1 : Int) (yN (by first | (with_reducible assumption) | assumption)) (by have h_ : (x28_1 : Int) < ((x8_1.length : Int) : Int) := yN (by first | (with_reducible assumption) | assumption); first | exact h_ | (have e_ := (Kd.S_reads' HO_8.out).1; omega) | simpa using h_); obtain ⟨ve31_0, rfl, ge31_0⟩ := hM31; have HP31 := Kd.S_seg hH31 (yN (by first | (with_reducible assumption) | assumption)) (by have h_ : (x28_1 : Int) < ((x8_1.length : Int) : Int) := yN (by first | (with_reducible assumption) | assumption); first | exact h_ | (have e_ := (Kd.S_reads' HO_8.out).1; omega) | simpa using h_) (seg := [v290]) (j := 0) (show 1 ≤ 1 from by decide) (x' := y289) (Kd.M_row (Kd.R_mono (Kd.R_tight rfl (Kd.R_mono (ok' := fun k_ => ((fun _ => True)) k_ ∧ k_ ≠ go28) (Kd.R_apart' (HO291.out) (Kd.S_typed HO_8.out) (by decide)) (fun k_ hk => ⟨trivial, fun e_ => (hk.2) (by rw [e_]; rfl)⟩))) (fun _ h_ => Or.inr (h_)))) (fun _ hk => hk) (fun k_ hk_ => ((Kd.R_mono (ok' := fun k_ => ((fun _ => True)) k_ ∧ k_ ≠ go28) (Kd.R_apart' (HO291.out) (Kd.S_typed HO_8.out) (by decide)) (fun k_ hk => ⟨trivial, fun e_ => (hk.2) (by rw [e_]; rfl)⟩))).1 k_ hk_.symm); have hx31_0 := hcc31 0 _ rfl; (try simp only [show ((Kd.slice 52 k52)).sz = 1 from rfl, Nat.mul_one, Nat.add_zero] at hx31_0); have hf31_0 := hfr31 0; (try simp only [show ((Kd.slice 52 k52)).sz = 1 from rfl, Nat.mul_one, Nat.add_zero] at hf31_0); clear hcl31 hcc31 hfr31 hoki31 hH31; (try clear hM31); (try simp only [show ((Kd.slice 52 k52)).sz = 1 from rfl, Nat.mul_one, Nat.add_zero] at HP31)) | ((with_reducible refine gate_store (t := 54) (p := 36) rfl ?_); refine store_event (t := 54) (p := 36) (v := ?vo_w32) (w1 := (w29.setCell ⟨go28, (x28_1 : Int).toNat, none⟩ (v290))) ?hg ?ho ?hn ?hr ?_; (case ho => rfl); (case hg => rfl); (case hn => rfl); (case hr => (obtain ⟨Av_, cv_, ev_⟩ := Kd.R_slice HO291.out; rw [ev_]; first | (go_simp; done) | (go_simp; rfl))); intro w32 hw; have hg : w29.grownBy w32 (some go28) := (by rw [hw]; exact HP31.2); have hp_ : Kd.S (Kd.slice 52 k52) 54 w32 w.heap.size (fun _ => True) (.slice (some ⟨go28, 0, none⟩) x8_1.length co22) y292 := (by rw [hw, Ny292.out]; exact HP31.1); clear HP31; have n0_ := yA (hp_); have n1_ := yA (blk_grown (g := gb281) (o := .cells #[.slice A0_0 l0_0.length c0_0, .slice A0_1 l0_1.length c0_1] 25 (0, 0)) (by (with_reducible repeat (first | refine yG ?_ _ | refine yH ?_ | refine yI ?_ _)); exact BK281.out) hg (Kd.S_ne HO_8.out BK281.out (by decide))); have n2_ := yA (blk_grown (g := gb284) (o := o284) (by (with_reducible repeat (first | refine yG ?_ _ | refine yH ?_ | refine yI ?_ _)); exact BK284.out) hg (S_ne_map HO_8.out BK284.out MO284.out)); have n3_ := yA (blk_grown (g := gb285) (o := .cells #[.slice A0_0 l0_0.length c0_0, .slice A0_1 l0_1.length c0_1, .map (some gb284)] 73 (0, 0)) (by (with_reducible repeat (first | refine yG ?_ _ | refine yH ?_ | refine yI ?_ _)); exact BK285.out) hg (Kd.S_ne HO_8.out BK285.out (by decide))); have n4_ := yA ((by rw [hw]; exact yJ (HB.out) GB28.out : Below w.heap.size w w32)); clear HO_8; clear BK281; clear BK284; clear BK285; clear HB; clear HO291; have HO_8 := n0_; have BK281 := n1_; have BK284 := n2_; have BK285 := n3_; have HB := n4_; clear n0_ n1_ n2_ n3_ n4_; clear hg hw hp_))
            go_loopg [39] k1 (fun kq v39 w' => ∃ (x8_2 : List (List (S52))) (x39_2 : Int), v39 = .int .i64 x39_2 ∧ Aside0 (table_Bind.l1 kq l1 x8_2 x28_1 (y286.length : Int) x28_1 l1 (l1.length : Int) x39_2 l0_0 l0_1 = some (r1, r2)) ∧ Aside0 (kq ≤ k1) ∧ Aside0 (Kd.S (Kd.slice 52 k52) 54 w' w.heap.size (fun _ => True) (.slice (some ⟨go28, 0, none⟩) x8_1.length co22) x8_2) ∧ Aside0 (w'.heap[gb281]? = some (.cells #[(.slice A0_0 l0_0.length c0_0), (.slice A0_1 l0_1.length c0_1)] 25 (0, 0))) ∧ Aside0 (w'.heap[gb284]? = some o284) ∧ Aside0 (w'.heap[gb285]? = some (.cells #[.slice A0_0 l0_0.length c0_0, .slice A0_1 l0_1.length c0_1, .map (some gb284)] 73 (0, 0))) ∧ Aside0 (Below w.heap.size w w'))
            case atStart => exact ⟨(y292), (0), (by first | rfl | (simp; done) | (simp [*]; done)), H', ⟨Nat.le_refl _⟩, ⟨by (try simp only [hl8_1]); (with_reducible repeat (first | apply Kd.S_alloc | apply Kd.S_drewN | apply Kd.S_drew)); exact HO_8.out⟩, ⟨by (try simp only [hl8_1]); (with_reducible repeat (first | refine yG ?_ _ | refine yH ?_ | refine yI ?_ _)); exact BK281.out⟩, ⟨by (try simp only [hl8_1]); (with_reducible repeat (first | refine yG ?_ _ | refine yH ?_ | refine yI ?_ _)); exact BK284.out⟩, ⟨by (try simp only [hl8_1]); (with_reducible repeat (first | refine yG ?_ _ | refine yH ?_ | refine yI ?_ _)); exact BK285.out⟩, ⟨by repeat (first | (with_reducible first | exact HB.out | apply yE | apply yF | apply yD | refine yJ ?_ GE281.out | refine yJ ?_ GE284.out | refine yJ ?_ GE285.out) | exact HB.out)⟩⟩
            case round =>
             clear H'
             try clear c1; try clear c2; try clear p2; try clear q2; try clear hx2; try clear hf2; try clear c3; try clear hx3; try clear hf3; try clear c4; try clear c4b0; try clear c4b1; try clear c6; try clear c7; try clear c7b0; try clear c7b1; try clear c8; try clear c8b0; try clear c8b1; try clear c15; try clear c16; try clear c18; try clear c20; try clear c23; try clear c23b0; try clear c24; try clear c24b0; try clear c24b1; try clear c25; try clear c25b0; try clear c25b1; try clear c26; try clear c26b0; try clear c27; try clear c27b0; try clear c28; try clear p28; try clear q28; try clear hx28; try clear hf28; try clear c31; try clear hx31; try clear hf31; try clear hcz10_0; try clear hcz10_1; try clear hcz12_0; try clear hcz12_1; try clear hcz17_0; try clear hcz17_1; try clear hcz17_2; try clear hfz17_2; try clear hcz19_0; try clear hcz19_1; try clear hfz10_0; try clear hfz10_1; try clear hfz12_0; try clear hfz12_1; try clear hfz17_0; try clear hfz17_1; try clear hfz19_0; try clear hfz19_1; try clear hx28_0; try clear hx31_0; try clear p2; try clear p28; try clear q28
             obtain ⟨x8_2, x39_2, rfl, HA, HK2, HO_8, BK281, BK284, BK285, HB⟩ := hrel
             have hl8_2 := (Kd.S_reads' HO_8.out).1
             rw [hl8_2] at HO_8
             (try simp only [hl8_2])
             (try simp only [hl8_2] at BK281)
             (try simp only [hl8_2] at BK284)
             (try simp only [hl8_2] at BK285)
             cases gk with
             | zero => exact absurd HA.out (by simp [table_Bind.l1])
             | succ k2 =>
              have H := HA.out
              clear HA
              simp only [table_Bind.l1] at H
              by_cases c33 : x39_2 < (l1.length : Int)
              ·rw [if_pos c33] at H
               have c33b0 : decide (x39_2 < (l1.length : Int)) = true := yL c33
               clear c33
               by_cases c34 : 0 ≤ x39_2
               ·rw [if_pos c34] at H
                have c34b0 : decide (0 ≤ x39_2) = true := yL c34
                clear c34
                by_cases c35 : x39_2 < (l1.length : Int)
                ·rw [if_pos c35] at H
                 have c35b0 : decide (x39_2 < (l1.length : Int)) = true := yL c35
                 clear c35
                 by_cases c36 : 0 ≤ x28_1
                 ·rw [if_pos c36] at H
                  have c36b0 : decide (0 ≤ x28_1) = true := yL c36
                  clear c36
                  by_cases c37 : x28_1 < (x8_2.length : Int)
                  ·rw [if_pos c37] at H
                   have c37b0 : decide (x28_1 < (x8_2.length : Int)) = true := yL c37
                   clear c37
                   replace H := Option.bind_eq_some_iff.mp H
                   obtain ⟨⟨t294, t295⟩, A390, H⟩ := H
                   replace H : (if x39_2 < ((rd_L4 x8_2 x28_1).length : Int) then (table_Bind.l1 k2 l1 (x8_2.set (x28_1 : Int).toNat ((rd_L4 x8_2 x28_1).set (x39_2 : Int).toNat (⟨t294, t295⟩ : S52))) x28_1 (y286.length : Int) x28_1 l1 (l1.length : Int) (wrap64 (x39_2 + 1)) l0_0 l0_1) else (none)) = some (r1, r2) := H
                   have A39 := yA A390
                   clear A390
                   by_cases c40 : x39_2 < ((rd_L4 x8_2 x28_1).length : Int)
                   ·rw [if_pos c40] at H
                    have c40b0 := eq_true c40
                    have c40b1 : decide (x39_2 < ((rd_L4 x8_2 x28_1).length : Int)) = true := yL c40
                    clear c40
                    obtain ⟨y296, hy296⟩ : ∃ y_ : List (S52), y_ = ((rd_L4 x8_2 x28_1).set (x39_2 : Int).toNat (⟨t294, t295⟩ : S52)) := ⟨_, rfl⟩
                    replace H : (table_Bind.l1 k2 l1 (x8_2.set (x28_1 : Int).toNat y296) x28_1 (y286.length : Int) x28_1 l1 (l1.length : Int) (wrap64 (x39_2 + 1)) l0_0 l0_1) = some (r1, r2) := by first | (rw [hy296]; with_reducible exact H) | (have H2_ := (Option.bind_some _ _).symm.trans H; rw [hy296]; with_reducible exact H2_) | (have H2_ := (Option.bind_some _ _).symm.trans H; with_reducible exact H2_) | with_reducible exact H | (rw [hy296]; exact H) | exact H
                    have Ny296 := yA hy296
                    clear hy296
                    obtain ⟨y299, hy299⟩ : ∃ y_ : List (List (S52)), y_ = (x8_2.set (x28_1 : Int).toNat y296) := ⟨_, rfl⟩
                    replace H : (table_Bind.l1 k2 l1 y299 x28_1 (y286.length : Int) x28_1 l1 (l1.length : Int) (wrap64 (x39_2 + 1)) l0_0 l0_1) = some (r1, r2) := by first | (rw [hy299]; with_reducible exact H) | (have H2_ := (Option.bind_some _ _).symm.trans H; rw [hy299]; with_reducible exact H2_) | (have H2_ := (Option.bind_some _ _).symm.trans H; with_reducible exact H2_) | with_reducible exact H | (rw [hy299]; exact H) | exact H
                    have Ny299 := yA hy299
                    clear hy299
                    have H' := yA H
                    clear H
                    have p293 : 0 ≤ (x39_2 : Int) := yN (by first | (with_reducible assumption) | assumption)
                    have q293 : x39_2 < (l1.length : Int) := yN (by first | (with_reducible assumption) | assumption)
                    obtain ⟨ad293, e293, hx293_0⟩ := Kd.at_string HR1.out x39_2 p293 q293
                    cases e293
                    replace hx293_0 := (HB.out.cell (World.block_lt_of_cell? w _ hx293_0)).trans hx293_0
                    replace p293 := eq_true p293
                    replace q293 := eq_true q293
                    have p38 : 0 ≤ (x28_1 : Int) := yN (by first | (with_reducible assumption) | assumption)
                    have q38 : (x28_1 : Int) < ((x8_2.length : Int) : Int) := yN (by first | (with_reducible assumption) | assumption)
                    obtain ⟨_, ce38, hcl38, hM38, hcc38, hfr38, _, _⟩ := Kd.S_elem HO_8.out [] (x28_1 : Int) p38 q38
                    obtain ⟨ve38_0, rfl, ge38_0⟩ := hM38
                    have hx38_0 := hcc38 0 _ rfl
                    have hf38_0 := hfr38 0
                    (try simp only [show ((Kd.slice 52 k52)).sz = 1 from rfl, Nat.mul_one, Nat.add_zero] at hx38_0)
                    (try simp only [show ((Kd.slice 52 k52)).sz = 1 from rfl, Nat.mul_one, Nat.add_zero] at hf38_0)
                    clear hcl38 hcc38 hfr38; (try clear hM38)
                    replace p38 := eq_true p38
                    replace q38 := eq_true q38
                    have hnb41 := NB285_281.out
                    have hnc41 := NB281_285.out
                    have hnb42 := NB285_284.out
                    have hnc42 := NB284_285.out
                    have hcz43_0 : wr.cell? ⟨gb285, 0, none⟩ = some (.slice A0_0 l0_0.length c0_0) := (yR BK285.out 0).trans rfl
                    have hcz43_1 : wr.cell? ⟨gb285, 1, none⟩ = some (.slice A0_1 l0_1.length c0_1) := (yR BK285.out 1).trans rfl
                    have hcz43_2 : wr.cell? ⟨gb285, 2, none⟩ = some (.map (some gb284)) := (yR BK285.out 2).trans rfl
                    have hfz43_0 := yS BK285.out 0
                    have hfz43_1 := yS BK285.out 1
                    have hfz43_2 := yS BK285.out 2
                    have ge2_ : k52.R 52 wr w.heap.size _ ve38_0 (rd_L4 x8_2 x28_1) := ge38_0
                    have hg2_ : (0 : Nat) < (rd_L4 x8_2 x28_1).length := by have h_ : x39_2 < ((rd_L4 x8_2 x28_1).length : Int) := yN (by first | (with_reducible assumption) | assumption); have h2_ : (0 : Int) ≤ x39_2 := of_eq_true (by assumption); omega
                    obtain ⟨g2_, cap2_, e2_, gb2_, gl2_, -⟩ := Kd.R_form ge2_ hg2_
                    subst e2_
                    have GB2 := yA gb2_
                    have HX := yA hx38_0
                    clear ge2_ gl2_ gb2_ ge38_0 hg2_
                    have q40_ : (x39_2 < ((rd_L4 x8_2 x28_1).length : Int)) = True := eq_true (yN (by first | (with_reducible assumption) | assumption))
                    go_wp2
                    have n0_ := yA (Kd.S_drew HO_8.out)
                    have n1_ := yA (yH BK281.out)
                    have n2_ := yA (yH BK284.out)
                    have n3_ := yA (yH BK285.out)
                    have n4_ := yA (yD HB.out)
                    clear HO_8 BK281 BK284 BK285 HB
                    have HO_8 := n0_
                    have BK281 := n1_
                    have BK284 := n2_
                    have BK285 := n3_
                    have HB := n4_
                    clear n0_ n1_ n2_ n3_ n4_
                    refine start_ (n := 11) (S := fun w' => w'.cell? ⟨go28, (x28_1 : Int).toNat, none⟩ = some (.slice (some ⟨g2_, 0, none⟩) (rd_L4 x8_2 x28_1).length cap2_) ∧ w'.cell? ⟨gb285, 0, none⟩ = some (.slice A0_0 l0_0.length c0_0) ∧ w'.cell? ⟨gb285, 1, none⟩ = some (.slice A0_1 l0_1.length c0_1) ∧ w'.cell? ⟨gb285, 2, none⟩ = some (.map (some gb284))) (ds := []) #[false, false, false, false, false, false, false, false, false, false, false] (by kernel_rfl) rfl rfl ⟨HX.out, (yR BK285.out 0).trans rfl, (yR BK285.out 1).trans rfl, (yR BK285.out 2).trans rfl⟩ (fun hHeld => ?_)
                    generalize wr.drew = ww_ at HO_8 BK281 BK284 BK285 HB hHeld ⊢
                    refine pure_ (i := 0) (N := some 44) (v := ?_) (a' := ?_) #[true, false, false, false, false, false, false, false, false, false, false] rfl rfl (by kernel_rfl) (fun _ _ _ h => h) (Or.inl ⟨by rfl, ?_⟩) ?_ ?_
                    rotate_left
                    ·intro w'
                     go_simp
                     with_reducible rfl
                    rotate_left
                    ·simp only [Act.put, lA, lB, lC, i64_w, i32_w]
                     rfl
                    refine pure_ (i := 1) (N := some 45) (v := ?_) (a' := ?_) #[true, true, false, false, false, false, false, false, false, false, false] rfl rfl (by kernel_rfl) (fun _ _ _ h => h) (Or.inl ⟨by rfl, ?_⟩) ?_ ?_
                    rotate_left
                    ·intro w'
                     go_simp
                     with_reducible rfl
                    rotate_left
                    ·simp only [Act.put, lA, lB, lC, i64_w, i32_w]
                     rfl
                    refine pure_ (i := 2) (N := some 46) (v := ?_) (a' := ?_) #[true, true, true, false, false, false, false, false, false, false, false] rfl rfl (by kernel_rfl) (fun _ _ _ h => h) (Or.inl ⟨by rfl, ?_⟩) ?_ ?_
                    rotate_left
                    ·intro w'
                     go_simp
                     with_reducible rfl
                    rotate_left
                    ·simp only [Act.put, lA, lB, lC, i64_w, i32_w]
                     rfl
                    refine pure_ (i := 4) (N := some 48) (v := ?_) (a' := ?_) #[true, true, true, false, true, false, false, false, false, false, false] rfl rfl (by kernel_rfl) (fun _ _ _ h => h) (Or.inl ⟨by rfl, ?_⟩) ?_ ?_
                    rotate_left
                    ·intro w'
                     go_simp
                     with_reducible rfl
                    rotate_left
                    ·simp only [Act.put, lA, lB, lC, i64_w, i32_w]
                     rfl
                    refine pure_ (i := 6) (N := some 50) (v := ?_) (a' := ?_) #[true, true, true, false, true, false, true, false, false, false, false] rfl rfl (by kernel_rfl) (fun _ _ _ h => h) (Or.inl ⟨by rfl, ?_⟩) ?_ ?_
                    rotate_left
                    ·intro w'
                     go_simp
                     with_reducible rfl
                    rotate_left
                    ·simp only [Act.put, lA, lB, lC, i64_w, i32_w]
                     rfl
                    refine pure_ (i := 7) (N := some 51) (v := ?_) (a' := ?_) #[true, true, true, false, true, false, true, true, false, false, false] rfl rfl (by kernel_rfl) (fun _ _ _ h => h) (Or.inl ⟨by rfl, ?_⟩) ?_ ?_
                    rotate_left
                    ·intro w'
                     go_simp
                     with_reducible rfl
                    rotate_left
                    ·simp only [Act.put, lA, lB, lC, i64_w, i32_w]
                     rfl
                    refine take_ (i := 3) (N := some 47) (v := ?_) (a' := ?_) #[true, true, true, true, true, false, true, true, false, false, false] rfl rfl (by kernel_rfl) (fun _ _ _ h => h) (Or.inl ⟨by rfl, ?_⟩) hHeld ?_ ?_
                    rotate_left
                    ·rintro w' ⟨s0, s1, s2, s3⟩
                     go_simp
                     with_reducible rfl
                    rotate_left
                    ·simp only [Act.put, lA, lB, lC, i64_w, i32_w]
                     rfl
                    refine take_ (i := 5) (N := some 49) (v := ?_) (a' := ?_) #[true, true, true, true, true, true, true, true, false, false, false] rfl rfl (by kernel_rfl) (fun _ _ _ h => h) (Or.inl ⟨by rfl, ?_⟩) hHeld ?_ ?_
                    rotate_left
                    ·rintro w' ⟨s0, s1, s2, s3⟩
                     go_simp
                     with_reducible rfl
                    rotate_left
                    ·simp only [Act.put, lA, lB, lC, i64_w, i32_w]
                     rfl
                    refine one_ (i := 8) (N := some 52) #[true, true, true, true, true, true, true, true, true, false, false] rfl rfl (by kernel_rfl) (by decide) (fun K hK => ?_)
                    refine goes_ Tryd.func42 (by kernel_rfl) rfl #[.agg #[.slice A0_0 l0_0.length c0_0, .slice A0_1 l0_1.length c0_1, .map (some gb284)], .string (rdOf ByteArray.empty l1 x39_2), .int .i64 x28_1] (by rfl) rfl rfl (by (try simp only [List.map_toArray, List.map_cons, List.map_nil]); first | done | rfl) ?_
                    refine (table_view_cell.calls A0_0 l0_0.length c0_0 A0_1 c0_1 l0_0 l0_1 gb284 _ (rdOf ByteArray.empty l1 x39_2) x28_1 t294 t295 _ (by repeat (first | exact (Kd.C_below HR0_1.out HB.out) | (with_reducible refine Kd.C_alloc ?_ _) | (with_reducible refine Kd.C_drewN ?_ _) | (with_reducible refine Kd.C_drew ?_))) (OC284.out _ (by (with_reducible repeat (first | refine yG ?_ _ | refine yH ?_ | refine yI ?_ _)); exact BK284.out)) A39.out).mono ?_
                    rintro e w1_ ⟨rfl, hb⟩
                    refine ⟨_, rfl, ?_⟩
                    have hc0_ := (hb.cell (World.block_lt_of_cell? ww_ _ hHeld.1)).trans hHeld.1
                    have n0_ := yA (Kd.S_below HO_8.out hb)
                    have n1_ := yA (yC BK281.out hb)
                    have n2_ := yA (yC BK284.out hb)
                    have n3_ := yA (yC BK285.out hb)
                    have n4_ := yA (yB HB.out hb)
                    clear HO_8 BK281 BK284 BK285 HB
                    have HO_8 := n0_
                    have BK281 := n1_
                    have BK284 := n2_
                    have BK285 := n3_
                    have HB := n4_
                    clear n0_ n1_ n2_ n3_ n4_
                    refine hK.out _ _ ⟨hc0_, (yR BK285.out 0).trans rfl, (yR BK285.out 1).trans rfl, (yR BK285.out 2).trans rfl⟩ (fun hHeld => ?_)
                    clear hK K hb
                    refine norm_ (a' := ?_) ?_ ?_
                    rotate_left
                    ·show Act.put _ (some 52) _ = _
                     simp only [Act.put, lA, lB, lC, i64_w, i32_w]
                     rfl
                    refine pure_ (i := 9) (N := some 53) (v := ?_) (a' := ?_) #[true, true, true, true, true, true, true, true, true, true, false] rfl rfl (by kernel_rfl) (fun _ _ _ h => h) (Or.inl ⟨by rfl, ?_⟩) ?_ ?_
                    rotate_left
                    ·intro w'
                     go_simp
                     with_reducible rfl
                    rotate_left
                    ·simp only [Act.put, lA, lB, lC, i64_w, i32_w]
                     rfl
                    refine one_ (i := 10) (N := none) #[true, true, true, true, true, true, true, true, true, true, true] rfl rfl (by kernel_rfl) (by decide) (fun K hK => ?_)
                    obtain ⟨oki_, ce_, hcl_, hM_, hcc_, hok_, hput_⟩ := Kd.S_borrow HO_8.out [] (x28_1 : Int) (of_eq_true (by assumption : ((0 : Int) ≤ x28_1) = True)) (of_eq_true (by assumption : (x28_1 < (x8_2.length : Int)) = True))
                    obtain ⟨ve_, rfl, ge_⟩ := hM_
                    have hv_ : w1_.cell? ⟨go28, (x28_1 : Int).toNat, none⟩ = some ve_ := by have h_ := hcc_ 0 _ rfl; simpa only [add_plain, show ((Kd.slice 52 k52)).sz = 1 from rfl, Nat.mul_one, Nat.add_zero] using h_
                    obtain rfl := Option.some.inj (hv_.symm.trans hc0_)
                    have ge3_ : k52.R 52 w1_ w.heap.size oki_ (.slice (some ⟨g2_, 0, none⟩) (rd_L4 x8_2 x28_1).length cap2_) (rd_L4 x8_2 x28_1) := ge_
                    obtain ⟨ce2_, hcl2_, hM2_, hcc2_, hfr2_⟩ := Kd.R_elem ge3_ z52 x39_2 (of_eq_true (by assumption : ((0 : Int) ≤ x39_2) = True)) (of_eq_true q40_)
                    obtain rfl := k52_openM hM2_
                    have hs0_ : w1_.cell? ⟨g2_, (x39_2 : Int).toNat * 2, none⟩ = some (.bool ((rd_L4 x8_2 x28_1).getD (x39_2 : Int).toNat z52).f0) := hcc2_ 0 _ rfl
                    have hs1_ : w1_.cell? ⟨g2_, (x39_2 : Int).toNat * 2 + 1, none⟩ = some (.int .i64 ((rd_L4 x8_2 x28_1).getD (x39_2 : Int).toNat z52).f1) := hcc2_ 1 _ rfl
                    have hfs0_ : w1_.frozen? ⟨g2_, (x39_2 : Int).toNat * 2, none⟩ = false := hfr2_ 0
                    have hfs1_ : w1_.frozen? ⟨g2_, (x39_2 : Int).toNat * 2 + 1, none⟩ = false := hfr2_ 1
                    have HP_ := Kd.R_seg ge3_ x39_2 (of_eq_true (by assumption : ((0 : Int) ≤ x39_2) = True)) (of_eq_true q40_) hcl2_ hcc2_ (seg := [.bool t294, .int .i64 t295]) (j := 0) (show 2 ≤ 2 by decide) (x' := (⟨t294, t295⟩ : S52)) (k52_mkM _ _ (fun _ => False) (⟨t294, t295⟩ : S52)) (fun _ hk => hk.elim)
                    have hg2k_ := ge3_.1 g2_ (by simp [Value.ownBlock])
                    have hng_ : go28 ≠ g2_ := fun e_ => (hok_ g2_ hg2k_).2 (by rw [← e_]; simp [Value.ownBlock])
                    have HN_ := hput_ HP_.2 (fun k_ e_ => by cases e_; exact hg2k_) ⟨_, rfl, HP_.1⟩
                    have ht_ := Kd.R_typed ge3_ g2_ (by simp [Value.ownBlock])
                    have hnv_ : gb285 ≠ g2_ := by obtain ⟨cs_, hcs_⟩ := ht_; rintro rfl; have h_ := BK285.out.symm.trans hcs_; cases h_
                    have hnb_ : gb281 ≠ g2_ := by obtain ⟨cs_, hcs_⟩ := ht_; rintro rfl; have h_ := BK281.out.symm.trans hcs_; cases h_
                    have hnm_ : gb284 ≠ g2_ := by obtain ⟨cs_, hcs_⟩ := ht_; rintro rfl; have h_ := BK284.out.symm.trans hcs_; injection h_ with h_; exact MO284.out _ _ _ h_
                    refine skip_ (w1 := ?_) (by rfl) rfl ?_ ?_
                    rotate_left
                    ·go_simp
                     rfl
                    have HN2_ : Kd.S (Kd.slice 52 k52) 54 ((w1_.setCell ⟨g2_, (x39_2 : Int).toNat * 2, none⟩ (.bool t294)).setCell ⟨g2_, (x39_2 : Int).toNat * 2 + 1, none⟩ (.int .i64 t295)) w.heap.size (fun _ => True) (.slice (some ⟨go28, 0, none⟩) x8_2.length co22) y299 := by rw [Ny299.out, Ny296.out]; exact HN_
                    have hc1_ := (cell_far (p := ⟨g2_, (x39_2 : Int).toNat * 2 + 1, none⟩) (a := ⟨go28, (x28_1 : Int).toNat, none⟩) hng_ (.int .i64 t295)).trans ((cell_far (p := ⟨g2_, (x39_2 : Int).toNat * 2, none⟩) (a := ⟨go28, (x28_1 : Int).toNat, none⟩) hng_ (.bool t294)).trans hc0_)
                    have n0_ := yA (HN2_)
                    have n1_ := yA (blk_far (p := ⟨g2_, (x39_2 : Int).toNat * 2 + 1, none⟩) (blk_far (p := ⟨g2_, (x39_2 : Int).toNat * 2, none⟩) BK281.out hnb_ (.bool t294)) hnb_ (.int .i64 t295))
                    have n2_ := yA (blk_farO (p := ⟨g2_, (x39_2 : Int).toNat * 2 + 1, none⟩) (blk_farO (p := ⟨g2_, (x39_2 : Int).toNat * 2, none⟩) BK284.out hnm_ (.bool t294)) hnm_ (.int .i64 t295))
                    have n3_ := yA (blk_far (p := ⟨g2_, (x39_2 : Int).toNat * 2 + 1, none⟩) (blk_far (p := ⟨g2_, (x39_2 : Int).toNat * 2, none⟩) BK285.out hnv_ (.bool t294)) hnv_ (.int .i64 t295))
                    have n4_ := yA (yJ (j := (x39_2 : Int).toNat * 2 + 1) (v := .int .i64 t295) (yJ (j := (x39_2 : Int).toNat * 2) (v := .bool t294) HB.out GB2.out) GB2.out)
                    clear HO_8 BK281 BK284 BK285 HB
                    have HO_8 := n0_
                    have BK281 := n1_
                    have BK284 := n2_
                    have BK285 := n3_
                    have HB := n4_
                    clear n0_ n1_ n2_ n3_ n4_
                    clear HN_ HN2_ HP_ hput_ ge_ ge3_ hs0_ hs1_ hfs0_ hfs1_
                    refine hK.out _ _ ⟨hc1_, (yR BK285.out 0).trans rfl, (yR BK285.out 1).trans rfl, (yR BK285.out 2).trans rfl⟩ (fun hHeld => ?_)
                    clear hK K hHeld
                    refine done_ (by kernel_rfl) ?_
                    go_wp2
                    (try simp only [← hl8_2])
                    go_roundg k2
                    case measure => have := HK1.out; have := HK2.out; omega
                    case rel => exact ⟨(y299), (wrap64 (x39_2 + 1)), (by first | rfl | (simp; done) | (simp [*]; done)), H', ⟨by have := HK1.out; have := HK2.out; omega⟩, ⟨by (try simp only [hl8_1]); (try simp only [hl8_2]); (with_reducible repeat (first | apply Kd.S_alloc | apply Kd.S_drewN | apply Kd.S_drew)); exact HO_8.out⟩, ⟨by (try simp only [hl8_1]); (try simp only [hl8_2]); (with_reducible repeat (first | refine yG ?_ _ | refine yH ?_ | refine yI ?_ _)); exact BK281.out⟩, ⟨by (try simp only [hl8_1]); (try simp only [hl8_2]); (with_reducible repeat (first | refine yG ?_ _ | refine yH ?_ | refine yI ?_ _)); exact BK284.out⟩, ⟨by (try simp only [hl8_1]); (try simp only [hl8_2]); (with_reducible repeat (first | refine yG ?_ _ | refine yH ?_ | refine yI ?_ _)); exact BK285.out⟩, ⟨by repeat (first | (with_reducible first | exact HB.out | apply yE | apply yF | apply yD | refine yJ ?_ GE281.out | refine yJ ?_ GE284.out | refine yJ ?_ GE285.out) | exact HB.out)⟩⟩
                   ·rw [if_neg c40] at H
                    exact absurd H (by simp)
                  ·rw [if_neg c37] at H
                   exact absurd H (by simp)
                 ·rw [if_neg c36] at H
                  exact absurd H (by simp)
                ·rw [if_neg c35] at H
                 exact absurd H (by simp)
               ·rw [if_neg c34] at H
                exact absurd H (by simp)
              ·rw [if_neg c33] at H
               have c33b0 : decide (x39_2 < (l1.length : Int)) = false := yM c33
               clear c33
               have H' := yA H
               clear H
               go_wp2
               (try simp only [← hl8_1, ← hl8_2])
               go_roundg k2
               case measure => have := HK1.out; have := HK2.out; omega
               case rel => exact ⟨(x8_2), (wrap64 (x28_1 + 1)), (by first | rfl | (simp; done) | (simp [*]; done)), H', ⟨by have := HK1.out; have := HK2.out; omega⟩, ⟨by (try simp only [hl8_1]); (try simp only [hl8_2]); (with_reducible repeat (first | apply Kd.S_alloc | apply Kd.S_drewN | apply Kd.S_drew)); exact HO_8.out⟩, ⟨by (try simp only [hl8_1]); (try simp only [hl8_2]); (with_reducible repeat (first | refine yG ?_ _ | refine yH ?_ | refine yI ?_ _)); exact BK281.out⟩, ⟨by (try simp only [hl8_1]); (try simp only [hl8_2]); (with_reducible repeat (first | refine yG ?_ _ | refine yH ?_ | refine yI ?_ _)); exact BK284.out⟩, ⟨by (try simp only [hl8_1]); (try simp only [hl8_2]); (with_reducible repeat (first | refine yG ?_ _ | refine yH ?_ | refine yI ?_ _)); exact BK285.out⟩, ⟨by repeat (first | (with_reducible first | exact HB.out | apply yE | apply yF | apply yD | refine yJ ?_ GE281.out | refine yJ ?_ GE284.out | refine yJ ?_ GE285.out) | exact HB.out)⟩⟩
           ·rw [if_neg c27] at H
            exact absurd H (by simp)
          ·rw [if_neg c26] at H
           exact absurd H (by simp)
         ·rw [if_neg c25] at H
          exact absurd H (by simp)
        ·rw [if_neg c24] at H
         exact absurd H (by simp)
       ·rw [if_neg c23] at H
        have c23b0 : decide (x28_1 < (y286.length : Int)) = false := yM c23
        clear c23
        (try simp only [hl8_1] at c23b0)
        simp only [Option.some.injEq, Prod.mk.injEq] at H
        obtain ⟨rfl, rfl⟩ := H
        go_wp2
        go_ret2
        exact ⟨_, by first | rfl | (simp [errW_none, errW_some] <;> rfl) | (simp [*, errW_none, errW_some] <;> rfl), by (with_reducible repeat (first | apply Kd.S_alloc | apply Kd.S_drewN | apply Kd.S_drew)); exact HO_8.out, by repeat (first | (with_reducible first | exact HB.out | apply yE | apply yF | apply yD | refine yJ ?_ GE281.out | refine yJ ?_ GE284.out | refine yJ ?_ GE285.out) | exact HB.out)⟩
    ·rw [if_neg c8] at H
     exact absurd H (by simp)
   ·rw [if_neg c7] at H
    exact absurd H (by simp)
  ·replace c6 := Bool.eq_false_iff.mpr c6
   subst c6
   have H1 : (some (([] : List (List (S52))), 52)) = some (r1, r2) := by rw [if_neg (show ¬ (false = true) by decide)] at H; exact H
   clear H
   have H := H1
   clear H1
   simp only [Option.some.injEq, Prod.mk.injEq] at H
   obtain ⟨rfl, rfl⟩ := H
   go_enter Tryd.func76, Tryd.ntmps76
   go_wp2_with (first | ((with_reducible refine yP (N := 2) rfl ?_); refine yQ ?hg (N := 2) ?hd (cs := #[.slice A0_0 l0_0.length c0_0, .slice A0_1 l0_1.length c0_1]) (t := 25) ?hr ?_; (case hd => rfl); (case hg => rfl); (case hr => first | (go_simp; done) | (go_simp; rfl)); intro gb281 hg w49 hbox hb; have n0_ := yA (yB (by repeat (first | (with_reducible first | exact HB.out | apply yE | apply yF | apply yD) | exact HB.out)) hb); have n1_ := yA (hbox); have n2_ := yA ((by rw [hg]; exact (below_size (by repeat (first | (with_reducible first | exact HB.out | apply yE | apply yF | apply yD) | exact HB.out))) : w.heap.size ≤ gb281)); have n3_ := yA ((by rw [hg]; exact (below_size (by repeat (first | (with_reducible first | exact HB.out | apply yE | apply yF | apply yD) | exact HB.out))) : w.heap.size ≤ gb281)); clear HB; have HB := n0_; have BK281 := n1_; have GW281 := n2_; have GE281 := n3_; clear n0_ n1_ n2_ n3_; clear hb hbox hg; have hcz50_0 : w49.cell? ⟨gb281, 0, none⟩ = some (.slice A0_0 l0_0.length c0_0) := (yR BK281.out 0).trans rfl; have hcz50_1 : w49.cell? ⟨gb281, 1, none⟩ = some (.slice A0_1 l0_1.length c0_1) := (yR BK281.out 1).trans rfl; have hfz50_0 := yS BK281.out 0; have hfz50_1 := yS BK281.out 1) | ((with_reducible refine yO (f := 20) rfl ?_); refine goesL_ (some 13) rfl rfl Tryd.func20 (by kernel_rfl) rfl #[.agg #[.slice A0_0 l0_0.length c0_0, .slice A0_1 l0_1.length c0_1]] rfl (by (try simp only [List.map_toArray, List.map_cons, List.map_nil]); first | done | rfl | (simp only [List.length_drop, List.length_take]; rfl)) ?_; (with_reducible refine (table_Valid.calls k _ _ l0_0 _ _ l0_1 t282 _ ?side1 ?side2 ?side3 ?side4 A3.out).mono ?_); (case side1 => repeat (first | exact (Kd.C_below HR0_0.out HB.out) | (with_reducible refine Kd.C_alloc ?_ _) | (with_reducible refine Kd.C_drewN ?_ _) | (with_reducible refine Kd.C_drew ?_))); (case side2 => exact HC0_0.out); (case side3 => repeat (first | exact (Kd.C_below HR0_1.out HB.out) | (with_reducible refine Kd.C_alloc ?_ _) | (with_reducible refine Kd.C_drewN ?_ _) | (with_reducible refine Kd.C_drew ?_))); (case side4 => exact HC0_1.out); rintro e w51 ⟨rfl, hb⟩; refine ⟨_, rfl, ?_⟩; have n0_ := yA (yC (g := gb281) (o := .cells #[.slice A0_0 l0_0.length c0_0, .slice A0_1 l0_1.length c0_1] 25 (0, 0)) (by (with_reducible repeat (first | refine yG ?_ _ | refine yH ?_ | refine yI ?_ _)); exact BK281.out) hb); have n1_ := yA (yB (by repeat (first | (with_reducible first | exact HB.out | apply yE | apply yF | apply yD | refine yJ ?_ GE281.out) | exact HB.out)) hb); clear BK281; clear HB; have BK281 := n0_; have HB := n1_; clear n0_ n1_; (try clear hb); (try clear hb2); (try clear hk); (try clear hi)) | ((with_reducible refine yO (f := 47) rfl ?_); refine goesL_ (some 18) rfl rfl Tryd.func47 (by kernel_rfl) rfl #[.slice A1 l1.length c1] rfl (by (try simp only [List.map_toArray, List.map_cons, List.map_nil]); first | done | rfl | (simp only [List.length_drop, List.length_take]; rfl)) ?_; (with_reducible refine (table_capitals.calls k _ _ l1 false _ ?side1 ?side2 A5.out).mono ?_); (case side1 => repeat (first | exact (Kd.C_below HR1.out HB.out) | (with_reducible refine Kd.C_alloc ?_ _) | (with_reducible refine Kd.C_drewN ?_ _) | (with_reducible refine Kd.C_drew ?_))); (case side2 => exact HC1.out); rintro e w' ⟨rfl, ⟨nd, rfl⟩⟩; refine ⟨_, rfl, ?_⟩))
   go_ret2
   exact ⟨_, by first | rfl | (simp [errW_none, errW_some] <;> rfl) | (simp [*, errW_none, errW_some] <;> rfl), by first | exact Kd.S_nil _ _ _ _ _ | exact Kd.N_nil _ _ _ _ _ | exact Kd.V_nil _ _ _ _ _ | exact Kd.Q_nil _ _ _ _ _ | exact Kd.R_nil _ _ _ _ _, by repeat (first | (with_reducible first | exact HB.out | apply yE | apply yF | apply yD | refine yJ ?_ GE281.out) | exact HB.out)⟩
 ·rw [if_neg c4] at H
  have c4b0 : (t282 == 0) = false := beq_eq_false_iff_ne.mpr c4
  have c4b1 : (t282 != 0) = true := bne_iff_ne.mpr c4
  simp only [Option.some.injEq, Prod.mk.injEq] at H
  obtain ⟨rfl, rfl⟩ := H
  go_enter Tryd.func76, Tryd.ntmps76
  go_wp2_with (first | ((with_reducible refine yP (N := 2) rfl ?_); refine yQ ?hg (N := 2) ?hd (cs := #[.slice A0_0 l0_0.length c0_0, .slice A0_1 l0_1.length c0_1]) (t := 25) ?hr ?_; (case hd => rfl); (case hg => rfl); (case hr => first | (go_simp; done) | (go_simp; rfl)); intro gb281 hg w52 hbox hb; have n0_ := yA (yB (by repeat (first | (with_reducible first | exact HB.out | apply yE | apply yF | apply yD) | exact HB.out)) hb); have n1_ := yA (hbox); have n2_ := yA ((by rw [hg]; exact (below_size (by repeat (first | (with_reducible first | exact HB.out | apply yE | apply yF | apply yD) | exact HB.out))) : w.heap.size ≤ gb281)); have n3_ := yA ((by rw [hg]; exact (below_size (by repeat (first | (with_reducible first | exact HB.out | apply yE | apply yF | apply yD) | exact HB.out))) : w.heap.size ≤ gb281)); clear HB; have HB := n0_; have BK281 := n1_; have GW281 := n2_; have GE281 := n3_; clear n0_ n1_ n2_ n3_; clear hb hbox hg; have hcz53_0 : w52.cell? ⟨gb281, 0, none⟩ = some (.slice A0_0 l0_0.length c0_0) := (yR BK281.out 0).trans rfl; have hcz53_1 : w52.cell? ⟨gb281, 1, none⟩ = some (.slice A0_1 l0_1.length c0_1) := (yR BK281.out 1).trans rfl; have hfz53_0 := yS BK281.out 0; have hfz53_1 := yS BK281.out 1) | ((with_reducible refine yO (f := 20) rfl ?_); refine goesL_ (some 13) rfl rfl Tryd.func20 (by kernel_rfl) rfl #[.agg #[.slice A0_0 l0_0.length c0_0, .slice A0_1 l0_1.length c0_1]] rfl (by (try simp only [List.map_toArray, List.map_cons, List.map_nil]); first | done | rfl | (simp only [List.length_drop, List.length_take]; rfl)) ?_; (with_reducible refine (table_Valid.calls k _ _ l0_0 _ _ l0_1 t282 _ ?side1 ?side2 ?side3 ?side4 A3.out).mono ?_); (case side1 => repeat (first | exact (Kd.C_below HR0_0.out HB.out) | (with_reducible refine Kd.C_alloc ?_ _) | (with_reducible refine Kd.C_drewN ?_ _) | (with_reducible refine Kd.C_drew ?_))); (case side2 => exact HC0_0.out); (case side3 => repeat (first | exact (Kd.C_below HR0_1.out HB.out) | (with_reducible refine Kd.C_alloc ?_ _) | (with_reducible refine Kd.C_drewN ?_ _) | (with_reducible refine Kd.C_drew ?_))); (case side4 => exact HC0_1.out); rintro e w54 ⟨rfl, hb⟩; refine ⟨_, rfl, ?_⟩; have n0_ := yA (yC (g := gb281) (o := .cells #[.slice A0_0 l0_0.length c0_0, .slice A0_1 l0_1.length c0_1] 25 (0, 0)) (by (with_reducible repeat (first | refine yG ?_ _ | refine yH ?_ | refine yI ?_ _)); exact BK281.out) hb); have n1_ := yA (yB (by repeat (first | (with_reducible first | exact HB.out | apply yE | apply yF | apply yD | refine yJ ?_ GE281.out) | exact HB.out)) hb); clear BK281; clear HB; have BK281 := n0_; have HB := n1_; clear n0_ n1_; (try clear hb); (try clear hb2); (try clear hk); (try clear hi)))
  go_ret2
  exact ⟨_, by first | rfl | (simp [errW_none, errW_some] <;> rfl) | (simp [*, errW_none, errW_some] <;> rfl), by first | exact Kd.S_nil _ _ _ _ _ | exact Kd.N_nil _ _ _ _ _ | exact Kd.V_nil _ _ _ _ _ | exact Kd.Q_nil _ _ _ _ _ | exact Kd.R_nil _ _ _ _ _, by repeat (first | (with_reducible first | exact HB.out | apply yE | apply yF | apply yD | refine yJ ?_ GE281.out) | exact HB.out)⟩
end Go.Proofs.YtppojbafagneeaaDoor.PTab
