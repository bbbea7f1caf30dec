/- Own text, for this claim: table.Missing, after the text that the kit's printer writes. -/
import Derived.Test.YtppojbafagneeaaDoorZQSay0
import Derived.Test.YtppojbafagneeaaDoorZQTabv
import Derived.Test.YtppojbafagneeaaDoorZTabVC
import Derived.WalkMore
import Derived.Deep.DeepMust
import Derived.Outline
import Derived.Deep.RegionWith
namespace Go.Proofs.YtppojbafagneeaaDoor.PTab
open Go.RowKit Go.Maps Go.WideMaps Go.Proofs.YtppojbafagneeaaDoorW.PrintWords Go.Proofs.YtppojbafagneeaaDoorW.PrintLast Go.Proofs.YtppojbafagneeaaDoorW.PrintMore
attribute [local go_sem] max2_int min2_int max_two min_two max_three min_three max_four min_four
set_option linter.unusedVariables false
set_option linter.unusedSimpArgs false
attribute [local go_sem high] eqA52
attribute [local go_sem high] fld52
mutual
def table_Missing.j0 : Nat → List ByteArray → Int → Bool → List ByteArray → List (List (S52)) → Option ((List (S68)) × Int)
 | 0, _, _, _, _, _ => none
 | k + 1, x1, x2, x19, x313000, x313001 => if x19 = true then (some (([] : List (S68)), 1)) else ((table_Valid.f k x313000 x313001).bind fun t313 => (if t313 = 0 then ((table_capitals.f k x1).bind fun t314 => (if t314 = true then (table_Missing.l0 k x1 ([] : List (S68)) (wrap64 (x2 + 1)) 0 x313000 x313001) else (some (([] : List (S68)), 52)))) else (some (([] : List (S68)), t313))))
def table_Missing.l0 : Nat → List ByteArray → List (S68) → Int → Int → List ByteArray → List (List (S52)) → Option ((List (S68)) × Int)
 | 0, _, _, _, _, _, _ => none
 | k + 1, x1, x10, x31, x32, x317000, x317001 => if x32 < x31 then (table_Missing.l1 k x1 x10 x32 x31 x32 x1 (x1.length : Int) 0 x317000 x317001) else (some (x10, 0))
def table_Missing.l1 : Nat → List ByteArray → List (S68) → Int → Int → Int → List ByteArray → Int → Int → List ByteArray → List (List (S52)) → Option ((List (S68)) × Int)
 | 0, _, _, _, _, _, _, _, _, _, _ => none
 | k + 1, x1, x10, x11, x31, x32, x35, x36, x37, x317000, x317001 => if x37 < x36 then (if 0 ≤ x37 then (if x37 < (x35.length : Int) then ((table_view_cell.f x317000 x317001 (rdOf ByteArray.empty x35 x37) x11).bind fun bt318 => (if bt318.1 = true then (table_Missing.l1 k x1 x10 x11 x31 x32 x35 x36 (wrap64 (x37 + 1)) x317000 x317001) else (if x10.length < 5864062014805 then (table_Missing.l1 k x1 (x10 ++ [(⟨rdOf ByteArray.empty x35 x37, x11⟩ : S68)]) x11 x31 x32 x35 x36 (wrap64 (x37 + 1)) x317000 x317001) else (none)))) else (none)) else (none)) else (table_Missing.l0 k x1 x10 x31 (wrap64 (x32 + 1)) x317000 x317001)
end
open Classical in
noncomputable def table_Missing.f (k : Nat) (l0_0 : List ByteArray) (l0_1 : List (List (S52))) (l1 : List ByteArray) (a2 : Int) : Option ((List (S68)) × Int) := if SmallN l0_0 then (if a2 < 0 then (table_Missing.j0 k l1 a2 true l0_0 l0_1) else (table_Missing.j0 k l1 a2 (decide (a2 > 3660)) l0_0 l0_1)) else none
set_option maxHeartbeats 8000000 in
set_option maxRecDepth 100000 in
theorem table_Missing.calls (k : Nat) (A0_0 : Option Addr) (c0_0 : Nat) (l0_0 : List ByteArray) (A0_1 : Option Addr) (c0_1 : Nat) (l0_1 : List (List (S52))) (A1 : Option Addr) (c1 : Nat) (l1 : List ByteArray) (a2 : Int) (r1 : List (S68)) (r2 : Int) (w : World) (hr0_0 : Kd.C Kd.string w A0_0 l0_0.length l0_0) (hc0_0 : l0_0.length ≤ c0_0) (hr0_1 : Kd.C (Kd.slice 52 k52) w A0_1 l0_1.length l0_1) (hc0_1 : l0_1.length ≤ c0_1) (hr1 : Kd.C Kd.string w A1 l1.length l1) (hc1 : l1.length ≤ c1) (h : table_Missing.f k l0_0 l0_1 l1 a2 = some (r1, r2)) :
  Calls Tryd.prog 39 #[.agg #[.slice A0_0 l0_0.length c0_0, .slice A0_1 l0_1.length c0_1], .slice A1 l1.length c1, .int .i64 a2] w fun e w' => ∃ v0_ : Value, e = .returned (.tuple #[v0_, .int .i64 r2]) ∧ Kd.R k68 68 w' w.heap.size (fun _ => True) v0_ r1 ∧ Below w.heap.size w w' := by
 have hu73 := Tryd.underlying73
 have hsm_ : SmallN l0_0 := by
  by_cases e_ : SmallN l0_0
  ·exact e_
  ·rw [table_Missing.f, if_neg e_] at h; exact absurd h (by simp)
 rw [table_Missing.f, if_pos hsm_] at h
 have HSM0 := yA hsm_
 clear hsm_
 have hu25 := Tryd.underlying25
 have hu52 := Tryd.underlying52
 have hu68 := Tryd.underlying68
 have HR0_0 := yA hr0_0
 have HC0_0 := yA hc0_0
 clear hr0_0 hc0_0
 have HR0_1 := yA hr0_1
 have HC0_1 := yA hc0_1
 clear hr0_1 hc0_1
 have HR1 := yA hr1
 have HC1 := yA hc1
 clear hr1 hc1
 have HB := yA (Below.refl w.heap.size w)
 have H : (if a2 < 0 then (table_Missing.j0 k l1 a2 true l0_0 l0_1) else (table_Missing.j0 k l1 a2 (decide (a2 > 3660)) l0_0 l0_1)) = some (r1, r2) := h
 clear h
 have HC4 := yA H
 clear H
 go_enter Tryd.func39, Tryd.ntmps39
 go_upto_region 1 with (first | ((with_reducible refine yP (N := 3) rfl ?_); refine yQ ?hg (N := 3) ?hd (cs := #[.slice A0_0 l0_0.length c0_0, .slice A0_1 l0_1.length c0_1]) (t := 25) ?hr ?_; (case hd => rfl); (case hg => rfl); (case hr => first | (go_simp; done) | (go_simp; rfl)); intro gb312 hg w5 hbox hb; have n0_ := yA (yB (by repeat (first | (with_reducible first | exact HB.out | apply yE | apply yF | apply yD) | exact HB.out)) hb); have n1_ := yA (hbox); have n2_ := yA ((by rw [hg]; exact (below_size (by repeat (first | (with_reducible first | exact HB.out | apply yE | apply yF | apply yD) | exact HB.out))) : w.heap.size ≤ gb312)); have n3_ := yA ((by rw [hg]; exact (below_size (by repeat (first | (with_reducible first | exact HB.out | apply yE | apply yF | apply yD) | exact HB.out))) : w.heap.size ≤ gb312)); clear HB; have HB := n0_; have BK312 := n1_; have GW312 := n2_; have GE312 := n3_; clear n0_ n1_ n2_ n3_; clear hb hbox hg))
 (try simp only [Act.put, lA, lB, lC])
 go_cut [19] (fun v19 wc => ∃ (kq : Nat) (x19_3 : Bool), v19 = .bool x19_3 ∧ Aside0 (table_Missing.j0 kq l1 a2 x19_3 l0_0 l0_1 = some (r1, r2)) ∧ Aside0 (kq ≤ k) ∧ Aside0 (wc.heap[gb312]? = some (.cells #[(.slice A0_0 l0_0.length c0_0), (.slice A0_1 l0_1.length c0_1)] 25 (0, 0))) ∧ Aside0 (Below w.heap.size w wc))
 case first =>
  have H := HC4.out
  clear HC4
  by_cases c6 : a2 < 0
  ·rw [if_pos c6] at H
   have c6b0 : decide (a2 < 0) = true := yL c6
   clear c6
   (first | rw [c6b0] | (simp only [i64_w, i32_w]; rw [c6b0]) | skip)
   have H' := yA H
   clear H
   go_wp2
   go_meet
   case rel => exact ⟨_, (true), (by first | rfl | (simp; done) | (simp [*]; done)), H', ⟨by first | omega | exact Nat.le_refl _⟩, ⟨by (with_reducible repeat (first | refine yG ?_ _ | refine yH ?_ | refine yI ?_ _)); exact BK312.out⟩, ⟨by repeat (first | (with_reducible first | exact HB.out | apply yE | apply yF | apply yD | refine yJ ?_ GE312.out) | exact HB.out)⟩⟩
  ·rw [if_neg c6] at H
   have c6b0 : decide (a2 < 0) = false := yM c6
   clear c6
   (first | rw [c6b0] | (simp only [i64_w, i32_w]; rw [c6b0]) | skip)
   have H' := yA H
   clear H
   go_wp2
   go_meet
   case rel => exact ⟨_, (decide (a2 > 3660)), (by first | rfl | (simp; done) | (simp [*]; done)), H', ⟨by first | omega | exact Nat.le_refl _⟩, ⟨by (with_reducible repeat (first | refine yG ?_ _ | refine yH ?_ | refine yI ?_ _)); exact BK312.out⟩, ⟨by repeat (first | (with_reducible first | exact HB.out | apply yE | apply yF | apply yD | refine yJ ?_ GE312.out) | exact HB.out)⟩⟩
 case rest =>
  clear HC4; try clear c1; try clear p2; try clear c3; try clear c6; try clear c6b0
  obtain ⟨kq, x19_3, rfl, HA, HJ3, BK312, HB⟩ := hcut
  cases kq with
  | zero => exact absurd HA.out (by simp [table_Missing.j0])
  | succ kj3 =>
   have H := HA.out
   clear HA
   simp only [table_Missing.j0] at H
   by_cases c7 : x19_3 = true
   ·subst c7
    have H1 : (some (([] : List (S68)), 1)) = some (r1, r2) := by rw [if_pos rfl] at H; exact H
    clear H
    have H := H1
    clear H1
    simp only [Option.some.injEq, Prod.mk.injEq] at H
    obtain ⟨rfl, rfl⟩ := H
    go_wp2
    go_ret2
    exact ⟨_, by first | rfl | (simp [errW_none, errW_some] <;> rfl) | (simp [*, errW_none, errW_some] <;> rfl), by first | exact Kd.R_nil _ _ _ _ _ | exact Kd.N_nil _ _ _ _ _ | exact Kd.V_nil _ _ _ _ _ | exact Kd.Q_nil _ _ _ _ _ | exact Kd.S_nil _ _ _ _ _, by repeat (first | (with_reducible first | exact HB.out | apply yE | apply yF | apply yD | refine yJ ?_ GE312.out) | exact HB.out)⟩
   ·replace c7 := Bool.eq_false_iff.mpr c7
    subst c7
    have H1 : ((table_Valid.f kj3 l0_0 l0_1).bind fun t313 => (if t313 = 0 then ((table_capitals.f kj3 l1).bind fun t314 => (if t314 = true then (table_Missing.l0 kj3 l1 ([] : List (S68)) (wrap64 (a2 + 1)) 0 l0_0 l0_1) else (some (([] : List (S68)), 52)))) else (some (([] : List (S68)), t313)))) = some (r1, r2) := by rw [if_neg (show ¬ (false = true) by decide)] at H; exact H
    clear H
    have H := H1
    clear H1
    replace H := Option.bind_eq_some_iff.mp H
    obtain ⟨t313, A80, H⟩ := H
    replace H : (if t313 = 0 then ((table_capitals.f kj3 l1).bind fun t314 => (if t314 = true then (table_Missing.l0 kj3 l1 ([] : List (S68)) (wrap64 (a2 + 1)) 0 l0_0 l0_1) else (some (([] : List (S68)), 52)))) else (some (([] : List (S68)), t313))) = some (r1, r2) := H
    have A8 := yA A80
    clear A80
    by_cases c9 : t313 = 0
    ·rw [if_pos c9] at H
     have c9b0 : (t313 == 0) = true := beq_iff_eq.mpr c9
     have c9b1 : (t313 != 0) = false := bne_eq_false_iff_eq.mpr c9
     clear c9
     replace H := Option.bind_eq_some_iff.mp H
     obtain ⟨t314, A100, H⟩ := H
     replace H : (if t314 = true then (table_Missing.l0 kj3 l1 ([] : List (S68)) (wrap64 (a2 + 1)) 0 l0_0 l0_1) else (some (([] : List (S68)), 52))) = some (r1, r2) := H
     have A10 := yA A100
     clear A100
     by_cases c11 : t314 = true
     ·subst c11
      have H1 : (table_Missing.l0 kj3 l1 ([] : List (S68)) (wrap64 (a2 + 1)) 0 l0_0 l0_1) = some (r1, r2) := by rw [if_pos rfl] at H; exact H
      clear H
      have H := H1
      clear H1
      have H' := yA H
      clear H
      have hcz12_0 : wc.cell? ⟨gb312, 0, none⟩ = some (.slice A0_0 l0_0.length c0_0) := (yR BK312.out 0).trans rfl
      have hcz12_1 : wc.cell? ⟨gb312, 1, none⟩ = some (.slice A0_1 l0_1.length c0_1) := (yR BK312.out 1).trans rfl
      have hfz12_0 := yS BK312.out 0
      have hfz12_1 := yS BK312.out 1
      go_wp2_with (first | ((with_reducible refine yO (f := 20) rfl ?_); refine goesL_ (some 21) rfl rfl Tryd.func20 (by kernel_rfl) rfl #[.agg #[.slice A0_0 l0_0.length c0_0, .slice A0_1 l0_1.length c0_1]] rfl (by (try simp only [List.map_toArray, List.map_cons, List.map_nil]); first | done | rfl | (simp only [List.length_drop, List.length_take]; rfl)) ?_; (with_reducible refine (table_Valid.calls kj3 _ _ l0_0 _ _ l0_1 t313 _ ?side1 ?side2 ?side3 ?side4 A8.out).mono ?_); (case side1 => repeat (first | exact (Kd.C_below HR0_0.out HB.out) | (with_reducible refine Kd.C_alloc ?_ _) | (with_reducible refine Kd.C_drewN ?_ _) | (with_reducible refine Kd.C_drew ?_))); (case side2 => exact HC0_0.out); (case side3 => repeat (first | exact (Kd.C_below HR0_1.out HB.out) | (with_reducible refine Kd.C_alloc ?_ _) | (with_reducible refine Kd.C_drewN ?_ _) | (with_reducible refine Kd.C_drew ?_))); (case side4 => exact HC0_1.out); rintro e w13 ⟨rfl, hb⟩; refine ⟨_, rfl, ?_⟩; have n0_ := yA (yC (g := gb312) (o := .cells #[.slice A0_0 l0_0.length c0_0, .slice A0_1 l0_1.length c0_1] 25 (0, 0)) (by (with_reducible repeat (first | refine yG ?_ _ | refine yH ?_ | refine yI ?_ _)); exact BK312.out) hb); have n1_ := yA (yB (by repeat (first | (with_reducible first | exact HB.out | apply yE | apply yF | apply yD | refine yJ ?_ GE312.out) | exact HB.out)) hb); clear BK312; clear HB; have BK312 := n0_; have HB := n1_; clear n0_ n1_; (try clear hb); (try clear hb2); (try clear hk); (try clear hi)) | ((with_reducible refine yO (f := 47) rfl ?_); refine goesL_ (some 26) rfl rfl Tryd.func47 (by kernel_rfl) rfl #[.slice A1 l1.length c1] rfl (by (try simp only [List.map_toArray, List.map_cons, List.map_nil]); first | done | rfl | (simp only [List.length_drop, List.length_take]; rfl)) ?_; (with_reducible refine (table_capitals.calls kj3 _ _ l1 true _ ?side1 ?side2 A10.out).mono ?_); (case side1 => repeat (first | exact (Kd.C_below HR1.out HB.out) | (with_reducible refine Kd.C_alloc ?_ _) | (with_reducible refine Kd.C_drewN ?_ _) | (with_reducible refine Kd.C_drew ?_))); (case side2 => exact HC1.out); rintro e w' ⟨rfl, ⟨nd, rfl⟩⟩; refine ⟨_, rfl, ?_⟩; (try (rw [drewN_self w13]; generalize hq_ : World.drewN w13 _ = w13; have n0_ : Aside0 (w13.heap[gb312]? = some (.cells #[.slice A0_0 l0_0.length c0_0, .slice A0_1 l0_1.length c0_1] 25 (0, 0))) := ⟨by rw [← hq_]; exact (by (with_reducible repeat (first | refine yG ?_ _ | refine yH ?_ | refine yI ?_ _)); exact BK312.out)⟩; have n1_ : Aside0 (Below w.heap.size w w13) := ⟨by rw [← hq_]; exact (by repeat (first | (with_reducible first | exact HB.out | apply yE | apply yF | apply yD | refine yJ ?_ GE312.out) | exact HB.out))⟩; clear BK312 HB hq_; have BK312 := n0_; have HB := n1_; clear n0_ n1_)); have hcz14_0 : w13.cell? ⟨gb312, 0, none⟩ = some (.slice A0_0 l0_0.length c0_0) := (yR BK312.out 0).trans rfl; have hcz14_1 : w13.cell? ⟨gb312, 1, none⟩ = some (.slice A0_1 l0_1.length c0_1) := (yR BK312.out 1).trans rfl; have hfz14_0 := yS BK312.out 0; have hfz14_1 := yS BK312.out 1) | ((with_reducible refine yO (f := 41) rfl ?_); refine goesL_ (some 29) rfl rfl Tryd.func41 (by kernel_rfl) rfl #[.agg #[.slice A0_0 l0_0.length c0_0, .slice A0_1 l0_1.length c0_1]] rfl (by (try simp only [List.map_toArray, List.map_cons, List.map_nil]); first | done | rfl) ?_; (with_reducible refine (viewed_obj A0_0 c0_0 l0_0 A0_1 l0_1.length c0_1 _ ?side1 HC0_0.out HSM0.out.nm HSM0.out.ln).mono ?_); (case side1 => repeat (first | exact (Kd.C_below HR0_0.out HB.out) | (with_reducible refine Kd.C_alloc ?_ _) | (with_reducible refine Kd.C_drewN ?_ _) | (with_reducible refine Kd.C_drew ?_))); rintro e w15 ⟨gb315, o315, rfl, hg, hbox, hoc_, hmo_, hb⟩; refine ⟨_, rfl, ?_⟩; have OC315 := yA hoc_; have MO315 := yA hmo_; clear hoc_ hmo_; have n0_ := yA (yC (g := gb312) (o := .cells #[.slice A0_0 l0_0.length c0_0, .slice A0_1 l0_1.length c0_1] 25 (0, 0)) (by (with_reducible repeat (first | refine yG ?_ _ | refine yH ?_ | refine yI ?_ _)); exact BK312.out) hb); have n1_ := yA (yB (by repeat (first | (with_reducible first | exact HB.out | apply yE | apply yF | apply yD | refine yJ ?_ GE312.out) | exact HB.out)) hb); have n2_ := yA (hbox); have n3_ := yA ((Nat.le_trans (below_size (by repeat (first | (with_reducible first | exact HB.out | apply yE | apply yF | apply yD | refine yJ ?_ GE312.out) | exact HB.out))) hg : w.heap.size ≤ gb315)); have n4_ := yA ((Nat.le_trans (below_size (by repeat (first | (with_reducible first | exact HB.out | apply yE | apply yF | apply yD | refine yJ ?_ GE312.out) | exact HB.out))) hg : w.heap.size ≤ gb315)); have n5_ := yA ((Nat.ne_of_lt (Nat.lt_of_lt_of_le (blk_lt (g := gb312) (o := .cells #[.slice A0_0 l0_0.length c0_0, .slice A0_1 l0_1.length c0_1] 25 (0, 0)) (by (with_reducible repeat (first | refine yG ?_ _ | refine yH ?_ | refine yI ?_ _)); exact BK312.out)) hg) : gb312 ≠ gb315)); have n6_ := yA ((Nat.ne_of_gt (Nat.lt_of_lt_of_le (blk_lt (g := gb312) (o := .cells #[.slice A0_0 l0_0.length c0_0, .slice A0_1 l0_1.length c0_1] 25 (0, 0)) (by (with_reducible repeat (first | refine yG ?_ _ | refine yH ?_ | refine yI ?_ _)); exact BK312.out)) hg) : gb315 ≠ gb312)); clear BK312; clear HB; have BK312 := n0_; have HB := n1_; have BK315 := n2_; have GW315 := n3_; have GE315 := n4_; have NB312_315 := n5_; have NB315_312 := n6_; clear n0_ n1_ n2_ n3_ n4_ n5_ n6_; clear hb hbox hg) | ((with_reducible refine yP (N := 9) rfl ?_); refine yQ ?hg (N := 9) ?hd (cs := #[.slice none 0 0, .slice none 0 0, .map none]) (t := 73) ?hr ?_; (case hd => rfl); (case hg => rfl); (case hr => first | (go_simp; done) | (go_simp; rfl)); intro gb316 hg w16 hbox hb; have n0_ := yA (yC (g := gb312) (o := .cells #[.slice A0_0 l0_0.length c0_0, .slice A0_1 l0_1.length c0_1] 25 (0, 0)) (by (with_reducible repeat (first | refine yG ?_ _ | refine yH ?_ | refine yI ?_ _)); exact BK312.out) hb); have n1_ := yA (yC (g := gb315) (o := o315) (by (with_reducible repeat (first | refine yG ?_ _ | refine yH ?_ | refine yI ?_ _)); exact BK315.out) hb); have n2_ := yA (yB (by repeat (first | (with_reducible first | exact HB.out | apply yE | apply yF | apply yD | refine yJ ?_ GE312.out | refine yJ ?_ GE315.out) | exact HB.out)) hb); have n3_ := yA (hbox); have n4_ := yA ((by rw [hg]; exact (below_size (by repeat (first | (with_reducible first | exact HB.out | apply yE | apply yF | apply yD | refine yJ ?_ GE312.out | refine yJ ?_ GE315.out) | exact HB.out))) : w.heap.size ≤ gb316)); have n5_ := yA ((by rw [hg]; exact (below_size (by repeat (first | (with_reducible first | exact HB.out | apply yE | apply yF | apply yD | refine yJ ?_ GE312.out | refine yJ ?_ GE315.out) | exact HB.out))) : w.heap.size ≤ gb316)); have n6_ := yA ((by rw [hg]; exact Nat.ne_of_lt (blk_lt (g := gb312) (o := .cells #[.slice A0_0 l0_0.length c0_0, .slice A0_1 l0_1.length c0_1] 25 (0, 0)) (by (with_reducible repeat (first | refine yG ?_ _ | refine yH ?_ | refine yI ?_ _)); exact BK312.out)) : gb312 ≠ gb316)); have n7_ := yA ((by rw [hg]; exact Nat.ne_of_gt (blk_lt (g := gb312) (o := .cells #[.slice A0_0 l0_0.length c0_0, .slice A0_1 l0_1.length c0_1] 25 (0, 0)) (by (with_reducible repeat (first | refine yG ?_ _ | refine yH ?_ | refine yI ?_ _)); exact BK312.out)) : gb316 ≠ gb312)); have n8_ := yA ((by rw [hg]; exact Nat.ne_of_lt (blk_lt (g := gb315) (o := o315) (by (with_reducible repeat (first | refine yG ?_ _ | refine yH ?_ | refine yI ?_ _)); exact BK315.out)) : gb315 ≠ gb316)); have n9_ := yA ((by rw [hg]; exact Nat.ne_of_gt (blk_lt (g := gb315) (o := o315) (by (with_reducible repeat (first | refine yG ?_ _ | refine yH ?_ | refine yI ?_ _)); exact BK315.out)) : gb316 ≠ gb315)); clear BK312; clear BK315; clear HB; have BK312 := n0_; have BK315 := n1_; have HB := n2_; have BK316 := n3_; have GW316 := n4_; have GE316 := n5_; have NB312_316 := n6_; have NB316_312 := n7_; have NB315_316 := n8_; have NB316_315 := n9_; clear n0_ n1_ n2_ n3_ n4_ n5_ n6_ n7_ n8_ n9_; clear hb hbox hg; have hnb17 := NB316_312.out; have hnc17 := NB312_316.out; have hnb18 := NB316_315.out; have hnc18 := NB315_316.out; have hcz19_0 : w16.cell? ⟨gb316, 0, none⟩ = some (.slice none 0 0) := (yR BK316.out 0).trans rfl; have hcz19_1 : w16.cell? ⟨gb316, 1, none⟩ = some (.slice none 0 0) := (yR BK316.out 1).trans rfl; have hcz19_2 : w16.cell? ⟨gb316, 2, none⟩ = some (.map none) := (yR BK316.out 2).trans rfl; have hfz19_0 := yS BK316.out 0; have hfz19_1 := yS BK316.out 1; have hfz19_2 := yS BK316.out 2))
      go_loopg [10, 32] kj3 (fun kq v10 v32 w' => ∃ (x10_2 : List (S68)) (x32_2 : Int), v32 = .int .i64 x32_2 ∧ Aside0 (table_Missing.l0 kq l1 x10_2 (wrap64 (a2 + 1)) x32_2 l0_0 l0_1 = some (r1, r2)) ∧ Aside0 (kq ≤ kj3) ∧ Aside0 (Kd.R k68 68 w' w.heap.size (fun _ => True) v10 x10_2) ∧ Aside0 (w'.heap[gb312]? = some (.cells #[(.slice A0_0 l0_0.length c0_0), (.slice A0_1 l0_1.length c0_1)] 25 (0, 0))) ∧ Aside0 (w'.heap[gb315]? = some o315) ∧ Aside0 (w'.heap[gb316]? = some (.cells #[.slice A0_0 l0_0.length c0_0, .slice A0_1 l0_1.length c0_1, .map (some gb315)] 73 (0, 0))) ∧ Aside0 (Below w.heap.size w w'))
      case atStart => exact ⟨(([] : List (S68))), (0), (by first | rfl | (simp; done) | (simp [*]; done)), H', ⟨Nat.le_refl _⟩, ⟨by first | exact Kd.R_nil _ _ _ _ _ | exact Kd.N_nil _ _ _ _ _ | exact Kd.V_nil _ _ _ _ _ | exact Kd.Q_nil _ _ _ _ _ | exact Kd.S_nil _ _ _ _ _⟩, ⟨by (with_reducible repeat (first | refine yG ?_ _ | refine yH ?_ | refine yI ?_ _)); refine blk_far ?_ NB312_316.out _; (with_reducible repeat (first | refine yG ?_ _ | refine yH ?_ | refine yI ?_ _)); refine blk_far ?_ NB312_316.out _; (with_reducible repeat (first | refine yG ?_ _ | refine yH ?_ | refine yI ?_ _)); refine blk_far ?_ NB312_316.out _; (with_reducible repeat (first | refine yG ?_ _ | refine yH ?_ | refine yI ?_ _)); exact BK312.out⟩, ⟨by (with_reducible repeat (first | refine yG ?_ _ | refine yH ?_ | refine yI ?_ _)); refine blk_farO ?_ NB315_316.out _; (with_reducible repeat (first | refine yG ?_ _ | refine yH ?_ | refine yI ?_ _)); refine blk_farO ?_ NB315_316.out _; (with_reducible repeat (first | refine yG ?_ _ | refine yH ?_ | refine yI ?_ _)); refine blk_farO ?_ NB315_316.out _; (with_reducible repeat (first | refine yG ?_ _ | refine yH ?_ | refine yI ?_ _)); exact BK315.out⟩, ⟨by (with_reducible repeat (first | refine yG ?_ _ | refine yH ?_ | refine yI ?_ _)); refine blk_put (cs := #[.slice A0_0 l0_0.length c0_0, .slice A0_1 l0_1.length c0_1, .map none]) ?_ 2 _ rfl; (with_reducible repeat (first | refine yG ?_ _ | refine yH ?_ | refine yI ?_ _)); refine blk_put (cs := #[.slice A0_0 l0_0.length c0_0, .slice none 0 0, .map none]) ?_ 1 _ rfl; (with_reducible repeat (first | refine yG ?_ _ | refine yH ?_ | refine yI ?_ _)); refine blk_put (cs := #[.slice none 0 0, .slice none 0 0, .map none]) ?_ 0 _ rfl; (with_reducible repeat (first | refine yG ?_ _ | refine yH ?_ | refine yI ?_ _)); exact BK316.out⟩, ⟨by repeat (first | (with_reducible first | exact HB.out | apply yE | apply yF | apply yD | refine yJ ?_ GE312.out | refine yJ ?_ GE315.out | refine yJ ?_ GE316.out) | exact HB.out)⟩⟩
      case round =>
       clear H'
       try clear c1; try clear c2; try clear p2; try clear c3; try clear c4; try clear c6; try clear c6b0; try clear p6; try clear c7; try clear c9; try clear c9b0; try clear c9b1; try clear c11; try clear c17; try clear c18; try clear hcz12_0; try clear hcz12_1; try clear hcz14_0; try clear hcz14_1; try clear hcz19_0; try clear hcz19_1; try clear hcz19_2; try clear hfz19_2; try clear hfz12_0; try clear hfz12_1; try clear hfz14_0; try clear hfz14_1; try clear hfz19_0; try clear hfz19_1; try clear p2
       obtain ⟨x10_2, x32_2, rfl, HA, HK2, HO_10, BK312, BK315, BK316, HB⟩ := hrel
       cases gk with
       | zero => exact absurd HA.out (by simp [table_Missing.l0])
       | succ k2 =>
        have H := HA.out
        clear HA
        simp only [table_Missing.l0] at H
        by_cases c20 : x32_2 < (wrap64 (a2 + 1))
        ·rw [if_pos c20] at H
         have c20b0 : decide (x32_2 < (wrap64 (a2 + 1))) = true := yL c20
         clear c20
         have H' := yA H
         clear H
         go_wp2
         go_loopg [10, 37] k2 (fun kq v10 v37 w' => ∃ (x10_3 : List (S68)) (x37_3 : Int), v37 = .int .i64 x37_3 ∧ Aside0 (table_Missing.l1 kq l1 x10_3 x32_2 (wrap64 (a2 + 1)) x32_2 l1 (l1.length : Int) x37_3 l0_0 l0_1 = some (r1, r2)) ∧ Aside0 (kq ≤ k2) ∧ Aside0 (Kd.R k68 68 w' w.heap.size (fun _ => True) v10 x10_3) ∧ Aside0 (w'.heap[gb312]? = some (.cells #[(.slice A0_0 l0_0.length c0_0), (.slice A0_1 l0_1.length c0_1)] 25 (0, 0))) ∧ Aside0 (w'.heap[gb315]? = some o315) ∧ Aside0 (w'.heap[gb316]? = some (.cells #[.slice A0_0 l0_0.length c0_0, .slice A0_1 l0_1.length c0_1, .map (some gb315)] 73 (0, 0))) ∧ Aside0 (Below w.heap.size w w'))
         case atStart => exact ⟨(x10_2), (0), (by first | rfl | (simp; done) | (simp [*]; done)), H', ⟨Nat.le_refl _⟩, ⟨by (with_reducible repeat (first | apply Kd.R_alloc | apply Kd.R_drewN | apply Kd.R_drew)); exact HO_10.out⟩, ⟨by (with_reducible repeat (first | refine yG ?_ _ | refine yH ?_ | refine yI ?_ _)); exact BK312.out⟩, ⟨by (with_reducible repeat (first | refine yG ?_ _ | refine yH ?_ | refine yI ?_ _)); exact BK315.out⟩, ⟨by (with_reducible repeat (first | refine yG ?_ _ | refine yH ?_ | refine yI ?_ _)); exact BK316.out⟩, ⟨by repeat (first | (with_reducible first | exact HB.out | apply yE | apply yF | apply yD | refine yJ ?_ GE312.out | refine yJ ?_ GE315.out | refine yJ ?_ GE316.out) | exact HB.out)⟩⟩
         case round =>
          clear H'
          try clear c1; try clear c2; try clear p2; try clear c3; try clear c4; try clear c6; try clear c6b0; try clear p6; try clear c7; try clear c9; try clear c9b0; try clear c9b1; try clear c11; try clear c17; try clear c18; try clear c20; try clear c20b0; try clear hcz12_0; try clear hcz12_1; try clear hcz14_0; try clear hcz14_1; try clear hcz19_0; try clear hcz19_1; try clear hcz19_2; try clear hfz19_2; try clear hfz12_0; try clear hfz12_1; try clear hfz14_0; try clear hfz14_1; try clear hfz19_0; try clear hfz19_1; try clear p2; try clear p6
          obtain ⟨x10_3, x37_3, rfl, HA, HK3, HO_10, BK312, BK315, BK316, HB⟩ := hrel
          cases gk with
          | zero => exact absurd HA.out (by simp [table_Missing.l1])
          | succ k3 =>
           have H := HA.out
           clear HA
           simp only [table_Missing.l1] at H
           by_cases c21 : x37_3 < (l1.length : Int)
           ·rw [if_pos c21] at H
            have c21b0 : decide (x37_3 < (l1.length : Int)) = true := yL c21
            clear c21
            by_cases c22 : 0 ≤ x37_3
            ·rw [if_pos c22] at H
             have c22b0 : decide (0 ≤ x37_3) = true := yL c22
             clear c22
             by_cases c23 : x37_3 < (l1.length : Int)
             ·rw [if_pos c23] at H
              have c23b0 : decide (x37_3 < (l1.length : Int)) = true := yL c23
              clear c23
              replace H := Option.bind_eq_some_iff.mp H
              obtain ⟨⟨t318, t319⟩, A240, H⟩ := H
              replace H : (if t318 = true then (table_Missing.l1 k3 l1 x10_3 x32_2 (wrap64 (a2 + 1)) x32_2 l1 (l1.length : Int) (wrap64 (x37_3 + 1)) l0_0 l0_1) else (if x10_3.length < 5864062014805 then (table_Missing.l1 k3 l1 (x10_3 ++ [(⟨rdOf ByteArray.empty l1 x37_3, x32_2⟩ : S68)]) x32_2 (wrap64 (a2 + 1)) x32_2 l1 (l1.length : Int) (wrap64 (x37_3 + 1)) l0_0 l0_1) else (none))) = some (r1, r2) := H
              have A24 := yA A240
              clear A240
              by_cases c25 : t318 = true
              ·subst c25
               have H1 : (table_Missing.l1 k3 l1 x10_3 x32_2 (wrap64 (a2 + 1)) x32_2 l1 (l1.length : Int) (wrap64 (x37_3 + 1)) l0_0 l0_1) = some (r1, r2) := by rw [if_pos rfl] at H; exact H
               clear H
               have H := H1
               clear H1
               have H' := yA H
               clear H
               have p317 : 0 ≤ (x37_3 : Int) := yN (by first | (with_reducible assumption) | assumption)
               have q317 : x37_3 < (l1.length : Int) := yN (by first | (with_reducible assumption) | assumption)
               obtain ⟨ad317, e317, hx317_0⟩ := Kd.at_string HR1.out x37_3 p317 q317
               cases e317
               replace hx317_0 := (HB.out.cell (World.block_lt_of_cell? w _ hx317_0)).trans hx317_0
               replace p317 := eq_true p317
               replace q317 := eq_true q317
               have hnb26 := NB316_312.out
               have hnc26 := NB312_316.out
               have hnb27 := NB316_315.out
               have hnc27 := NB315_316.out
               have hcz28_0 : wr.cell? ⟨gb316, 0, none⟩ = some (.slice A0_0 l0_0.length c0_0) := (yR BK316.out 0).trans rfl
               have hcz28_1 : wr.cell? ⟨gb316, 1, none⟩ = some (.slice A0_1 l0_1.length c0_1) := (yR BK316.out 1).trans rfl
               have hcz28_2 : wr.cell? ⟨gb316, 2, none⟩ = some (.map (some gb315)) := (yR BK316.out 2).trans rfl
               have hfz28_0 := yS BK316.out 0
               have hfz28_1 := yS BK316.out 1
               have hfz28_2 := yS BK316.out 2
               go_wp2_with (first | ((with_reducible refine yO (f := 42) rfl ?_); refine goesL_ (some 44) rfl rfl Tryd.func42 (by kernel_rfl) rfl #[.agg #[.slice A0_0 l0_0.length c0_0, .slice A0_1 l0_1.length c0_1, .map (some gb315)], .string (rdOf ByteArray.empty l1 x37_3), .int .i64 x32_2] rfl (by (try simp only [List.map_toArray, List.map_cons, List.map_nil]); first | done | rfl | (simp only [List.length_drop, List.length_take]; rfl)) ?_; (with_reducible refine (table_view_cell.calls A0_0 l0_0.length c0_0 A0_1 c0_1 l0_0 l0_1 gb315 _ (rdOf ByteArray.empty l1 x37_3) x32_2 true t319 _ (by repeat (first | exact (Kd.C_below HR0_1.out HB.out) | (with_reducible refine Kd.C_alloc ?_ _) | (with_reducible refine Kd.C_drewN ?_ _) | (with_reducible refine Kd.C_drew ?_))) (OC315.out _ (by (with_reducible repeat (first | refine yG ?_ _ | refine yH ?_ | refine yI ?_ _)); exact BK315.out)) A24.out).mono ?_); rintro e w29 ⟨rfl, hb⟩; refine ⟨_, rfl, ?_⟩; have n0_ := yA (Kd.R_below (by (with_reducible repeat (first | apply Kd.R_alloc | apply Kd.R_drewN | apply Kd.R_drew)); exact HO_10.out) hb); have n1_ := yA (yC (g := gb312) (o := .cells #[.slice A0_0 l0_0.length c0_0, .slice A0_1 l0_1.length c0_1] 25 (0, 0)) (by (with_reducible repeat (first | refine yG ?_ _ | refine yH ?_ | refine yI ?_ _)); exact BK312.out) hb); have n2_ := yA (yC (g := gb315) (o := o315) (by (with_reducible repeat (first | refine yG ?_ _ | refine yH ?_ | refine yI ?_ _)); exact BK315.out) hb); have n3_ := yA (yC (g := gb316) (o := .cells #[.slice A0_0 l0_0.length c0_0, .slice A0_1 l0_1.length c0_1, .map (some gb315)] 73 (0, 0)) (by (with_reducible repeat (first | refine yG ?_ _ | refine yH ?_ | refine yI ?_ _)); exact BK316.out) hb); have n4_ := yA (yB (by repeat (first | (with_reducible first | exact HB.out | apply yE | apply yF | apply yD | refine yJ ?_ GE312.out | refine yJ ?_ GE315.out | refine yJ ?_ GE316.out) | exact HB.out)) hb); clear HO_10; clear BK312; clear BK315; clear BK316; clear HB; have HO_10 := n0_; have BK312 := n1_; have BK315 := n2_; have BK316 := n3_; have HB := n4_; clear n0_ n1_ n2_ n3_ n4_; (try clear hb); (try clear hb2); (try clear hk); (try clear hi)))
               go_roundg k3
               case measure => have := HJ3.out; have := HK2.out; have := HK3.out; omega
               case rel => exact ⟨(x10_3), (wrap64 (x37_3 + 1)), (by first | rfl | (simp; done) | (simp [*]; done)), H', ⟨by have := HJ3.out; have := HK2.out; have := HK3.out; omega⟩, ⟨by (with_reducible repeat (first | apply Kd.R_alloc | apply Kd.R_drewN | apply Kd.R_drew)); exact HO_10.out⟩, ⟨by (with_reducible repeat (first | refine yG ?_ _ | refine yH ?_ | refine yI ?_ _)); exact BK312.out⟩, ⟨by (with_reducible repeat (first | refine yG ?_ _ | refine yH ?_ | refine yI ?_ _)); exact BK315.out⟩, ⟨by (with_reducible repeat (first | refine yG ?_ _ | refine yH ?_ | refine yI ?_ _)); exact BK316.out⟩, ⟨by repeat (first | (with_reducible first | exact HB.out | apply yE | apply yF | apply yD | refine yJ ?_ GE312.out | refine yJ ?_ GE315.out | refine yJ ?_ GE316.out) | exact HB.out)⟩⟩
              ·replace c25 := Bool.eq_false_iff.mpr c25
               subst c25
               have H1 : (if x10_3.length < 5864062014805 then (table_Missing.l1 k3 l1 (x10_3 ++ [(⟨rdOf ByteArray.empty l1 x37_3, x32_2⟩ : S68)]) x32_2 (wrap64 (a2 + 1)) x32_2 l1 (l1.length : Int) (wrap64 (x37_3 + 1)) l0_0 l0_1) else (none)) = some (r1, r2) := by rw [if_neg (show ¬ (false = true) by decide)] at H; exact H
               clear H
               have H := H1
               clear H1
               by_cases c30 : x10_3.length < 5864062014805
               ·rw [if_pos c30] at H
                have LMc30 := yA c30
                clear c30
                obtain ⟨y320, hy320⟩ : ∃ y_ : List (S68), y_ = (x10_3 ++ [(⟨rdOf ByteArray.empty l1 x37_3, x32_2⟩ : S68)]) := ⟨_, rfl⟩
                replace H : (table_Missing.l1 k3 l1 y320 x32_2 (wrap64 (a2 + 1)) x32_2 l1 (l1.length : Int) (wrap64 (x37_3 + 1)) l0_0 l0_1) = some (r1, r2) := by first | (rw [hy320]; with_reducible exact H) | (have H2_ := (Option.bind_some _ _).symm.trans H; rw [hy320]; with_reducible exact H2_) | (have H2_ := (Option.bind_some _ _).symm.trans H; with_reducible exact H2_) | with_reducible exact H | (rw [hy320]; exact H) | exact H
                have Ny320 := yA hy320
                clear hy320
                have H' := yA H
                clear H
                have p317 : 0 ≤ (x37_3 : Int) := yN (by first | (with_reducible assumption) | assumption)
                have q317 : x37_3 < (l1.length : Int) := yN (by first | (with_reducible assumption) | assumption)
                obtain ⟨ad317, e317, hx317_0⟩ := Kd.at_string HR1.out x37_3 p317 q317
                cases e317
                replace hx317_0 := (HB.out.cell (World.block_lt_of_cell? w _ hx317_0)).trans hx317_0
                replace p317 := eq_true p317
                replace q317 := eq_true q317
                have hnb31 := NB316_312.out
                have hnc31 := NB312_316.out
                have hnb32 := NB316_315.out
                have hnc32 := NB315_316.out
                have hcz33_0 : wr.cell? ⟨gb316, 0, none⟩ = some (.slice A0_0 l0_0.length c0_0) := (yR BK316.out 0).trans rfl
                have hcz33_1 : wr.cell? ⟨gb316, 1, none⟩ = some (.slice A0_1 l0_1.length c0_1) := (yR BK316.out 1).trans rfl
                have hcz33_2 : wr.cell? ⟨gb316, 2, none⟩ = some (.map (some gb315)) := (yR BK316.out 2).trans rfl
                have hfz33_0 := yS BK316.out 0
                have hfz33_1 := yS BK316.out 1
                have hfz33_2 := yS BK316.out 2
                go_wp2_with (first | ((with_reducible refine yO (f := 42) rfl ?_); refine goesL_ (some 44) rfl rfl Tryd.func42 (by kernel_rfl) rfl #[.agg #[.slice A0_0 l0_0.length c0_0, .slice A0_1 l0_1.length c0_1, .map (some gb315)], .string (rdOf ByteArray.empty l1 x37_3), .int .i64 x32_2] rfl (by (try simp only [List.map_toArray, List.map_cons, List.map_nil]); first | done | rfl | (simp only [List.length_drop, List.length_take]; rfl)) ?_; (with_reducible refine (table_view_cell.calls A0_0 l0_0.length c0_0 A0_1 c0_1 l0_0 l0_1 gb315 _ (rdOf ByteArray.empty l1 x37_3) x32_2 false t319 _ (by repeat (first | exact (Kd.C_below HR0_1.out HB.out) | (with_reducible refine Kd.C_alloc ?_ _) | (with_reducible refine Kd.C_drewN ?_ _) | (with_reducible refine Kd.C_drew ?_))) (OC315.out _ (by (with_reducible repeat (first | refine yG ?_ _ | refine yH ?_ | refine yI ?_ _)); exact BK315.out)) A24.out).mono ?_); rintro e w34 ⟨rfl, hb⟩; refine ⟨_, rfl, ?_⟩; have n0_ := yA (Kd.R_below (by (with_reducible repeat (first | apply Kd.R_alloc | apply Kd.R_drewN | apply Kd.R_drew)); exact HO_10.out) hb); have n1_ := yA (yC (g := gb312) (o := .cells #[.slice A0_0 l0_0.length c0_0, .slice A0_1 l0_1.length c0_1] 25 (0, 0)) (by (with_reducible repeat (first | refine yG ?_ _ | refine yH ?_ | refine yI ?_ _)); exact BK312.out) hb); have n2_ := yA (yC (g := gb315) (o := o315) (by (with_reducible repeat (first | refine yG ?_ _ | refine yH ?_ | refine yI ?_ _)); exact BK315.out) hb); have n3_ := yA (yC (g := gb316) (o := .cells #[.slice A0_0 l0_0.length c0_0, .slice A0_1 l0_1.length c0_1, .map (some gb315)] 73 (0, 0)) (by (with_reducible repeat (first | refine yG ?_ _ | refine yH ?_ | refine yI ?_ _)); exact BK316.out) hb); have n4_ := yA (yB (by repeat (first | (with_reducible first | exact HB.out | apply yE | apply yF | apply yD | refine yJ ?_ GE312.out | refine yJ ?_ GE315.out | refine yJ ?_ GE316.out) | exact HB.out)) hb); clear HO_10; clear BK312; clear BK315; clear BK316; clear HB; have HO_10 := n0_; have BK312 := n1_; have BK315 := n2_; have BK316 := n3_; have HB := n4_; clear n0_ n1_ n2_ n3_ n4_; (try clear hb); (try clear hb2); (try clear hk); (try clear hi)) | ((with_reducible refine gate_builtin (b := .append) (xs := #[.tmp 47, .tmp 51]) rfl ?_); at_builtin; refine Kd.R_append k68 (w0 := w) w.heap.size rfl (.tmp 47) (.tmp 51) 64 68 (.agg #[(.string ⟨#[]⟩), (.int .i64 0)]) 24 rfl Tryd.underlying64 info68 rfl (by decide) (by omega) u10 x10_3 (⟨rdOf ByteArray.empty l1 x37_3, x32_2⟩ : S68) [.string (rdOf ByteArray.empty l1 x37_3), .int .i64 x32_2] (fun _ => True) (fun _ => False) rfl rfl ?aP (fun _ hk => hk.elim) ?aF ?aO ?aB ?aS ?aL ?_; (case aP => exact k68_mkM _ _ _ (⟨rdOf ByteArray.empty l1 x37_3, x32_2⟩ : S68)); (case aB => exact (by repeat (first | (with_reducible first | exact HB.out | apply yE | apply yF | apply yD | refine yJ ?_ GE312.out | refine yJ ?_ GE315.out | refine yJ ?_ GE316.out) | exact HB.out))); (case aF => exact (fun _ _ => trivial)); (case aO => exact (by (with_reducible repeat (first | apply Kd.R_alloc | apply Kd.R_drewN | apply Kd.R_drew)); exact HO_10.out)); (case aS => exact (below_size (by repeat (first | (with_reducible first | exact HB.out | apply yE | apply yF | apply yD | refine yJ ?_ GE312.out | refine yJ ?_ GE315.out | refine yJ ?_ GE316.out) | exact HB.out)))); (case aL => have := LMc30.out; omega); intro v321 w35 ho hb hg hat; rw [← Ny320.out] at ho; have n0_ := yA (blk_grown (g := gb312) (o := .cells #[.slice A0_0 l0_0.length c0_0, .slice A0_1 l0_1.length c0_1] 25 (0, 0)) (by (with_reducible repeat (first | refine yG ?_ _ | refine yH ?_ | refine yI ?_ _)); exact BK312.out) hg (Kd.R_ne HO_10.out BK312.out (by decide))); have n1_ := yA (blk_grown (g := gb315) (o := o315) (by (with_reducible repeat (first | refine yG ?_ _ | refine yH ?_ | refine yI ?_ _)); exact BK315.out) hg (R_ne_map HO_10.out BK315.out MO315.out)); have n2_ := yA (blk_grown (g := gb316) (o := .cells #[.slice A0_0 l0_0.length c0_0, .slice A0_1 l0_1.length c0_1, .map (some gb315)] 73 (0, 0)) (by (with_reducible repeat (first | refine yG ?_ _ | refine yH ?_ | refine yI ?_ _)); exact BK316.out) hg (Kd.R_ne HO_10.out BK316.out (by decide))); have n3_ := yA (hb); have n4_ := yA (ho); clear BK312; clear BK315; clear BK316; clear HB; clear HO_10; have BK312 := n0_; have BK315 := n1_; have BK316 := n2_; have HB := n3_; have HO322 := n4_; clear n0_ n1_ n2_ n3_ n4_; clear ho hb hg hat))
                go_roundg k3
                case measure => have := HJ3.out; have := HK2.out; have := HK3.out; omega
                case rel => exact ⟨(y320), (wrap64 (x37_3 + 1)), (by first | rfl | (simp; done) | (simp [*]; done)), H', ⟨by have := HJ3.out; have := HK2.out; have := HK3.out; omega⟩, ⟨by (with_reducible repeat (first | apply Kd.R_alloc | apply Kd.R_drewN | apply Kd.R_drew)); exact HO322.out⟩, ⟨by (with_reducible repeat (first | refine yG ?_ _ | refine yH ?_ | refine yI ?_ _)); exact BK312.out⟩, ⟨by (with_reducible repeat (first | refine yG ?_ _ | refine yH ?_ | refine yI ?_ _)); exact BK315.out⟩, ⟨by (with_reducible repeat (first | refine yG ?_ _ | refine yH ?_ | refine yI ?_ _)); exact BK316.out⟩, ⟨by repeat (first | (with_reducible first | exact HB.out | apply yE | apply yF | apply yD | refine yJ ?_ GE312.out | refine yJ ?_ GE315.out | refine yJ ?_ GE316.out) | exact HB.out)⟩⟩
               ·rw [if_neg c30] at H
                exact absurd H (by simp)
             ·rw [if_neg c23] at H
              exact absurd H (by simp)
            ·rw [if_neg c22] at H
             exact absurd H (by simp)
           ·rw [if_neg c21] at H
            have c21b0 : decide (x37_3 < (l1.length : Int)) = false := yM c21
            clear c21
            have H' := yA H
            clear H
            go_wp2
            go_roundg k3
            case measure => have := HJ3.out; have := HK2.out; have := HK3.out; omega
            case rel => exact ⟨(x10_3), (wrap64 (x32_2 + 1)), (by first | rfl | (simp; done) | (simp [*]; done)), H', ⟨by have := HJ3.out; have := HK2.out; have := HK3.out; omega⟩, ⟨by (with_reducible repeat (first | apply Kd.R_alloc | apply Kd.R_drewN | apply Kd.R_drew)); exact HO_10.out⟩, ⟨by (with_reducible repeat (first | refine yG ?_ _ | refine yH ?_ | refine yI ?_ _)); exact BK312.out⟩, ⟨by (with_reducible repeat (first | refine yG ?_ _ | refine yH ?_ | refine yI ?_ _)); exact BK315.out⟩, ⟨by (with_reducible repeat (first | refine yG ?_ _ | refine yH ?_ | refine yI ?_ _)); exact BK316.out⟩, ⟨by repeat (first | (with_reducible first | exact HB.out | apply yE | apply yF | apply yD | refine yJ ?_ GE312.out | refine yJ ?_ GE315.out | refine yJ ?_ GE316.out) | exact HB.out)⟩⟩
        ·rw [if_neg c20] at H
         have c20b0 : decide (x32_2 < (wrap64 (a2 + 1))) = false := yM c20
         clear c20
         simp only [Option.some.injEq, Prod.mk.injEq] at H
         obtain ⟨rfl, rfl⟩ := H
         go_wp2
         go_ret2
         exact ⟨_, by first | rfl | (simp [errW_none, errW_some] <;> rfl) | (simp [*, errW_none, errW_some] <;> rfl), by (with_reducible repeat (first | apply Kd.R_alloc | apply Kd.R_drewN | apply Kd.R_drew)); exact HO_10.out, by repeat (first | (with_reducible first | exact HB.out | apply yE | apply yF | apply yD | refine yJ ?_ GE312.out | refine yJ ?_ GE315.out | refine yJ ?_ GE316.out) | exact HB.out)⟩
     ·replace c11 := Bool.eq_false_iff.mpr c11
      subst c11
      have H1 : (some (([] : List (S68)), 52)) = some (r1, r2) := by rw [if_neg (show ¬ (false = true) by decide)] at H; exact H
      clear H
      have H := H1
      clear H1
      simp only [Option.some.injEq, Prod.mk.injEq] at H
      obtain ⟨rfl, rfl⟩ := H
      have hcz36_0 : wc.cell? ⟨gb312, 0, none⟩ = some (.slice A0_0 l0_0.length c0_0) := (yR BK312.out 0).trans rfl
      have hcz36_1 : wc.cell? ⟨gb312, 1, none⟩ = some (.slice A0_1 l0_1.length c0_1) := (yR BK312.out 1).trans rfl
      have hfz36_0 := yS BK312.out 0
      have hfz36_1 := yS BK312.out 1
      go_wp2_with (first | ((with_reducible refine yO (f := 20) rfl ?_); refine goesL_ (some 21) rfl rfl Tryd.func20 (by kernel_rfl) rfl #[.agg #[.slice A0_0 l0_0.length c0_0, .slice A0_1 l0_1.length c0_1]] rfl (by (try simp only [List.map_toArray, List.map_cons, List.map_nil]); first | done | rfl | (simp only [List.length_drop, List.length_take]; rfl)) ?_; (with_reducible refine (table_Valid.calls kj3 _ _ l0_0 _ _ l0_1 t313 _ ?side1 ?side2 ?side3 ?side4 A8.out).mono ?_); (case side1 => repeat (first | exact (Kd.C_below HR0_0.out HB.out) | (with_reducible refine Kd.C_alloc ?_ _) | (with_reducible refine Kd.C_drewN ?_ _) | (with_reducible refine Kd.C_drew ?_))); (case side2 => exact HC0_0.out); (case side3 => repeat (first | exact (Kd.C_below HR0_1.out HB.out) | (with_reducible refine Kd.C_alloc ?_ _) | (with_reducible refine Kd.C_drewN ?_ _) | (with_reducible refine Kd.C_drew ?_))); (case side4 => exact HC0_1.out); rintro e w37 ⟨rfl, hb⟩; refine ⟨_, rfl, ?_⟩; have n0_ := yA (yC (g := gb312) (o := .cells #[.slice A0_0 l0_0.length c0_0, .slice A0_1 l0_1.length c0_1] 25 (0, 0)) (by (with_reducible repeat (first | refine yG ?_ _ | refine yH ?_ | refine yI ?_ _)); exact BK312.out) hb); have n1_ := yA (yB (by repeat (first | (with_reducible first | exact HB.out | apply yE | apply yF | apply yD | refine yJ ?_ GE312.out) | exact HB.out)) hb); clear BK312; clear HB; have BK312 := n0_; have HB := n1_; clear n0_ n1_; (try clear hb); (try clear hb2); (try clear hk); (try clear hi)) | ((with_reducible refine yO (f := 47) rfl ?_); refine goesL_ (some 26) rfl rfl Tryd.func47 (by kernel_rfl) rfl #[.slice A1 l1.length c1] rfl (by (try simp only [List.map_toArray, List.map_cons, List.map_nil]); first | done | rfl | (simp only [List.length_drop, List.length_take]; rfl)) ?_; (with_reducible refine (table_capitals.calls kj3 _ _ l1 false _ ?side1 ?side2 A10.out).mono ?_); (case side1 => repeat (first | exact (Kd.C_below HR1.out HB.out) | (with_reducible refine Kd.C_alloc ?_ _) | (with_reducible refine Kd.C_drewN ?_ _) | (with_reducible refine Kd.C_drew ?_))); (case side2 => exact HC1.out); rintro e w' ⟨rfl, ⟨nd, rfl⟩⟩; refine ⟨_, rfl, ?_⟩))
      go_ret2
      exact ⟨_, by first | rfl | (simp [errW_none, errW_some] <;> rfl) | (simp [*, errW_none, errW_some] <;> rfl), by first | exact Kd.R_nil _ _ _ _ _ | exact Kd.N_nil _ _ _ _ _ | exact Kd.V_nil _ _ _ _ _ | exact Kd.Q_nil _ _ _ _ _ | exact Kd.S_nil _ _ _ _ _, by repeat (first | (with_reducible first | exact HB.out | apply yE | apply yF | apply yD | refine yJ ?_ GE312.out) | exact HB.out)⟩
    ·rw [if_neg c9] at H
     have c9b0 : (t313 == 0) = false := beq_eq_false_iff_ne.mpr c9
     have c9b1 : (t313 != 0) = true := bne_iff_ne.mpr c9
     simp only [Option.some.injEq, Prod.mk.injEq] at H
     obtain ⟨rfl, rfl⟩ := H
     have hcz38_0 : wc.cell? ⟨gb312, 0, none⟩ = some (.slice A0_0 l0_0.length c0_0) := (yR BK312.out 0).trans rfl
     have hcz38_1 : wc.cell? ⟨gb312, 1, none⟩ = some (.slice A0_1 l0_1.length c0_1) := (yR BK312.out 1).trans rfl
     have hfz38_0 := yS BK312.out 0
     have hfz38_1 := yS BK312.out 1
     go_wp2_with (first | ((with_reducible refine yO (f := 20) rfl ?_); refine goesL_ (some 21) rfl rfl Tryd.func20 (by kernel_rfl) rfl #[.agg #[.slice A0_0 l0_0.length c0_0, .slice A0_1 l0_1.length c0_1]] rfl (by (try simp only [List.map_toArray, List.map_cons, List.map_nil]); first | done | rfl | (simp only [List.length_drop, List.length_take]; rfl)) ?_; (with_reducible refine (table_Valid.calls kj3 _ _ l0_0 _ _ l0_1 t313 _ ?side1 ?side2 ?side3 ?side4 A8.out).mono ?_); (case side1 => repeat (first | exact (Kd.C_below HR0_0.out HB.out) | (with_reducible refine Kd.C_alloc ?_ _) | (with_reducible refine Kd.C_drewN ?_ _) | (with_reducible refine Kd.C_drew ?_))); (case side2 => exact HC0_0.out); (case side3 => repeat (first | exact (Kd.C_below HR0_1.out HB.out) | (with_reducible refine Kd.C_alloc ?_ _) | (with_reducible refine Kd.C_drewN ?_ _) | (with_reducible refine Kd.C_drew ?_))); (case side4 => exact HC0_1.out); rintro e w39 ⟨rfl, hb⟩; refine ⟨_, rfl, ?_⟩; have n0_ := yA (yC (g := gb312) (o := .cells #[.slice A0_0 l0_0.length c0_0, .slice A0_1 l0_1.length c0_1] 25 (0, 0)) (by (with_reducible repeat (first | refine yG ?_ _ | refine yH ?_ | refine yI ?_ _)); exact BK312.out) hb); have n1_ := yA (yB (by repeat (first | (with_reducible first | exact HB.out | apply yE | apply yF | apply yD | refine yJ ?_ GE312.out) | exact HB.out)) hb); clear BK312; clear HB; have BK312 := n0_; have HB := n1_; clear n0_ n1_; (try clear hb); (try clear hb2); (try clear hk); (try clear hi)))
     go_ret2
     exact ⟨_, by first | rfl | (simp [errW_none, errW_some] <;> rfl) | (simp [*, errW_none, errW_some] <;> rfl), by first | exact Kd.R_nil _ _ _ _ _ | exact Kd.N_nil _ _ _ _ _ | exact Kd.V_nil _ _ _ _ _ | exact Kd.Q_nil _ _ _ _ _ | exact Kd.S_nil _ _ _ _ _, by repeat (first | (with_reducible first | exact HB.out | apply yE | apply yF | apply yD | refine yJ ?_ GE312.out) | exact HB.out)⟩
end Go.Proofs.YtppojbafagneeaaDoor.PTab
