/- Own text, for this claim: the view's cell: printed by wip/tools/mkcell.py. -/
import Derived.Test.YtppojbafagneeaaDoorZTabView
namespace Go.Proofs.YtppojbafagneeaaDoor.PTab
open Go.RowKit Go.Maps Go.WideMaps Go.WideElems Go.Proofs.YtppojbafagneeaaDoorW.PrintWords Go.Proofs.YtppojbafagneeaaDoorW.PrintLast Go.Proofs.YtppojbafagneeaaDoorW.PrintMore
set_option linter.unusedVariables false
set_option linter.unusedSimpArgs false
attribute [local go_sem high] eqA52
theorem OwnsCol.below {w w1 : World} {b n : Nat} {D : DataW Unit} (h : OwnsCol w b n D) (hb : Below w.heap.size w w1) : OwnsCol w1 b n D := by
 obtain ⟨es, clock, h1, h2⟩ := h
 exact ⟨es, clock, (hb.block b (Array.getElem?_eq_some_iff.1 h1).1).trans h1, h2⟩
theorem lit_i64 {c c' : Int} (h : (DataW.lit (Lit.int IntKind.i64 c) : DataW Unit) = .lit (.int .i64 c')) : c = c' := by
 simpa only [DataW.lit.injEq, Lit.int.injEq, true_and] using h
def cellAt (hh : Bool) (c : Int) (l1 : List (List S52)) (d : Int) : S52 :=
 if hh = true then (if 0 ≤ d then (if d < (l1.length : Int) then (if c < ((rd_L4 l1 d).length : Int) then (if (rd_T52 (rd_L4 l1 d) c).f0 = true then rd_T52 (rd_L4 l1 d) c else z52) else z52) else z52) else z52) else z52
set_option maxHeartbeats 8000000 in
set_option maxRecDepth 100000 in
theorem cell_any (A0 : Option Addr) (n0 c0 : Nat) (A1 : Option Addr) (c1 : Nat) (l1 : List (List S52)) (b m : Nat) (D : DataW Unit) (nm : ByteArray) (d c : Int) (hh : Bool) (w : World) (h1 : Kd.C (Kd.slice 52 k52) w A1 l1.length l1) (hO : OwnsCol w b m D) (hs : nm.size ≤ 140737488351232) (hhe : has D (keyS nm) = hh)
  (hat : D.atKey (keyS nm) (.lit (.int .i64 0)) = .lit (.int .i64 c)) (hc0 : 0 ≤ c) :
  Calls Tryd.prog 42 #[.agg #[.slice A0 n0 c0, .slice A1 l1.length c1, .map (some b)], .string nm, .int .i64 d] w fun e w' => e = .returned (.agg #[.bool (cellAt hh c l1 d).f0, .int .i64 (cellAt hh c l1 d).f1]) ∧ Below w.heap.size w w' := by
 have hu25 := Tryd.underlying25
 have hu73 := Tryd.underlying73
 have hu52 := Tryd.underlying52
 have HR1 := yA h1
 have HO := yA hO
 have HH := yA hhe
 have HAT := yA hat
 have KL : Keyed Tryd.prog 9 := string_keyed Tryd.underlying9
 have hz0 : ∀ w : World, (zeroValue 3).run Tryd.prog w = .ok (.int .i64 0) w := fun _ => by kernel_rfl
 have HK := yA (keyOf_string_mk Tryd.underlying9 (s := nm) (by simp [maxLen]; omega))
 have HB := yA (Below.refl w.heap.size w)
 clear h1 hO hhe hat hs
 unfold cellAt
 cases hh with
 | false =>
  rw [if_neg (by decide)]
  go_enter Tryd.func42, Tryd.ntmps42
  go_wp2_with (first | ((with_reducible refine yP (N := 3) rfl ?_); refine yQ ?hg (N := 3) ?hd (cs := #[.slice A0 n0 c0, .slice A1 l1.length c1, .map (some b)]) (t := 73) ?hr ?_; (case hd => rfl); (case hg => rfl); (case hr => first | (go_simp; done) | (go_simp; rfl)); intro gb3 hg w4 hbox hb; have n0_ := yA (yB HB.out hb); have n1_ := yA hbox; have n2_ := yA ((by rw [hg]; exact (below_size HB.out)) : w.heap.size ≤ gb3); clear HB; have HB := n0_; have BK3 := n1_; have GE3 := n2_; clear n0_ n1_ n2_; clear hb hbox hg) | ((with_reducible refine yP (N := 6) rfl ?_); refine yQ ?hg (N := 6) ?hd (cs := #[.bool false, .int .i64 0]) (t := 52) ?hr ?_; (case hd => rfl); (case hg => rfl); (case hr => first | (go_simp; done) | (go_simp; rfl)); intro gb6 hg w5 hbox hb; have n0_ := yA (yB HB.out hb); have n1_ := yA hbox; have n2_ := yA ((by rw [hg]; exact (below_size HB.out)) : w.heap.size ≤ gb6); have n3_ := yA (yC BK3.out hb); have n4_ := yA ((by rw [hg]; exact Nat.ne_of_lt (blk_lt BK3.out)) : gb3 ≠ gb6); clear HB BK3; have HB := n0_; have BK6 := n1_; have GE6 := n2_; have BK3 := n3_; have NE := n4_; clear n0_ n1_ n2_ n3_ n4_; clear hb hbox hg; have n0_ := yA (OwnsCol.below HO.out HB.out); clear HO; have HO := n0_; clear n0_; have z0 : w5.cell? ⟨gb3, 0, none⟩ = some (.slice A0 n0 c0) := (yR BK3.out 0).trans rfl; have z1 : w5.cell? ⟨gb3, 1, none⟩ = some (.slice A1 l1.length c1) := (yR BK3.out 1).trans rfl; have z2 : w5.cell? ⟨gb3, 2, none⟩ = some (.map (some b)) := (yR BK3.out 2).trans rfl; have f0 := yS BK3.out 0; have f1 := yS BK3.out 1; have f2 := yS BK3.out 2; have z3 : w5.cell? ⟨gb6, 0, none⟩ = some (.bool false) := (yR BK6.out 0).trans rfl; have z4 : w5.cell? ⟨gb6, 1, none⟩ = some (.int .i64 0) := (yR BK6.out 1).trans rfl; have f3 := yS BK6.out 0; have f4 := yS BK6.out 1) | (at_lookup; go_must (refine wpList_lookup_own_ok_int _ rfl _ _ 71 rfl 9 3 .i64 KL Tryd.underlying71 Tryd.underlying3 (hz0 _) _ _ _ rfl HO.out _ _ rfl HK.out ?_; intro c' hat hwc; obtain rfl : c = c' := lit_i64 (HAT.out.symm.trans hat); rw [HH.out]; clear hat hwc)))
  refine bodyPost_ret (results_cell_row rfl _ _ gb6 52 #[.bool false, .int .i64 0] (0, 0) _ rfl (by refine blk_put (cs := #[.bool false, .int .i64 0]) ?_ 1 _ rfl; refine blk_put (cs := #[.bool false, .int .i64 0]) ?_ 0 _ rfl; exact BK6.out) Tryd.underlying52 rfl (by kernel_rfl)) rfl ?_
  exact ⟨rfl, by repeat (first | (with_reducible first | exact HB.out | refine yJ ?_ GE6.out | refine yJ ?_ GE3.out) | exact HB.out)⟩
 | true =>
  rw [if_pos rfl]
  by_cases q1 : 0 ≤ d
  rotate_left
  ·rw [if_neg q1]
   have b1 : decide (d < 0) = true := yL (by omega)
   clear q1
   go_enter Tryd.func42, Tryd.ntmps42
   go_wp2_with (first | ((with_reducible refine yP (N := 3) rfl ?_); refine yQ ?hg (N := 3) ?hd (cs := #[.slice A0 n0 c0, .slice A1 l1.length c1, .map (some b)]) (t := 73) ?hr ?_; (case hd => rfl); (case hg => rfl); (case hr => first | (go_simp; done) | (go_simp; rfl)); intro gb3 hg w4 hbox hb; have n0_ := yA (yB HB.out hb); have n1_ := yA hbox; have n2_ := yA ((by rw [hg]; exact (below_size HB.out)) : w.heap.size ≤ gb3); clear HB; have HB := n0_; have BK3 := n1_; have GE3 := n2_; clear n0_ n1_ n2_; clear hb hbox hg) | ((with_reducible refine yP (N := 6) rfl ?_); refine yQ ?hg (N := 6) ?hd (cs := #[.bool false, .int .i64 0]) (t := 52) ?hr ?_; (case hd => rfl); (case hg => rfl); (case hr => first | (go_simp; done) | (go_simp; rfl)); intro gb6 hg w5 hbox hb; have n0_ := yA (yB HB.out hb); have n1_ := yA hbox; have n2_ := yA ((by rw [hg]; exact (below_size HB.out)) : w.heap.size ≤ gb6); have n3_ := yA (yC BK3.out hb); have n4_ := yA ((by rw [hg]; exact Nat.ne_of_lt (blk_lt BK3.out)) : gb3 ≠ gb6); clear HB BK3; have HB := n0_; have BK6 := n1_; have GE6 := n2_; have BK3 := n3_; have NE := n4_; clear n0_ n1_ n2_ n3_ n4_; clear hb hbox hg; have n0_ := yA (OwnsCol.below HO.out HB.out); clear HO; have HO := n0_; clear n0_; have z0 : w5.cell? ⟨gb3, 0, none⟩ = some (.slice A0 n0 c0) := (yR BK3.out 0).trans rfl; have z1 : w5.cell? ⟨gb3, 1, none⟩ = some (.slice A1 l1.length c1) := (yR BK3.out 1).trans rfl; have z2 : w5.cell? ⟨gb3, 2, none⟩ = some (.map (some b)) := (yR BK3.out 2).trans rfl; have f0 := yS BK3.out 0; have f1 := yS BK3.out 1; have f2 := yS BK3.out 2; have z3 : w5.cell? ⟨gb6, 0, none⟩ = some (.bool false) := (yR BK6.out 0).trans rfl; have z4 : w5.cell? ⟨gb6, 1, none⟩ = some (.int .i64 0) := (yR BK6.out 1).trans rfl; have f3 := yS BK6.out 0; have f4 := yS BK6.out 1) | (at_lookup; go_must (refine wpList_lookup_own_ok_int _ rfl _ _ 71 rfl 9 3 .i64 KL Tryd.underlying71 Tryd.underlying3 (hz0 _) _ _ _ rfl HO.out _ _ rfl HK.out ?_; intro c' hat hwc; obtain rfl : c = c' := lit_i64 (HAT.out.symm.trans hat); rw [HH.out]; clear hat hwc)))
   refine bodyPost_ret (results_cell_row rfl _ _ gb6 52 #[.bool false, .int .i64 0] (0, 0) _ rfl (by refine blk_put (cs := #[.bool false, .int .i64 0]) ?_ 1 _ rfl; refine blk_put (cs := #[.bool false, .int .i64 0]) ?_ 0 _ rfl; exact BK6.out) Tryd.underlying52 rfl (by kernel_rfl)) rfl ?_
   exact ⟨rfl, by repeat (first | (with_reducible first | exact HB.out | refine yJ ?_ GE6.out | refine yJ ?_ GE3.out) | exact HB.out)⟩
  rw [if_pos q1]
  have b1 : decide (d < 0) = false := yM (by omega)
  by_cases q2 : d < (l1.length : Int)
  rotate_left
  ·rw [if_neg q2]
   have b2 : decide ((l1.length : Int) ≤ d) = true := yL (by omega)
   clear q1 q2
   go_enter Tryd.func42, Tryd.ntmps42
   go_wp2_with (first | ((with_reducible refine yP (N := 3) rfl ?_); refine yQ ?hg (N := 3) ?hd (cs := #[.slice A0 n0 c0, .slice A1 l1.length c1, .map (some b)]) (t := 73) ?hr ?_; (case hd => rfl); (case hg => rfl); (case hr => first | (go_simp; done) | (go_simp; rfl)); intro gb3 hg w4 hbox hb; have n0_ := yA (yB HB.out hb); have n1_ := yA hbox; have n2_ := yA ((by rw [hg]; exact (below_size HB.out)) : w.heap.size ≤ gb3); clear HB; have HB := n0_; have BK3 := n1_; have GE3 := n2_; clear n0_ n1_ n2_; clear hb hbox hg) | ((with_reducible refine yP (N := 6) rfl ?_); refine yQ ?hg (N := 6) ?hd (cs := #[.bool false, .int .i64 0]) (t := 52) ?hr ?_; (case hd => rfl); (case hg => rfl); (case hr => first | (go_simp; done) | (go_simp; rfl)); intro gb6 hg w5 hbox hb; have n0_ := yA (yB HB.out hb); have n1_ := yA hbox; have n2_ := yA ((by rw [hg]; exact (below_size HB.out)) : w.heap.size ≤ gb6); have n3_ := yA (yC BK3.out hb); have n4_ := yA ((by rw [hg]; exact Nat.ne_of_lt (blk_lt BK3.out)) : gb3 ≠ gb6); clear HB BK3; have HB := n0_; have BK6 := n1_; have GE6 := n2_; have BK3 := n3_; have NE := n4_; clear n0_ n1_ n2_ n3_ n4_; clear hb hbox hg; have n0_ := yA (OwnsCol.below HO.out HB.out); clear HO; have HO := n0_; clear n0_; have z0 : w5.cell? ⟨gb3, 0, none⟩ = some (.slice A0 n0 c0) := (yR BK3.out 0).trans rfl; have z1 : w5.cell? ⟨gb3, 1, none⟩ = some (.slice A1 l1.length c1) := (yR BK3.out 1).trans rfl; have z2 : w5.cell? ⟨gb3, 2, none⟩ = some (.map (some b)) := (yR BK3.out 2).trans rfl; have f0 := yS BK3.out 0; have f1 := yS BK3.out 1; have f2 := yS BK3.out 2; have z3 : w5.cell? ⟨gb6, 0, none⟩ = some (.bool false) := (yR BK6.out 0).trans rfl; have z4 : w5.cell? ⟨gb6, 1, none⟩ = some (.int .i64 0) := (yR BK6.out 1).trans rfl; have f3 := yS BK6.out 0; have f4 := yS BK6.out 1) | (at_lookup; go_must (refine wpList_lookup_own_ok_int _ rfl _ _ 71 rfl 9 3 .i64 KL Tryd.underlying71 Tryd.underlying3 (hz0 _) _ _ _ rfl HO.out _ _ rfl HK.out ?_; intro c' hat hwc; obtain rfl : c = c' := lit_i64 (HAT.out.symm.trans hat); rw [HH.out]; clear hat hwc)))
   refine bodyPost_ret (results_cell_row rfl _ _ gb6 52 #[.bool false, .int .i64 0] (0, 0) _ rfl (by refine blk_put (cs := #[.bool false, .int .i64 0]) ?_ 1 _ rfl; refine blk_put (cs := #[.bool false, .int .i64 0]) ?_ 0 _ rfl; exact BK6.out) Tryd.underlying52 rfl (by kernel_rfl)) rfl ?_
   exact ⟨rfl, by repeat (first | (with_reducible first | exact HB.out | refine yJ ?_ GE6.out | refine yJ ?_ GE3.out) | exact HB.out)⟩
  rw [if_pos q2]
  have b2 : decide ((l1.length : Int) ≤ d) = false := yM (by omega)
  obtain ⟨ad, A2, c2_, e, hx, hl, hi⟩ := at_L4 HR1.out d q1 q2
  cases e
  have HX := yA hx
  have HR2 := yA hi
  clear hx hi
  have q1 := eq_true q1
  have q2 := eq_true q2
  by_cases q3 : c < ((rd_L4 l1 d).length : Int)
  rotate_left
  ·rw [if_neg q3]
   have b3 : decide (((rd_L4 l1 d).length : Int) ≤ c) = true := yL (by omega)
   clear q3
   go_enter Tryd.func42, Tryd.ntmps42
   go_wp2_with (first | ((with_reducible refine yP (N := 3) rfl ?_); refine yQ ?hg (N := 3) ?hd (cs := #[.slice A0 n0 c0, .slice (some ad) l1.length c1, .map (some b)]) (t := 73) ?hr ?_; (case hd => rfl); (case hg => rfl); (case hr => first | (go_simp; done) | (go_simp; rfl)); intro gb3 hg w4 hbox hb; have n0_ := yA (yB HB.out hb); have n1_ := yA hbox; have n2_ := yA ((by rw [hg]; exact (below_size HB.out)) : w.heap.size ≤ gb3); clear HB; have HB := n0_; have BK3 := n1_; have GE3 := n2_; clear n0_ n1_ n2_; clear hb hbox hg) | ((with_reducible refine yP (N := 6) rfl ?_); refine yQ ?hg (N := 6) ?hd (cs := #[.bool false, .int .i64 0]) (t := 52) ?hr ?_; (case hd => rfl); (case hg => rfl); (case hr => first | (go_simp; done) | (go_simp; rfl)); intro gb6 hg w5 hbox hb; have n0_ := yA (yB HB.out hb); have n1_ := yA hbox; have n2_ := yA ((by rw [hg]; exact (below_size HB.out)) : w.heap.size ≤ gb6); have n3_ := yA (yC BK3.out hb); have n4_ := yA ((by rw [hg]; exact Nat.ne_of_lt (blk_lt BK3.out)) : gb3 ≠ gb6); clear HB BK3; have HB := n0_; have BK6 := n1_; have GE6 := n2_; have BK3 := n3_; have NE := n4_; clear n0_ n1_ n2_ n3_ n4_; clear hb hbox hg; have n0_ := yA (OwnsCol.below HO.out HB.out); clear HO; have HO := n0_; clear n0_; have z0 : w5.cell? ⟨gb3, 0, none⟩ = some (.slice A0 n0 c0) := (yR BK3.out 0).trans rfl; have z1 : w5.cell? ⟨gb3, 1, none⟩ = some (.slice (some ad) l1.length c1) := (yR BK3.out 1).trans rfl; have z2 : w5.cell? ⟨gb3, 2, none⟩ = some (.map (some b)) := (yR BK3.out 2).trans rfl; have f0 := yS BK3.out 0; have f1 := yS BK3.out 1; have f2 := yS BK3.out 2; have z3 : w5.cell? ⟨gb6, 0, none⟩ = some (.bool false) := (yR BK6.out 0).trans rfl; have z4 : w5.cell? ⟨gb6, 1, none⟩ = some (.int .i64 0) := (yR BK6.out 1).trans rfl; have f3 := yS BK6.out 0; have f4 := yS BK6.out 1; have zx := (HB.out.cell (World.block_lt_of_cell? w _ HX.out)).trans HX.out) | (at_lookup; go_must (refine wpList_lookup_own_ok_int _ rfl _ _ 71 rfl 9 3 .i64 KL Tryd.underlying71 Tryd.underlying3 (hz0 _) _ _ _ rfl HO.out _ _ rfl HK.out ?_; intro c' hat hwc; obtain rfl : c = c' := lit_i64 (HAT.out.symm.trans hat); rw [HH.out]; clear hat hwc)))
   refine bodyPost_ret (results_cell_row rfl _ _ gb6 52 #[.bool false, .int .i64 0] (0, 0) _ rfl (by refine blk_put (cs := #[.bool false, .int .i64 0]) ?_ 1 _ rfl; refine blk_put (cs := #[.bool false, .int .i64 0]) ?_ 0 _ rfl; exact BK6.out) Tryd.underlying52 rfl (by kernel_rfl)) rfl ?_
   exact ⟨rfl, by repeat (first | (with_reducible first | exact HB.out | refine yJ ?_ GE6.out | refine yJ ?_ GE3.out) | exact HB.out)⟩
  rw [if_pos q3]
  have b3 : decide (((rd_L4 l1 d).length : Int) ≤ c) = false := yM (by omega)
  obtain ⟨ad2, e, hy0, hy1⟩ := at_T52 HR2.out c hc0 q3
  cases e
  have HY0 := yA hy0
  have HY1 := yA hy1
  clear hy0 hy1
  have q3 := eq_true q3
  have hc0 := eq_true hc0
  obtain ⟨v0, hv0⟩ : ∃ v0, (rd_T52 (rd_L4 l1 d) c).f0 = v0 := ⟨_, rfl⟩
  rw [hv0] at HY0
  have HV := yA hv0
  rw [hv0]
  clear hv0
  cases v0 with
  | false =>
   rw [if_neg (by decide)]
   go_enter Tryd.func42, Tryd.ntmps42
   go_wp2_with (first | ((with_reducible refine yP (N := 3) rfl ?_); refine yQ ?hg (N := 3) ?hd (cs := #[.slice A0 n0 c0, .slice (some ad) l1.length c1, .map (some b)]) (t := 73) ?hr ?_; (case hd => rfl); (case hg => rfl); (case hr => first | (go_simp; done) | (go_simp; rfl)); intro gb3 hg w4 hbox hb; have n0_ := yA (yB HB.out hb); have n1_ := yA hbox; have n2_ := yA ((by rw [hg]; exact (below_size HB.out)) : w.heap.size ≤ gb3); clear HB; have HB := n0_; have BK3 := n1_; have GE3 := n2_; clear n0_ n1_ n2_; clear hb hbox hg) | ((with_reducible refine yP (N := 6) rfl ?_); refine yQ ?hg (N := 6) ?hd (cs := #[.bool false, .int .i64 0]) (t := 52) ?hr ?_; (case hd => rfl); (case hg => rfl); (case hr => first | (go_simp; done) | (go_simp; rfl)); intro gb6 hg w5 hbox hb; have n0_ := yA (yB HB.out hb); have n1_ := yA hbox; have n2_ := yA ((by rw [hg]; exact (below_size HB.out)) : w.heap.size ≤ gb6); have n3_ := yA (yC BK3.out hb); have n4_ := yA ((by rw [hg]; exact Nat.ne_of_lt (blk_lt BK3.out)) : gb3 ≠ gb6); clear HB BK3; have HB := n0_; have BK6 := n1_; have GE6 := n2_; have BK3 := n3_; have NE := n4_; clear n0_ n1_ n2_ n3_ n4_; clear hb hbox hg; have n0_ := yA (OwnsCol.below HO.out HB.out); clear HO; have HO := n0_; clear n0_; have z0 : w5.cell? ⟨gb3, 0, none⟩ = some (.slice A0 n0 c0) := (yR BK3.out 0).trans rfl; have z1 : w5.cell? ⟨gb3, 1, none⟩ = some (.slice (some ad) l1.length c1) := (yR BK3.out 1).trans rfl; have z2 : w5.cell? ⟨gb3, 2, none⟩ = some (.map (some b)) := (yR BK3.out 2).trans rfl; have f0 := yS BK3.out 0; have f1 := yS BK3.out 1; have f2 := yS BK3.out 2; have z3 : w5.cell? ⟨gb6, 0, none⟩ = some (.bool false) := (yR BK6.out 0).trans rfl; have z4 : w5.cell? ⟨gb6, 1, none⟩ = some (.int .i64 0) := (yR BK6.out 1).trans rfl; have f3 := yS BK6.out 0; have f4 := yS BK6.out 1; have zx := (HB.out.cell (World.block_lt_of_cell? w _ HX.out)).trans HX.out; have zy0 := (HB.out.cell (World.block_lt_of_cell? w _ HY0.out)).trans HY0.out; have zy1 := (HB.out.cell (World.block_lt_of_cell? w _ HY1.out)).trans HY1.out) | (at_lookup; go_must (refine wpList_lookup_own_ok_int _ rfl _ _ 71 rfl 9 3 .i64 KL Tryd.underlying71 Tryd.underlying3 (hz0 _) _ _ _ rfl HO.out _ _ rfl HK.out ?_; intro c' hat hwc; obtain rfl : c = c' := lit_i64 (HAT.out.symm.trans hat); rw [HH.out]; clear hat hwc)))
   refine bodyPost_ret (results_cell_row rfl _ _ gb6 52 #[.bool false, .int .i64 0] (0, 0) _ rfl (by refine blk_put (cs := #[.bool false, .int .i64 0]) ?_ 1 _ rfl; refine blk_put (cs := #[.bool false, .int .i64 0]) ?_ 0 _ rfl; exact BK6.out) Tryd.underlying52 rfl (by kernel_rfl)) rfl ?_
   exact ⟨rfl, by repeat (first | (with_reducible first | exact HB.out | refine yJ ?_ GE6.out | refine yJ ?_ GE3.out) | exact HB.out)⟩
  | true =>
   rw [if_pos rfl, HV.out]
   go_enter Tryd.func42, Tryd.ntmps42
   go_wp2_with (first | ((with_reducible refine yP (N := 3) rfl ?_); refine yQ ?hg (N := 3) ?hd (cs := #[.slice A0 n0 c0, .slice (some ad) l1.length c1, .map (some b)]) (t := 73) ?hr ?_; (case hd => rfl); (case hg => rfl); (case hr => first | (go_simp; done) | (go_simp; rfl)); intro gb3 hg w4 hbox hb; have n0_ := yA (yB HB.out hb); have n1_ := yA hbox; have n2_ := yA ((by rw [hg]; exact (below_size HB.out)) : w.heap.size ≤ gb3); clear HB; have HB := n0_; have BK3 := n1_; have GE3 := n2_; clear n0_ n1_ n2_; clear hb hbox hg) | ((with_reducible refine yP (N := 6) rfl ?_); refine yQ ?hg (N := 6) ?hd (cs := #[.bool false, .int .i64 0]) (t := 52) ?hr ?_; (case hd => rfl); (case hg => rfl); (case hr => first | (go_simp; done) | (go_simp; rfl)); intro gb6 hg w5 hbox hb; have n0_ := yA (yB HB.out hb); have n1_ := yA hbox; have n2_ := yA ((by rw [hg]; exact (below_size HB.out)) : w.heap.size ≤ gb6); have n3_ := yA (yC BK3.out hb); have n4_ := yA ((by rw [hg]; exact Nat.ne_of_lt (blk_lt BK3.out)) : gb3 ≠ gb6); clear HB BK3; have HB := n0_; have BK6 := n1_; have GE6 := n2_; have BK3 := n3_; have NE := n4_; clear n0_ n1_ n2_ n3_ n4_; clear hb hbox hg; have n0_ := yA (OwnsCol.below HO.out HB.out); clear HO; have HO := n0_; clear n0_; have z0 : w5.cell? ⟨gb3, 0, none⟩ = some (.slice A0 n0 c0) := (yR BK3.out 0).trans rfl; have z1 : w5.cell? ⟨gb3, 1, none⟩ = some (.slice (some ad) l1.length c1) := (yR BK3.out 1).trans rfl; have z2 : w5.cell? ⟨gb3, 2, none⟩ = some (.map (some b)) := (yR BK3.out 2).trans rfl; have f0 := yS BK3.out 0; have f1 := yS BK3.out 1; have f2 := yS BK3.out 2; have z3 : w5.cell? ⟨gb6, 0, none⟩ = some (.bool false) := (yR BK6.out 0).trans rfl; have z4 : w5.cell? ⟨gb6, 1, none⟩ = some (.int .i64 0) := (yR BK6.out 1).trans rfl; have f3 := yS BK6.out 0; have f4 := yS BK6.out 1; have zx := (HB.out.cell (World.block_lt_of_cell? w _ HX.out)).trans HX.out; have zy0 := (HB.out.cell (World.block_lt_of_cell? w _ HY0.out)).trans HY0.out; have zy1 := (HB.out.cell (World.block_lt_of_cell? w _ HY1.out)).trans HY1.out) | (at_lookup; go_must (refine wpList_lookup_own_ok_int _ rfl _ _ 71 rfl 9 3 .i64 KL Tryd.underlying71 Tryd.underlying3 (hz0 _) _ _ _ rfl HO.out _ _ rfl HK.out ?_; intro c' hat hwc; obtain rfl : c = c' := lit_i64 (HAT.out.symm.trans hat); rw [HH.out]; clear hat hwc)))
   refine bodyPost_ret (results_cell_row rfl _ _ gb6 52 #[.bool true, .int .i64 (rd_T52 (rd_L4 l1 d) c).f1] (0, 0) _ rfl (by refine blk_put (cs := #[.bool true, .int .i64 0]) ?_ 1 _ rfl; refine blk_put (cs := #[.bool false, .int .i64 0]) ?_ 0 _ rfl; exact BK6.out) Tryd.underlying52 rfl (by kernel_rfl)) rfl ?_
   exact ⟨rfl, by repeat (first | (with_reducible first | exact HB.out | refine yJ ?_ GE6.out | refine yJ ?_ GE3.out) | exact HB.out)⟩
end Go.Proofs.YtppojbafagneeaaDoor.PTab
