/- Own text, for this claim: table.Overlay, after the text that the kit's printer writes. -/
import Derived.Test.YtppojbafagneeaaDoorZQSayc
import Derived.Test.YtppojbafagneeaaDoorZQTabv
import Derived.Test.YtppojbafagneeaaDoorZTabVC
import Derived.WalkMore
import Derived.Deep.DeepMust
import Derived.Outline
import Derived.Deep.RegionWith
namespace Go.Proofs.YtppojbafagneeaaDoor.PTab
open Go.RowKit Go.Maps Go.WideMaps Go.WideElems Go.Proofs.YtppojbafagneeaaDoorW.PrintWords Go.Proofs.YtppojbafagneeaaDoorW.PrintLast Go.Proofs.YtppojbafagneeaaDoorW.PrintMore
attribute [local go_sem] max2_int min2_int max_two min_two max_three min_three max_four min_four
set_option linter.unusedVariables false
set_option linter.unusedSimpArgs false
attribute [local go_sem high] eqA52
mutual
def table_Overlay.l0 : Nat → List ByteArray → Int → Int → List ByteArray → List (List (S52)) → List ByteArray → List (List (S52)) → List ByteArray → List (List (S52)) → List ByteArray → List (List (S52)) → List ByteArray → Option (List ByteArray × (List (List (S52))) × Int)
 | 0, _, _, _, _, _, _, _, _, _, _, _, _ => none
 | k + 1, x40, x41, x42, x251000, x251001, x252000, x252001, x258000, x258001, x259000, x259001, x263000 => if x42 < x41 then (if 0 ≤ x42 then (if x42 < (x40.length : Int) then (if (has (colD x258000 0 (.map [])) (keyS (rdOf ByteArray.empty x40 x42)) = true) then (table_Overlay.l0 k x40 x41 (wrap64 (x42 + 1)) x251000 x251001 x252000 x252001 x258000 x258001 x259000 x259001 x263000) else (if x263000.length < 8796093022208 then (table_Overlay.l0 k x40 x41 (wrap64 (x42 + 1)) x251000 x251001 x252000 x252001 x258000 x258001 x259000 x259001 (x263000 ++ [rdOf ByteArray.empty x40 x42])) else (none))) else (none)) else (none)) else (if (x263000.length : Int) > 64 then (some (([] : List ByteArray), ([] : List (List (S52))), 6)) else (table_Overlay.l1 k (mx (x251001.length : Int) (x252001.length : Int)) 0 x258000 x258001 x259000 x259001 x263000 ([] : List (List (S52)))))
def table_Overlay.l1 : Nat → Int → Int → List ByteArray → List (List (S52)) → List ByteArray → List (List (S52)) → List ByteArray → List (List (S52)) → Option (List ByteArray × (List (List (S52))) × Int)
 | 0, _, _, _, _, _, _, _, _ => none
 | k + 1, x73, x74, x258000, x258001, x259000, x259001, x263000, x263001 => if x74 < x73 then (if 0 ≤ (x263000.length : Int) then (if ((x263000.length : Int) : Int).toNat ≤ 17592186044416 then (table_Overlay.l2 k x74 (List.replicate ((x263000.length : Int) : Int).toNat z52) x73 x74 x263000 (x263000.length : Int) 0 x258000 x258001 x259000 x259001 x263000 x263001) else (none)) else (none)) else (some (x263000, x263001, 0))
def table_Overlay.l2 : Nat → Int → List (S52) → Int → Int → List ByteArray → Int → Int → List ByteArray → List (List (S52)) → List ByteArray → List (List (S52)) → List ByteArray → List (List (S52)) → Option (List ByteArray × (List (List (S52))) × Int)
 | 0, _, _, _, _, _, _, _, _, _, _, _, _, _ => none
 | k + 1, x15, x16, x73, x74, x82, x83, x84, x258000, x258001, x259000, x259001, x263000, x263001 => if x84 < x83 then (if 0 ≤ x84 then (if x84 < (x82.length : Int) then ((table_view_cell.f x259000 x259001 (rdOf ByteArray.empty x82 x84) x15).bind fun bt274 => (if x84 < (x16.length : Int) then ((some (x16.set (x84 : Int).toNat (⟨bt274.1, bt274.2⟩ : S52) : List (S52))).bind fun y276 => (if ((rd_T52 y276 x84).f0 = true) then (table_Overlay.l2 k x15 y276 x73 x74 x82 x83 (wrap64 (x84 + 1)) x258000 x258001 x259000 x259001 x263000 x263001) else ((table_view_cell.f x258000 x258001 (rdOf ByteArray.empty x82 x84) x15).bind fun bt278 => (table_Overlay.l2 k x15 (y276.set (x84 : Int).toNat (⟨bt278.1, bt278.2⟩ : S52)) x73 x74 x82 x83 (wrap64 (x84 + 1)) x258000 x258001 x259000 x259001 x263000 x263001)))) else (none))) else (none)) else (none)) else (if x263001.length < 5864062014805 then (table_Overlay.l1 k x73 (wrap64 (x74 + 1)) x258000 x258001 x259000 x259001 x263000 (x263001 ++ [x16])) else (none))
end
open Classical in
noncomputable def table_Overlay.f (k : Nat) (l0_0 : List ByteArray) (l0_1 : List (List (S52))) (l1_0 : List ByteArray) (l1_1 : List (List (S52))) : Option (List ByteArray × (List (List (S52))) × Int) := if SmallN l0_0 ∧ SmallN l1_0 then ((table_Valid.f k l0_0 l0_1).bind fun t253 => (if t253 = 0 then ((table_Valid.f k l1_0 l1_1).bind fun t254 => (if t254 = 0 then ((table_copied.f l0_0).bind fun t259 => (table_Overlay.l0 k l1_0 (l1_0.length : Int) 0 l0_0 l0_1 l1_0 l1_1 l0_0 l0_1 l1_0 l1_1 t259)) else (some (([] : List ByteArray), ([] : List (List (S52))), t254)))) else (some (([] : List ByteArray), ([] : List (List (S52))), t253)))) else none
def table_Overlay.T7 : Bool × List (List Nat × List Nat) := (true, [([], []), ([0], [0]), ([], []), ([2, 1], [2]), ([], []), ([], []), ([4, 1, 3, 0, 1, 4, 5], [1, 4]), ([5, 3, 6, 0, 1, 2, 3, 4, 5, 6], [3, 5])])
def table_Overlay.B7 : List Nat := [0, 1, 0, 7, 0, 0, 63, 127]
theorem table_Overlay.tab7 : rtab .any (opsOf Tryd.f37 7) = table_Overlay.T7 := by kernel_rfl
theorem table_Overlay.bits7 : waitsOk table_Overlay.T7.2 table_Overlay.B7 = true := by kernel_rfl
set_option maxHeartbeats 8000000 in
set_option maxRecDepth 100000 in
theorem table_Overlay.calls (k : Nat) (A0_0 : Option Addr) (c0_0 : Nat) (l0_0 : List ByteArray) (A0_1 : Option Addr) (c0_1 : Nat) (l0_1 : List (List (S52))) (A1_0 : Option Addr) (c1_0 : Nat) (l1_0 : List ByteArray) (A1_1 : Option Addr) (c1_1 : Nat) (l1_1 : List (List (S52))) (r1 : List ByteArray) (r2 : List (List (S52))) (r3 : Int) (w : World) (hr0_0 : Kd.C Kd.string w A0_0 l0_0.length l0_0) (hc0_0 : l0_0.length ≤ c0_0) (hr0_1 : Kd.C (Kd.slice 52 k52) w A0_1 l0_1.length l0_1) (hc0_1 : l0_1.length ≤ c0_1) (hr1_0 : Kd.C Kd.string w A1_0 l1_0.length l1_0) (hc1_0 : l1_0.length ≤ c1_0) (hr1_1 : Kd.C (Kd.slice 52 k52) w A1_1 l1_1.length l1_1) (hc1_1 : l1_1.length ≤ c1_1) (h : table_Overlay.f k l0_0 l0_1 l1_0 l1_1 = some (r1, r2, r3)) :
  Calls Tryd.prog 37 #[.agg #[.slice A0_0 l0_0.length c0_0, .slice A0_1 l0_1.length c0_1], .agg #[.slice A1_0 l1_0.length c1_0, .slice A1_1 l1_1.length c1_1]] w fun e w' => ∃ v0_ v1_ : Value, e = .returned (.tuple #[.agg #[v0_, v1_], .int .i64 r3]) ∧ Kd.R Kd.string 9 w' w.heap.size (fun _ => True) v0_ r1 ∧ Kd.S (Kd.slice 52 k52) 54 w' w.heap.size (fun _ => True) v1_ r2 ∧ Below w.heap.size w w' := by
 have hu73 := Tryd.underlying73
 have hsm_ : SmallN l0_0 ∧ SmallN l1_0 := by
  by_cases e_ : SmallN l0_0 ∧ SmallN l1_0
  ·exact e_
  ·rw [table_Overlay.f, if_neg e_] at h; exact absurd h (by simp)
 rw [table_Overlay.f, if_pos hsm_] at h
 have HSM0 := yA hsm_.1
 have HSM1 := yA hsm_.2
 clear hsm_
 have hu25 := Tryd.underlying25
 have hu68 := Tryd.underlying68
 have hu52 := Tryd.underlying52
 have HR0_0 := yA hr0_0
 have HC0_0 := yA hc0_0
 clear hr0_0 hc0_0
 have HR0_1 := yA hr0_1
 have HC0_1 := yA hc0_1
 clear hr0_1 hc0_1
 have HR1_0 := yA hr1_0
 have HC1_0 := yA hc1_0
 clear hr1_0 hc1_0
 have HR1_1 := yA hr1_1
 have HC1_1 := yA hc1_1
 clear hr1_1 hc1_1
 have HB := yA (Below.refl w.heap.size w)
 have H : ((table_Valid.f k l0_0 l0_1).bind fun t253 => (if t253 = 0 then ((table_Valid.f k l1_0 l1_1).bind fun t254 => (if t254 = 0 then ((table_copied.f l0_0).bind fun t259 => (table_Overlay.l0 k l1_0 (l1_0.length : Int) 0 l0_0 l0_1 l1_0 l1_1 l0_0 l0_1 l1_0 l1_1 t259)) else (some (([] : List ByteArray), ([] : List (List (S52))), t254)))) else (some (([] : List ByteArray), ([] : List (List (S52))), t253)))) = some (r1, r2, r3) := h
 clear h
 replace H := Option.bind_eq_some_iff.mp H
 obtain ⟨t253, A30, H⟩ := H
 replace H : (if t253 = 0 then ((table_Valid.f k l1_0 l1_1).bind fun t254 => (if t254 = 0 then ((table_copied.f l0_0).bind fun t259 => (table_Overlay.l0 k l1_0 (l1_0.length : Int) 0 l0_0 l0_1 l1_0 l1_1 l0_0 l0_1 l1_0 l1_1 t259)) else (some (([] : List ByteArray), ([] : List (List (S52))), t254)))) else (some (([] : List ByteArray), ([] : List (List (S52))), t253))) = some (r1, r2, r3) := H
 have A3 := yA A30
 clear A30
 by_cases c4 : t253 = 0
 ·rw [if_pos c4] at H
  have c4b0 : (t253 == 0) = true := beq_iff_eq.mpr c4
  have c4b1 : (t253 != 0) = false := bne_eq_false_iff_eq.mpr c4
  clear c4
  replace H := Option.bind_eq_some_iff.mp H
  obtain ⟨t254, A50, H⟩ := H
  replace H : (if t254 = 0 then ((table_copied.f l0_0).bind fun t259 => (table_Overlay.l0 k l1_0 (l1_0.length : Int) 0 l0_0 l0_1 l1_0 l1_1 l0_0 l0_1 l1_0 l1_1 t259)) else (some (([] : List ByteArray), ([] : List (List (S52))), t254))) = some (r1, r2, r3) := H
  have A5 := yA A50
  clear A50
  by_cases c6 : t254 = 0
  ·rw [if_pos c6] at H
   have c6b0 : (t254 == 0) = true := beq_iff_eq.mpr c6
   have c6b1 : (t254 != 0) = false := bne_eq_false_iff_eq.mpr c6
   clear c6
   replace H := Option.bind_eq_some_iff.mp H
   obtain ⟨t259, A70, H⟩ := H
   replace H : (table_Overlay.l0 k l1_0 (l1_0.length : Int) 0 l0_0 l0_1 l1_0 l1_1 l0_0 l0_1 l1_0 l1_1 t259) = some (r1, r2, r3) := H
   have A7 := yA A70
   clear A70
   have H' := yA H
   clear H
   go_enter Tryd.func37, Tryd.ntmps37
   go_wp2_with (first | ((with_reducible refine yP (N := 2) rfl ?_); refine yQ ?hg (N := 2) ?hd (cs := #[.slice A0_0 l0_0.length c0_0, .slice A0_1 l0_1.length c0_1]) (t := 25) ?hr ?_; (case hd => rfl); (case hg => rfl); (case hr => first | (go_simp; done) | (go_simp; rfl)); intro gb250 hg w8 hbox hb; have n0_ := yA (yB (by repeat (first | exact HB.out | apply yE | apply yD)) hb); have n1_ := yA (hbox); have n2_ := yA ((by rw [hg]; exact (below_size (by repeat (first | exact HB.out | apply yE | apply yD))) : w.heap.size ≤ gb250)); have n3_ := yA ((by rw [hg]; exact (below_size (by repeat (first | exact HB.out | apply yE | apply yD))) : w.heap.size ≤ gb250)); clear HB; have HB := n0_; have BK250 := n1_; have GW250 := n2_; have GE250 := n3_; clear n0_ n1_ n2_ n3_; clear hb hbox hg) | ((with_reducible refine yP (N := 3) rfl ?_); refine yQ ?hg (N := 3) ?hd (cs := #[.slice A1_0 l1_0.length c1_0, .slice A1_1 l1_1.length c1_1]) (t := 25) ?hr ?_; (case hd => rfl); (case hg => rfl); (case hr => first | (go_simp; done) | (go_simp; rfl)); intro gb251 hg w9 hbox hb; have n0_ := yA (yC (by first | exact BK250.out | exact yI BK250.out _) hb); have n1_ := yA (yB (by repeat (first | exact HB.out | apply yE | apply yD)) hb); have n2_ := yA (hbox); have n3_ := yA ((by rw [hg]; exact (below_size (by repeat (first | exact HB.out | apply yE | apply yD))) : w.heap.size ≤ gb251)); have n4_ := yA ((by rw [hg]; exact (below_size (by repeat (first | exact HB.out | apply yE | apply yD))) : w.heap.size ≤ gb251)); have n5_ := yA ((by rw [hg]; exact Nat.ne_of_lt (blk_lt (by first | exact BK250.out | exact yI BK250.out _)) : gb250 ≠ gb251)); have n6_ := yA ((by rw [hg]; exact Nat.ne_of_gt (blk_lt (by first | exact BK250.out | exact yI BK250.out _)) : gb251 ≠ gb250)); clear BK250; clear HB; have BK250 := n0_; have HB := n1_; have BK251 := n2_; have GW251 := n3_; have GE251 := n4_; have NB250_251 := n5_; have NB251_250 := n6_; clear n0_ n1_ n2_ n3_ n4_ n5_ n6_; clear hb hbox hg) | ((with_reducible refine yP (N := 4) rfl ?_); refine yQ ?hg (N := 4) ?hd (cs := #[.slice none 0 0, .slice none 0 0]) (t := 25) ?hr ?_; (case hd => rfl); (case hg => rfl); (case hr => first | (go_simp; done) | (go_simp; rfl)); intro gb252 hg w10 hbox hb; have n0_ := yA (yC (by first | exact BK250.out | exact yI BK250.out _) hb); have n1_ := yA (yC (by first | exact BK251.out | exact yI BK251.out _) hb); have n2_ := yA (yB (by repeat (first | exact HB.out | apply yE | apply yD)) hb); have n3_ := yA (hbox); have n4_ := yA ((by rw [hg]; exact (below_size (by repeat (first | exact HB.out | apply yE | apply yD))) : w.heap.size ≤ gb252)); have n5_ := yA ((by rw [hg]; exact (below_size (by repeat (first | exact HB.out | apply yE | apply yD))) : w.heap.size ≤ gb252)); have n6_ := yA ((by rw [hg]; exact Nat.ne_of_lt (blk_lt (by first | exact BK250.out | exact yI BK250.out _)) : gb250 ≠ gb252)); have n7_ := yA ((by rw [hg]; exact Nat.ne_of_gt (blk_lt (by first | exact BK250.out | exact yI BK250.out _)) : gb252 ≠ gb250)); have n8_ := yA ((by rw [hg]; exact Nat.ne_of_lt (blk_lt (by first | exact BK251.out | exact yI BK251.out _)) : gb251 ≠ gb252)); have n9_ := yA ((by rw [hg]; exact Nat.ne_of_gt (blk_lt (by first | exact BK251.out | exact yI BK251.out _)) : gb252 ≠ gb251)); clear BK250; clear BK251; clear HB; have BK250 := n0_; have BK251 := n1_; have HB := n2_; have BK252 := n3_; have GW252 := n4_; have GE252 := n5_; have NB250_252 := n6_; have NB252_250 := n7_; have NB251_252 := n8_; have NB252_251 := n9_; clear n0_ n1_ n2_ n3_ n4_ n5_ n6_ n7_ n8_ n9_; clear hb hbox hg; have hnb11 := NB250_251.out; have hnc11 := NB251_250.out; have hnb12 := NB250_252.out; have hnc12 := NB252_250.out; have hcz13_0 : w10.cell? ⟨gb250, 0, none⟩ = some (.slice A0_0 l0_0.length c0_0) := (yR BK250.out 0).trans rfl; have hcz13_1 : w10.cell? ⟨gb250, 1, none⟩ = some (.slice A0_1 l0_1.length c0_1) := (yR BK250.out 1).trans rfl; have hfz13_0 := yS BK250.out 0; have hfz13_1 := yS BK250.out 1) | ((with_reducible refine yO (f := 20) rfl ?_); refine goesL_ (some 20) rfl rfl Tryd.func20 (by kernel_rfl) rfl #[.agg #[.slice A0_0 l0_0.length c0_0, .slice A0_1 l0_1.length c0_1]] rfl (by (try simp only [List.map_toArray, List.map_cons, List.map_nil]); first | done | rfl | (simp only [List.length_drop, List.length_take]; rfl)) ?_; (with_reducible refine (table_Valid.calls k _ _ l0_0 _ _ l0_1 t253 _ ?side1 ?side2 ?side3 ?side4 A3.out).mono ?_); (case side1 => repeat (first | exact (Kd.C_below HR0_0.out HB.out) | (with_reducible refine Kd.C_alloc ?_ _) | (with_reducible refine Kd.C_drewN ?_ _) | (with_reducible refine Kd.C_drew ?_))); (case side2 => exact HC0_0.out); (case side3 => repeat (first | exact (Kd.C_below HR0_1.out HB.out) | (with_reducible refine Kd.C_alloc ?_ _) | (with_reducible refine Kd.C_drewN ?_ _) | (with_reducible refine Kd.C_drew ?_))); (case side4 => exact HC0_1.out); rintro e w14 ⟨rfl, hb⟩; refine ⟨_, rfl, ?_⟩; have n0_ := yA (yC (by first | exact BK250.out | exact yI BK250.out _) hb); have n1_ := yA (yC (by first | exact BK251.out | exact yI BK251.out _) hb); have n2_ := yA (yC (by first | exact BK252.out | exact yI BK252.out _) hb); have n3_ := yA (yB (by repeat (first | exact HB.out | apply yE | apply yD | refine yJ ?_ GE252.out)) hb); clear BK250; clear BK251; clear BK252; clear HB; have BK250 := n0_; have BK251 := n1_; have BK252 := n2_; have HB := n3_; clear n0_ n1_ n2_ n3_; (try clear hb); (try clear hb2); (try clear hk); (try clear hi); have hnb15 := NB251_252.out; have hnc15 := NB252_251.out; have hcz16_0 : w14.cell? ⟨gb251, 0, none⟩ = some (.slice A1_0 l1_0.length c1_0) := (yR BK251.out 0).trans rfl; have hcz16_1 : w14.cell? ⟨gb251, 1, none⟩ = some (.slice A1_1 l1_1.length c1_1) := (yR BK251.out 1).trans rfl; have hfz16_0 := yS BK251.out 0; have hfz16_1 := yS BK251.out 1) | ((with_reducible refine yO (f := 20) rfl ?_); refine goesL_ (some 26) rfl rfl Tryd.func20 (by kernel_rfl) rfl #[.agg #[.slice A1_0 l1_0.length c1_0, .slice A1_1 l1_1.length c1_1]] rfl (by (try simp only [List.map_toArray, List.map_cons, List.map_nil]); first | done | rfl | (simp only [List.length_drop, List.length_take]; rfl)) ?_; (with_reducible refine (table_Valid.calls k _ _ l1_0 _ _ l1_1 t254 _ ?side1 ?side2 ?side3 ?side4 A5.out).mono ?_); (case side1 => repeat (first | exact (Kd.C_below HR1_0.out HB.out) | (with_reducible refine Kd.C_alloc ?_ _) | (with_reducible refine Kd.C_drewN ?_ _) | (with_reducible refine Kd.C_drew ?_))); (case side2 => exact HC1_0.out); (case side3 => repeat (first | exact (Kd.C_below HR1_1.out HB.out) | (with_reducible refine Kd.C_alloc ?_ _) | (with_reducible refine Kd.C_drewN ?_ _) | (with_reducible refine Kd.C_drew ?_))); (case side4 => exact HC1_1.out); rintro e w17 ⟨rfl, hb⟩; refine ⟨_, rfl, ?_⟩; have n0_ := yA (yC (by first | exact BK250.out | exact yI BK250.out _) hb); have n1_ := yA (yC (by first | exact BK251.out | exact yI BK251.out _) hb); have n2_ := yA (yC (by first | exact BK252.out | exact yI BK252.out _) hb); have n3_ := yA (yB (by repeat (first | exact HB.out | apply yE | apply yD | refine yJ ?_ GE252.out)) hb); clear BK250; clear BK251; clear BK252; clear HB; have BK250 := n0_; have BK251 := n1_; have BK252 := n2_; have HB := n3_; clear n0_ n1_ n2_ n3_; (try clear hb); (try clear hb2); (try clear hk); (try clear hi); have hcz18_0 : w17.cell? ⟨gb250, 0, none⟩ = some (.slice A0_0 l0_0.length c0_0) := (yR BK250.out 0).trans rfl; have hcz18_1 : w17.cell? ⟨gb250, 1, none⟩ = some (.slice A0_1 l0_1.length c0_1) := (yR BK250.out 1).trans rfl; have hfz18_0 := yS BK250.out 0; have hfz18_1 := yS BK250.out 1))
   have n0_ := yA (yH BK250.out)
   have n1_ := yA (yH BK251.out)
   have n2_ := yA (yH BK252.out)
   have n3_ := yA (yD HB.out)
   clear BK250 BK251 BK252 HB
   have BK250 := n0_
   have BK251 := n1_
   have BK252 := n2_
   have HB := n3_
   clear n0_ n1_ n2_ n3_
   refine start_ (n := 8) (S := fun w' => w'.cell? ⟨gb250, 0, none⟩ = some (.slice A0_0 l0_0.length c0_0) ∧ w'.cell? ⟨gb250, 1, none⟩ = some (.slice A0_1 l0_1.length c0_1) ∧ w'.cell? ⟨gb251, 0, none⟩ = some (.slice A1_0 l1_0.length c1_0) ∧ w'.cell? ⟨gb251, 1, none⟩ = some (.slice A1_1 l1_1.length c1_1)) (ds := []) #[false, false, false, false, false, false, false, false] (by kernel_rfl) rfl rfl ⟨(yR BK250.out 0).trans rfl, (yR BK250.out 1).trans rfl, (yR BK251.out 0).trans rfl, (yR BK251.out 1).trans rfl⟩ (fun hHeld => ?_); refine with_tabW table_Overlay.tab7 table_Overlay.bits7 (fun HT_ HW_ => ?_)
   generalize World.drew _ = w6_ at BK250 BK251 BK252 HB hHeld ⊢
   refine take_ (i := 0) (N := some 31) (v := ?_) (a' := ?_) #[true, false, false, false, false, false, false, false] rfl rfl (take_ofW HT_.out HW_.out (by kernel_rfl)) (fun _ _ _ h => h) (Or.inl ⟨by rfl, ?_⟩) hHeld ?_ ?_
   rotate_left
   ·rintro w' ⟨s0, s1, s2, s3⟩
    go_simp
    with_reducible rfl
   rotate_left
   ·simp only [Act.put, lA, lB, lC, i64_w, i32_w]
    rfl
   refine take_ (i := 2) (N := some 33) (v := ?_) (a' := ?_) #[true, false, true, false, false, false, false, false] rfl rfl (take_ofW HT_.out HW_.out (by kernel_rfl)) (fun _ _ _ h => h) (Or.inl ⟨by rfl, ?_⟩) hHeld ?_ ?_
   rotate_left
   ·rintro w' ⟨s0, s1, s2, s3⟩
    go_simp
    with_reducible rfl
   rotate_left
   ·simp only [Act.put, lA, lB, lC, i64_w, i32_w]
    rfl
   clear hHeld
   refine join_ (σ := Nat × Nat × Nat × Nat) 2 #[true, true, true, true, true, true, false, false] (fun s_ => [(32, .agg #[.slice A0_0 l0_0.length c0_0, .slice A0_1 l0_1.length c0_1, .map (some s_.1)]), (34, .agg #[.slice A1_0 l1_0.length c1_0, .slice A1_1 l1_1.length c1_1, .map (some s_.2.1)]), (8, .pointer (some ⟨s_.2.2.1, 0, none⟩)), (9, .pointer (some ⟨s_.2.2.2, 0, none⟩))]) (fun s_ w' => (w'.heap[gb250]? = some (.cells #[.slice A0_0 l0_0.length c0_0, .slice A0_1 l0_1.length c0_1] 25 (0, 0))) ∧ (w'.heap[gb251]? = some (.cells #[.slice A1_0 l1_0.length c1_0, .slice A1_1 l1_1.length c1_1] 25 (0, 0))) ∧ (w'.heap[gb252]? = some (.cells #[.slice none 0 0, .slice none 0 0] 25 (0, 0))) ∧ (OwnsCol w' s_.1 l0_0.length (colD l0_0 0 (.map []))) ∧ (w.heap.size ≤ s_.1) ∧ (OwnsCol w' s_.2.1 l1_0.length (colD l1_0 0 (.map []))) ∧ (w.heap.size ≤ s_.2.1) ∧ (w'.heap[s_.2.2.1]? = some (.cells #[.slice none 0 0, .slice none 0 0, .map none] 73 (0, 0))) ∧ (w.heap.size ≤ s_.2.2.1) ∧ (w'.heap[s_.2.2.2]? = some (.cells #[.slice none 0 0, .slice none 0 0, .map none] 73 (0, 0))) ∧ (w.heap.size ≤ s_.2.2.2) ∧ (s_.2.2.1 ≠ s_.2.2.2) ∧ (Below w.heap.size w w')) ?_ ?_
   rotate_left
   ·intro hJ211
    refine join_ (σ := Nat × Nat × Nat) 3 #[true, true, true, true, true, false, false, false] (fun s_ => [(32, .agg #[.slice A0_0 l0_0.length c0_0, .slice A0_1 l0_1.length c0_1, .map (some s_.1)]), (34, .agg #[.slice A1_0 l1_0.length c1_0, .slice A1_1 l1_1.length c1_1, .map (some s_.2.1)]), (8, .pointer (some ⟨s_.2.2, 0, none⟩))]) (fun s_ w' => (w'.heap[gb250]? = some (.cells #[.slice A0_0 l0_0.length c0_0, .slice A0_1 l0_1.length c0_1] 25 (0, 0))) ∧ (w'.heap[gb251]? = some (.cells #[.slice A1_0 l1_0.length c1_0, .slice A1_1 l1_1.length c1_1] 25 (0, 0))) ∧ (w'.heap[gb252]? = some (.cells #[.slice none 0 0, .slice none 0 0] 25 (0, 0))) ∧ (OwnsCol w' s_.1 l0_0.length (colD l0_0 0 (.map []))) ∧ (w.heap.size ≤ s_.1) ∧ (OwnsCol w' s_.2.1 l1_0.length (colD l1_0 0 (.map []))) ∧ (w.heap.size ≤ s_.2.1) ∧ (w'.heap[s_.2.2]? = some (.cells #[.slice none 0 0, .slice none 0 0, .map none] 73 (0, 0))) ∧ (w.heap.size ≤ s_.2.2) ∧ (Below w.heap.size w w')) ?_ ?_
    rotate_left
    ·intro hJ210
     refine join_ (σ := Nat × Nat × Nat) 3 #[true, true, true, true, false, true, false, false] (fun s_ => [(32, .agg #[.slice A0_0 l0_0.length c0_0, .slice A0_1 l0_1.length c0_1, .map (some s_.1)]), (34, .agg #[.slice A1_0 l1_0.length c1_0, .slice A1_1 l1_1.length c1_1, .map (some s_.2.1)]), (9, .pointer (some ⟨s_.2.2, 0, none⟩))]) (fun s_ w' => (w'.heap[gb250]? = some (.cells #[.slice A0_0 l0_0.length c0_0, .slice A0_1 l0_1.length c0_1] 25 (0, 0))) ∧ (w'.heap[gb251]? = some (.cells #[.slice A1_0 l1_0.length c1_0, .slice A1_1 l1_1.length c1_1] 25 (0, 0))) ∧ (w'.heap[gb252]? = some (.cells #[.slice none 0 0, .slice none 0 0] 25 (0, 0))) ∧ (OwnsCol w' s_.1 l0_0.length (colD l0_0 0 (.map []))) ∧ (w.heap.size ≤ s_.1) ∧ (OwnsCol w' s_.2.1 l1_0.length (colD l1_0 0 (.map []))) ∧ (w.heap.size ≤ s_.2.1) ∧ (w'.heap[s_.2.2]? = some (.cells #[.slice none 0 0, .slice none 0 0, .map none] 73 (0, 0))) ∧ (w.heap.size ≤ s_.2.2) ∧ (Below w.heap.size w w')) ?_ ?_
     rotate_left
     ·intro hJ201
      refine join_ (σ := Nat × Nat × Nat) 3 #[true, true, true, false, true, true, false, false] (fun s_ => [(32, .agg #[.slice A0_0 l0_0.length c0_0, .slice A0_1 l0_1.length c0_1, .map (some s_.1)]), (8, .pointer (some ⟨s_.2.1, 0, none⟩)), (9, .pointer (some ⟨s_.2.2, 0, none⟩))]) (fun s_ w' => (w'.heap[gb250]? = some (.cells #[.slice A0_0 l0_0.length c0_0, .slice A0_1 l0_1.length c0_1] 25 (0, 0))) ∧ (w'.heap[gb251]? = some (.cells #[.slice A1_0 l1_0.length c1_0, .slice A1_1 l1_1.length c1_1] 25 (0, 0))) ∧ (w'.heap[gb252]? = some (.cells #[.slice none 0 0, .slice none 0 0] 25 (0, 0))) ∧ (OwnsCol w' s_.1 l0_0.length (colD l0_0 0 (.map []))) ∧ (w.heap.size ≤ s_.1) ∧ (w'.heap[s_.2.1]? = some (.cells #[.slice none 0 0, .slice none 0 0, .map none] 73 (0, 0))) ∧ (w.heap.size ≤ s_.2.1) ∧ (w'.heap[s_.2.2]? = some (.cells #[.slice none 0 0, .slice none 0 0, .map none] 73 (0, 0))) ∧ (w.heap.size ≤ s_.2.2) ∧ (s_.2.1 ≠ s_.2.2) ∧ (Below w.heap.size w w')) ?_ ?_
      rotate_left
      ·intro hJ111
       refine join_ (σ := Nat × Nat) 4 #[true, true, true, true, false, false, false, false] (fun s_ => [(32, .agg #[.slice A0_0 l0_0.length c0_0, .slice A0_1 l0_1.length c0_1, .map (some s_.1)]), (34, .agg #[.slice A1_0 l1_0.length c1_0, .slice A1_1 l1_1.length c1_1, .map (some s_.2)])]) (fun s_ w' => (w'.heap[gb250]? = some (.cells #[.slice A0_0 l0_0.length c0_0, .slice A0_1 l0_1.length c0_1] 25 (0, 0))) ∧ (w'.heap[gb251]? = some (.cells #[.slice A1_0 l1_0.length c1_0, .slice A1_1 l1_1.length c1_1] 25 (0, 0))) ∧ (w'.heap[gb252]? = some (.cells #[.slice none 0 0, .slice none 0 0] 25 (0, 0))) ∧ (OwnsCol w' s_.1 l0_0.length (colD l0_0 0 (.map []))) ∧ (w.heap.size ≤ s_.1) ∧ (OwnsCol w' s_.2 l1_0.length (colD l1_0 0 (.map []))) ∧ (w.heap.size ≤ s_.2) ∧ (Below w.heap.size w w')) ?_ ?_
       rotate_left
       ·intro hJ200
        refine join_ (σ := Nat × Nat) 4 #[true, true, true, false, true, false, false, false] (fun s_ => [(32, .agg #[.slice A0_0 l0_0.length c0_0, .slice A0_1 l0_1.length c0_1, .map (some s_.1)]), (8, .pointer (some ⟨s_.2, 0, none⟩))]) (fun s_ w' => (w'.heap[gb250]? = some (.cells #[.slice A0_0 l0_0.length c0_0, .slice A0_1 l0_1.length c0_1] 25 (0, 0))) ∧ (w'.heap[gb251]? = some (.cells #[.slice A1_0 l1_0.length c1_0, .slice A1_1 l1_1.length c1_1] 25 (0, 0))) ∧ (w'.heap[gb252]? = some (.cells #[.slice none 0 0, .slice none 0 0] 25 (0, 0))) ∧ (OwnsCol w' s_.1 l0_0.length (colD l0_0 0 (.map []))) ∧ (w.heap.size ≤ s_.1) ∧ (w'.heap[s_.2]? = some (.cells #[.slice none 0 0, .slice none 0 0, .map none] 73 (0, 0))) ∧ (w.heap.size ≤ s_.2) ∧ (Below w.heap.size w w')) ?_ ?_
        rotate_left
        ·intro hJ110
         refine join_ (σ := Nat × Nat) 4 #[true, true, true, false, false, true, false, false] (fun s_ => [(32, .agg #[.slice A0_0 l0_0.length c0_0, .slice A0_1 l0_1.length c0_1, .map (some s_.1)]), (9, .pointer (some ⟨s_.2, 0, none⟩))]) (fun s_ w' => (w'.heap[gb250]? = some (.cells #[.slice A0_0 l0_0.length c0_0, .slice A0_1 l0_1.length c0_1] 25 (0, 0))) ∧ (w'.heap[gb251]? = some (.cells #[.slice A1_0 l1_0.length c1_0, .slice A1_1 l1_1.length c1_1] 25 (0, 0))) ∧ (w'.heap[gb252]? = some (.cells #[.slice none 0 0, .slice none 0 0] 25 (0, 0))) ∧ (OwnsCol w' s_.1 l0_0.length (colD l0_0 0 (.map []))) ∧ (w.heap.size ≤ s_.1) ∧ (w'.heap[s_.2]? = some (.cells #[.slice none 0 0, .slice none 0 0, .map none] 73 (0, 0))) ∧ (w.heap.size ≤ s_.2) ∧ (Below w.heap.size w w')) ?_ ?_
         rotate_left
         ·intro hJ101
          refine join_ (σ := Nat × Nat) 4 #[true, false, true, false, true, true, false, false] (fun s_ => [(8, .pointer (some ⟨s_.1, 0, none⟩)), (9, .pointer (some ⟨s_.2, 0, none⟩))]) (fun s_ w' => (w'.heap[gb250]? = some (.cells #[.slice A0_0 l0_0.length c0_0, .slice A0_1 l0_1.length c0_1] 25 (0, 0))) ∧ (w'.heap[gb251]? = some (.cells #[.slice A1_0 l1_0.length c1_0, .slice A1_1 l1_1.length c1_1] 25 (0, 0))) ∧ (w'.heap[gb252]? = some (.cells #[.slice none 0 0, .slice none 0 0] 25 (0, 0))) ∧ (w'.heap[s_.1]? = some (.cells #[.slice none 0 0, .slice none 0 0, .map none] 73 (0, 0))) ∧ (w.heap.size ≤ s_.1) ∧ (w'.heap[s_.2]? = some (.cells #[.slice none 0 0, .slice none 0 0, .map none] 73 (0, 0))) ∧ (w.heap.size ≤ s_.2) ∧ (s_.1 ≠ s_.2) ∧ (Below w.heap.size w w')) ?_ ?_
          rotate_left
          ·intro hJ011
           refine join_ (σ := Nat) 5 #[true, true, true, false, false, false, false, false] (fun s_ => [(32, .agg #[.slice A0_0 l0_0.length c0_0, .slice A0_1 l0_1.length c0_1, .map (some s_)])]) (fun s_ w' => (w'.heap[gb250]? = some (.cells #[.slice A0_0 l0_0.length c0_0, .slice A0_1 l0_1.length c0_1] 25 (0, 0))) ∧ (w'.heap[gb251]? = some (.cells #[.slice A1_0 l1_0.length c1_0, .slice A1_1 l1_1.length c1_1] 25 (0, 0))) ∧ (w'.heap[gb252]? = some (.cells #[.slice none 0 0, .slice none 0 0] 25 (0, 0))) ∧ (OwnsCol w' s_ l0_0.length (colD l0_0 0 (.map []))) ∧ (w.heap.size ≤ s_) ∧ (Below w.heap.size w w')) ?_ ?_
           rotate_left
           ·intro hJ100
            refine join_ (σ := Nat) 5 #[true, false, true, false, true, false, false, false] (fun s_ => [(8, .pointer (some ⟨s_, 0, none⟩))]) (fun s_ w' => (w'.heap[gb250]? = some (.cells #[.slice A0_0 l0_0.length c0_0, .slice A0_1 l0_1.length c0_1] 25 (0, 0))) ∧ (w'.heap[gb251]? = some (.cells #[.slice A1_0 l1_0.length c1_0, .slice A1_1 l1_1.length c1_1] 25 (0, 0))) ∧ (w'.heap[gb252]? = some (.cells #[.slice none 0 0, .slice none 0 0] 25 (0, 0))) ∧ (w'.heap[s_]? = some (.cells #[.slice none 0 0, .slice none 0 0, .map none] 73 (0, 0))) ∧ (w.heap.size ≤ s_) ∧ (Below w.heap.size w w')) ?_ ?_
            rotate_left
            ·intro hJ010
             refine join_ (σ := Nat) 5 #[true, false, true, false, false, true, false, false] (fun s_ => [(9, .pointer (some ⟨s_, 0, none⟩))]) (fun s_ w' => (w'.heap[gb250]? = some (.cells #[.slice A0_0 l0_0.length c0_0, .slice A0_1 l0_1.length c0_1] 25 (0, 0))) ∧ (w'.heap[gb251]? = some (.cells #[.slice A1_0 l1_0.length c1_0, .slice A1_1 l1_1.length c1_1] 25 (0, 0))) ∧ (w'.heap[gb252]? = some (.cells #[.slice none 0 0, .slice none 0 0] 25 (0, 0))) ∧ (w'.heap[s_]? = some (.cells #[.slice none 0 0, .slice none 0 0, .map none] 73 (0, 0))) ∧ (w.heap.size ≤ s_) ∧ (Below w.heap.size w w')) ?_ ?_
             rotate_left
             ·intro hJ001
              refine three_ (i := 1) (j := 4) (k := 5) (Ni := some 32) (Nj := some 8) (Nk := some 9) #[true, true, true, false, false, false, false, false] #[true, false, true, false, true, false, false, false] #[true, false, true, false, false, true, false, false] rfl rfl rfl rfl rfl rfl (three_of HT_.out (by kernel_rfl)) (by decide) (by decide) (by decide) (fun K hK => ?_) (fun K hK => ?_) (fun K hK => ?_)
              ·skip
               refine goes_ Tryd.func41 (by kernel_rfl) rfl #[.agg #[.slice A0_0 l0_0.length c0_0, .slice A0_1 l0_1.length c0_1]] (by rfl) rfl rfl (by (try simp only [List.map_toArray, List.map_cons, List.map_nil]); first | done | rfl) ?_
               refine (viewed_any A0_0 c0_0 l0_0 A0_1 l0_1.length c0_1 _ (Kd.C_below HR0_0.out HB.out) HC0_0.out HSM0.out.nm HSM0.out.ln).mono ?_
               rintro e w2_ ⟨bV, rfl, hge, hown, hb⟩
               refine ⟨_, rfl, ?_⟩
               replace hge := Nat.le_trans HB.out.size hge
               have n0_ := yA (yC BK250.out hb)
               have n1_ := yA (yC BK251.out hb)
               have n2_ := yA (yC BK252.out hb)
               have n3_ := yA (yB HB.out hb)
               have n4_ := yA (hown)
               have n5_ := yA (hge)
               clear BK250 BK251 BK252 HB hb
               have BK250 := n0_
               have BK251 := n1_
               have BK252 := n2_
               have HB := n3_
               have OV := n4_
               have GV := n5_
               clear n0_ n1_ n2_ n3_ n4_ n5_
               clear hown hge
               refine hK.out _ _ ⟨(yR BK250.out 0).trans rfl, (yR BK250.out 1).trans rfl, (yR BK251.out 0).trans rfl, (yR BK251.out 1).trans rfl⟩ (fun hHeld => ?_)
               clear hK K hHeld
               refine norm_ (a' := ?_) ?_ ?_
               rotate_left
               ·show Act.put _ (some 32) _ = _
                simp only [Act.put, lA, lB, lC, i64_w, i32_w]
                rfl
               exact norm_ (by first | (simp only [putAll, Act.put, lA, lB, lC]; done) | (simp only [putAll, Act.put, lA, lB, lC]; rfl)) (hJ100 bV _ ⟨BK250.out, BK251.out, BK252.out, OV.out, GV.out, HB.out⟩)
              ·skip
               refine box_step ?hg (N := 8) ?hd (cs := #[.slice none 0 0, .slice none 0 0, .map none]) (t := 73) ?hr ?_; (case hd => rfl); (case hg => rfl); (case hr => first | (go_simp; done) | (go_simp; rfl))
               intro gX hg w2_ hbox hb
               have m0_ := yA hbox
               have m1_ := yA (by rw [hg]; exact below_size HB.out : w.heap.size ≤ gX)
               have n0_ := yA (yC BK250.out hb)
               have n1_ := yA (yC BK251.out hb)
               have n2_ := yA (yC BK252.out hb)
               have n3_ := yA (yB HB.out hb)
               have n4_ := yA (m0_.out)
               have n5_ := yA (m1_.out)
               clear BK250 BK251 BK252 HB hb
               have BK250 := n0_
               have BK251 := n1_
               have BK252 := n2_
               have HB := n3_
               have BX := n4_
               have GX := n5_
               clear n0_ n1_ n2_ n3_ n4_ n5_
               clear hbox hg m0_ m1_
               refine hK.out _ _ ⟨(yR BK250.out 0).trans rfl, (yR BK250.out 1).trans rfl, (yR BK251.out 0).trans rfl, (yR BK251.out 1).trans rfl⟩ (fun hHeld => ?_)
               clear hK K hHeld
               refine norm_ (a' := ?_) ?_ ?_
               rotate_left
               ·show Act.put _ (some 8) _ = _
                simp only [Act.put, lA, lB, lC, i64_w, i32_w]
                rfl
               exact norm_ (by first | (simp only [putAll, Act.put, lA, lB, lC]; done) | (simp only [putAll, Act.put, lA, lB, lC]; rfl)) (hJ010 gX _ ⟨BK250.out, BK251.out, BK252.out, BX.out, GX.out, HB.out⟩)
              ·skip
               refine box_step ?hg (N := 9) ?hd (cs := #[.slice none 0 0, .slice none 0 0, .map none]) (t := 73) ?hr ?_; (case hd => rfl); (case hg => rfl); (case hr => first | (go_simp; done) | (go_simp; rfl))
               intro gY hg w2_ hbox hb
               have m0_ := yA hbox
               have m1_ := yA (by rw [hg]; exact below_size HB.out : w.heap.size ≤ gY)
               have n0_ := yA (yC BK250.out hb)
               have n1_ := yA (yC BK251.out hb)
               have n2_ := yA (yC BK252.out hb)
               have n3_ := yA (yB HB.out hb)
               have n4_ := yA (m0_.out)
               have n5_ := yA (m1_.out)
               clear BK250 BK251 BK252 HB hb
               have BK250 := n0_
               have BK251 := n1_
               have BK252 := n2_
               have HB := n3_
               have BY := n4_
               have GY := n5_
               clear n0_ n1_ n2_ n3_ n4_ n5_
               clear hbox hg m0_ m1_
               refine hK.out _ _ ⟨(yR BK250.out 0).trans rfl, (yR BK250.out 1).trans rfl, (yR BK251.out 0).trans rfl, (yR BK251.out 1).trans rfl⟩ (fun hHeld => ?_)
               clear hK K hHeld
               refine norm_ (a' := ?_) ?_ ?_
               rotate_left
               ·show Act.put _ (some 9) _ = _
                simp only [Act.put, lA, lB, lC, i64_w, i32_w]
                rfl
               exact norm_ (by first | (simp only [putAll, Act.put, lA, lB, lC]; done) | (simp only [putAll, Act.put, lA, lB, lC]; rfl)) (hJ001 gY _ ⟨BK250.out, BK251.out, BK252.out, BY.out, GY.out, HB.out⟩)
             rintro gY w1_ ⟨h0_, h1_, h2_, h3_, h4_, h5_⟩
             have BK250_ := yA h0_
             have BK251_ := yA h1_
             have BK252_ := yA h2_
             have BY_ := yA h3_
             have GY_ := yA h4_
             have HB_ := yA h5_
             clear BK250 BK251 BK252 HB h0_ h1_ h2_ h3_ h4_ h5_
             have BK250 := BK250_
             have BK251 := BK251_
             have BK252 := BK252_
             have BY := BY_
             have GY := GY_
             have HB := HB_
             clear BK250_ BK251_ BK252_ BY_ GY_ HB_
             refine norm_ (a' := ?_) ?_ ?_
             rotate_left
             ·simp only [putAll, Act.put, lA, lB, lC, i64_w, i32_w]
              rfl
             refine two_ (i := 1) (j := 4) (Ni := some 32) (Nj := some 8) #[true, true, true, false, false, true, false, false] #[true, false, true, false, true, true, false, false] rfl rfl rfl rfl (two_of HT_.out (by kernel_rfl)) (by decide) (by decide) (fun K hK => ?_) (fun K hK => ?_)
             ·skip
              refine goes_ Tryd.func41 (by kernel_rfl) rfl #[.agg #[.slice A0_0 l0_0.length c0_0, .slice A0_1 l0_1.length c0_1]] (by rfl) rfl rfl (by (try simp only [List.map_toArray, List.map_cons, List.map_nil]); first | done | rfl) ?_
              refine (viewed_any A0_0 c0_0 l0_0 A0_1 l0_1.length c0_1 _ (Kd.C_below HR0_0.out HB.out) HC0_0.out HSM0.out.nm HSM0.out.ln).mono ?_
              rintro e w2_ ⟨bV, rfl, hge, hown, hb⟩
              refine ⟨_, rfl, ?_⟩
              replace hge := Nat.le_trans HB.out.size hge
              have n0_ := yA (yC BK250.out hb)
              have n1_ := yA (yC BK251.out hb)
              have n2_ := yA (yC BK252.out hb)
              have n3_ := yA (yC BY.out hb)
              have n4_ := yA (yB HB.out hb)
              have n5_ := yA (hown)
              have n6_ := yA (hge)
              clear BK250 BK251 BK252 BY HB hb
              have BK250 := n0_
              have BK251 := n1_
              have BK252 := n2_
              have BY := n3_
              have HB := n4_
              have OV := n5_
              have GV := n6_
              clear n0_ n1_ n2_ n3_ n4_ n5_ n6_
              clear hown hge
              refine hK.out _ _ ⟨(yR BK250.out 0).trans rfl, (yR BK250.out 1).trans rfl, (yR BK251.out 0).trans rfl, (yR BK251.out 1).trans rfl⟩ (fun hHeld => ?_)
              clear hK K hHeld
              refine norm_ (a' := ?_) ?_ ?_
              rotate_left
              ·show Act.put _ (some 32) _ = _
               simp only [Act.put, lA, lB, lC, i64_w, i32_w]
               rfl
              exact norm_ (by first | (simp only [putAll, Act.put, lA, lB, lC]; done) | (simp only [putAll, Act.put, lA, lB, lC]; rfl)) (hJ101 (bV, gY) _ ⟨BK250.out, BK251.out, BK252.out, OV.out, GV.out, BY.out, GY.out, HB.out⟩)
             ·skip
              refine box_step ?hg (N := 8) ?hd (cs := #[.slice none 0 0, .slice none 0 0, .map none]) (t := 73) ?hr ?_; (case hd => rfl); (case hg => rfl); (case hr => first | (go_simp; done) | (go_simp; rfl))
              intro gX hg w2_ hbox hb
              have m0_ := yA hbox
              have m1_ := yA (by rw [hg]; exact below_size HB.out : w.heap.size ≤ gX)
              have m2_ := yA (by rw [hg]; exact Nat.ne_of_gt (blk_lt BY.out) : gX ≠ gY)
              have n0_ := yA (yC BK250.out hb)
              have n1_ := yA (yC BK251.out hb)
              have n2_ := yA (yC BK252.out hb)
              have n3_ := yA (yC BY.out hb)
              have n4_ := yA (yB HB.out hb)
              have n5_ := yA (m0_.out)
              have n6_ := yA (m1_.out)
              have n7_ := yA (m2_.out)
              clear BK250 BK251 BK252 BY HB hb
              have BK250 := n0_
              have BK251 := n1_
              have BK252 := n2_
              have BY := n3_
              have HB := n4_
              have BX := n5_
              have GX := n6_
              have NXY := n7_
              clear n0_ n1_ n2_ n3_ n4_ n5_ n6_ n7_
              clear hbox hg m0_ m1_ m2_
              refine hK.out _ _ ⟨(yR BK250.out 0).trans rfl, (yR BK250.out 1).trans rfl, (yR BK251.out 0).trans rfl, (yR BK251.out 1).trans rfl⟩ (fun hHeld => ?_)
              clear hK K hHeld
              refine norm_ (a' := ?_) ?_ ?_
              rotate_left
              ·show Act.put _ (some 8) _ = _
               simp only [Act.put, lA, lB, lC, i64_w, i32_w]
               rfl
              exact norm_ (by first | (simp only [putAll, Act.put, lA, lB, lC]; done) | (simp only [putAll, Act.put, lA, lB, lC]; rfl)) (hJ011 (gX, gY) _ ⟨BK250.out, BK251.out, BK252.out, BX.out, GX.out, BY.out, GY.out, NXY.out, HB.out⟩)
            rintro gX w1_ ⟨h0_, h1_, h2_, h3_, h4_, h5_⟩
            have BK250_ := yA h0_
            have BK251_ := yA h1_
            have BK252_ := yA h2_
            have BX_ := yA h3_
            have GX_ := yA h4_
            have HB_ := yA h5_
            clear BK250 BK251 BK252 HB h0_ h1_ h2_ h3_ h4_ h5_
            have BK250 := BK250_
            have BK251 := BK251_
            have BK252 := BK252_
            have BX := BX_
            have GX := GX_
            have HB := HB_
            clear BK250_ BK251_ BK252_ BX_ GX_ HB_
            refine norm_ (a' := ?_) ?_ ?_
            rotate_left
            ·simp only [putAll, Act.put, lA, lB, lC, i64_w, i32_w]
             rfl
            refine two_ (i := 1) (j := 5) (Ni := some 32) (Nj := some 9) #[true, true, true, false, true, false, false, false] #[true, false, true, false, true, true, false, false] rfl rfl rfl rfl (two_of HT_.out (by kernel_rfl)) (by decide) (by decide) (fun K hK => ?_) (fun K hK => ?_)
            ·skip
             refine goes_ Tryd.func41 (by kernel_rfl) rfl #[.agg #[.slice A0_0 l0_0.length c0_0, .slice A0_1 l0_1.length c0_1]] (by rfl) rfl rfl (by (try simp only [List.map_toArray, List.map_cons, List.map_nil]); first | done | rfl) ?_
             refine (viewed_any A0_0 c0_0 l0_0 A0_1 l0_1.length c0_1 _ (Kd.C_below HR0_0.out HB.out) HC0_0.out HSM0.out.nm HSM0.out.ln).mono ?_
             rintro e w2_ ⟨bV, rfl, hge, hown, hb⟩
             refine ⟨_, rfl, ?_⟩
             replace hge := Nat.le_trans HB.out.size hge
             have n0_ := yA (yC BK250.out hb)
             have n1_ := yA (yC BK251.out hb)
             have n2_ := yA (yC BK252.out hb)
             have n3_ := yA (yC BX.out hb)
             have n4_ := yA (yB HB.out hb)
             have n5_ := yA (hown)
             have n6_ := yA (hge)
             clear BK250 BK251 BK252 BX HB hb
             have BK250 := n0_
             have BK251 := n1_
             have BK252 := n2_
             have BX := n3_
             have HB := n4_
             have OV := n5_
             have GV := n6_
             clear n0_ n1_ n2_ n3_ n4_ n5_ n6_
             clear hown hge
             refine hK.out _ _ ⟨(yR BK250.out 0).trans rfl, (yR BK250.out 1).trans rfl, (yR BK251.out 0).trans rfl, (yR BK251.out 1).trans rfl⟩ (fun hHeld => ?_)
             clear hK K hHeld
             refine norm_ (a' := ?_) ?_ ?_
             rotate_left
             ·show Act.put _ (some 32) _ = _
              simp only [Act.put, lA, lB, lC, i64_w, i32_w]
              rfl
             exact norm_ (by first | (simp only [putAll, Act.put, lA, lB, lC]; done) | (simp only [putAll, Act.put, lA, lB, lC]; rfl)) (hJ110 (bV, gX) _ ⟨BK250.out, BK251.out, BK252.out, OV.out, GV.out, BX.out, GX.out, HB.out⟩)
            ·skip
             refine box_step ?hg (N := 9) ?hd (cs := #[.slice none 0 0, .slice none 0 0, .map none]) (t := 73) ?hr ?_; (case hd => rfl); (case hg => rfl); (case hr => first | (go_simp; done) | (go_simp; rfl))
             intro gY hg w2_ hbox hb
             have m0_ := yA hbox
             have m1_ := yA (by rw [hg]; exact below_size HB.out : w.heap.size ≤ gY)
             have m2_ := yA (by rw [hg]; exact Nat.ne_of_lt (blk_lt BX.out) : gX ≠ gY)
             have n0_ := yA (yC BK250.out hb)
             have n1_ := yA (yC BK251.out hb)
             have n2_ := yA (yC BK252.out hb)
             have n3_ := yA (yC BX.out hb)
             have n4_ := yA (yB HB.out hb)
             have n5_ := yA (m0_.out)
             have n6_ := yA (m1_.out)
             have n7_ := yA (m2_.out)
             clear BK250 BK251 BK252 BX HB hb
             have BK250 := n0_
             have BK251 := n1_
             have BK252 := n2_
             have BX := n3_
             have HB := n4_
             have BY := n5_
             have GY := n6_
             have NXY := n7_
             clear n0_ n1_ n2_ n3_ n4_ n5_ n6_ n7_
             clear hbox hg m0_ m1_ m2_
             refine hK.out _ _ ⟨(yR BK250.out 0).trans rfl, (yR BK250.out 1).trans rfl, (yR BK251.out 0).trans rfl, (yR BK251.out 1).trans rfl⟩ (fun hHeld => ?_)
             clear hK K hHeld
             refine norm_ (a' := ?_) ?_ ?_
             rotate_left
             ·show Act.put _ (some 9) _ = _
              simp only [Act.put, lA, lB, lC, i64_w, i32_w]
              rfl
             exact norm_ (by first | (simp only [putAll, Act.put, lA, lB, lC]; done) | (simp only [putAll, Act.put, lA, lB, lC]; rfl)) (hJ011 (gX, gY) _ ⟨BK250.out, BK251.out, BK252.out, BX.out, GX.out, BY.out, GY.out, NXY.out, HB.out⟩)
           rintro bV w1_ ⟨h0_, h1_, h2_, h3_, h4_, h5_⟩
           have BK250_ := yA h0_
           have BK251_ := yA h1_
           have BK252_ := yA h2_
           have OV_ := yA h3_
           have GV_ := yA h4_
           have HB_ := yA h5_
           clear BK250 BK251 BK252 HB h0_ h1_ h2_ h3_ h4_ h5_
           have BK250 := BK250_
           have BK251 := BK251_
           have BK252 := BK252_
           have OV := OV_
           have GV := GV_
           have HB := HB_
           clear BK250_ BK251_ BK252_ OV_ GV_ HB_
           refine norm_ (a' := ?_) ?_ ?_
           rotate_left
           ·simp only [putAll, Act.put, lA, lB, lC, i64_w, i32_w]
            rfl
           refine three_ (i := 3) (j := 4) (k := 5) (Ni := some 34) (Nj := some 8) (Nk := some 9) #[true, true, true, true, false, false, false, false] #[true, true, true, false, true, false, false, false] #[true, true, true, false, false, true, false, false] rfl rfl rfl rfl rfl rfl (three_of HT_.out (by kernel_rfl)) (by decide) (by decide) (by decide) (fun K hK => ?_) (fun K hK => ?_) (fun K hK => ?_)
           ·skip
            refine goes_ Tryd.func41 (by kernel_rfl) rfl #[.agg #[.slice A1_0 l1_0.length c1_0, .slice A1_1 l1_1.length c1_1]] (by rfl) rfl rfl (by (try simp only [List.map_toArray, List.map_cons, List.map_nil]); first | done | rfl) ?_
            refine (viewed_any A1_0 c1_0 l1_0 A1_1 l1_1.length c1_1 _ (Kd.C_below HR1_0.out HB.out) HC1_0.out HSM1.out.nm HSM1.out.ln).mono ?_
            rintro e w2_ ⟨bW, rfl, hge, hown, hb⟩
            refine ⟨_, rfl, ?_⟩
            replace hge := Nat.le_trans HB.out.size hge
            have n0_ := yA (yC BK250.out hb)
            have n1_ := yA (yC BK251.out hb)
            have n2_ := yA (yC BK252.out hb)
            have n3_ := yA (OwnsCol.below OV.out hb)
            have n4_ := yA (yB HB.out hb)
            have n5_ := yA (hown)
            have n6_ := yA (hge)
            clear BK250 BK251 BK252 OV HB hb
            have BK250 := n0_
            have BK251 := n1_
            have BK252 := n2_
            have OV := n3_
            have HB := n4_
            have OW := n5_
            have GU := n6_
            clear n0_ n1_ n2_ n3_ n4_ n5_ n6_
            clear hown hge
            refine hK.out _ _ ⟨(yR BK250.out 0).trans rfl, (yR BK250.out 1).trans rfl, (yR BK251.out 0).trans rfl, (yR BK251.out 1).trans rfl⟩ (fun hHeld => ?_)
            clear hK K hHeld
            refine norm_ (a' := ?_) ?_ ?_
            rotate_left
            ·show Act.put _ (some 34) _ = _
             simp only [Act.put, lA, lB, lC, i64_w, i32_w]
             rfl
            exact norm_ (by first | (simp only [putAll, Act.put, lA, lB, lC]; done) | (simp only [putAll, Act.put, lA, lB, lC]; rfl)) (hJ200 (bV, bW) _ ⟨BK250.out, BK251.out, BK252.out, OV.out, GV.out, OW.out, GU.out, HB.out⟩)
           ·skip
            refine box_step ?hg (N := 8) ?hd (cs := #[.slice none 0 0, .slice none 0 0, .map none]) (t := 73) ?hr ?_; (case hd => rfl); (case hg => rfl); (case hr => first | (go_simp; done) | (go_simp; rfl))
            intro gX hg w2_ hbox hb
            have m0_ := yA hbox
            have m1_ := yA (by rw [hg]; exact below_size HB.out : w.heap.size ≤ gX)
            have n0_ := yA (yC BK250.out hb)
            have n1_ := yA (yC BK251.out hb)
            have n2_ := yA (yC BK252.out hb)
            have n3_ := yA (OwnsCol.below OV.out hb)
            have n4_ := yA (yB HB.out hb)
            have n5_ := yA (m0_.out)
            have n6_ := yA (m1_.out)
            clear BK250 BK251 BK252 OV HB hb
            have BK250 := n0_
            have BK251 := n1_
            have BK252 := n2_
            have OV := n3_
            have HB := n4_
            have BX := n5_
            have GX := n6_
            clear n0_ n1_ n2_ n3_ n4_ n5_ n6_
            clear hbox hg m0_ m1_
            refine hK.out _ _ ⟨(yR BK250.out 0).trans rfl, (yR BK250.out 1).trans rfl, (yR BK251.out 0).trans rfl, (yR BK251.out 1).trans rfl⟩ (fun hHeld => ?_)
            clear hK K hHeld
            refine norm_ (a' := ?_) ?_ ?_
            rotate_left
            ·show Act.put _ (some 8) _ = _
             simp only [Act.put, lA, lB, lC, i64_w, i32_w]
             rfl
            exact norm_ (by first | (simp only [putAll, Act.put, lA, lB, lC]; done) | (simp only [putAll, Act.put, lA, lB, lC]; rfl)) (hJ110 (bV, gX) _ ⟨BK250.out, BK251.out, BK252.out, OV.out, GV.out, BX.out, GX.out, HB.out⟩)
           ·skip
            refine box_step ?hg (N := 9) ?hd (cs := #[.slice none 0 0, .slice none 0 0, .map none]) (t := 73) ?hr ?_; (case hd => rfl); (case hg => rfl); (case hr => first | (go_simp; done) | (go_simp; rfl))
            intro gY hg w2_ hbox hb
            have m0_ := yA hbox
            have m1_ := yA (by rw [hg]; exact below_size HB.out : w.heap.size ≤ gY)
            have n0_ := yA (yC BK250.out hb)
            have n1_ := yA (yC BK251.out hb)
            have n2_ := yA (yC BK252.out hb)
            have n3_ := yA (OwnsCol.below OV.out hb)
            have n4_ := yA (yB HB.out hb)
            have n5_ := yA (m0_.out)
            have n6_ := yA (m1_.out)
            clear BK250 BK251 BK252 OV HB hb
            have BK250 := n0_
            have BK251 := n1_
            have BK252 := n2_
            have OV := n3_
            have HB := n4_
            have BY := n5_
            have GY := n6_
            clear n0_ n1_ n2_ n3_ n4_ n5_ n6_
            clear hbox hg m0_ m1_
            refine hK.out _ _ ⟨(yR BK250.out 0).trans rfl, (yR BK250.out 1).trans rfl, (yR BK251.out 0).trans rfl, (yR BK251.out 1).trans rfl⟩ (fun hHeld => ?_)
            clear hK K hHeld
            refine norm_ (a' := ?_) ?_ ?_
            rotate_left
            ·show Act.put _ (some 9) _ = _
             simp only [Act.put, lA, lB, lC, i64_w, i32_w]
             rfl
            exact norm_ (by first | (simp only [putAll, Act.put, lA, lB, lC]; done) | (simp only [putAll, Act.put, lA, lB, lC]; rfl)) (hJ101 (bV, gY) _ ⟨BK250.out, BK251.out, BK252.out, OV.out, GV.out, BY.out, GY.out, HB.out⟩)
          rintro ⟨gX, gY⟩ w1_ ⟨h0_, h1_, h2_, h3_, h4_, h5_, h6_, h7_, h8_⟩
          have BK250_ := yA h0_
          have BK251_ := yA h1_
          have BK252_ := yA h2_
          have BX_ := yA h3_
          have GX_ := yA h4_
          have BY_ := yA h5_
          have GY_ := yA h6_
          have NXY_ := yA h7_
          have HB_ := yA h8_
          clear BK250 BK251 BK252 HB h0_ h1_ h2_ h3_ h4_ h5_ h6_ h7_ h8_
          have BK250 := BK250_
          have BK251 := BK251_
          have BK252 := BK252_
          have BX := BX_
          have GX := GX_
          have BY := BY_
          have GY := GY_
          have NXY := NXY_
          have HB := HB_
          clear BK250_ BK251_ BK252_ BX_ GX_ BY_ GY_ NXY_ HB_
          refine norm_ (a' := ?_) ?_ ?_
          rotate_left
          ·simp only [putAll, Act.put, lA, lB, lC, i64_w, i32_w]
           rfl
          refine one_ (i := 1) (N := some 32) #[true, true, true, false, true, true, false, false] rfl rfl (one_of HT_.out (by kernel_rfl)) (by decide) (fun K hK => ?_)
          refine goes_ Tryd.func41 (by kernel_rfl) rfl #[.agg #[.slice A0_0 l0_0.length c0_0, .slice A0_1 l0_1.length c0_1]] (by rfl) rfl rfl (by (try simp only [List.map_toArray, List.map_cons, List.map_nil]); first | done | rfl) ?_
          refine (viewed_any A0_0 c0_0 l0_0 A0_1 l0_1.length c0_1 _ (Kd.C_below HR0_0.out HB.out) HC0_0.out HSM0.out.nm HSM0.out.ln).mono ?_
          rintro e w2_ ⟨bV, rfl, hge, hown, hb⟩
          refine ⟨_, rfl, ?_⟩
          replace hge := Nat.le_trans HB.out.size hge
          have n0_ := yA (yC BK250.out hb)
          have n1_ := yA (yC BK251.out hb)
          have n2_ := yA (yC BK252.out hb)
          have n3_ := yA (yC BX.out hb)
          have n4_ := yA (yC BY.out hb)
          have n5_ := yA (yB HB.out hb)
          have n6_ := yA (hown)
          have n7_ := yA (hge)
          clear BK250 BK251 BK252 BX BY HB hb
          have BK250 := n0_
          have BK251 := n1_
          have BK252 := n2_
          have BX := n3_
          have BY := n4_
          have HB := n5_
          have OV := n6_
          have GV := n7_
          clear n0_ n1_ n2_ n3_ n4_ n5_ n6_ n7_
          clear hown hge
          refine hK.out _ _ ⟨(yR BK250.out 0).trans rfl, (yR BK250.out 1).trans rfl, (yR BK251.out 0).trans rfl, (yR BK251.out 1).trans rfl⟩ (fun hHeld => ?_)
          clear hK K hHeld
          refine norm_ (a' := ?_) ?_ ?_
          rotate_left
          ·show Act.put _ (some 32) _ = _
           simp only [Act.put, lA, lB, lC, i64_w, i32_w]
           rfl
          exact norm_ (by first | (simp only [putAll, Act.put, lA, lB, lC]; done) | (simp only [putAll, Act.put, lA, lB, lC]; rfl)) (hJ111 (bV, gX, gY) _ ⟨BK250.out, BK251.out, BK252.out, OV.out, GV.out, BX.out, GX.out, BY.out, GY.out, NXY.out, HB.out⟩)
         rintro ⟨bV, gY⟩ w1_ ⟨h0_, h1_, h2_, h3_, h4_, h5_, h6_, h7_⟩
         have BK250_ := yA h0_
         have BK251_ := yA h1_
         have BK252_ := yA h2_
         have OV_ := yA h3_
         have GV_ := yA h4_
         have BY_ := yA h5_
         have GY_ := yA h6_
         have HB_ := yA h7_
         clear BK250 BK251 BK252 HB h0_ h1_ h2_ h3_ h4_ h5_ h6_ h7_
         have BK250 := BK250_
         have BK251 := BK251_
         have BK252 := BK252_
         have OV := OV_
         have GV := GV_
         have BY := BY_
         have GY := GY_
         have HB := HB_
         clear BK250_ BK251_ BK252_ OV_ GV_ BY_ GY_ HB_
         refine norm_ (a' := ?_) ?_ ?_
         rotate_left
         ·simp only [putAll, Act.put, lA, lB, lC, i64_w, i32_w]
          rfl
         refine two_ (i := 3) (j := 4) (Ni := some 34) (Nj := some 8) #[true, true, true, true, false, true, false, false] #[true, true, true, false, true, true, false, false] rfl rfl rfl rfl (two_of HT_.out (by kernel_rfl)) (by decide) (by decide) (fun K hK => ?_) (fun K hK => ?_)
         ·skip
          refine goes_ Tryd.func41 (by kernel_rfl) rfl #[.agg #[.slice A1_0 l1_0.length c1_0, .slice A1_1 l1_1.length c1_1]] (by rfl) rfl rfl (by (try simp only [List.map_toArray, List.map_cons, List.map_nil]); first | done | rfl) ?_
          refine (viewed_any A1_0 c1_0 l1_0 A1_1 l1_1.length c1_1 _ (Kd.C_below HR1_0.out HB.out) HC1_0.out HSM1.out.nm HSM1.out.ln).mono ?_
          rintro e w2_ ⟨bW, rfl, hge, hown, hb⟩
          refine ⟨_, rfl, ?_⟩
          replace hge := Nat.le_trans HB.out.size hge
          have n0_ := yA (yC BK250.out hb)
          have n1_ := yA (yC BK251.out hb)
          have n2_ := yA (yC BK252.out hb)
          have n3_ := yA (OwnsCol.below OV.out hb)
          have n4_ := yA (yC BY.out hb)
          have n5_ := yA (yB HB.out hb)
          have n6_ := yA (hown)
          have n7_ := yA (hge)
          clear BK250 BK251 BK252 OV BY HB hb
          have BK250 := n0_
          have BK251 := n1_
          have BK252 := n2_
          have OV := n3_
          have BY := n4_
          have HB := n5_
          have OW := n6_
          have GU := n7_
          clear n0_ n1_ n2_ n3_ n4_ n5_ n6_ n7_
          clear hown hge
          refine hK.out _ _ ⟨(yR BK250.out 0).trans rfl, (yR BK250.out 1).trans rfl, (yR BK251.out 0).trans rfl, (yR BK251.out 1).trans rfl⟩ (fun hHeld => ?_)
          clear hK K hHeld
          refine norm_ (a' := ?_) ?_ ?_
          rotate_left
          ·show Act.put _ (some 34) _ = _
           simp only [Act.put, lA, lB, lC, i64_w, i32_w]
           rfl
          exact norm_ (by first | (simp only [putAll, Act.put, lA, lB, lC]; done) | (simp only [putAll, Act.put, lA, lB, lC]; rfl)) (hJ201 (bV, bW, gY) _ ⟨BK250.out, BK251.out, BK252.out, OV.out, GV.out, OW.out, GU.out, BY.out, GY.out, HB.out⟩)
         ·skip
          refine box_step ?hg (N := 8) ?hd (cs := #[.slice none 0 0, .slice none 0 0, .map none]) (t := 73) ?hr ?_; (case hd => rfl); (case hg => rfl); (case hr => first | (go_simp; done) | (go_simp; rfl))
          intro gX hg w2_ hbox hb
          have m0_ := yA hbox
          have m1_ := yA (by rw [hg]; exact below_size HB.out : w.heap.size ≤ gX)
          have m2_ := yA (by rw [hg]; exact Nat.ne_of_gt (blk_lt BY.out) : gX ≠ gY)
          have n0_ := yA (yC BK250.out hb)
          have n1_ := yA (yC BK251.out hb)
          have n2_ := yA (yC BK252.out hb)
          have n3_ := yA (OwnsCol.below OV.out hb)
          have n4_ := yA (yC BY.out hb)
          have n5_ := yA (yB HB.out hb)
          have n6_ := yA (m0_.out)
          have n7_ := yA (m1_.out)
          have n8_ := yA (m2_.out)
          clear BK250 BK251 BK252 OV BY HB hb
          have BK250 := n0_
          have BK251 := n1_
          have BK252 := n2_
          have OV := n3_
          have BY := n4_
          have HB := n5_
          have BX := n6_
          have GX := n7_
          have NXY := n8_
          clear n0_ n1_ n2_ n3_ n4_ n5_ n6_ n7_ n8_
          clear hbox hg m0_ m1_ m2_
          refine hK.out _ _ ⟨(yR BK250.out 0).trans rfl, (yR BK250.out 1).trans rfl, (yR BK251.out 0).trans rfl, (yR BK251.out 1).trans rfl⟩ (fun hHeld => ?_)
          clear hK K hHeld
          refine norm_ (a' := ?_) ?_ ?_
          rotate_left
          ·show Act.put _ (some 8) _ = _
           simp only [Act.put, lA, lB, lC, i64_w, i32_w]
           rfl
          exact norm_ (by first | (simp only [putAll, Act.put, lA, lB, lC]; done) | (simp only [putAll, Act.put, lA, lB, lC]; rfl)) (hJ111 (bV, gX, gY) _ ⟨BK250.out, BK251.out, BK252.out, OV.out, GV.out, BX.out, GX.out, BY.out, GY.out, NXY.out, HB.out⟩)
        rintro ⟨bV, gX⟩ w1_ ⟨h0_, h1_, h2_, h3_, h4_, h5_, h6_, h7_⟩
        have BK250_ := yA h0_
        have BK251_ := yA h1_
        have BK252_ := yA h2_
        have OV_ := yA h3_
        have GV_ := yA h4_
        have BX_ := yA h5_
        have GX_ := yA h6_
        have HB_ := yA h7_
        clear BK250 BK251 BK252 HB h0_ h1_ h2_ h3_ h4_ h5_ h6_ h7_
        have BK250 := BK250_
        have BK251 := BK251_
        have BK252 := BK252_
        have OV := OV_
        have GV := GV_
        have BX := BX_
        have GX := GX_
        have HB := HB_
        clear BK250_ BK251_ BK252_ OV_ GV_ BX_ GX_ HB_
        refine norm_ (a' := ?_) ?_ ?_
        rotate_left
        ·simp only [putAll, Act.put, lA, lB, lC, i64_w, i32_w]
         rfl
        refine two_ (i := 3) (j := 5) (Ni := some 34) (Nj := some 9) #[true, true, true, true, true, false, false, false] #[true, true, true, false, true, true, false, false] rfl rfl rfl rfl (two_of HT_.out (by kernel_rfl)) (by decide) (by decide) (fun K hK => ?_) (fun K hK => ?_)
        ·skip
         refine goes_ Tryd.func41 (by kernel_rfl) rfl #[.agg #[.slice A1_0 l1_0.length c1_0, .slice A1_1 l1_1.length c1_1]] (by rfl) rfl rfl (by (try simp only [List.map_toArray, List.map_cons, List.map_nil]); first | done | rfl) ?_
         refine (viewed_any A1_0 c1_0 l1_0 A1_1 l1_1.length c1_1 _ (Kd.C_below HR1_0.out HB.out) HC1_0.out HSM1.out.nm HSM1.out.ln).mono ?_
         rintro e w2_ ⟨bW, rfl, hge, hown, hb⟩
         refine ⟨_, rfl, ?_⟩
         replace hge := Nat.le_trans HB.out.size hge
         have n0_ := yA (yC BK250.out hb)
         have n1_ := yA (yC BK251.out hb)
         have n2_ := yA (yC BK252.out hb)
         have n3_ := yA (OwnsCol.below OV.out hb)
         have n4_ := yA (yC BX.out hb)
         have n5_ := yA (yB HB.out hb)
         have n6_ := yA (hown)
         have n7_ := yA (hge)
         clear BK250 BK251 BK252 OV BX HB hb
         have BK250 := n0_
         have BK251 := n1_
         have BK252 := n2_
         have OV := n3_
         have BX := n4_
         have HB := n5_
         have OW := n6_
         have GU := n7_
         clear n0_ n1_ n2_ n3_ n4_ n5_ n6_ n7_
         clear hown hge
         refine hK.out _ _ ⟨(yR BK250.out 0).trans rfl, (yR BK250.out 1).trans rfl, (yR BK251.out 0).trans rfl, (yR BK251.out 1).trans rfl⟩ (fun hHeld => ?_)
         clear hK K hHeld
         refine norm_ (a' := ?_) ?_ ?_
         rotate_left
         ·show Act.put _ (some 34) _ = _
          simp only [Act.put, lA, lB, lC, i64_w, i32_w]
          rfl
         exact norm_ (by first | (simp only [putAll, Act.put, lA, lB, lC]; done) | (simp only [putAll, Act.put, lA, lB, lC]; rfl)) (hJ210 (bV, bW, gX) _ ⟨BK250.out, BK251.out, BK252.out, OV.out, GV.out, OW.out, GU.out, BX.out, GX.out, HB.out⟩)
        ·skip
         refine box_step ?hg (N := 9) ?hd (cs := #[.slice none 0 0, .slice none 0 0, .map none]) (t := 73) ?hr ?_; (case hd => rfl); (case hg => rfl); (case hr => first | (go_simp; done) | (go_simp; rfl))
         intro gY hg w2_ hbox hb
         have m0_ := yA hbox
         have m1_ := yA (by rw [hg]; exact below_size HB.out : w.heap.size ≤ gY)
         have m2_ := yA (by rw [hg]; exact Nat.ne_of_lt (blk_lt BX.out) : gX ≠ gY)
         have n0_ := yA (yC BK250.out hb)
         have n1_ := yA (yC BK251.out hb)
         have n2_ := yA (yC BK252.out hb)
         have n3_ := yA (OwnsCol.below OV.out hb)
         have n4_ := yA (yC BX.out hb)
         have n5_ := yA (yB HB.out hb)
         have n6_ := yA (m0_.out)
         have n7_ := yA (m1_.out)
         have n8_ := yA (m2_.out)
         clear BK250 BK251 BK252 OV BX HB hb
         have BK250 := n0_
         have BK251 := n1_
         have BK252 := n2_
         have OV := n3_
         have BX := n4_
         have HB := n5_
         have BY := n6_
         have GY := n7_
         have NXY := n8_
         clear n0_ n1_ n2_ n3_ n4_ n5_ n6_ n7_ n8_
         clear hbox hg m0_ m1_ m2_
         refine hK.out _ _ ⟨(yR BK250.out 0).trans rfl, (yR BK250.out 1).trans rfl, (yR BK251.out 0).trans rfl, (yR BK251.out 1).trans rfl⟩ (fun hHeld => ?_)
         clear hK K hHeld
         refine norm_ (a' := ?_) ?_ ?_
         rotate_left
         ·show Act.put _ (some 9) _ = _
          simp only [Act.put, lA, lB, lC, i64_w, i32_w]
          rfl
         exact norm_ (by first | (simp only [putAll, Act.put, lA, lB, lC]; done) | (simp only [putAll, Act.put, lA, lB, lC]; rfl)) (hJ111 (bV, gX, gY) _ ⟨BK250.out, BK251.out, BK252.out, OV.out, GV.out, BX.out, GX.out, BY.out, GY.out, NXY.out, HB.out⟩)
       rintro ⟨bV, bW⟩ w1_ ⟨h0_, h1_, h2_, h3_, h4_, h5_, h6_, h7_⟩
       have BK250_ := yA h0_
       have BK251_ := yA h1_
       have BK252_ := yA h2_
       have OV_ := yA h3_
       have GV_ := yA h4_
       have OW_ := yA h5_
       have GU_ := yA h6_
       have HB_ := yA h7_
       clear BK250 BK251 BK252 HB h0_ h1_ h2_ h3_ h4_ h5_ h6_ h7_
       have BK250 := BK250_
       have BK251 := BK251_
       have BK252 := BK252_
       have OV := OV_
       have GV := GV_
       have OW := OW_
       have GU := GU_
       have HB := HB_
       clear BK250_ BK251_ BK252_ OV_ GV_ OW_ GU_ HB_
       refine norm_ (a' := ?_) ?_ ?_
       rotate_left
       ·simp only [putAll, Act.put, lA, lB, lC, i64_w, i32_w]
        rfl
       refine two_ (i := 4) (j := 5) (Ni := some 8) (Nj := some 9) #[true, true, true, true, true, false, false, false] #[true, true, true, true, false, true, false, false] rfl rfl rfl rfl (two_of HT_.out (by kernel_rfl)) (by decide) (by decide) (fun K hK => ?_) (fun K hK => ?_)
       ·skip
        refine box_step ?hg (N := 8) ?hd (cs := #[.slice none 0 0, .slice none 0 0, .map none]) (t := 73) ?hr ?_; (case hd => rfl); (case hg => rfl); (case hr => first | (go_simp; done) | (go_simp; rfl))
        intro gX hg w2_ hbox hb
        have m0_ := yA hbox
        have m1_ := yA (by rw [hg]; exact below_size HB.out : w.heap.size ≤ gX)
        have n0_ := yA (yC BK250.out hb)
        have n1_ := yA (yC BK251.out hb)
        have n2_ := yA (yC BK252.out hb)
        have n3_ := yA (OwnsCol.below OV.out hb)
        have n4_ := yA (OwnsCol.below OW.out hb)
        have n5_ := yA (yB HB.out hb)
        have n6_ := yA (m0_.out)
        have n7_ := yA (m1_.out)
        clear BK250 BK251 BK252 OV OW HB hb
        have BK250 := n0_
        have BK251 := n1_
        have BK252 := n2_
        have OV := n3_
        have OW := n4_
        have HB := n5_
        have BX := n6_
        have GX := n7_
        clear n0_ n1_ n2_ n3_ n4_ n5_ n6_ n7_
        clear hbox hg m0_ m1_
        refine hK.out _ _ ⟨(yR BK250.out 0).trans rfl, (yR BK250.out 1).trans rfl, (yR BK251.out 0).trans rfl, (yR BK251.out 1).trans rfl⟩ (fun hHeld => ?_)
        clear hK K hHeld
        refine norm_ (a' := ?_) ?_ ?_
        rotate_left
        ·show Act.put _ (some 8) _ = _
         simp only [Act.put, lA, lB, lC, i64_w, i32_w]
         rfl
        exact norm_ (by first | (simp only [putAll, Act.put, lA, lB, lC]; done) | (simp only [putAll, Act.put, lA, lB, lC]; rfl)) (hJ210 (bV, bW, gX) _ ⟨BK250.out, BK251.out, BK252.out, OV.out, GV.out, OW.out, GU.out, BX.out, GX.out, HB.out⟩)
       ·skip
        refine box_step ?hg (N := 9) ?hd (cs := #[.slice none 0 0, .slice none 0 0, .map none]) (t := 73) ?hr ?_; (case hd => rfl); (case hg => rfl); (case hr => first | (go_simp; done) | (go_simp; rfl))
        intro gY hg w2_ hbox hb
        have m0_ := yA hbox
        have m1_ := yA (by rw [hg]; exact below_size HB.out : w.heap.size ≤ gY)
        have n0_ := yA (yC BK250.out hb)
        have n1_ := yA (yC BK251.out hb)
        have n2_ := yA (yC BK252.out hb)
        have n3_ := yA (OwnsCol.below OV.out hb)
        have n4_ := yA (OwnsCol.below OW.out hb)
        have n5_ := yA (yB HB.out hb)
        have n6_ := yA (m0_.out)
        have n7_ := yA (m1_.out)
        clear BK250 BK251 BK252 OV OW HB hb
        have BK250 := n0_
        have BK251 := n1_
        have BK252 := n2_
        have OV := n3_
        have OW := n4_
        have HB := n5_
        have BY := n6_
        have GY := n7_
        clear n0_ n1_ n2_ n3_ n4_ n5_ n6_ n7_
        clear hbox hg m0_ m1_
        refine hK.out _ _ ⟨(yR BK250.out 0).trans rfl, (yR BK250.out 1).trans rfl, (yR BK251.out 0).trans rfl, (yR BK251.out 1).trans rfl⟩ (fun hHeld => ?_)
        clear hK K hHeld
        refine norm_ (a' := ?_) ?_ ?_
        rotate_left
        ·show Act.put _ (some 9) _ = _
         simp only [Act.put, lA, lB, lC, i64_w, i32_w]
         rfl
        exact norm_ (by first | (simp only [putAll, Act.put, lA, lB, lC]; done) | (simp only [putAll, Act.put, lA, lB, lC]; rfl)) (hJ201 (bV, bW, gY) _ ⟨BK250.out, BK251.out, BK252.out, OV.out, GV.out, OW.out, GU.out, BY.out, GY.out, HB.out⟩)
      rintro ⟨bV, gX, gY⟩ w1_ ⟨h0_, h1_, h2_, h3_, h4_, h5_, h6_, h7_, h8_, h9_, h10_⟩
      have BK250_ := yA h0_
      have BK251_ := yA h1_
      have BK252_ := yA h2_
      have OV_ := yA h3_
      have GV_ := yA h4_
      have BX_ := yA h5_
      have GX_ := yA h6_
      have BY_ := yA h7_
      have GY_ := yA h8_
      have NXY_ := yA h9_
      have HB_ := yA h10_
      clear BK250 BK251 BK252 HB h0_ h1_ h2_ h3_ h4_ h5_ h6_ h7_ h8_ h9_ h10_
      have BK250 := BK250_
      have BK251 := BK251_
      have BK252 := BK252_
      have OV := OV_
      have GV := GV_
      have BX := BX_
      have GX := GX_
      have BY := BY_
      have GY := GY_
      have NXY := NXY_
      have HB := HB_
      clear BK250_ BK251_ BK252_ OV_ GV_ BX_ GX_ BY_ GY_ NXY_ HB_
      refine norm_ (a' := ?_) ?_ ?_
      rotate_left
      ·simp only [putAll, Act.put, lA, lB, lC, i64_w, i32_w]
       rfl
      refine one_ (i := 3) (N := some 34) #[true, true, true, true, true, true, false, false] rfl rfl (one_of HT_.out (by kernel_rfl)) (by decide) (fun K hK => ?_)
      refine goes_ Tryd.func41 (by kernel_rfl) rfl #[.agg #[.slice A1_0 l1_0.length c1_0, .slice A1_1 l1_1.length c1_1]] (by rfl) rfl rfl (by (try simp only [List.map_toArray, List.map_cons, List.map_nil]); first | done | rfl) ?_
      refine (viewed_any A1_0 c1_0 l1_0 A1_1 l1_1.length c1_1 _ (Kd.C_below HR1_0.out HB.out) HC1_0.out HSM1.out.nm HSM1.out.ln).mono ?_
      rintro e w2_ ⟨bW, rfl, hge, hown, hb⟩
      refine ⟨_, rfl, ?_⟩
      replace hge := Nat.le_trans HB.out.size hge
      have n0_ := yA (yC BK250.out hb)
      have n1_ := yA (yC BK251.out hb)
      have n2_ := yA (yC BK252.out hb)
      have n3_ := yA (OwnsCol.below OV.out hb)
      have n4_ := yA (yC BX.out hb)
      have n5_ := yA (yC BY.out hb)
      have n6_ := yA (yB HB.out hb)
      have n7_ := yA (hown)
      have n8_ := yA (hge)
      clear BK250 BK251 BK252 OV BX BY HB hb
      have BK250 := n0_
      have BK251 := n1_
      have BK252 := n2_
      have OV := n3_
      have BX := n4_
      have BY := n5_
      have HB := n6_
      have OW := n7_
      have GU := n8_
      clear n0_ n1_ n2_ n3_ n4_ n5_ n6_ n7_ n8_
      clear hown hge
      refine hK.out _ _ ⟨(yR BK250.out 0).trans rfl, (yR BK250.out 1).trans rfl, (yR BK251.out 0).trans rfl, (yR BK251.out 1).trans rfl⟩ (fun hHeld => ?_)
      clear hK K hHeld
      refine norm_ (a' := ?_) ?_ ?_
      rotate_left
      ·show Act.put _ (some 34) _ = _
       simp only [Act.put, lA, lB, lC, i64_w, i32_w]
       rfl
      exact norm_ (by first | (simp only [putAll, Act.put, lA, lB, lC]; done) | (simp only [putAll, Act.put, lA, lB, lC]; rfl)) (hJ211 (bV, bW, gX, gY) _ ⟨BK250.out, BK251.out, BK252.out, OV.out, GV.out, OW.out, GU.out, BX.out, GX.out, BY.out, GY.out, NXY.out, HB.out⟩)
     rintro ⟨bV, bW, gY⟩ w1_ ⟨h0_, h1_, h2_, h3_, h4_, h5_, h6_, h7_, h8_, h9_⟩
     have BK250_ := yA h0_
     have BK251_ := yA h1_
     have BK252_ := yA h2_
     have OV_ := yA h3_
     have GV_ := yA h4_
     have OW_ := yA h5_
     have GU_ := yA h6_
     have BY_ := yA h7_
     have GY_ := yA h8_
     have HB_ := yA h9_
     clear BK250 BK251 BK252 HB h0_ h1_ h2_ h3_ h4_ h5_ h6_ h7_ h8_ h9_
     have BK250 := BK250_
     have BK251 := BK251_
     have BK252 := BK252_
     have OV := OV_
     have GV := GV_
     have OW := OW_
     have GU := GU_
     have BY := BY_
     have GY := GY_
     have HB := HB_
     clear BK250_ BK251_ BK252_ OV_ GV_ OW_ GU_ BY_ GY_ HB_
     refine norm_ (a' := ?_) ?_ ?_
     rotate_left
     ·simp only [putAll, Act.put, lA, lB, lC, i64_w, i32_w]
      rfl
     refine one_ (i := 4) (N := some 8) #[true, true, true, true, true, true, false, false] rfl rfl (one_of HT_.out (by kernel_rfl)) (by decide) (fun K hK => ?_)
     refine box_step ?hg (N := 8) ?hd (cs := #[.slice none 0 0, .slice none 0 0, .map none]) (t := 73) ?hr ?_; (case hd => rfl); (case hg => rfl); (case hr => first | (go_simp; done) | (go_simp; rfl))
     intro gX hg w2_ hbox hb
     have m0_ := yA hbox
     have m1_ := yA (by rw [hg]; exact below_size HB.out : w.heap.size ≤ gX)
     have m2_ := yA (by rw [hg]; exact Nat.ne_of_gt (blk_lt BY.out) : gX ≠ gY)
     have n0_ := yA (yC BK250.out hb)
     have n1_ := yA (yC BK251.out hb)
     have n2_ := yA (yC BK252.out hb)
     have n3_ := yA (OwnsCol.below OV.out hb)
     have n4_ := yA (OwnsCol.below OW.out hb)
     have n5_ := yA (yC BY.out hb)
     have n6_ := yA (yB HB.out hb)
     have n7_ := yA (m0_.out)
     have n8_ := yA (m1_.out)
     have n9_ := yA (m2_.out)
     clear BK250 BK251 BK252 OV OW BY HB hb
     have BK250 := n0_
     have BK251 := n1_
     have BK252 := n2_
     have OV := n3_
     have OW := n4_
     have BY := n5_
     have HB := n6_
     have BX := n7_
     have GX := n8_
     have NXY := n9_
     clear n0_ n1_ n2_ n3_ n4_ n5_ n6_ n7_ n8_ n9_
     clear hbox hg m0_ m1_ m2_
     refine hK.out _ _ ⟨(yR BK250.out 0).trans rfl, (yR BK250.out 1).trans rfl, (yR BK251.out 0).trans rfl, (yR BK251.out 1).trans rfl⟩ (fun hHeld => ?_)
     clear hK K hHeld
     refine norm_ (a' := ?_) ?_ ?_
     rotate_left
     ·show Act.put _ (some 8) _ = _
      simp only [Act.put, lA, lB, lC, i64_w, i32_w]
      rfl
     exact norm_ (by first | (simp only [putAll, Act.put, lA, lB, lC]; done) | (simp only [putAll, Act.put, lA, lB, lC]; rfl)) (hJ211 (bV, bW, gX, gY) _ ⟨BK250.out, BK251.out, BK252.out, OV.out, GV.out, OW.out, GU.out, BX.out, GX.out, BY.out, GY.out, NXY.out, HB.out⟩)
    rintro ⟨bV, bW, gX⟩ w1_ ⟨h0_, h1_, h2_, h3_, h4_, h5_, h6_, h7_, h8_, h9_⟩
    have BK250_ := yA h0_
    have BK251_ := yA h1_
    have BK252_ := yA h2_
    have OV_ := yA h3_
    have GV_ := yA h4_
    have OW_ := yA h5_
    have GU_ := yA h6_
    have BX_ := yA h7_
    have GX_ := yA h8_
    have HB_ := yA h9_
    clear BK250 BK251 BK252 HB h0_ h1_ h2_ h3_ h4_ h5_ h6_ h7_ h8_ h9_
    have BK250 := BK250_
    have BK251 := BK251_
    have BK252 := BK252_
    have OV := OV_
    have GV := GV_
    have OW := OW_
    have GU := GU_
    have BX := BX_
    have GX := GX_
    have HB := HB_
    clear BK250_ BK251_ BK252_ OV_ GV_ OW_ GU_ BX_ GX_ HB_
    refine norm_ (a' := ?_) ?_ ?_
    rotate_left
    ·simp only [putAll, Act.put, lA, lB, lC, i64_w, i32_w]
     rfl
    refine one_ (i := 5) (N := some 9) #[true, true, true, true, true, true, false, false] rfl rfl (one_of HT_.out (by kernel_rfl)) (by decide) (fun K hK => ?_)
    refine box_step ?hg (N := 9) ?hd (cs := #[.slice none 0 0, .slice none 0 0, .map none]) (t := 73) ?hr ?_; (case hd => rfl); (case hg => rfl); (case hr => first | (go_simp; done) | (go_simp; rfl))
    intro gY hg w2_ hbox hb
    have m0_ := yA hbox
    have m1_ := yA (by rw [hg]; exact below_size HB.out : w.heap.size ≤ gY)
    have m2_ := yA (by rw [hg]; exact Nat.ne_of_lt (blk_lt BX.out) : gX ≠ gY)
    have n0_ := yA (yC BK250.out hb)
    have n1_ := yA (yC BK251.out hb)
    have n2_ := yA (yC BK252.out hb)
    have n3_ := yA (OwnsCol.below OV.out hb)
    have n4_ := yA (OwnsCol.below OW.out hb)
    have n5_ := yA (yC BX.out hb)
    have n6_ := yA (yB HB.out hb)
    have n7_ := yA (m0_.out)
    have n8_ := yA (m1_.out)
    have n9_ := yA (m2_.out)
    clear BK250 BK251 BK252 OV OW BX HB hb
    have BK250 := n0_
    have BK251 := n1_
    have BK252 := n2_
    have OV := n3_
    have OW := n4_
    have BX := n5_
    have HB := n6_
    have BY := n7_
    have GY := n8_
    have NXY := n9_
    clear n0_ n1_ n2_ n3_ n4_ n5_ n6_ n7_ n8_ n9_
    clear hbox hg m0_ m1_ m2_
    refine hK.out _ _ ⟨(yR BK250.out 0).trans rfl, (yR BK250.out 1).trans rfl, (yR BK251.out 0).trans rfl, (yR BK251.out 1).trans rfl⟩ (fun hHeld => ?_)
    clear hK K hHeld
    refine norm_ (a' := ?_) ?_ ?_
    rotate_left
    ·show Act.put _ (some 9) _ = _
     simp only [Act.put, lA, lB, lC, i64_w, i32_w]
     rfl
    exact norm_ (by first | (simp only [putAll, Act.put, lA, lB, lC]; done) | (simp only [putAll, Act.put, lA, lB, lC]; rfl)) (hJ211 (bV, bW, gX, gY) _ ⟨BK250.out, BK251.out, BK252.out, OV.out, GV.out, OW.out, GU.out, BX.out, GX.out, BY.out, GY.out, NXY.out, HB.out⟩)
   rintro ⟨gb255, gb256, gb257, gb258⟩ w1_ ⟨h0_, h1_, h2_, h3_, h4_, h5_, h6_, h7_, h8_, h9_, h10_, h11_, h12_⟩
   have BK250_ := yA h0_
   have BK251_ := yA h1_
   have BK252_ := yA h2_
   have OV_ := yA h3_
   have GV_ := yA h4_
   have OW_ := yA h5_
   have GU_ := yA h6_
   have BX_ := yA h7_
   have GX_ := yA h8_
   have BY_ := yA h9_
   have GY_ := yA h10_
   have NXY_ := yA h11_
   have HB_ := yA h12_
   clear BK250 BK251 BK252 HB h0_ h1_ h2_ h3_ h4_ h5_ h6_ h7_ h8_ h9_ h10_ h11_ h12_
   have BK250 := BK250_
   have BK251 := BK251_
   have BK252 := BK252_
   have OV := OV_
   have GV := GV_
   have OW := OW_
   have GU := GU_
   have BX := BX_
   have GX := GX_
   have BY := BY_
   have GY := GY_
   have NXY := NXY_
   have HB := HB_
   clear BK250_ BK251_ BK252_ OV_ GV_ OW_ GU_ BX_ GX_ BY_ GY_ NXY_ HB_
   refine norm_ (a' := ?_) ?_ ?_
   rotate_left
   ·simp only [putAll, Act.put, lA, lB, lC, i64_w, i32_w]
    rfl
   refine one_ (i := 6) (N := none) #[true, true, true, true, true, true, true, false] rfl rfl (one_of HT_.out (by kernel_rfl)) (by decide) (fun K hK => ?_)
   have hs0_ : w1_.cell? ⟨gb257, 0, none⟩ = some (.slice none 0 0) := (yR BX.out 0).trans rfl
   have hfs0_ := yS BX.out 0
   have hs1_ : w1_.cell? ⟨gb257, 1, none⟩ = some (.slice none 0 0) := (yR BX.out 1).trans rfl
   have hfs1_ := yS BX.out 1
   have hs2_ : w1_.cell? ⟨gb257, 2, none⟩ = some (.map none) := (yR BX.out 2).trans rfl
   have hfs2_ := yS BX.out 2
   have M0_ := blk_ne BK250.out BX.out (by decide)
   have M1_ := blk_ne BK251.out BX.out (by decide)
   have M2_ := blk_ne BK252.out BX.out (by decide)
   have MV_ := OwnsCol.ne OV.out BX.out
   have MW_ := OwnsCol.ne OW.out BX.out
   refine skip_ (w1 := ?_) (by rfl) rfl ?_ ?_
   rotate_left
   ·go_simp
    rfl
   have m0_ := yA (blk_far (blk_far (blk_far BK250.out (p := ⟨gb257, 0, none⟩) M0_ (.slice A0_0 l0_0.length c0_0)) (p := ⟨gb257, 1, none⟩) M0_ (.slice A0_1 l0_1.length c0_1)) (p := ⟨gb257, 2, none⟩) M0_ (.map (some gb255)))
   have m1_ := yA (blk_far (blk_far (blk_far BK251.out (p := ⟨gb257, 0, none⟩) M1_ (.slice A0_0 l0_0.length c0_0)) (p := ⟨gb257, 1, none⟩) M1_ (.slice A0_1 l0_1.length c0_1)) (p := ⟨gb257, 2, none⟩) M1_ (.map (some gb255)))
   have m2_ := yA (blk_far (blk_far (blk_far BK252.out (p := ⟨gb257, 0, none⟩) M2_ (.slice A0_0 l0_0.length c0_0)) (p := ⟨gb257, 1, none⟩) M2_ (.slice A0_1 l0_1.length c0_1)) (p := ⟨gb257, 2, none⟩) M2_ (.map (some gb255)))
   have m3_ := yA (((OV.out.setCell (a := ⟨gb257, 0, none⟩) MV_ (.slice A0_0 l0_0.length c0_0)).setCell (a := ⟨gb257, 1, none⟩) MV_ (.slice A0_1 l0_1.length c0_1)).setCell (a := ⟨gb257, 2, none⟩) MV_ (.map (some gb255)))
   have m4_ := yA (((OW.out.setCell (a := ⟨gb257, 0, none⟩) MW_ (.slice A0_0 l0_0.length c0_0)).setCell (a := ⟨gb257, 1, none⟩) MW_ (.slice A0_1 l0_1.length c0_1)).setCell (a := ⟨gb257, 2, none⟩) MW_ (.map (some gb255)))
   have m5_ := yA (blk_far (blk_far (blk_far BY.out (p := ⟨gb257, 0, none⟩) NXY.out.symm (.slice A0_0 l0_0.length c0_0)) (p := ⟨gb257, 1, none⟩) NXY.out.symm (.slice A0_1 l0_1.length c0_1)) (p := ⟨gb257, 2, none⟩) NXY.out.symm (.map (some gb255)))
   have m6_ := yA (blk_put (cs' := #[.slice A0_0 l0_0.length c0_0, .slice A0_1 l0_1.length c0_1, .map (some gb255)]) (blk_put (cs' := #[.slice A0_0 l0_0.length c0_0, .slice A0_1 l0_1.length c0_1, .map none]) (blk_put (cs' := #[.slice A0_0 l0_0.length c0_0, .slice none 0 0, .map none]) BX.out 0 (.slice A0_0 l0_0.length c0_0) rfl) 1 (.slice A0_1 l0_1.length c0_1) rfl) 2 (.map (some gb255)) rfl)
   have m7_ := yA (yJ (j := 2) (v := .map (some gb255)) (yJ (j := 1) (v := .slice A0_1 l0_1.length c0_1) (yJ (j := 0) (v := .slice A0_0 l0_0.length c0_0) HB.out GX.out) GX.out) GX.out)
   generalize ((w1_.setCell ⟨gb257, 0, none⟩ (.slice A0_0 l0_0.length c0_0)).setCell ⟨gb257, 1, none⟩ (.slice A0_1 l0_1.length c0_1)).setCell ⟨gb257, 2, none⟩ (.map (some gb255)) = w2_ at m0_ m1_ m2_ m3_ m4_ m5_ m6_ m7_ ⊢
   clear BK250 BK251 BK252 OV OW BY BX HB hs0_ hs1_ hs2_ hfs0_ hfs1_ hfs2_ M0_ M1_ M2_ MV_ MW_
   have BK250 := m0_
   have BK251 := m1_
   have BK252 := m2_
   have OV := m3_
   have OW := m4_
   have BY := m5_
   have BX := m6_
   have HB := m7_
   clear m0_ m1_ m2_ m3_ m4_ m5_ m6_ m7_
   refine hK.out _ _ ⟨(yR BK250.out 0).trans rfl, (yR BK250.out 1).trans rfl, (yR BK251.out 0).trans rfl, (yR BK251.out 1).trans rfl⟩ (fun hHeld => ?_)
   clear hK K hHeld
   refine one_ (i := 7) (N := none) #[true, true, true, true, true, true, true, true] rfl rfl (one_of HT_.out (by kernel_rfl)) (by decide) (fun K hK => ?_)
   have hs0_ : w2_.cell? ⟨gb258, 0, none⟩ = some (.slice none 0 0) := (yR BY.out 0).trans rfl
   have hfs0_ := yS BY.out 0
   have hs1_ : w2_.cell? ⟨gb258, 1, none⟩ = some (.slice none 0 0) := (yR BY.out 1).trans rfl
   have hfs1_ := yS BY.out 1
   have hs2_ : w2_.cell? ⟨gb258, 2, none⟩ = some (.map none) := (yR BY.out 2).trans rfl
   have hfs2_ := yS BY.out 2
   have M0_ := blk_ne BK250.out BY.out (by decide)
   have M1_ := blk_ne BK251.out BY.out (by decide)
   have M2_ := blk_ne BK252.out BY.out (by decide)
   have MV_ := OwnsCol.ne OV.out BY.out
   have MW_ := OwnsCol.ne OW.out BY.out
   refine skip_ (w1 := ?_) (by rfl) rfl ?_ ?_
   rotate_left
   ·go_simp
    rfl
   have m0_ := yA (blk_far (blk_far (blk_far BK250.out (p := ⟨gb258, 0, none⟩) M0_ (.slice A1_0 l1_0.length c1_0)) (p := ⟨gb258, 1, none⟩) M0_ (.slice A1_1 l1_1.length c1_1)) (p := ⟨gb258, 2, none⟩) M0_ (.map (some gb256)))
   have m1_ := yA (blk_far (blk_far (blk_far BK251.out (p := ⟨gb258, 0, none⟩) M1_ (.slice A1_0 l1_0.length c1_0)) (p := ⟨gb258, 1, none⟩) M1_ (.slice A1_1 l1_1.length c1_1)) (p := ⟨gb258, 2, none⟩) M1_ (.map (some gb256)))
   have m2_ := yA (blk_far (blk_far (blk_far BK252.out (p := ⟨gb258, 0, none⟩) M2_ (.slice A1_0 l1_0.length c1_0)) (p := ⟨gb258, 1, none⟩) M2_ (.slice A1_1 l1_1.length c1_1)) (p := ⟨gb258, 2, none⟩) M2_ (.map (some gb256)))
   have m3_ := yA (((OV.out.setCell (a := ⟨gb258, 0, none⟩) MV_ (.slice A1_0 l1_0.length c1_0)).setCell (a := ⟨gb258, 1, none⟩) MV_ (.slice A1_1 l1_1.length c1_1)).setCell (a := ⟨gb258, 2, none⟩) MV_ (.map (some gb256)))
   have m4_ := yA (((OW.out.setCell (a := ⟨gb258, 0, none⟩) MW_ (.slice A1_0 l1_0.length c1_0)).setCell (a := ⟨gb258, 1, none⟩) MW_ (.slice A1_1 l1_1.length c1_1)).setCell (a := ⟨gb258, 2, none⟩) MW_ (.map (some gb256)))
   have m5_ := yA (blk_far (blk_far (blk_far BX.out (p := ⟨gb258, 0, none⟩) NXY.out (.slice A1_0 l1_0.length c1_0)) (p := ⟨gb258, 1, none⟩) NXY.out (.slice A1_1 l1_1.length c1_1)) (p := ⟨gb258, 2, none⟩) NXY.out (.map (some gb256)))
   have m6_ := yA (blk_put (cs' := #[.slice A1_0 l1_0.length c1_0, .slice A1_1 l1_1.length c1_1, .map (some gb256)]) (blk_put (cs' := #[.slice A1_0 l1_0.length c1_0, .slice A1_1 l1_1.length c1_1, .map none]) (blk_put (cs' := #[.slice A1_0 l1_0.length c1_0, .slice none 0 0, .map none]) BY.out 0 (.slice A1_0 l1_0.length c1_0) rfl) 1 (.slice A1_1 l1_1.length c1_1) rfl) 2 (.map (some gb256)) rfl)
   have m7_ := yA (yJ (j := 2) (v := .map (some gb256)) (yJ (j := 1) (v := .slice A1_1 l1_1.length c1_1) (yJ (j := 0) (v := .slice A1_0 l1_0.length c1_0) HB.out GY.out) GY.out) GY.out)
   generalize ((w2_.setCell ⟨gb258, 0, none⟩ (.slice A1_0 l1_0.length c1_0)).setCell ⟨gb258, 1, none⟩ (.slice A1_1 l1_1.length c1_1)).setCell ⟨gb258, 2, none⟩ (.map (some gb256)) = w0_ at m0_ m1_ m2_ m3_ m4_ m5_ m6_ m7_ ⊢
   clear BK250 BK251 BK252 OV OW BX BY HB hs0_ hs1_ hs2_ hfs0_ hfs1_ hfs2_ M0_ M1_ M2_ MV_ MW_
   have BK250 := m0_
   have BK251 := m1_
   have BK252 := m2_
   have OV := m3_
   have OW := m4_
   have BX := m5_
   have BY := m6_
   have HB := m7_
   clear m0_ m1_ m2_ m3_ m4_ m5_ m6_ m7_
   refine hK.out _ _ ⟨(yR BK250.out 0).trans rfl, (yR BK250.out 1).trans rfl, (yR BK251.out 0).trans rfl, (yR BK251.out 1).trans rfl⟩ (fun hHeld => ?_)
   clear hK K hHeld
   refine done_ (done_of HT_.out (by kernel_rfl)) ?_
   clear HT_ HW_
   obtain ⟨o255, hq_, hoc_, hmo_⟩ := OwnsCol.obj OV.out
   have BK255 := yA hq_
   have OC255 := yA hoc_
   have MO255 := yA hmo_
   clear hq_ hoc_ hmo_
   obtain ⟨o256, hq_, hoc_, hmo_⟩ := OwnsCol.obj OW.out
   have BK256 := yA hq_
   have OC256 := yA hoc_
   have MO256 := yA hmo_
   clear hq_ hoc_ hmo_ OV OW
   have BK257 := BX
   have BK258 := BY
   have GW255 := GV
   have GE255 := GV
   have GW256 := GU
   have GE256 := GU
   have GW257 := GX
   have GE257 := GX
   have GW258 := GY
   have GE258 := GY
   have NB250_257 := yA (blk_ne BK250.out BK257.out (by decide))
   have NB257_250 := yA (blk_ne BK257.out BK250.out (by decide))
   have NB250_258 := yA (blk_ne BK250.out BK258.out (by decide))
   have NB258_250 := yA (blk_ne BK258.out BK250.out (by decide))
   have NB251_257 := yA (blk_ne BK251.out BK257.out (by decide))
   have NB257_251 := yA (blk_ne BK257.out BK251.out (by decide))
   have NB251_258 := yA (blk_ne BK251.out BK258.out (by decide))
   have NB258_251 := yA (blk_ne BK258.out BK251.out (by decide))
   have NB252_257 := yA (blk_ne BK252.out BK257.out (by decide))
   have NB257_252 := yA (blk_ne BK257.out BK252.out (by decide))
   have NB252_258 := yA (blk_ne BK252.out BK258.out (by decide))
   have NB258_252 := yA (blk_ne BK258.out BK252.out (by decide))
   have NB250_255 := yA (blk_ne_map BK250.out BK255.out MO255.out)
   have NB255_250 := yA (blk_ne_map BK250.out BK255.out MO255.out).symm
   have NB250_256 := yA (blk_ne_map BK250.out BK256.out MO256.out)
   have NB256_250 := yA (blk_ne_map BK250.out BK256.out MO256.out).symm
   have NB251_255 := yA (blk_ne_map BK251.out BK255.out MO255.out)
   have NB255_251 := yA (blk_ne_map BK251.out BK255.out MO255.out).symm
   have NB251_256 := yA (blk_ne_map BK251.out BK256.out MO256.out)
   have NB256_251 := yA (blk_ne_map BK251.out BK256.out MO256.out).symm
   have NB252_255 := yA (blk_ne_map BK252.out BK255.out MO255.out)
   have NB255_252 := yA (blk_ne_map BK252.out BK255.out MO255.out).symm
   have NB252_256 := yA (blk_ne_map BK252.out BK256.out MO256.out)
   have NB256_252 := yA (blk_ne_map BK252.out BK256.out MO256.out).symm
   have NB257_255 := yA (blk_ne_map BK257.out BK255.out MO255.out)
   have NB255_257 := yA (blk_ne_map BK257.out BK255.out MO255.out).symm
   have NB257_256 := yA (blk_ne_map BK257.out BK256.out MO256.out)
   have NB256_257 := yA (blk_ne_map BK257.out BK256.out MO256.out).symm
   have NB258_255 := yA (blk_ne_map BK258.out BK255.out MO255.out)
   have NB255_258 := yA (blk_ne_map BK258.out BK255.out MO255.out).symm
   have NB258_256 := yA (blk_ne_map BK258.out BK256.out MO256.out)
   have NB256_258 := yA (blk_ne_map BK258.out BK256.out MO256.out).symm
   have NB257_258 := NXY
   have NB258_257 := yA NXY.out.symm
   clear BX BY GV GU GX GY NXY
   have hcz40_0 : w0_.cell? ⟨gb250, 0, none⟩ = some (.slice A0_0 l0_0.length c0_0) := (yR BK250.out 0).trans rfl
   have hcz40_1 : w0_.cell? ⟨gb250, 1, none⟩ = some (.slice A0_1 l0_1.length c0_1) := (yR BK250.out 1).trans rfl
   have hfz40_0 := yS BK250.out 0
   have hfz40_1 := yS BK250.out 1
   go_wp2_with (first | ((with_reducible refine yO (f := 74) rfl ?_); refine goesL_ (some 37) rfl rfl Tryd.func74 (by kernel_rfl) rfl #[.slice A0_0 l0_0.length c0_0] rfl (by (try simp only [List.map_toArray, List.map_cons, List.map_nil]); first | done | rfl | (simp only [List.length_drop, List.length_take]; rfl)) ?_; (with_reducible refine (table_copied.calls _ _ l0_0 t259 _ ?side1 ?side2 A7.out).mono ?_); (case side1 => exact Kd.C_below HR0_0.out (by repeat (first | exact HB.out | apply yE | apply yD | refine yJ ?_ GE252.out))); (case side2 => exact HC0_0.out); rintro e w41 ⟨v260, rfl, ho0, hb⟩; refine ⟨_, rfl, ?_⟩; have n0_ := yA (Kd.R_lower ho0 (below_size (by repeat (first | exact HB.out | apply yE | apply yD | refine yJ ?_ GE252.out)))); have n1_ := yA (yC (by first | exact BK250.out | exact yI BK250.out _) hb); have n2_ := yA (yC (by first | exact BK251.out | exact yI BK251.out _) hb); have n3_ := yA (yC (by first | exact BK252.out | exact yI BK252.out _) hb); have n4_ := yA (yC (by first | exact BK255.out | exact yI BK255.out _) hb); have n5_ := yA (yC (by first | exact BK256.out | exact yI BK256.out _) hb); have n6_ := yA (yC (by first | exact BK257.out | exact yI BK257.out _) hb); have n7_ := yA (yC (by first | exact BK258.out | exact yI BK258.out _) hb); have n8_ := yA (yB (by repeat (first | exact HB.out | apply yE | apply yD | refine yJ ?_ GE252.out)) hb); clear BK250; clear BK251; clear BK252; clear BK255; clear BK256; clear BK257; clear BK258; clear HB; have HO261 := n0_; have BK250 := n1_; have BK251 := n2_; have BK252 := n3_; have BK255 := n4_; have BK256 := n5_; have BK257 := n6_; have BK258 := n7_; have HB := n8_; clear n0_ n1_ n2_ n3_ n4_ n5_ n6_ n7_ n8_; (try clear hb); (try clear hb2); (try clear hk); (try clear hi); (try clear ho0); obtain ⟨Ao42, co42, eo42⟩ := Kd.R_slice HO261.out; subst eo42) | ((with_reducible refine yP (N := 10) rfl ?_); refine yQ ?hg (N := 10) ?hd (cs := #[.slice none 0 0, .slice none 0 0]) (t := 25) ?hr ?_; (case hd => rfl); (case hg => rfl); (case hr => first | (go_simp; done) | (go_simp; rfl)); intro gb262 hg w43 hbox hb; have n0_ := yA (Kd.R_below (by first | exact HO261.out | exact Kd.R_drew HO261.out | exact Kd.R_alloc HO261.out _) hb); have n1_ := yA (yC (by first | exact BK250.out | exact yI BK250.out _) hb); have n2_ := yA (yC (by first | exact BK251.out | exact yI BK251.out _) hb); have n3_ := yA (yC (by first | exact BK252.out | exact yI BK252.out _) hb); have n4_ := yA (yC (by first | exact BK255.out | exact yI BK255.out _) hb); have n5_ := yA (yC (by first | exact BK256.out | exact yI BK256.out _) hb); have n6_ := yA (yC (by first | exact BK257.out | exact yI BK257.out _) hb); have n7_ := yA (yC (by first | exact BK258.out | exact yI BK258.out _) hb); have n8_ := yA (yB (by repeat (first | exact HB.out | apply yE | apply yD | refine yJ ?_ GE252.out)) hb); have n9_ := yA (hbox); have n10_ := yA ((by rw [hg]; exact (below_size (by repeat (first | exact HB.out | apply yE | apply yD | refine yJ ?_ GE252.out))) : w.heap.size ≤ gb262)); have n11_ := yA ((by rw [hg]; exact (below_size (by repeat (first | exact HB.out | apply yE | apply yD | refine yJ ?_ GE252.out))) : w.heap.size ≤ gb262)); have n12_ := yA ((by rw [hg]; exact Nat.ne_of_lt (blk_lt (by first | exact BK250.out | exact yI BK250.out _)) : gb250 ≠ gb262)); have n13_ := yA ((by rw [hg]; exact Nat.ne_of_gt (blk_lt (by first | exact BK250.out | exact yI BK250.out _)) : gb262 ≠ gb250)); have n14_ := yA ((by rw [hg]; exact Nat.ne_of_lt (blk_lt (by first | exact BK251.out | exact yI BK251.out _)) : gb251 ≠ gb262)); have n15_ := yA ((by rw [hg]; exact Nat.ne_of_gt (blk_lt (by first | exact BK251.out | exact yI BK251.out _)) : gb262 ≠ gb251)); have n16_ := yA ((by rw [hg]; exact Nat.ne_of_lt (blk_lt (by first | exact BK252.out | exact yI BK252.out _)) : gb252 ≠ gb262)); have n17_ := yA ((by rw [hg]; exact Nat.ne_of_gt (blk_lt (by first | exact BK252.out | exact yI BK252.out _)) : gb262 ≠ gb252)); have n18_ := yA ((by rw [hg]; exact Nat.ne_of_lt (blk_lt (by first | exact BK255.out | exact yI BK255.out _)) : gb255 ≠ gb262)); have n19_ := yA ((by rw [hg]; exact Nat.ne_of_gt (blk_lt (by first | exact BK255.out | exact yI BK255.out _)) : gb262 ≠ gb255)); have n20_ := yA ((by rw [hg]; exact Nat.ne_of_lt (blk_lt (by first | exact BK256.out | exact yI BK256.out _)) : gb256 ≠ gb262)); have n21_ := yA ((by rw [hg]; exact Nat.ne_of_gt (blk_lt (by first | exact BK256.out | exact yI BK256.out _)) : gb262 ≠ gb256)); have n22_ := yA ((by rw [hg]; exact Nat.ne_of_lt (blk_lt (by first | exact BK257.out | exact yI BK257.out _)) : gb257 ≠ gb262)); have n23_ := yA ((by rw [hg]; exact Nat.ne_of_gt (blk_lt (by first | exact BK257.out | exact yI BK257.out _)) : gb262 ≠ gb257)); have n24_ := yA ((by rw [hg]; exact Nat.ne_of_lt (blk_lt (by first | exact BK258.out | exact yI BK258.out _)) : gb258 ≠ gb262)); have n25_ := yA ((by rw [hg]; exact Nat.ne_of_gt (blk_lt (by first | exact BK258.out | exact yI BK258.out _)) : gb262 ≠ gb258)); clear HO261; clear BK250; clear BK251; clear BK252; clear BK255; clear BK256; clear BK257; clear BK258; clear HB; have HO261 := n0_; have BK250 := n1_; have BK251 := n2_; have BK252 := n3_; have BK255 := n4_; have BK256 := n5_; have BK257 := n6_; have BK258 := n7_; have HB := n8_; have BK262 := n9_; have GW262 := n10_; have GE262 := n11_; have NB250_262 := n12_; have NB262_250 := n13_; have NB251_262 := n14_; have NB262_251 := n15_; have NB252_262 := n16_; have NB262_252 := n17_; have NB255_262 := n18_; have NB262_255 := n19_; have NB256_262 := n20_; have NB262_256 := n21_; have NB257_262 := n22_; have NB262_257 := n23_; have NB258_262 := n24_; have NB262_258 := n25_; clear n0_ n1_ n2_ n3_ n4_ n5_ n6_ n7_ n8_ n9_ n10_ n11_ n12_ n13_ n14_ n15_ n16_ n17_ n18_ n19_ n20_ n21_ n22_ n23_ n24_ n25_; clear hb hbox hg; have hnb44 := NB262_250.out; have hnc44 := NB250_262.out; have hnb45 := NB262_251.out; have hnc45 := NB251_262.out; have hnb46 := NB262_252.out; have hnc46 := NB252_262.out; have hnb47 := NB262_255.out; have hnc47 := NB255_262.out; have hnb48 := NB262_256.out; have hnc48 := NB256_262.out; have hnb49 := NB262_257.out; have hnc49 := NB257_262.out; have hnb50 := NB262_258.out; have hnc50 := NB258_262.out; have hcz51_0 : w43.cell? ⟨gb262, 0, none⟩ = some (.slice none 0 0) := (yR BK262.out 0).trans rfl; have hcz51_1 : w43.cell? ⟨gb262, 1, none⟩ = some (.slice none 0 0) := (yR BK262.out 1).trans rfl; have hfz51_0 := yS BK262.out 0; have hfz51_1 := yS BK262.out 1; have hnb52 := NB251_256.out; have hnc52 := NB256_251.out; have hcz53_0 : w43.cell? ⟨gb251, 0, none⟩ = some (.slice A1_0 l1_0.length c1_0) := (yR BK251.out 0).trans rfl; have hcz53_1 : w43.cell? ⟨gb251, 1, none⟩ = some (.slice A1_1 l1_1.length c1_1) := (yR BK251.out 1).trans rfl; have hfz53_0 := yS BK251.out 0; have hfz53_1 := yS BK251.out 1))
   go_loopg [42] k (fun kq v42 w' => ∃ (x42_1 : Int) (x263000_1 : List ByteArray) (u263000 : Value), v42 = .int .i64 x42_1 ∧ Aside0 (table_Overlay.l0 kq l1_0 (l1_0.length : Int) x42_1 l0_0 l0_1 l1_0 l1_1 l0_0 l0_1 l1_0 l1_1 x263000_1 = some (r1, r2, r3)) ∧ Aside0 (kq ≤ k) ∧ Aside0 (Kd.R Kd.string 9 w' w.heap.size (fun _ => True) u263000 x263000_1) ∧ Aside0 (w'.heap[gb250]? = some (.cells #[(.slice A0_0 l0_0.length c0_0), (.slice A0_1 l0_1.length c0_1)] 25 (0, 0))) ∧ Aside0 (w'.heap[gb251]? = some (.cells #[(.slice A1_0 l1_0.length c1_0), (.slice A1_1 l1_1.length c1_1)] 25 (0, 0))) ∧ Aside0 (w'.heap[gb252]? = some (.cells #[(.slice none 0 0), (.slice none 0 0)] 25 (0, 0))) ∧ Aside0 (w'.heap[gb255]? = some o255) ∧ Aside0 (w'.heap[gb256]? = some o256) ∧ Aside0 (w'.heap[gb257]? = some (.cells #[.slice A0_0 l0_0.length c0_0, .slice A0_1 l0_1.length c0_1, .map (some gb255)] 73 (0, 0))) ∧ Aside0 (w'.heap[gb258]? = some (.cells #[.slice A1_0 l1_0.length c1_0, .slice A1_1 l1_1.length c1_1, .map (some gb256)] 73 (0, 0))) ∧ Aside0 (w'.heap[gb262]? = some (.cells #[u263000, (.slice none 0 0)] 25 (0, 0))) ∧ Aside0 (Below w.heap.size w w'))
   case atStart => exact ⟨(0), (t259), (.slice Ao42 t259.length co42), (by first | rfl | (simp; done) | (simp [*]; done)), H', ⟨Nat.le_refl _⟩, ⟨by (with_reducible repeat (first | apply Kd.R_alloc | apply Kd.R_drewN | apply Kd.R_drew)); exact Kd.R_mono (Kd.R_far (p := ⟨gb262, 1, none⟩) (Kd.R_far (p := ⟨gb262, 0, none⟩) (Kd.R_types HO261.out BK262.out (by decide)) (fun _ hk => hk.2) (.slice Ao42 t259.length co42)) (fun _ hk => hk.2) (.slice none 0 0)) (fun _ hk => trivial)⟩, ⟨by (with_reducible repeat (first | refine yG ?_ _ | refine yH ?_ | refine yI ?_ _)); refine blk_far ?_ NB250_262.out _; (with_reducible repeat (first | refine yG ?_ _ | refine yH ?_ | refine yI ?_ _)); refine blk_far ?_ NB250_262.out _; (with_reducible repeat (first | refine yG ?_ _ | refine yH ?_ | refine yI ?_ _)); exact BK250.out⟩, ⟨by (with_reducible repeat (first | refine yG ?_ _ | refine yH ?_ | refine yI ?_ _)); refine blk_far ?_ NB251_262.out _; (with_reducible repeat (first | refine yG ?_ _ | refine yH ?_ | refine yI ?_ _)); refine blk_far ?_ NB251_262.out _; (with_reducible repeat (first | refine yG ?_ _ | refine yH ?_ | refine yI ?_ _)); exact BK251.out⟩, ⟨by (with_reducible repeat (first | refine yG ?_ _ | refine yH ?_ | refine yI ?_ _)); refine blk_far ?_ NB252_262.out _; (with_reducible repeat (first | refine yG ?_ _ | refine yH ?_ | refine yI ?_ _)); refine blk_far ?_ NB252_262.out _; (with_reducible repeat (first | refine yG ?_ _ | refine yH ?_ | refine yI ?_ _)); exact BK252.out⟩, ⟨by (with_reducible repeat (first | refine yG ?_ _ | refine yH ?_ | refine yI ?_ _)); refine blk_farO ?_ NB255_262.out _; (with_reducible repeat (first | refine yG ?_ _ | refine yH ?_ | refine yI ?_ _)); refine blk_farO ?_ NB255_262.out _; (with_reducible repeat (first | refine yG ?_ _ | refine yH ?_ | refine yI ?_ _)); exact BK255.out⟩, ⟨by (with_reducible repeat (first | refine yG ?_ _ | refine yH ?_ | refine yI ?_ _)); refine blk_farO ?_ NB256_262.out _; (with_reducible repeat (first | refine yG ?_ _ | refine yH ?_ | refine yI ?_ _)); refine blk_farO ?_ NB256_262.out _; (with_reducible repeat (first | refine yG ?_ _ | refine yH ?_ | refine yI ?_ _)); exact BK256.out⟩, ⟨by (with_reducible repeat (first | refine yG ?_ _ | refine yH ?_ | refine yI ?_ _)); refine blk_far ?_ NB257_262.out _; (with_reducible repeat (first | refine yG ?_ _ | refine yH ?_ | refine yI ?_ _)); refine blk_far ?_ NB257_262.out _; (with_reducible repeat (first | refine yG ?_ _ | refine yH ?_ | refine yI ?_ _)); exact BK257.out⟩, ⟨by (with_reducible repeat (first | refine yG ?_ _ | refine yH ?_ | refine yI ?_ _)); refine blk_far ?_ NB258_262.out _; (with_reducible repeat (first | refine yG ?_ _ | refine yH ?_ | refine yI ?_ _)); refine blk_far ?_ NB258_262.out _; (with_reducible repeat (first | refine yG ?_ _ | refine yH ?_ | refine yI ?_ _)); exact BK258.out⟩, ⟨by (with_reducible repeat (first | refine yG ?_ _ | refine yH ?_ | refine yI ?_ _)); refine blk_put (cs := #[.slice Ao42 t259.length co42, .slice none 0 0]) ?_ 1 _ rfl; (with_reducible repeat (first | refine yG ?_ _ | refine yH ?_ | refine yI ?_ _)); refine blk_put (cs := #[.slice none 0 0, .slice none 0 0]) ?_ 0 _ rfl; (with_reducible repeat (first | refine yG ?_ _ | refine yH ?_ | refine yI ?_ _)); exact BK262.out⟩, ⟨by repeat (first | exact HB.out | apply yE | apply yD | refine yJ ?_ GE252.out | refine yJ ?_ GE262.out)⟩⟩
   case round =>
    clear H'
    try clear c1; try clear c2; try clear p2; try clear c3; try clear c4; try clear c4b0; try clear c4b1; try clear c5; try clear c6; try clear c6b0; try clear c6b1; try clear c7; try clear c11; try clear c12; try clear c15; try clear c20; try clear c25; try clear c26; try clear c27; try clear c28; try clear c29; try clear c30; try clear c32; try clear c33; try clear c34; try clear c35; try clear c36; try clear c37; try clear c38; try clear c39; try clear c44; try clear c45; try clear c46; try clear c47; try clear c48; try clear c49; try clear c50; try clear c52; try clear hcz13_0; try clear hcz13_1; try clear hcz16_0; try clear hcz16_1; try clear hcz18_0; try clear hcz18_1; try clear hcz21_0; try clear hcz21_1; try clear hcz31_0; try clear hcz31_1; try clear hcz37_0; try clear hcz37_1; try clear hcz40_0; try clear hcz40_1; try clear hcz51_0; try clear hcz51_1; try clear hcz53_0; try clear hcz53_1; try clear hfz13_0; try clear hfz13_1; try clear hfz16_0; try clear hfz16_1; try clear hfz18_0; try clear hfz18_1; try clear hfz21_0; try clear hfz21_1; try clear hfz31_0; try clear hfz31_1; try clear hfz37_0; try clear hfz37_1; try clear hfz40_0; try clear hfz40_1; try clear hfz51_0; try clear hfz51_1; try clear hfz53_0; try clear hfz53_1
    obtain ⟨x42_1, x263000_1, u263000, rfl, HA, HK1, HO_263000, BK250, BK251, BK252, BK255, BK256, BK257, BK258, BK262, HB⟩ := hrel
    cases gk with
    | zero => exact absurd HA.out (by simp [table_Overlay.l0])
    | succ k1 =>
     have H := HA.out
     clear HA
     simp only [table_Overlay.l0] at H
     by_cases c54 : x42_1 < (l1_0.length : Int)
     ·rw [if_pos c54] at H
      have c54b0 : decide (x42_1 < (l1_0.length : Int)) = true := yL c54
      clear c54
      by_cases c55 : 0 ≤ x42_1
      ·rw [if_pos c55] at H
       have c55b0 : decide (0 ≤ x42_1) = true := yL c55
       clear c55
       by_cases c56 : x42_1 < (l1_0.length : Int)
       ·rw [if_pos c56] at H
        have c56b0 : decide (x42_1 < (l1_0.length : Int)) = true := yL c56
        clear c56
        by_cases c57 : (has (colD l0_0 0 (.map [])) (keyS (rdOf ByteArray.empty l1_0 x42_1)) = true)
        ·rw [if_pos c57] at H
         have c57b0 := c57
         clear c57
         have H' := yA H
         clear H
         have p263 : 0 ≤ (x42_1 : Int) := yN (by first | (with_reducible assumption) | assumption)
         have q263 : x42_1 < (l1_0.length : Int) := yN (by first | (with_reducible assumption) | assumption)
         obtain ⟨ad263, e263, hx263_0⟩ := Kd.at_string HR1_0.out x42_1 p263 q263
         cases e263
         replace hx263_0 := (HB.out.cell (World.block_lt_of_cell? w _ hx263_0)).trans hx263_0
         replace p263 := eq_true p263
         replace q263 := eq_true q263
         have KL : Keyed Tryd.prog 9 := string_keyed Tryd.underlying9
         have hz0 : ∀ w : World, (zeroValue 3).run Tryd.prog w = .ok (.int .i64 0) w := fun _ => by kernel_rfl
         have HKY := yA (keyOf_string_mk Tryd.underlying9 (s := rdOf ByteArray.empty l1_0 x42_1) (by have h_ := rd_size HSM1.out x42_1 (of_eq_true (by assumption)) (of_eq_true (by assumption)); simp [maxLen]; omega))
         have HHS := yA c57b0
         clear c57b0
         have hczl_2 : wr.cell? ⟨gb257, 2, none⟩ = some (.map (some gb255)) := (yR BK257.out 2).trans rfl
         have hfzl_2 := yS BK257.out 2
         go_wp2_with (first | (at_lookup; go_must (refine wpList_lookup_own_ok_int _ rfl _ _ 71 rfl 9 3 .i64 KL Tryd.underlying71 Tryd.underlying3 (hz0 _) _ _ _ rfl (OC255.out _ BK255.out) _ _ rfl HKY.out ?_; intro c_ hat_ hwc_; rw [HHS.out]; clear hat_ hwc_)))
         go_roundg k1
         case measure => have := HK1.out; omega
         case rel => exact ⟨(wrap64 (x42_1 + 1)), (x263000_1), (u263000), (by first | rfl | (simp; done) | (simp [*]; done)), H', ⟨by have := HK1.out; omega⟩, ⟨by (with_reducible repeat (first | apply Kd.R_alloc | apply Kd.R_drewN | apply Kd.R_drew)); exact HO_263000.out⟩, ⟨by (with_reducible repeat (first | refine yG ?_ _ | refine yH ?_ | refine yI ?_ _)); exact BK250.out⟩, ⟨by (with_reducible repeat (first | refine yG ?_ _ | refine yH ?_ | refine yI ?_ _)); exact BK251.out⟩, ⟨by (with_reducible repeat (first | refine yG ?_ _ | refine yH ?_ | refine yI ?_ _)); exact BK252.out⟩, ⟨by (with_reducible repeat (first | refine yG ?_ _ | refine yH ?_ | refine yI ?_ _)); exact BK255.out⟩, ⟨by (with_reducible repeat (first | refine yG ?_ _ | refine yH ?_ | refine yI ?_ _)); exact BK256.out⟩, ⟨by (with_reducible repeat (first | refine yG ?_ _ | refine yH ?_ | refine yI ?_ _)); exact BK257.out⟩, ⟨by (with_reducible repeat (first | refine yG ?_ _ | refine yH ?_ | refine yI ?_ _)); exact BK258.out⟩, ⟨by (with_reducible repeat (first | refine yG ?_ _ | refine yH ?_ | refine yI ?_ _)); exact BK262.out⟩, ⟨by repeat (first | exact HB.out | apply yE | apply yD | refine yJ ?_ GE252.out | refine yJ ?_ GE262.out)⟩⟩
        ·rw [if_neg c57] at H
         have c57b0 := eq_false_of_ne_true c57
         by_cases c58 : x263000_1.length < 8796093022208
         ·rw [if_pos c58] at H
          have LMc58 := yA c58
          clear c58
          obtain ⟨y264, hy264⟩ : ∃ y_ : List ByteArray, y_ = (x263000_1 ++ [rdOf ByteArray.empty l1_0 x42_1]) := ⟨_, rfl⟩
          replace H : (table_Overlay.l0 k1 l1_0 (l1_0.length : Int) (wrap64 (x42_1 + 1)) l0_0 l0_1 l1_0 l1_1 l0_0 l0_1 l1_0 l1_1 y264) = some (r1, r2, r3) := by first | (rw [hy264]; with_reducible exact H) | (have H2_ := (Option.bind_some _ _).symm.trans H; rw [hy264]; with_reducible exact H2_) | (have H2_ := (Option.bind_some _ _).symm.trans H; with_reducible exact H2_) | with_reducible exact H | (rw [hy264]; exact H) | exact H
          have Ny264 := yA hy264
          clear hy264
          have H' := yA H
          clear H
          have p263 : 0 ≤ (x42_1 : Int) := yN (by first | (with_reducible assumption) | assumption)
          have q263 : x42_1 < (l1_0.length : Int) := yN (by first | (with_reducible assumption) | assumption)
          obtain ⟨ad263, e263, hx263_0⟩ := Kd.at_string HR1_0.out x42_1 p263 q263
          cases e263
          replace hx263_0 := (HB.out.cell (World.block_lt_of_cell? w _ hx263_0)).trans hx263_0
          replace p263 := eq_true p263
          replace q263 := eq_true q263
          have hnb59 := NB262_250.out
          have hnc59 := NB250_262.out
          have hnb60 := NB262_251.out
          have hnc60 := NB251_262.out
          have hnb61 := NB262_252.out
          have hnc61 := NB252_262.out
          have hnb62 := NB262_255.out
          have hnc62 := NB255_262.out
          have hnb63 := NB262_256.out
          have hnc63 := NB256_262.out
          have hnb64 := NB262_257.out
          have hnc64 := NB257_262.out
          have hnb65 := NB262_258.out
          have hnc65 := NB258_262.out
          have hcz66_0 : wr.cell? ⟨gb262, 0, none⟩ = some (u263000) := (yR BK262.out 0).trans rfl
          have hcz66_1 : wr.cell? ⟨gb262, 1, none⟩ = some (.slice none 0 0) := (yR BK262.out 1).trans rfl
          have hfz66_0 := yS BK262.out 0
          have hfz66_1 := yS BK262.out 1
          have KL : Keyed Tryd.prog 9 := string_keyed Tryd.underlying9
          have hz0 : ∀ w : World, (zeroValue 3).run Tryd.prog w = .ok (.int .i64 0) w := fun _ => by kernel_rfl
          have HKY := yA (keyOf_string_mk Tryd.underlying9 (s := rdOf ByteArray.empty l1_0 x42_1) (by have h_ := rd_size HSM1.out x42_1 (of_eq_true (by assumption)) (of_eq_true (by assumption)); simp [maxLen]; omega))
          have HHS := yA c57b0
          clear c57b0
          have hczl_2 : wr.cell? ⟨gb257, 2, none⟩ = some (.map (some gb255)) := (yR BK257.out 2).trans rfl
          have hfzl_2 := yS BK257.out 2
          go_wp2_with (first | (at_lookup; go_must (refine wpList_lookup_own_ok_int _ rfl _ _ 71 rfl 9 3 .i64 KL Tryd.underlying71 Tryd.underlying3 (hz0 _) _ _ _ rfl (OC255.out _ BK255.out) _ _ rfl HKY.out ?_; intro c_ hat_ hwc_; rw [HHS.out]; clear hat_ hwc_)) | ((with_reducible refine gate_builtin (b := .append) (xs := #[.tmp 56, .tmp 58]) rfl ?_); at_builtin; refine Kd.R_append Kd.string (w0 := w) w.heap.size rfl (.tmp 56) (.tmp 58) 22 9 (.string ⟨#[]⟩) 16 rfl Tryd.underlying22 info9 rfl (by decide) (by omega) u263000 x263000_1 (rdOf ByteArray.empty l1_0 x42_1) [.string (rdOf ByteArray.empty l1_0 x42_1)] (fun _ => True) (fun _ => False) rfl rfl ?aP (fun _ hk => hk.elim) ?aF ?aO ?aB ?aS ?aL ?_; (case aP => exact rfl); (case aB => exact (by repeat (first | exact HB.out | apply yE | apply yD | refine yJ ?_ GE252.out | refine yJ ?_ GE262.out))); (case aF => exact (fun _ _ => trivial)); (case aO => exact (by first | exact HO_263000.out | exact Kd.R_drew HO_263000.out | exact Kd.R_alloc HO_263000.out _)); (case aS => exact (below_size (by repeat (first | exact HB.out | apply yE | apply yD | refine yJ ?_ GE252.out | refine yJ ?_ GE262.out)))); (case aL => have := LMc58.out; omega); intro v265 w67 ho hb hg hat; rw [← Ny264.out] at ho; have n0_ := yA (blk_grown (by first | exact BK250.out | exact yI BK250.out _) hg (Kd.R_ne HO_263000.out BK250.out (by decide))); have n1_ := yA (blk_grown (by first | exact BK251.out | exact yI BK251.out _) hg (Kd.R_ne HO_263000.out BK251.out (by decide))); have n2_ := yA (blk_grown (by first | exact BK252.out | exact yI BK252.out _) hg (Kd.R_ne HO_263000.out BK252.out (by decide))); have n3_ := yA (blk_grown (by first | exact BK255.out | exact yI BK255.out _) hg (R_ne_map HO_263000.out BK255.out MO255.out)); have n4_ := yA (blk_grown (by first | exact BK256.out | exact yI BK256.out _) hg (R_ne_map HO_263000.out BK256.out MO256.out)); have n5_ := yA (blk_grown (by first | exact BK257.out | exact yI BK257.out _) hg (Kd.R_ne HO_263000.out BK257.out (by decide))); have n6_ := yA (blk_grown (by first | exact BK258.out | exact yI BK258.out _) hg (Kd.R_ne HO_263000.out BK258.out (by decide))); have n7_ := yA (blk_grown (by first | exact BK262.out | exact yI BK262.out _) hg (Kd.R_ne HO_263000.out BK262.out (by decide))); have n8_ := yA (hb); have n9_ := yA (ho); clear BK250; clear BK251; clear BK252; clear BK255; clear BK256; clear BK257; clear BK258; clear BK262; clear HB; clear HO_263000; have BK250 := n0_; have BK251 := n1_; have BK252 := n2_; have BK255 := n3_; have BK256 := n4_; have BK257 := n5_; have BK258 := n6_; have BK262 := n7_; have HB := n8_; have HO266 := n9_; clear n0_ n1_ n2_ n3_ n4_ n5_ n6_ n7_ n8_ n9_; clear ho hb hg hat; obtain ⟨Ao68, co68, eo68⟩ := Kd.R_slice HO266.out; subst eo68; have hcz69_0 : w67.cell? ⟨gb262, 0, none⟩ = some (u263000) := (yR BK262.out 0).trans rfl; have hcz69_1 : w67.cell? ⟨gb262, 1, none⟩ = some (.slice none 0 0) := (yR BK262.out 1).trans rfl; have hfz69_0 := yS BK262.out 0; have hfz69_1 := yS BK262.out 1))
          go_roundg k1
          case measure => have := HK1.out; omega
          case rel => exact ⟨(wrap64 (x42_1 + 1)), (y264), (.slice Ao68 y264.length co68), (by first | rfl | (simp; done) | (simp [*]; done)), H', ⟨by have := HK1.out; omega⟩, ⟨by (with_reducible repeat (first | apply Kd.R_alloc | apply Kd.R_drewN | apply Kd.R_drew)); exact Kd.R_mono (Kd.R_far (p := ⟨gb262, 0, none⟩) (Kd.R_types HO266.out BK262.out (by decide)) (fun _ hk => hk.2) (.slice Ao68 y264.length co68)) (fun _ hk => trivial)⟩, ⟨by (with_reducible repeat (first | refine yG ?_ _ | refine yH ?_ | refine yI ?_ _)); refine blk_far ?_ NB250_262.out _; (with_reducible repeat (first | refine yG ?_ _ | refine yH ?_ | refine yI ?_ _)); exact BK250.out⟩, ⟨by (with_reducible repeat (first | refine yG ?_ _ | refine yH ?_ | refine yI ?_ _)); refine blk_far ?_ NB251_262.out _; (with_reducible repeat (first | refine yG ?_ _ | refine yH ?_ | refine yI ?_ _)); exact BK251.out⟩, ⟨by (with_reducible repeat (first | refine yG ?_ _ | refine yH ?_ | refine yI ?_ _)); refine blk_far ?_ NB252_262.out _; (with_reducible repeat (first | refine yG ?_ _ | refine yH ?_ | refine yI ?_ _)); exact BK252.out⟩, ⟨by (with_reducible repeat (first | refine yG ?_ _ | refine yH ?_ | refine yI ?_ _)); refine blk_farO ?_ NB255_262.out _; (with_reducible repeat (first | refine yG ?_ _ | refine yH ?_ | refine yI ?_ _)); exact BK255.out⟩, ⟨by (with_reducible repeat (first | refine yG ?_ _ | refine yH ?_ | refine yI ?_ _)); refine blk_farO ?_ NB256_262.out _; (with_reducible repeat (first | refine yG ?_ _ | refine yH ?_ | refine yI ?_ _)); exact BK256.out⟩, ⟨by (with_reducible repeat (first | refine yG ?_ _ | refine yH ?_ | refine yI ?_ _)); refine blk_far ?_ NB257_262.out _; (with_reducible repeat (first | refine yG ?_ _ | refine yH ?_ | refine yI ?_ _)); exact BK257.out⟩, ⟨by (with_reducible repeat (first | refine yG ?_ _ | refine yH ?_ | refine yI ?_ _)); refine blk_far ?_ NB258_262.out _; (with_reducible repeat (first | refine yG ?_ _ | refine yH ?_ | refine yI ?_ _)); exact BK258.out⟩, ⟨by (with_reducible repeat (first | refine yG ?_ _ | refine yH ?_ | refine yI ?_ _)); refine blk_put (cs := #[u263000, .slice none 0 0]) ?_ 0 _ rfl; (with_reducible repeat (first | refine yG ?_ _ | refine yH ?_ | refine yI ?_ _)); exact BK262.out⟩, ⟨by repeat (first | exact HB.out | apply yE | apply yD | refine yJ ?_ GE252.out | refine yJ ?_ GE262.out)⟩⟩
         ·rw [if_neg c58] at H
          exact absurd H (by simp)
       ·rw [if_neg c56] at H
        exact absurd H (by simp)
      ·rw [if_neg c55] at H
       exact absurd H (by simp)
     ·rw [if_neg c54] at H
      have c54b0 : decide (x42_1 < (l1_0.length : Int)) = false := yM c54
      clear c54
      by_cases c70 : (x263000_1.length : Int) > 64
      ·rw [if_pos c70] at H
       have c70b0 : decide (64 < (x263000_1.length : Int)) = true := yL c70
       have c70b1 : decide (64 < x263000_1.length) = true := yL (by omega)
       clear c70
       simp only [Option.some.injEq, Prod.mk.injEq] at H
       obtain ⟨rfl, rfl, rfl⟩ := H
       have hnb71 := NB262_250.out
       have hnc71 := NB250_262.out
       have hnb72 := NB262_251.out
       have hnc72 := NB251_262.out
       have hnb73 := NB262_252.out
       have hnc73 := NB252_262.out
       have hnb74 := NB262_255.out
       have hnc74 := NB255_262.out
       have hnb75 := NB262_256.out
       have hnc75 := NB256_262.out
       have hnb76 := NB262_257.out
       have hnc76 := NB257_262.out
       have hnb77 := NB262_258.out
       have hnc77 := NB258_262.out
       have hcz78_0 : wr.cell? ⟨gb262, 0, none⟩ = some (u263000) := (yR BK262.out 0).trans rfl
       have hcz78_1 : wr.cell? ⟨gb262, 1, none⟩ = some (.slice none 0 0) := (yR BK262.out 1).trans rfl
       have hfz78_0 := yS BK262.out 0
       have hfz78_1 := yS BK262.out 1
       obtain ⟨Ao79, co79, eo79⟩ := Kd.R_slice HO_263000.out
       subst eo79
       have hnb80 := NB252_250.out
       have hnc80 := NB250_252.out
       have hnb81 := NB252_251.out
       have hnc81 := NB251_252.out
       have hnb82 := NB252_255.out
       have hnc82 := NB255_252.out
       have hnb83 := NB252_256.out
       have hnc83 := NB256_252.out
       have hnb84 := NB252_257.out
       have hnc84 := NB257_252.out
       have hnb85 := NB252_258.out
       have hnc85 := NB258_252.out
       have hcz86_0 : wr.cell? ⟨gb252, 0, none⟩ = some (.slice none 0 0) := (yR BK252.out 0).trans rfl
       have hcz86_1 : wr.cell? ⟨gb252, 1, none⟩ = some (.slice none 0 0) := (yR BK252.out 1).trans rfl
       have hfz86_0 := yS BK252.out 0
       have hfz86_1 := yS BK252.out 1
       go_wp2
       refine bodyPost_ret (results_ct rfl _ _ gb252 25 #[.slice none 0 0, .slice none 0 0] (0, 0) _ rfl (by (with_reducible repeat (first | refine yG ?_ _ | refine yH ?_ | refine yI ?_ _)); refine blk_put (cs := #[.slice none 0 0, .slice none 0 0]) ?_ 1 _ rfl; (with_reducible repeat (first | refine yG ?_ _ | refine yH ?_ | refine yI ?_ _)); refine blk_put (cs := #[.slice none 0 0, .slice none 0 0]) ?_ 0 _ rfl; (with_reducible repeat (first | refine yG ?_ _ | refine yH ?_ | refine yI ?_ _)); exact BK252.out) Tryd.underlying25 rfl (by kernel_rfl)) rfl ?_
       exact ⟨_, _, by first | rfl | (simp [errW_none, errW_some] <;> rfl) | (simp [*, errW_none, errW_some] <;> rfl), by first | exact Kd.R_nil _ _ _ _ _ | exact Kd.N_nil _ _ _ _ _ | exact Kd.V_nil _ _ _ _ _ | exact Kd.Q_nil _ _ _ _ _ | exact Kd.S_nil _ _ _ _ _, by first | exact Kd.S_nil _ _ _ _ _ | exact Kd.N_nil _ _ _ _ _ | exact Kd.V_nil _ _ _ _ _ | exact Kd.Q_nil _ _ _ _ _ | exact Kd.R_nil _ _ _ _ _, by repeat (first | exact HB.out | apply yE | apply yD | refine yJ ?_ GE252.out | refine yJ ?_ GE262.out)⟩
      ·rw [if_neg c70] at H
       have c70b0 : decide (64 < (x263000_1.length : Int)) = false := yM c70
       have c70b1 : decide (64 < x263000_1.length) = false := yM (by omega)
       clear c70
       obtain ⟨ji87, hji87⟩ : ∃ j_ : Int, (mx (l0_1.length : Int) (l1_1.length : Int)) = j_ := ⟨_, rfl⟩
       replace H : (table_Overlay.l1 k1 ji87 0 l0_0 l0_1 l1_0 l1_1 x263000_1 ([] : List (List (S52)))) = some (r1, r2, r3) := by first | (rw [hji87] at H; exact H) | (simp only [hji87] at H ⊢; exact H)
       have hji87_ : (if (l0_1.length : Int) < (l1_1.length : Int) then (l1_1.length : Int) else (l0_1.length : Int)) = ji87 := hji87
       have hji87_n : (if l0_1.length < l1_1.length then (l1_1.length : Int) else (l0_1.length : Int)) = ji87 := by rw [← hji87_]; split <;> split <;> omega
       have H' := yA H
       clear H
       have hnb88 := NB262_250.out
       have hnc88 := NB250_262.out
       have hnb89 := NB262_251.out
       have hnc89 := NB251_262.out
       have hnb90 := NB262_252.out
       have hnc90 := NB252_262.out
       have hnb91 := NB262_255.out
       have hnc91 := NB255_262.out
       have hnb92 := NB262_256.out
       have hnc92 := NB256_262.out
       have hnb93 := NB262_257.out
       have hnc93 := NB257_262.out
       have hnb94 := NB262_258.out
       have hnc94 := NB258_262.out
       have hcz95_0 : wr.cell? ⟨gb262, 0, none⟩ = some (u263000) := (yR BK262.out 0).trans rfl
       have hcz95_1 : wr.cell? ⟨gb262, 1, none⟩ = some (.slice none 0 0) := (yR BK262.out 1).trans rfl
       have hfz95_0 := yS BK262.out 0
       have hfz95_1 := yS BK262.out 1
       obtain ⟨Ao96, co96, eo96⟩ := Kd.R_slice HO_263000.out
       subst eo96
       have hnb97 := NB250_251.out
       have hnc97 := NB251_250.out
       have hnb98 := NB250_252.out
       have hnc98 := NB252_250.out
       have hnb99 := NB250_255.out
       have hnc99 := NB255_250.out
       have hnb100 := NB250_256.out
       have hnc100 := NB256_250.out
       have hnb101 := NB250_257.out
       have hnc101 := NB257_250.out
       have hnb102 := NB250_258.out
       have hnc102 := NB258_250.out
       have hcz103_0 : wr.cell? ⟨gb250, 0, none⟩ = some (.slice A0_0 l0_0.length c0_0) := (yR BK250.out 0).trans rfl
       have hcz103_1 : wr.cell? ⟨gb250, 1, none⟩ = some (.slice A0_1 l0_1.length c0_1) := (yR BK250.out 1).trans rfl
       have hfz103_0 := yS BK250.out 0
       have hfz103_1 := yS BK250.out 1
       have hnb104 := NB251_252.out
       have hnc104 := NB252_251.out
       have hnb105 := NB251_255.out
       have hnc105 := NB255_251.out
       have hnb106 := NB251_256.out
       have hnc106 := NB256_251.out
       have hnb107 := NB251_257.out
       have hnc107 := NB257_251.out
       have hnb108 := NB251_258.out
       have hnc108 := NB258_251.out
       have hcz109_0 : wr.cell? ⟨gb251, 0, none⟩ = some (.slice A1_0 l1_0.length c1_0) := (yR BK251.out 0).trans rfl
       have hcz109_1 : wr.cell? ⟨gb251, 1, none⟩ = some (.slice A1_1 l1_1.length c1_1) := (yR BK251.out 1).trans rfl
       have hfz109_0 := yS BK251.out 0
       have hfz109_1 := yS BK251.out 1
       go_wp2
       go_loopg [74] k1 (fun kq v74 w' => ∃ (x74_2 : Int) (x263001_2 : List (List (S52))) (u263001 : Value), v74 = .int .i64 x74_2 ∧ Aside0 (table_Overlay.l1 kq ji87 x74_2 l0_0 l0_1 l1_0 l1_1 x263000_1 x263001_2 = some (r1, r2, r3)) ∧ Aside0 (kq ≤ k1) ∧ Aside0 (Kd.R Kd.string 9 w' w.heap.size (fun _ => True) (.slice Ao96 x263000_1.length co96) x263000_1) ∧ Aside0 (Kd.S (Kd.slice 52 k52) 54 w' w.heap.size (fun _ => True) u263001 x263001_2) ∧ Aside0 (w'.heap[gb250]? = some (.cells #[(.slice A0_0 l0_0.length c0_0), (.slice A0_1 l0_1.length c0_1)] 25 (0, 0))) ∧ Aside0 (w'.heap[gb251]? = some (.cells #[(.slice A1_0 l1_0.length c1_0), (.slice A1_1 l1_1.length c1_1)] 25 (0, 0))) ∧ Aside0 (w'.heap[gb252]? = some (.cells #[(.slice none 0 0), (.slice none 0 0)] 25 (0, 0))) ∧ Aside0 (w'.heap[gb255]? = some o255) ∧ Aside0 (w'.heap[gb256]? = some o256) ∧ Aside0 (w'.heap[gb257]? = some (.cells #[.slice A0_0 l0_0.length c0_0, .slice A0_1 l0_1.length c0_1, .map (some gb255)] 73 (0, 0))) ∧ Aside0 (w'.heap[gb258]? = some (.cells #[.slice A1_0 l1_0.length c1_0, .slice A1_1 l1_1.length c1_1, .map (some gb256)] 73 (0, 0))) ∧ Aside0 (w'.heap[gb262]? = some (.cells #[(.slice Ao96 x263000_1.length co96), u263001] 25 (0, 0))) ∧ Aside0 (Below w.heap.size w w'))
       case atStart => exact ⟨(0), (([] : List (List (S52)))), (.slice none 0 0), (by first | rfl | (simp; done) | (simp [*]; done)), H', ⟨Nat.le_refl _⟩, ⟨by (with_reducible repeat (first | apply Kd.R_alloc | apply Kd.R_drewN | apply Kd.R_drew)); exact HO_263000.out⟩, ⟨by first | exact Kd.S_nil _ _ _ _ _ | exact Kd.N_nil _ _ _ _ _ | exact Kd.V_nil _ _ _ _ _ | exact Kd.Q_nil _ _ _ _ _ | exact Kd.R_nil _ _ _ _ _⟩, ⟨by (with_reducible repeat (first | refine yG ?_ _ | refine yH ?_ | refine yI ?_ _)); exact BK250.out⟩, ⟨by (with_reducible repeat (first | refine yG ?_ _ | refine yH ?_ | refine yI ?_ _)); exact BK251.out⟩, ⟨by (with_reducible repeat (first | refine yG ?_ _ | refine yH ?_ | refine yI ?_ _)); exact BK252.out⟩, ⟨by (with_reducible repeat (first | refine yG ?_ _ | refine yH ?_ | refine yI ?_ _)); exact BK255.out⟩, ⟨by (with_reducible repeat (first | refine yG ?_ _ | refine yH ?_ | refine yI ?_ _)); exact BK256.out⟩, ⟨by (with_reducible repeat (first | refine yG ?_ _ | refine yH ?_ | refine yI ?_ _)); exact BK257.out⟩, ⟨by (with_reducible repeat (first | refine yG ?_ _ | refine yH ?_ | refine yI ?_ _)); exact BK258.out⟩, ⟨by (with_reducible repeat (first | refine yG ?_ _ | refine yH ?_ | refine yI ?_ _)); exact BK262.out⟩, ⟨by repeat (first | exact HB.out | apply yE | apply yD | refine yJ ?_ GE252.out | refine yJ ?_ GE262.out)⟩⟩
       case round =>
        clear H'
        try clear c1; try clear c2; try clear p2; try clear q2; try clear hx2; try clear c3; try clear c4; try clear c4b0; try clear c4b1; try clear c5; try clear c6; try clear c6b0; try clear c6b1; try clear p6; try clear c7; try clear c8; try clear c9; try clear c10; try clear c11; try clear c12; try clear c15; try clear c20; try clear c25; try clear c26; try clear p26; try clear q26; try clear hx26; try clear c27; try clear c28; try clear c29; try clear c30; try clear c32; try clear c33; try clear c34; try clear c35; try clear c36; try clear c37; try clear c38; try clear c39; try clear c44; try clear c45; try clear c46; try clear c47; try clear c48; try clear c49; try clear c50; try clear c52; try clear c54; try clear c54b0; try clear c55; try clear c55b0; try clear c56; try clear c56b0; try clear c57; try clear c57b0; try clear c57b1; try clear c58; try clear c59; try clear c60; try clear c61; try clear c62; try clear c63; try clear c64; try clear p64; try clear c65; try clear c70; try clear c70b0; try clear c70b1; try clear c71; try clear c72; try clear c73; try clear c74; try clear c75; try clear c76; try clear c77; try clear c80; try clear c81; try clear c82; try clear c83; try clear c84; try clear c85; try clear c88; try clear c89; try clear c90; try clear c91; try clear c92; try clear c93; try clear c94; try clear c97; try clear c98; try clear c99; try clear c100; try clear c101; try clear c102; try clear c104; try clear c105; try clear c106; try clear c107; try clear c108; try clear hcz103_0; try clear hcz103_1; try clear hcz109_0; try clear hcz109_1; try clear hcz13_0; try clear hcz13_1; try clear hcz16_0; try clear hcz16_1; try clear hcz18_0; try clear hcz18_1; try clear hcz21_0; try clear hcz21_1; try clear hcz31_0; try clear hcz31_1; try clear hcz37_0; try clear hcz37_1; try clear hcz40_0; try clear hcz40_1; try clear hcz51_0; try clear hcz51_1; try clear hcz53_0; try clear hcz53_1; try clear hcz66_0; try clear hcz66_1; try clear hcz69_0; try clear hcz69_1; try clear hcz78_0; try clear hcz78_1; try clear hcz86_0; try clear hcz86_1; try clear hcz95_0; try clear hcz95_1; try clear hfz103_0; try clear hfz103_1; try clear hfz109_0; try clear hfz109_1; try clear hfz13_0; try clear hfz13_1; try clear hfz16_0; try clear hfz16_1; try clear hfz18_0; try clear hfz18_1; try clear hfz21_0; try clear hfz21_1; try clear hfz31_0; try clear hfz31_1; try clear hfz37_0; try clear hfz37_1; try clear hfz40_0; try clear hfz40_1; try clear hfz51_0; try clear hfz51_1; try clear hfz53_0; try clear hfz53_1; try clear hfz66_0; try clear hfz66_1; try clear hfz69_0; try clear hfz69_1; try clear hfz78_0; try clear hfz78_1; try clear hfz86_0; try clear hfz86_1; try clear hfz95_0; try clear hfz95_1; try clear hx263_0; try clear p2; try clear p263; try clear q263
        obtain ⟨x74_2, x263001_2, u263001, rfl, HA, HK2, HO_263000, HO_263001, BK250, BK251, BK252, BK255, BK256, BK257, BK258, BK262, HB⟩ := hrel
        cases gk with
        | zero => exact absurd HA.out (by simp [table_Overlay.l1])
        | succ k2 =>
         have H := HA.out
         clear HA
         simp only [table_Overlay.l1] at H
         by_cases c110 : x74_2 < ji87
         ·rw [if_pos c110] at H
          have c110b0 : decide (x74_2 < ji87) = true := yL c110
          clear c110
          by_cases c111 : 0 ≤ (x263000_1.length : Int)
          ·rw [if_pos c111] at H
           have c111b0 := eq_true c111
           have c111b1 : decide (0 ≤ (x263000_1.length : Int)) = true := yL c111
           clear c111
           by_cases c112 : ((x263000_1.length : Int) : Int).toNat ≤ 17592186044416
           ·rw [if_pos c112] at H
            have c112b0 := eq_true c112
            have c112b1 : decide (((x263000_1.length : Int) : Int).toNat ≤ 17592186044416) = true := yL c112
            clear c112
            obtain ⟨y267, hy267⟩ : ∃ y_ : List (S52), y_ = (List.replicate ((x263000_1.length : Int) : Int).toNat z52) := ⟨_, rfl⟩
            replace H : (table_Overlay.l2 k2 x74_2 y267 ji87 x74_2 x263000_1 (x263000_1.length : Int) 0 l0_0 l0_1 l1_0 l1_1 x263000_1 x263001_2) = some (r1, r2, r3) := by first | (rw [hy267]; with_reducible exact H) | (have H2_ := (Option.bind_some _ _).symm.trans H; rw [hy267]; with_reducible exact H2_) | (have H2_ := (Option.bind_some _ _).symm.trans H; with_reducible exact H2_) | with_reducible exact H | (rw [hy267]; exact H) | exact H
            have Ny267 := yA hy267
            clear hy267
            have H' := yA H
            clear H
            have hnb113 := NB262_250.out
            have hnc113 := NB250_262.out
            have hnb114 := NB262_251.out
            have hnc114 := NB251_262.out
            have hnb115 := NB262_252.out
            have hnc115 := NB252_262.out
            have hnb116 := NB262_255.out
            have hnc116 := NB255_262.out
            have hnb117 := NB262_256.out
            have hnc117 := NB256_262.out
            have hnb118 := NB262_257.out
            have hnc118 := NB257_262.out
            have hnb119 := NB262_258.out
            have hnc119 := NB258_262.out
            have hcz120_0 : wr.cell? ⟨gb262, 0, none⟩ = some (.slice Ao96 x263000_1.length co96) := (yR BK262.out 0).trans rfl
            have hcz120_1 : wr.cell? ⟨gb262, 1, none⟩ = some (u263001) := (yR BK262.out 1).trans rfl
            have hfz120_0 := yS BK262.out 0
            have hfz120_1 := yS BK262.out 1
            go_wp2_with (first | ((with_reducible refine yP (N := 80) rfl ?_); refine Kd.R_make k52 _ 52 rfl (N := 80) rfl 54 _ _ rfl (x263000_1.length : Int) rfl rfl Tryd.underlying54 (.agg #[(.bool false), (.int .i64 0)]) 16 info52 rfl (by decide) (by omega) z52 (ok := fun _ => True) (okp := fun _ => True) (k52_mkM _ _ _ z52 ) (fun _ hk => hk) trivial (yN (by first | (with_reducible assumption) | assumption)) (Nat.le_trans (Nat.mul_le_mul_right _ (yN (by first | (with_reducible assumption) | assumption) : (x263000_1.length : Int).toNat ≤ 17592186044416)) (by omega)) (Below.refl _ _) (Nat.le_refl _) ?_; intro v268 w121 ho122 hb hg_ hnew_; clear hg_ hnew_; (first | rw [← Ny267.out] at ho122 | (simp only [Int.reduceToNat] at ho122; rw [← Ny267.out] at ho122)); have n0_ := yA (Kd.R_below (by first | exact HO_263000.out | exact Kd.R_drew HO_263000.out | exact Kd.R_alloc HO_263000.out _) hb); have n1_ := yA (Kd.S_elder' (by first | exact HO_263001.out | exact Kd.S_drew HO_263001.out | exact Kd.S_alloc HO_263001.out _) (Kd.R_base ho122) hb); have n2_ := yA (Kd.R_lower ho122 (below_size (by repeat (first | exact HB.out | apply yE | apply yD | refine yJ ?_ GE252.out | refine yJ ?_ GE262.out)))); have n3_ := yA (yC (by first | exact BK250.out | exact yI BK250.out _) hb); have n4_ := yA (yC (by first | exact BK251.out | exact yI BK251.out _) hb); have n5_ := yA (yC (by first | exact BK252.out | exact yI BK252.out _) hb); have n6_ := yA (yC (by first | exact BK255.out | exact yI BK255.out _) hb); have n7_ := yA (yC (by first | exact BK256.out | exact yI BK256.out _) hb); have n8_ := yA (yC (by first | exact BK257.out | exact yI BK257.out _) hb); have n9_ := yA (yC (by first | exact BK258.out | exact yI BK258.out _) hb); have n10_ := yA (yC (by first | exact BK262.out | exact yI BK262.out _) hb); have n11_ := yA (yB (by repeat (first | exact HB.out | apply yE | apply yD | refine yJ ?_ GE252.out | refine yJ ?_ GE262.out)) hb); clear HO_263000; clear HO_263001; clear BK250; clear BK251; clear BK252; clear BK255; clear BK256; clear BK257; clear BK258; clear BK262; clear HB; have HO_263000 := n0_; have HO_263001 := n1_; have HO269 := n2_; have BK250 := n3_; have BK251 := n4_; have BK252 := n5_; have BK255 := n6_; have BK256 := n7_; have BK257 := n8_; have BK258 := n9_; have BK262 := n10_; have HB := n11_; clear n0_ n1_ n2_ n3_ n4_ n5_ n6_ n7_ n8_ n9_ n10_ n11_; clear hb ho122; have hcz123_0 : w121.cell? ⟨gb262, 0, none⟩ = some (.slice Ao96 x263000_1.length co96) := (yR BK262.out 0).trans rfl; have hcz123_1 : w121.cell? ⟨gb262, 1, none⟩ = some (u263001) := (yR BK262.out 1).trans rfl; have hfz123_0 := yS BK262.out 0; have hfz123_1 := yS BK262.out 1))
            go_loopg [84] k2 (fun kq v84 w' => ∃ (x16_3 : List (S52)) (x84_3 : Int), v84 = .int .i64 x84_3 ∧ Aside0 (table_Overlay.l2 kq x74_2 x16_3 ji87 x74_2 x263000_1 (x263000_1.length : Int) x84_3 l0_0 l0_1 l1_0 l1_1 x263000_1 x263001_2 = some (r1, r2, r3)) ∧ Aside0 (kq ≤ k2) ∧ Aside0 (Kd.R k52 52 w' w.heap.size (fun _ => True) v268 x16_3) ∧ Aside0 (Kd.R Kd.string 9 w' w.heap.size (fun _ => True) (.slice Ao96 x263000_1.length co96) x263000_1) ∧ Aside0 (Kd.R Kd.string 9 w' w.heap.size (fun _ => True) (.slice Ao96 x263000_1.length co96) x263000_1) ∧ Aside0 (Kd.S (Kd.slice 52 k52) 54 w' w.heap.size (fun k_ => some k_ ≠ (v268 : Value).ownBlock) u263001 x263001_2) ∧ Aside0 (w'.heap[gb250]? = some (.cells #[(.slice A0_0 l0_0.length c0_0), (.slice A0_1 l0_1.length c0_1)] 25 (0, 0))) ∧ Aside0 (w'.heap[gb251]? = some (.cells #[(.slice A1_0 l1_0.length c1_0), (.slice A1_1 l1_1.length c1_1)] 25 (0, 0))) ∧ Aside0 (w'.heap[gb252]? = some (.cells #[(.slice none 0 0), (.slice none 0 0)] 25 (0, 0))) ∧ Aside0 (w'.heap[gb255]? = some o255) ∧ Aside0 (w'.heap[gb256]? = some o256) ∧ Aside0 (w'.heap[gb257]? = some (.cells #[.slice A0_0 l0_0.length c0_0, .slice A0_1 l0_1.length c0_1, .map (some gb255)] 73 (0, 0))) ∧ Aside0 (w'.heap[gb258]? = some (.cells #[.slice A1_0 l1_0.length c1_0, .slice A1_1 l1_1.length c1_1, .map (some gb256)] 73 (0, 0))) ∧ Aside0 (w'.heap[gb262]? = some (.cells #[(.slice Ao96 x263000_1.length co96), u263001] 25 (0, 0))) ∧ Aside0 (Below w.heap.size w w'))
            case atStart => exact ⟨(y267), (0), (by first | rfl | (simp; done) | (simp [*]; done)), H', ⟨Nat.le_refl _⟩, ⟨by (with_reducible repeat (first | apply Kd.R_alloc | apply Kd.R_drewN | apply Kd.R_drew)); exact HO269.out⟩, ⟨by (with_reducible repeat (first | apply Kd.R_alloc | apply Kd.R_drewN | apply Kd.R_drew)); exact HO_263000.out⟩, ⟨by (with_reducible repeat (first | apply Kd.R_alloc | apply Kd.R_drewN | apply Kd.R_drew)); exact HO_263000.out⟩, ⟨by (with_reducible repeat (first | apply Kd.S_alloc | apply Kd.S_drewN | apply Kd.S_drew)); exact Kd.S_mono HO_263001.out (fun _ hk => hk.2)⟩, ⟨by (with_reducible repeat (first | refine yG ?_ _ | refine yH ?_ | refine yI ?_ _)); exact BK250.out⟩, ⟨by (with_reducible repeat (first | refine yG ?_ _ | refine yH ?_ | refine yI ?_ _)); exact BK251.out⟩, ⟨by (with_reducible repeat (first | refine yG ?_ _ | refine yH ?_ | refine yI ?_ _)); exact BK252.out⟩, ⟨by (with_reducible repeat (first | refine yG ?_ _ | refine yH ?_ | refine yI ?_ _)); exact BK255.out⟩, ⟨by (with_reducible repeat (first | refine yG ?_ _ | refine yH ?_ | refine yI ?_ _)); exact BK256.out⟩, ⟨by (with_reducible repeat (first | refine yG ?_ _ | refine yH ?_ | refine yI ?_ _)); exact BK257.out⟩, ⟨by (with_reducible repeat (first | refine yG ?_ _ | refine yH ?_ | refine yI ?_ _)); exact BK258.out⟩, ⟨by (with_reducible repeat (first | refine yG ?_ _ | refine yH ?_ | refine yI ?_ _)); exact BK262.out⟩, ⟨by repeat (first | exact HB.out | apply yE | apply yD | refine yJ ?_ GE252.out | refine yJ ?_ GE262.out)⟩⟩
            case round =>
             clear H'
             try clear c1; try clear c2; try clear p2; try clear q2; try clear hx2; try clear c3; try clear c4; try clear c4b0; try clear c4b1; try clear c5; try clear c6; try clear c6b0; try clear c6b1; try clear p6; try clear c7; try clear c8; try clear c9; try clear c10; try clear c11; try clear c12; try clear c15; try clear c20; try clear c25; try clear c26; try clear p26; try clear q26; try clear hx26; try clear c27; try clear c28; try clear c29; try clear c30; try clear c32; try clear c33; try clear c34; try clear c35; try clear c36; try clear c37; try clear c38; try clear c39; try clear c44; try clear c45; try clear c46; try clear c47; try clear c48; try clear c49; try clear c50; try clear c52; try clear c54; try clear c54b0; try clear c55; try clear c55b0; try clear c56; try clear c56b0; try clear c57; try clear c57b0; try clear c57b1; try clear c58; try clear c59; try clear c60; try clear c61; try clear c62; try clear c63; try clear c64; try clear p64; try clear c65; try clear c70; try clear c70b0; try clear c70b1; try clear c71; try clear c72; try clear c73; try clear c74; try clear c75; try clear c76; try clear c77; try clear c80; try clear c81; try clear c82; try clear c83; try clear c84; try clear c85; try clear c88; try clear c89; try clear c90; try clear c91; try clear c92; try clear c93; try clear c94; try clear c97; try clear c98; try clear c99; try clear c100; try clear c101; try clear c102; try clear c104; try clear c105; try clear c106; try clear c107; try clear c108; try clear c110; try clear c110b0; try clear c111; try clear c111b0; try clear c111b1; try clear c112; try clear c112b0; try clear c112b1; try clear c113; try clear c114; try clear c115; try clear c116; try clear c117; try clear c118; try clear c119; try clear hcz103_0; try clear hcz103_1; try clear hcz109_0; try clear hcz109_1; try clear hcz120_0; try clear hcz120_1; try clear hcz123_0; try clear hcz123_1; try clear hcz13_0; try clear hcz13_1; try clear hcz16_0; try clear hcz16_1; try clear hcz18_0; try clear hcz18_1; try clear hcz21_0; try clear hcz21_1; try clear hcz31_0; try clear hcz31_1; try clear hcz37_0; try clear hcz37_1; try clear hcz40_0; try clear hcz40_1; try clear hcz51_0; try clear hcz51_1; try clear hcz53_0; try clear hcz53_1; try clear hcz66_0; try clear hcz66_1; try clear hcz69_0; try clear hcz69_1; try clear hcz78_0; try clear hcz78_1; try clear hcz86_0; try clear hcz86_1; try clear hcz95_0; try clear hcz95_1; try clear hfz103_0; try clear hfz103_1; try clear hfz109_0; try clear hfz109_1; try clear hfz120_0; try clear hfz120_1; try clear hfz123_0; try clear hfz123_1; try clear hfz13_0; try clear hfz13_1; try clear hfz16_0; try clear hfz16_1; try clear hfz18_0; try clear hfz18_1; try clear hfz21_0; try clear hfz21_1; try clear hfz31_0; try clear hfz31_1; try clear hfz37_0; try clear hfz37_1; try clear hfz40_0; try clear hfz40_1; try clear hfz51_0; try clear hfz51_1; try clear hfz53_0; try clear hfz53_1; try clear hfz66_0; try clear hfz66_1; try clear hfz69_0; try clear hfz69_1; try clear hfz78_0; try clear hfz78_1; try clear hfz86_0; try clear hfz86_1; try clear hfz95_0; try clear hfz95_1; try clear hx263_0; try clear p2; try clear p26; try clear p263; try clear p6; try clear p64; try clear q2; try clear q26; try clear q263
             obtain ⟨x16_3, x84_3, rfl, HA, HK3, HO_16, HO_82, HO_263000, HO_263001, BK250, BK251, BK252, BK255, BK256, BK257, BK258, BK262, HB⟩ := hrel
             cases gk with
             | zero => exact absurd HA.out (by simp [table_Overlay.l2])
             | succ k3 =>
              have H := HA.out
              clear HA
              simp only [table_Overlay.l2] at H
              by_cases c124 : x84_3 < (x263000_1.length : Int)
              ·rw [if_pos c124] at H
               have c124b0 : decide (x84_3 < (x263000_1.length : Int)) = true := yL c124
               clear c124
               by_cases c125 : 0 ≤ x84_3
               ·rw [if_pos c125] at H
                have c125b0 : decide (0 ≤ x84_3) = true := yL c125
                clear c125
                by_cases c126 : x84_3 < (x263000_1.length : Int)
                ·rw [if_pos c126] at H
                 have c126b0 : decide (x84_3 < (x263000_1.length : Int)) = true := yL c126
                 clear c126
                 replace H := Option.bind_eq_some_iff.mp H
                 obtain ⟨⟨t274, t275⟩, A1270, H⟩ := H
                 replace H : (if x84_3 < (x16_3.length : Int) then ((some (x16_3.set (x84_3 : Int).toNat (⟨t274, t275⟩ : S52) : List (S52))).bind fun y276 => (if ((rd_T52 y276 x84_3).f0 = true) then (table_Overlay.l2 k3 x74_2 y276 ji87 x74_2 x263000_1 (x263000_1.length : Int) (wrap64 (x84_3 + 1)) l0_0 l0_1 l1_0 l1_1 x263000_1 x263001_2) else ((table_view_cell.f l0_0 l0_1 (rdOf ByteArray.empty x263000_1 x84_3) x74_2).bind fun bt278 => (table_Overlay.l2 k3 x74_2 (y276.set (x84_3 : Int).toNat (⟨bt278.1, bt278.2⟩ : S52)) ji87 x74_2 x263000_1 (x263000_1.length : Int) (wrap64 (x84_3 + 1)) l0_0 l0_1 l1_0 l1_1 x263000_1 x263001_2)))) else (none)) = some (r1, r2, r3) := H
                 have A127 := yA A1270
                 clear A1270
                 by_cases c128 : x84_3 < (x16_3.length : Int)
                 ·rw [if_pos c128] at H
                  have c128b0 : decide (x84_3 < (x16_3.length : Int)) = true := yL c128
                  clear c128
                  obtain ⟨y276, hy276⟩ : ∃ y_ : List (S52), y_ = (x16_3.set (x84_3 : Int).toNat (⟨t274, t275⟩ : S52)) := ⟨_, rfl⟩
                  replace H : (if ((rd_T52 y276 x84_3).f0 = true) then (table_Overlay.l2 k3 x74_2 y276 ji87 x74_2 x263000_1 (x263000_1.length : Int) (wrap64 (x84_3 + 1)) l0_0 l0_1 l1_0 l1_1 x263000_1 x263001_2) else ((table_view_cell.f l0_0 l0_1 (rdOf ByteArray.empty x263000_1 x84_3) x74_2).bind fun bt278 => (table_Overlay.l2 k3 x74_2 (y276.set (x84_3 : Int).toNat (⟨bt278.1, bt278.2⟩ : S52)) ji87 x74_2 x263000_1 (x263000_1.length : Int) (wrap64 (x84_3 + 1)) l0_0 l0_1 l1_0 l1_1 x263000_1 x263001_2))) = some (r1, r2, r3) := by first | (rw [hy276]; with_reducible exact H) | (have H2_ := (Option.bind_some _ _).symm.trans H; rw [hy276]; with_reducible exact H2_) | (have H2_ := (Option.bind_some _ _).symm.trans H; with_reducible exact H2_) | with_reducible exact H | (rw [hy276]; exact H) | exact H
                  have Ny276 := yA hy276
                  clear hy276
                  obtain ⟨bq130, hbq130⟩ : ∃ b_ : Bool, b_ = ((rd_T52 y276 x84_3).f0) := ⟨_, rfl⟩
                  replace H : (if (bq130 = true) then (table_Overlay.l2 k3 x74_2 y276 ji87 x74_2 x263000_1 (x263000_1.length : Int) (wrap64 (x84_3 + 1)) l0_0 l0_1 l1_0 l1_1 x263000_1 x263001_2) else ((table_view_cell.f l0_0 l0_1 (rdOf ByteArray.empty x263000_1 x84_3) x74_2).bind fun bt278 => (table_Overlay.l2 k3 x74_2 (y276.set (x84_3 : Int).toNat (⟨bt278.1, bt278.2⟩ : S52)) ji87 x74_2 x263000_1 (x263000_1.length : Int) (wrap64 (x84_3 + 1)) l0_0 l0_1 l1_0 l1_1 x263000_1 x263001_2))) = some (r1, r2, r3) := by rw [← hbq130] at H; exact H
                  have Nbq130 := yA hbq130
                  clear hbq130
                  by_cases c131 : (bq130 = true)
                  ·subst c131
                   have H1 : (table_Overlay.l2 k3 x74_2 y276 ji87 x74_2 x263000_1 (x263000_1.length : Int) (wrap64 (x84_3 + 1)) l0_0 l0_1 l1_0 l1_1 x263000_1 x263001_2) = some (r1, r2, r3) := by rw [if_pos rfl] at H; exact H
                   clear H
                   have H := H1
                   clear H1
                   have H' := yA H
                   clear H
                   have p273 : 0 ≤ (x84_3 : Int) := yN (by first | (with_reducible assumption) | assumption)
                   have q273 : x84_3 < (x263000_1.length : Int) := yN (by first | (with_reducible assumption) | assumption)
                   obtain ⟨ad273, e273, hx273_0⟩ := Kd.at_string (Kd.R_reads' HO_82.out).2.2 x84_3 p273 q273
                   cases e273
                   replace p273 := eq_true p273
                   replace q273 := eq_true q273
                   have hnb132 := NB258_250.out
                   have hnc132 := NB250_258.out
                   have hnb133 := NB258_251.out
                   have hnc133 := NB251_258.out
                   have hnb134 := NB258_252.out
                   have hnc134 := NB252_258.out
                   have hnb135 := NB258_255.out
                   have hnc135 := NB255_258.out
                   have hnb136 := NB258_256.out
                   have hnc136 := NB256_258.out
                   have hnb137 := NB258_257.out
                   have hnc137 := NB257_258.out
                   have hnb138 := NB258_262.out
                   have hnc138 := NB262_258.out
                   have hcz139_0 : wr.cell? ⟨gb258, 0, none⟩ = some (.slice A1_0 l1_0.length c1_0) := (yR BK258.out 0).trans rfl
                   have hcz139_1 : wr.cell? ⟨gb258, 1, none⟩ = some (.slice A1_1 l1_1.length c1_1) := (yR BK258.out 1).trans rfl
                   have hcz139_2 : wr.cell? ⟨gb258, 2, none⟩ = some (.map (some gb256)) := (yR BK258.out 2).trans rfl
                   have hfz139_0 := yS BK258.out 0
                   have hfz139_1 := yS BK258.out 1
                   have hfz139_2 := yS BK258.out 2
                   go_wp2_with (first | ((with_reducible refine yO (f := 42) rfl ?_); refine goesL_ (some 94) rfl rfl Tryd.func42 (by kernel_rfl) rfl #[.agg #[.slice A1_0 l1_0.length c1_0, .slice A1_1 l1_1.length c1_1, .map (some gb256)], .string (rdOf ByteArray.empty x263000_1 x84_3), .int .i64 x74_2] rfl (by (try simp only [List.map_toArray, List.map_cons, List.map_nil]); first | done | rfl | (simp only [List.length_drop, List.length_take]; rfl)) ?_; (with_reducible refine (table_view_cell.calls A1_0 l1_0.length c1_0 A1_1 c1_1 l1_0 l1_1 gb256 _ (rdOf ByteArray.empty x263000_1 x84_3) x74_2 t274 t275 _ (by repeat (first | exact (Kd.C_below HR1_1.out HB.out) | (with_reducible refine Kd.C_alloc ?_ _) | (with_reducible refine Kd.C_drewN ?_ _) | (with_reducible refine Kd.C_drew ?_))) (OC256.out _ (by first | exact BK256.out | exact yI BK256.out _)) A127.out).mono ?_); rintro e w140 ⟨rfl, hb⟩; refine ⟨_, rfl, ?_⟩; have n0_ := yA (Kd.R_below (by first | exact HO_16.out | exact Kd.R_drew HO_16.out | exact Kd.R_alloc HO_16.out _) hb); have n1_ := yA (Kd.R_below (by first | exact HO_82.out | exact Kd.R_drew HO_82.out | exact Kd.R_alloc HO_82.out _) hb); have n2_ := yA (Kd.R_below (by first | exact HO_263000.out | exact Kd.R_drew HO_263000.out | exact Kd.R_alloc HO_263000.out _) hb); have n3_ := yA (Kd.S_below (by first | exact HO_263001.out | exact Kd.S_drew HO_263001.out | exact Kd.S_alloc HO_263001.out _) hb); have n4_ := yA (yC (by first | exact BK250.out | exact yI BK250.out _) hb); have n5_ := yA (yC (by first | exact BK251.out | exact yI BK251.out _) hb); have n6_ := yA (yC (by first | exact BK252.out | exact yI BK252.out _) hb); have n7_ := yA (yC (by first | exact BK255.out | exact yI BK255.out _) hb); have n8_ := yA (yC (by first | exact BK256.out | exact yI BK256.out _) hb); have n9_ := yA (yC (by first | exact BK257.out | exact yI BK257.out _) hb); have n10_ := yA (yC (by first | exact BK258.out | exact yI BK258.out _) hb); have n11_ := yA (yC (by first | exact BK262.out | exact yI BK262.out _) hb); have n12_ := yA (yB (by repeat (first | exact HB.out | apply yE | apply yD | refine yJ ?_ GE252.out | refine yJ ?_ GE262.out)) hb); clear HO_16; clear HO_82; clear HO_263000; clear HO_263001; clear BK250; clear BK251; clear BK252; clear BK255; clear BK256; clear BK257; clear BK258; clear BK262; clear HB; have HO_16 := n0_; have HO_82 := n1_; have HO_263000 := n2_; have HO_263001 := n3_; have BK250 := n4_; have BK251 := n5_; have BK252 := n6_; have BK255 := n7_; have BK256 := n8_; have BK257 := n9_; have BK258 := n10_; have BK262 := n11_; have HB := n12_; clear n0_ n1_ n2_ n3_ n4_ n5_ n6_ n7_ n8_ n9_ n10_ n11_ n12_; (try clear hb); (try clear hb2); (try clear hk); (try clear hi); have p129 : 0 ≤ (x84_3 : Int) := yN (by first | (with_reducible assumption) | assumption); have q129 : (x84_3 : Int) < ((x16_3.length : Int) : Int) := yN (by first | (with_reducible assumption) | assumption); obtain ⟨go129, co129, eo129, gb129, gl129, cl129, HG129⟩ := Kd.R_form HO_16.out (by omega); (first | cases eo129 | (injection eo129 with ea_ en_ ec_; (first | subst ea_ | (injection ea_ with ea_; subst ea_)); subst ec_; clear en_)); have GB129 := yA gb129; have GG129 := yA HG129; clear gb129 gl129 HG129; obtain ⟨ce129, hcl129, hM129, hcc129, hfr129⟩ := Kd.R_elem HO_16.out z52 (x84_3 : Int) p129 q129; obtain rfl := k52_openM hM129; have hx129_0 : w140.cell? ⟨go129, (x84_3 : Int).toNat * 2, none⟩ = some (.bool ((rd_T52 x16_3 x84_3).f0)) := hcc129 0 _ rfl; have hx129_1 : w140.cell? ⟨go129, (x84_3 : Int).toNat * 2 + 1, none⟩ = some (.int .i64 ((rd_T52 x16_3 x84_3).f1)) := hcc129 1 _ rfl; have hf129_0 : w140.frozen? ⟨go129, (x84_3 : Int).toNat * 2, none⟩ = false := hfr129 0; have hf129_1 : w140.frozen? ⟨go129, (x84_3 : Int).toNat * 2 + 1, none⟩ = false := hfr129 1; clear hcl129 hcc129 hfr129; (try clear hM129); replace p129 := eq_true p129; replace q129 := eq_true q129; have HX141 := yA (show Kd.R k52 52 w140 w.heap.size (fun _ => True) (.slice (some ⟨go129, 0, none⟩) x16_3.length co129) x16_3 from (by first | exact HO_16.out | exact Kd.R_drew HO_16.out | exact Kd.R_alloc HO_16.out _)); obtain ⟨ce141, hcl141, hM141, hcc141, hfr141⟩ := Kd.R_elem HX141.out z52 (x84_3 : Int) (yN (by first | (with_reducible assumption) | assumption)) (by have h_ : (x84_3 : Int) < ((x16_3.length : Int) : Int) := yN (by first | (with_reducible assumption) | assumption); first | exact h_ | (have e_ := (Kd.R_reads' HO_16.out).1; omega) | simpa using h_); obtain rfl := k52_openM hM141; have HP141 := Kd.R_seg HX141.out (x84_3 : Int) (yN (by first | (with_reducible assumption) | assumption)) (by have h_ : (x84_3 : Int) < ((x16_3.length : Int) : Int) := yN (by first | (with_reducible assumption) | assumption); first | exact h_ | (have e_ := (Kd.R_reads' HO_16.out).1; omega) | simpa using h_) (seg := [.bool t274, .int .i64 t275]) (j := 0) hcl141 hcc141 (show 2 ≤ 2 from by decide) (x' := (⟨t274, t275⟩ : S52)) (k52_mkM _ _ _ (⟨t274, t275⟩ : S52) ) (fun _ hk => hk); have hx141_0 := hcc141 0 _ rfl; (try simp only [show (k52).sz = 2 from rfl, Nat.mul_one, Nat.add_zero] at hx141_0); have hf141_0 := hfr141 0; (try simp only [show (k52).sz = 2 from rfl, Nat.mul_one, Nat.add_zero] at hf141_0); have hx141_1 := hcc141 1 _ rfl; (try simp only [show (k52).sz = 2 from rfl, Nat.mul_one, Nat.add_zero] at hx141_1); have hf141_1 := hfr141 1; (try simp only [show (k52).sz = 2 from rfl, Nat.mul_one, Nat.add_zero] at hf141_1); clear hcl141 hcc141 hfr141; (try clear hM141)) | ((with_reducible refine gate_store (t := 52) (p := 95) rfl ?_); refine store_event (t := 52) (p := 95) (v := ?vo_w142) (w1 := ((w140.setCell ⟨go129, (x84_3 : Int).toNat * 2, none⟩ (.bool t274)).setCell ⟨go129, (x84_3 : Int).toNat * 2 + 1, none⟩ (.int .i64 t275))) ?hg ?ho ?hn ?hr ?_; (case ho => rfl); (case hg => rfl); (case hn => rfl); (case hr => first | (go_simp; done) | (go_simp; rfl)); intro w142 hw; have hg : w140.grownBy w142 (some go129) := (by rw [hw]; exact HP141.2); have hp_ : Kd.R k52 52 w142 w.heap.size (fun _ => True) (.slice (some ⟨go129, 0, none⟩) x16_3.length co129) y276 := (by rw [hw, Ny276.out]; exact HP141.1); clear HP141; have n0_ := yA (hp_); have n1_ := yA (Kd.R_over' (v := (.slice (some ⟨go129, 0, none⟩) x16_3.length co129)) (by first | exact HO_82.out | exact Kd.R_drew HO_82.out | exact Kd.R_alloc HO_82.out _) (Kd.R_typed HO_16.out) (by decide) hg); have n2_ := yA (Kd.R_over' (v := (.slice (some ⟨go129, 0, none⟩) x16_3.length co129)) (by first | exact HO_263000.out | exact Kd.R_drew HO_263000.out | exact Kd.R_alloc HO_263000.out _) (Kd.R_typed HO_16.out) (by decide) hg); have n3_ := yA (Kd.S_after (v := (.slice (some ⟨go129, 0, none⟩) x16_3.length co129)) (v1 := (.slice (some ⟨go129, 0, none⟩) x16_3.length co129)) (ok := (fun _ => True)) (by (with_reducible repeat (first | apply Kd.S_alloc | apply Kd.S_drewN | apply Kd.S_drew)); exact Kd.S_mono HO_263001.out (fun _ hk => ⟨trivial, hk⟩)) hg (.inl rfl)); have n4_ := yA (blk_grown (by first | exact BK250.out | exact yI BK250.out _) hg (Kd.R_ne HO_16.out BK250.out (by decide))); have n5_ := yA (blk_grown (by first | exact BK251.out | exact yI BK251.out _) hg (Kd.R_ne HO_16.out BK251.out (by decide))); have n6_ := yA (blk_grown (by first | exact BK252.out | exact yI BK252.out _) hg (Kd.R_ne HO_16.out BK252.out (by decide))); have n7_ := yA (blk_grown (by first | exact BK255.out | exact yI BK255.out _) hg (R_ne_map HO_16.out BK255.out MO255.out)); have n8_ := yA (blk_grown (by first | exact BK256.out | exact yI BK256.out _) hg (R_ne_map HO_16.out BK256.out MO256.out)); have n9_ := yA (blk_grown (by first | exact BK257.out | exact yI BK257.out _) hg (Kd.R_ne HO_16.out BK257.out (by decide))); have n10_ := yA (blk_grown (by first | exact BK258.out | exact yI BK258.out _) hg (Kd.R_ne HO_16.out BK258.out (by decide))); have n11_ := yA (blk_grown (by first | exact BK262.out | exact yI BK262.out _) hg (Kd.R_ne HO_16.out BK262.out (by decide))); have n12_ := yA ((by rw [hw]; exact yJ (yJ (HB.out) GB129.out) GB129.out : Below w.heap.size w w142)); clear HO_16; clear HO_82; clear HO_263000; clear HO_263001; clear BK250; clear BK251; clear BK252; clear BK255; clear BK256; clear BK257; clear BK258; clear BK262; clear HB; have HO_16 := n0_; have HO_82 := n1_; have HO_263000 := n2_; have HO_263001 := n3_; have BK250 := n4_; have BK251 := n5_; have BK252 := n6_; have BK255 := n7_; have BK256 := n8_; have BK257 := n9_; have BK258 := n10_; have BK262 := n11_; have HB := n12_; clear n0_ n1_ n2_ n3_ n4_ n5_ n6_ n7_ n8_ n9_ n10_ n11_ n12_; clear hg hw hp_; have p277 : 0 ≤ (x84_3 : Int) := yN (by first | (with_reducible assumption) | assumption); have q277 : x84_3 < (y276.length : Int) := (by have h_ : (x84_3 : Int) < ((x16_3.length : Int) : Int) := yN (by first | (with_reducible assumption) | assumption); first | (have e_ := (Kd.R_reads' HO_16.out).1; omega) | simpa only [Ny276.out, List.length_set] using h_); have ql277 : ((x84_3 : Int) < ((x16_3.length : Int) : Int)) = True := eq_true (yN (by first | (with_reducible assumption) | assumption)); obtain ⟨ad277, e277, hx277_0, hx277_1⟩ := at_T52 (Kd.R_reads' HO_16.out).2.2 x84_3 p277 q277; (try rw [← Nbq130.out] at hx277_0); obtain rfl : (⟨go129, 0, none⟩ : Addr) = ad277 := (by injection e277); (first | simp only [add_plain] at hx277_0 | simp only [add_at] at hx277_0 | simp only [Addr.add, Nat.zero_add] at hx277_0 | skip); (first | simp only [add_plain] at hx277_1 | simp only [add_at] at hx277_1 | simp only [Addr.add, Nat.zero_add] at hx277_1 | skip); replace p277 := eq_true p277; replace q277 := eq_true q277))
                   go_roundg k3
                   case measure => have := HK1.out; have := HK2.out; have := HK3.out; omega
                   case rel => exact ⟨(y276), (wrap64 (x84_3 + 1)), (by first | rfl | (simp; done) | (simp [*]; done)), H', ⟨by have := HK1.out; have := HK2.out; have := HK3.out; omega⟩, ⟨by (with_reducible repeat (first | apply Kd.R_alloc | apply Kd.R_drewN | apply Kd.R_drew)); exact HO_16.out⟩, ⟨by (with_reducible repeat (first | apply Kd.R_alloc | apply Kd.R_drewN | apply Kd.R_drew)); exact HO_82.out⟩, ⟨by (with_reducible repeat (first | apply Kd.R_alloc | apply Kd.R_drewN | apply Kd.R_drew)); exact HO_263000.out⟩, ⟨by (with_reducible repeat (first | apply Kd.S_alloc | apply Kd.S_drewN | apply Kd.S_drew)); exact Kd.S_mono HO_263001.out (fun _ hk => hk.2)⟩, ⟨by (with_reducible repeat (first | refine yG ?_ _ | refine yH ?_ | refine yI ?_ _)); exact BK250.out⟩, ⟨by (with_reducible repeat (first | refine yG ?_ _ | refine yH ?_ | refine yI ?_ _)); exact BK251.out⟩, ⟨by (with_reducible repeat (first | refine yG ?_ _ | refine yH ?_ | refine yI ?_ _)); exact BK252.out⟩, ⟨by (with_reducible repeat (first | refine yG ?_ _ | refine yH ?_ | refine yI ?_ _)); exact BK255.out⟩, ⟨by (with_reducible repeat (first | refine yG ?_ _ | refine yH ?_ | refine yI ?_ _)); exact BK256.out⟩, ⟨by (with_reducible repeat (first | refine yG ?_ _ | refine yH ?_ | refine yI ?_ _)); exact BK257.out⟩, ⟨by (with_reducible repeat (first | refine yG ?_ _ | refine yH ?_ | refine yI ?_ _)); exact BK258.out⟩, ⟨by (with_reducible repeat (first | refine yG ?_ _ | refine yH ?_ | refine yI ?_ _)); exact BK262.out⟩, ⟨by repeat (first | exact HB.out | apply yE | apply yD | refine yJ ?_ GE252.out | refine yJ ?_ GE262.out)⟩⟩
                  ·replace c131 := Bool.eq_false_iff.mpr c131
                   subst c131
                   have H1 : ((table_view_cell.f l0_0 l0_1 (rdOf ByteArray.empty x263000_1 x84_3) x74_2).bind fun bt278 => (table_Overlay.l2 k3 x74_2 (y276.set (x84_3 : Int).toNat (⟨bt278.1, bt278.2⟩ : S52)) ji87 x74_2 x263000_1 (x263000_1.length : Int) (wrap64 (x84_3 + 1)) l0_0 l0_1 l1_0 l1_1 x263000_1 x263001_2)) = some (r1, r2, r3) := by rw [if_neg (show ¬ (false = true) by decide)] at H; exact H
                   clear H
                   have H := H1
                   clear H1
                   replace H := Option.bind_eq_some_iff.mp H
                   obtain ⟨⟨t278, t279⟩, A1430, H⟩ := H
                   replace H : (table_Overlay.l2 k3 x74_2 (y276.set (x84_3 : Int).toNat (⟨t278, t279⟩ : S52)) ji87 x74_2 x263000_1 (x263000_1.length : Int) (wrap64 (x84_3 + 1)) l0_0 l0_1 l1_0 l1_1 x263000_1 x263001_2) = some (r1, r2, r3) := H
                   have A143 := yA A1430
                   clear A1430
                   obtain ⟨y280, hy280⟩ : ∃ y_ : List (S52), y_ = (y276.set (x84_3 : Int).toNat (⟨t278, t279⟩ : S52)) := ⟨_, rfl⟩
                   replace H : (table_Overlay.l2 k3 x74_2 y280 ji87 x74_2 x263000_1 (x263000_1.length : Int) (wrap64 (x84_3 + 1)) l0_0 l0_1 l1_0 l1_1 x263000_1 x263001_2) = some (r1, r2, r3) := by first | (rw [hy280]; with_reducible exact H) | (have H2_ := (Option.bind_some _ _).symm.trans H; rw [hy280]; with_reducible exact H2_) | (have H2_ := (Option.bind_some _ _).symm.trans H; with_reducible exact H2_) | with_reducible exact H | (rw [hy280]; exact H) | exact H
                   have Ny280 := yA hy280
                   clear hy280
                   have H' := yA H
                   clear H
                   have p273 : 0 ≤ (x84_3 : Int) := yN (by first | (with_reducible assumption) | assumption)
                   have q273 : x84_3 < (x263000_1.length : Int) := yN (by first | (with_reducible assumption) | assumption)
                   obtain ⟨ad273, e273, hx273_0⟩ := Kd.at_string (Kd.R_reads' HO_82.out).2.2 x84_3 p273 q273
                   cases e273
                   replace p273 := eq_true p273
                   replace q273 := eq_true q273
                   have hnb145 := NB258_250.out
                   have hnc145 := NB250_258.out
                   have hnb146 := NB258_251.out
                   have hnc146 := NB251_258.out
                   have hnb147 := NB258_252.out
                   have hnc147 := NB252_258.out
                   have hnb148 := NB258_255.out
                   have hnc148 := NB255_258.out
                   have hnb149 := NB258_256.out
                   have hnc149 := NB256_258.out
                   have hnb150 := NB258_257.out
                   have hnc150 := NB257_258.out
                   have hnb151 := NB258_262.out
                   have hnc151 := NB262_258.out
                   have hcz152_0 : wr.cell? ⟨gb258, 0, none⟩ = some (.slice A1_0 l1_0.length c1_0) := (yR BK258.out 0).trans rfl
                   have hcz152_1 : wr.cell? ⟨gb258, 1, none⟩ = some (.slice A1_1 l1_1.length c1_1) := (yR BK258.out 1).trans rfl
                   have hcz152_2 : wr.cell? ⟨gb258, 2, none⟩ = some (.map (some gb256)) := (yR BK258.out 2).trans rfl
                   have hfz152_0 := yS BK258.out 0
                   have hfz152_1 := yS BK258.out 1
                   have hfz152_2 := yS BK258.out 2
                   go_wp2_with (first | ((with_reducible refine yO (f := 42) rfl ?_); refine goesL_ (some 94) rfl rfl Tryd.func42 (by kernel_rfl) rfl #[.agg #[.slice A1_0 l1_0.length c1_0, .slice A1_1 l1_1.length c1_1, .map (some gb256)], .string (rdOf ByteArray.empty x263000_1 x84_3), .int .i64 x74_2] rfl (by (try simp only [List.map_toArray, List.map_cons, List.map_nil]); first | done | rfl | (simp only [List.length_drop, List.length_take]; rfl)) ?_; (with_reducible refine (table_view_cell.calls A1_0 l1_0.length c1_0 A1_1 c1_1 l1_0 l1_1 gb256 _ (rdOf ByteArray.empty x263000_1 x84_3) x74_2 t274 t275 _ (by repeat (first | exact (Kd.C_below HR1_1.out HB.out) | (with_reducible refine Kd.C_alloc ?_ _) | (with_reducible refine Kd.C_drewN ?_ _) | (with_reducible refine Kd.C_drew ?_))) (OC256.out _ (by first | exact BK256.out | exact yI BK256.out _)) A127.out).mono ?_); rintro e w153 ⟨rfl, hb⟩; refine ⟨_, rfl, ?_⟩; have n0_ := yA (Kd.R_below (by first | exact HO_16.out | exact Kd.R_drew HO_16.out | exact Kd.R_alloc HO_16.out _) hb); have n1_ := yA (Kd.R_below (by first | exact HO_82.out | exact Kd.R_drew HO_82.out | exact Kd.R_alloc HO_82.out _) hb); have n2_ := yA (Kd.R_below (by first | exact HO_263000.out | exact Kd.R_drew HO_263000.out | exact Kd.R_alloc HO_263000.out _) hb); have n3_ := yA (Kd.S_below (by first | exact HO_263001.out | exact Kd.S_drew HO_263001.out | exact Kd.S_alloc HO_263001.out _) hb); have n4_ := yA (yC (by first | exact BK250.out | exact yI BK250.out _) hb); have n5_ := yA (yC (by first | exact BK251.out | exact yI BK251.out _) hb); have n6_ := yA (yC (by first | exact BK252.out | exact yI BK252.out _) hb); have n7_ := yA (yC (by first | exact BK255.out | exact yI BK255.out _) hb); have n8_ := yA (yC (by first | exact BK256.out | exact yI BK256.out _) hb); have n9_ := yA (yC (by first | exact BK257.out | exact yI BK257.out _) hb); have n10_ := yA (yC (by first | exact BK258.out | exact yI BK258.out _) hb); have n11_ := yA (yC (by first | exact BK262.out | exact yI BK262.out _) hb); have n12_ := yA (yB (by repeat (first | exact HB.out | apply yE | apply yD | refine yJ ?_ GE252.out | refine yJ ?_ GE262.out)) hb); clear HO_16; clear HO_82; clear HO_263000; clear HO_263001; clear BK250; clear BK251; clear BK252; clear BK255; clear BK256; clear BK257; clear BK258; clear BK262; clear HB; have HO_16 := n0_; have HO_82 := n1_; have HO_263000 := n2_; have HO_263001 := n3_; have BK250 := n4_; have BK251 := n5_; have BK252 := n6_; have BK255 := n7_; have BK256 := n8_; have BK257 := n9_; have BK258 := n10_; have BK262 := n11_; have HB := n12_; clear n0_ n1_ n2_ n3_ n4_ n5_ n6_ n7_ n8_ n9_ n10_ n11_ n12_; (try clear hb); (try clear hb2); (try clear hk); (try clear hi); have p129 : 0 ≤ (x84_3 : Int) := yN (by first | (with_reducible assumption) | assumption); have q129 : (x84_3 : Int) < ((x16_3.length : Int) : Int) := yN (by first | (with_reducible assumption) | assumption); obtain ⟨go129, co129, eo129, gb129, gl129, cl129, HG129⟩ := Kd.R_form HO_16.out (by omega); (first | cases eo129 | (injection eo129 with ea_ en_ ec_; (first | subst ea_ | (injection ea_ with ea_; subst ea_)); subst ec_; clear en_)); have GB129 := yA gb129; have GG129 := yA HG129; clear gb129 gl129 HG129; obtain ⟨ce129, hcl129, hM129, hcc129, hfr129⟩ := Kd.R_elem HO_16.out z52 (x84_3 : Int) p129 q129; obtain rfl := k52_openM hM129; have hx129_0 : w153.cell? ⟨go129, (x84_3 : Int).toNat * 2, none⟩ = some (.bool ((rd_T52 x16_3 x84_3).f0)) := hcc129 0 _ rfl; have hx129_1 : w153.cell? ⟨go129, (x84_3 : Int).toNat * 2 + 1, none⟩ = some (.int .i64 ((rd_T52 x16_3 x84_3).f1)) := hcc129 1 _ rfl; have hf129_0 : w153.frozen? ⟨go129, (x84_3 : Int).toNat * 2, none⟩ = false := hfr129 0; have hf129_1 : w153.frozen? ⟨go129, (x84_3 : Int).toNat * 2 + 1, none⟩ = false := hfr129 1; clear hcl129 hcc129 hfr129; (try clear hM129); replace p129 := eq_true p129; replace q129 := eq_true q129; have HX154 := yA (show Kd.R k52 52 w153 w.heap.size (fun _ => True) (.slice (some ⟨go129, 0, none⟩) x16_3.length co129) x16_3 from (by first | exact HO_16.out | exact Kd.R_drew HO_16.out | exact Kd.R_alloc HO_16.out _)); obtain ⟨ce154, hcl154, hM154, hcc154, hfr154⟩ := Kd.R_elem HX154.out z52 (x84_3 : Int) (yN (by first | (with_reducible assumption) | assumption)) (by have h_ : (x84_3 : Int) < ((x16_3.length : Int) : Int) := yN (by first | (with_reducible assumption) | assumption); first | exact h_ | (have e_ := (Kd.R_reads' HO_16.out).1; omega) | simpa using h_); obtain rfl := k52_openM hM154; have HP154 := Kd.R_seg HX154.out (x84_3 : Int) (yN (by first | (with_reducible assumption) | assumption)) (by have h_ : (x84_3 : Int) < ((x16_3.length : Int) : Int) := yN (by first | (with_reducible assumption) | assumption); first | exact h_ | (have e_ := (Kd.R_reads' HO_16.out).1; omega) | simpa using h_) (seg := [.bool t274, .int .i64 t275]) (j := 0) hcl154 hcc154 (show 2 ≤ 2 from by decide) (x' := (⟨t274, t275⟩ : S52)) (k52_mkM _ _ _ (⟨t274, t275⟩ : S52) ) (fun _ hk => hk); have hx154_0 := hcc154 0 _ rfl; (try simp only [show (k52).sz = 2 from rfl, Nat.mul_one, Nat.add_zero] at hx154_0); have hf154_0 := hfr154 0; (try simp only [show (k52).sz = 2 from rfl, Nat.mul_one, Nat.add_zero] at hf154_0); have hx154_1 := hcc154 1 _ rfl; (try simp only [show (k52).sz = 2 from rfl, Nat.mul_one, Nat.add_zero] at hx154_1); have hf154_1 := hfr154 1; (try simp only [show (k52).sz = 2 from rfl, Nat.mul_one, Nat.add_zero] at hf154_1); clear hcl154 hcc154 hfr154; (try clear hM154)) | ((with_reducible refine gate_store (t := 52) (p := 95) rfl ?_); refine store_event (t := 52) (p := 95) (v := ?vo_w155) (w1 := ((w153.setCell ⟨go129, (x84_3 : Int).toNat * 2, none⟩ (.bool t274)).setCell ⟨go129, (x84_3 : Int).toNat * 2 + 1, none⟩ (.int .i64 t275))) ?hg ?ho ?hn ?hr ?_; (case ho => rfl); (case hg => rfl); (case hn => rfl); (case hr => first | (go_simp; done) | (go_simp; rfl)); intro w155 hw; have hg : w153.grownBy w155 (some go129) := (by rw [hw]; exact HP154.2); have hp_ : Kd.R k52 52 w155 w.heap.size (fun _ => True) (.slice (some ⟨go129, 0, none⟩) x16_3.length co129) y276 := (by rw [hw, Ny276.out]; exact HP154.1); clear HP154; have n0_ := yA (hp_); have n1_ := yA (Kd.R_over' (v := (.slice (some ⟨go129, 0, none⟩) x16_3.length co129)) (by first | exact HO_82.out | exact Kd.R_drew HO_82.out | exact Kd.R_alloc HO_82.out _) (Kd.R_typed HO_16.out) (by decide) hg); have n2_ := yA (Kd.R_over' (v := (.slice (some ⟨go129, 0, none⟩) x16_3.length co129)) (by first | exact HO_263000.out | exact Kd.R_drew HO_263000.out | exact Kd.R_alloc HO_263000.out _) (Kd.R_typed HO_16.out) (by decide) hg); have n3_ := yA (Kd.S_after (v := (.slice (some ⟨go129, 0, none⟩) x16_3.length co129)) (v1 := (.slice (some ⟨go129, 0, none⟩) x16_3.length co129)) (ok := (fun _ => True)) (by (with_reducible repeat (first | apply Kd.S_alloc | apply Kd.S_drewN | apply Kd.S_drew)); exact Kd.S_mono HO_263001.out (fun _ hk => ⟨trivial, hk⟩)) hg (.inl rfl)); have n4_ := yA (blk_grown (by first | exact BK250.out | exact yI BK250.out _) hg (Kd.R_ne HO_16.out BK250.out (by decide))); have n5_ := yA (blk_grown (by first | exact BK251.out | exact yI BK251.out _) hg (Kd.R_ne HO_16.out BK251.out (by decide))); have n6_ := yA (blk_grown (by first | exact BK252.out | exact yI BK252.out _) hg (Kd.R_ne HO_16.out BK252.out (by decide))); have n7_ := yA (blk_grown (by first | exact BK255.out | exact yI BK255.out _) hg (R_ne_map HO_16.out BK255.out MO255.out)); have n8_ := yA (blk_grown (by first | exact BK256.out | exact yI BK256.out _) hg (R_ne_map HO_16.out BK256.out MO256.out)); have n9_ := yA (blk_grown (by first | exact BK257.out | exact yI BK257.out _) hg (Kd.R_ne HO_16.out BK257.out (by decide))); have n10_ := yA (blk_grown (by first | exact BK258.out | exact yI BK258.out _) hg (Kd.R_ne HO_16.out BK258.out (by decide))); have n11_ := yA (blk_grown (by first | exact BK262.out | exact yI BK262.out _) hg (Kd.R_ne HO_16.out BK262.out (by decide))); have n12_ := yA ((by rw [hw]; exact yJ (yJ (HB.out) GB129.out) GB129.out : Below w.heap.size w w155)); clear HO_16; clear HO_82; clear HO_263000; clear HO_263001; clear BK250; clear BK251; clear BK252; clear BK255; clear BK256; clear BK257; clear BK258; clear BK262; clear HB; have HO_16 := n0_; have HO_82 := n1_; have HO_263000 := n2_; have HO_263001 := n3_; have BK250 := n4_; have BK251 := n5_; have BK252 := n6_; have BK255 := n7_; have BK256 := n8_; have BK257 := n9_; have BK258 := n10_; have BK262 := n11_; have HB := n12_; clear n0_ n1_ n2_ n3_ n4_ n5_ n6_ n7_ n8_ n9_ n10_ n11_ n12_; clear hg hw hp_; have p277 : 0 ≤ (x84_3 : Int) := yN (by first | (with_reducible assumption) | assumption); have q277 : x84_3 < (y276.length : Int) := (by have h_ : (x84_3 : Int) < ((x16_3.length : Int) : Int) := yN (by first | (with_reducible assumption) | assumption); first | (have e_ := (Kd.R_reads' HO_16.out).1; omega) | simpa only [Ny276.out, List.length_set] using h_); have ql277 : ((x84_3 : Int) < ((x16_3.length : Int) : Int)) = True := eq_true (yN (by first | (with_reducible assumption) | assumption)); obtain ⟨ad277, e277, hx277_0, hx277_1⟩ := at_T52 (Kd.R_reads' HO_16.out).2.2 x84_3 p277 q277; (try rw [← Nbq130.out] at hx277_0); obtain rfl : (⟨go129, 0, none⟩ : Addr) = ad277 := (by injection e277); (first | simp only [add_plain] at hx277_0 | simp only [add_at] at hx277_0 | simp only [Addr.add, Nat.zero_add] at hx277_0 | skip); (first | simp only [add_plain] at hx277_1 | simp only [add_at] at hx277_1 | simp only [Addr.add, Nat.zero_add] at hx277_1 | skip); replace p277 := eq_true p277; replace q277 := eq_true q277; have hnb156 := NB257_250.out; have hnc156 := NB250_257.out; have hnb157 := NB257_251.out; have hnc157 := NB251_257.out; have hnb158 := NB257_252.out; have hnc158 := NB252_257.out; have hnb159 := NB257_255.out; have hnc159 := NB255_257.out; have hnb160 := NB257_256.out; have hnc160 := NB256_257.out; have hnb161 := NB257_262.out; have hnc161 := NB262_257.out; have hcz162_0 : w155.cell? ⟨gb257, 0, none⟩ = some (.slice A0_0 l0_0.length c0_0) := (yR BK257.out 0).trans rfl; have hcz162_1 : w155.cell? ⟨gb257, 1, none⟩ = some (.slice A0_1 l0_1.length c0_1) := (yR BK257.out 1).trans rfl; have hcz162_2 : w155.cell? ⟨gb257, 2, none⟩ = some (.map (some gb255)) := (yR BK257.out 2).trans rfl; have hfz162_0 := yS BK257.out 0; have hfz162_1 := yS BK257.out 1; have hfz162_2 := yS BK257.out 2) | ((with_reducible refine yO (f := 42) rfl ?_); refine goesL_ (some 107) rfl rfl Tryd.func42 (by kernel_rfl) rfl #[.agg #[.slice A0_0 l0_0.length c0_0, .slice A0_1 l0_1.length c0_1, .map (some gb255)], .string (rdOf ByteArray.empty x263000_1 x84_3), .int .i64 x74_2] rfl (by (try simp only [List.map_toArray, List.map_cons, List.map_nil]); first | done | rfl | (simp only [List.length_drop, List.length_take]; rfl)) ?_; (with_reducible refine (table_view_cell.calls A0_0 l0_0.length c0_0 A0_1 c0_1 l0_0 l0_1 gb255 _ (rdOf ByteArray.empty x263000_1 x84_3) x74_2 t278 t279 _ (by repeat (first | exact (Kd.C_below HR0_1.out HB.out) | (with_reducible refine Kd.C_alloc ?_ _) | (with_reducible refine Kd.C_drewN ?_ _) | (with_reducible refine Kd.C_drew ?_))) (OC255.out _ (by first | exact BK255.out | exact yI BK255.out _)) A143.out).mono ?_); rintro e w163 ⟨rfl, hb⟩; refine ⟨_, rfl, ?_⟩; have n0_ := yA (Kd.R_below (by first | exact HO_16.out | exact Kd.R_drew HO_16.out | exact Kd.R_alloc HO_16.out _) hb); have n1_ := yA (Kd.R_below (by first | exact HO_82.out | exact Kd.R_drew HO_82.out | exact Kd.R_alloc HO_82.out _) hb); have n2_ := yA (Kd.R_below (by first | exact HO_263000.out | exact Kd.R_drew HO_263000.out | exact Kd.R_alloc HO_263000.out _) hb); have n3_ := yA (Kd.S_below (by first | exact HO_263001.out | exact Kd.S_drew HO_263001.out | exact Kd.S_alloc HO_263001.out _) hb); have n4_ := yA (yC (by first | exact BK250.out | exact yI BK250.out _) hb); have n5_ := yA (yC (by first | exact BK251.out | exact yI BK251.out _) hb); have n6_ := yA (yC (by first | exact BK252.out | exact yI BK252.out _) hb); have n7_ := yA (yC (by first | exact BK255.out | exact yI BK255.out _) hb); have n8_ := yA (yC (by first | exact BK256.out | exact yI BK256.out _) hb); have n9_ := yA (yC (by first | exact BK257.out | exact yI BK257.out _) hb); have n10_ := yA (yC (by first | exact BK258.out | exact yI BK258.out _) hb); have n11_ := yA (yC (by first | exact BK262.out | exact yI BK262.out _) hb); have n12_ := yA (yB (by repeat (first | exact HB.out | apply yE | apply yD | refine yJ ?_ GE252.out | refine yJ ?_ GE262.out)) hb); clear HO_16; clear HO_82; clear HO_263000; clear HO_263001; clear BK250; clear BK251; clear BK252; clear BK255; clear BK256; clear BK257; clear BK258; clear BK262; clear HB; have HO_16 := n0_; have HO_82 := n1_; have HO_263000 := n2_; have HO_263001 := n3_; have BK250 := n4_; have BK251 := n5_; have BK252 := n6_; have BK255 := n7_; have BK256 := n8_; have BK257 := n9_; have BK258 := n10_; have BK262 := n11_; have HB := n12_; clear n0_ n1_ n2_ n3_ n4_ n5_ n6_ n7_ n8_ n9_ n10_ n11_ n12_; (try clear hb); (try clear hb2); (try clear hk); (try clear hi); have p144 : 0 ≤ (x84_3 : Int) := yN (by first | (with_reducible assumption) | assumption); have q144 : (x84_3 : Int) < ((x16_3.length : Int) : Int) := yN (by first | (with_reducible assumption) | assumption); obtain ⟨ce144, hcl144, hM144, hcc144, hfr144⟩ := Kd.R_elem HO_16.out z52 (x84_3 : Int) p144 q144; obtain rfl := k52_openM hM144; have hx144_0 : w163.cell? ⟨go129, (x84_3 : Int).toNat * 2, none⟩ = some (.bool ((rd_T52 y276 x84_3).f0)) := hcc144 0 _ rfl; have hx144_1 : w163.cell? ⟨go129, (x84_3 : Int).toNat * 2 + 1, none⟩ = some (.int .i64 ((rd_T52 y276 x84_3).f1)) := hcc144 1 _ rfl; have hf144_0 : w163.frozen? ⟨go129, (x84_3 : Int).toNat * 2, none⟩ = false := hfr144 0; have hf144_1 : w163.frozen? ⟨go129, (x84_3 : Int).toNat * 2 + 1, none⟩ = false := hfr144 1; clear hcl144 hcc144 hfr144; (try clear hM144); replace p144 := eq_true p144; replace q144 := eq_true q144; have HX164 := yA (show Kd.R k52 52 w163 w.heap.size (fun _ => True) (.slice (some ⟨go129, 0, none⟩) x16_3.length co129) y276 from (by first | exact HO_16.out | exact Kd.R_drew HO_16.out | exact Kd.R_alloc HO_16.out _)); obtain ⟨ce164, hcl164, hM164, hcc164, hfr164⟩ := Kd.R_elem HX164.out z52 (x84_3 : Int) (yN (by first | (with_reducible assumption) | assumption)) (by have h_ : (x84_3 : Int) < ((x16_3.length : Int) : Int) := yN (by first | (with_reducible assumption) | assumption); first | exact h_ | (have e_ := (Kd.R_reads' HO_16.out).1; omega) | simpa using h_); obtain rfl := k52_openM hM164; have HP164 := Kd.R_seg HX164.out (x84_3 : Int) (yN (by first | (with_reducible assumption) | assumption)) (by have h_ : (x84_3 : Int) < ((x16_3.length : Int) : Int) := yN (by first | (with_reducible assumption) | assumption); first | exact h_ | (have e_ := (Kd.R_reads' HO_16.out).1; omega) | simpa using h_) (seg := [.bool t278, .int .i64 t279]) (j := 0) hcl164 hcc164 (show 2 ≤ 2 from by decide) (x' := (⟨t278, t279⟩ : S52)) (k52_mkM _ _ _ (⟨t278, t279⟩ : S52) ) (fun _ hk => hk); have hx164_0 := hcc164 0 _ rfl; (try simp only [show (k52).sz = 2 from rfl, Nat.mul_one, Nat.add_zero] at hx164_0); have hf164_0 := hfr164 0; (try simp only [show (k52).sz = 2 from rfl, Nat.mul_one, Nat.add_zero] at hf164_0); have hx164_1 := hcc164 1 _ rfl; (try simp only [show (k52).sz = 2 from rfl, Nat.mul_one, Nat.add_zero] at hx164_1); have hf164_1 := hfr164 1; (try simp only [show (k52).sz = 2 from rfl, Nat.mul_one, Nat.add_zero] at hf164_1); clear hcl164 hcc164 hfr164; (try clear hM164)) | ((with_reducible refine gate_store (t := 52) (p := 108) rfl ?_); refine store_event (t := 52) (p := 108) (v := ?vo_w165) (w1 := ((w163.setCell ⟨go129, (x84_3 : Int).toNat * 2, none⟩ (.bool t278)).setCell ⟨go129, (x84_3 : Int).toNat * 2 + 1, none⟩ (.int .i64 t279))) ?hg ?ho ?hn ?hr ?_; (case ho => rfl); (case hg => rfl); (case hn => rfl); (case hr => first | (go_simp; done) | (go_simp; rfl)); intro w165 hw; have hg : w163.grownBy w165 (some go129) := (by rw [hw]; exact HP164.2); have hp_ : Kd.R k52 52 w165 w.heap.size (fun _ => True) (.slice (some ⟨go129, 0, none⟩) x16_3.length co129) y280 := (by rw [hw, Ny280.out]; exact HP164.1); clear HP164; have n0_ := yA (hp_); have n1_ := yA (Kd.R_over' (v := (.slice (some ⟨go129, 0, none⟩) x16_3.length co129)) (by first | exact HO_82.out | exact Kd.R_drew HO_82.out | exact Kd.R_alloc HO_82.out _) (Kd.R_typed HO_16.out) (by decide) hg); have n2_ := yA (Kd.R_over' (v := (.slice (some ⟨go129, 0, none⟩) x16_3.length co129)) (by first | exact HO_263000.out | exact Kd.R_drew HO_263000.out | exact Kd.R_alloc HO_263000.out _) (Kd.R_typed HO_16.out) (by decide) hg); have n3_ := yA (Kd.S_after (v := (.slice (some ⟨go129, 0, none⟩) x16_3.length co129)) (v1 := (.slice (some ⟨go129, 0, none⟩) x16_3.length co129)) (ok := (fun _ => True)) (by first | exact HO_263001.out | exact Kd.S_drew HO_263001.out | exact Kd.S_alloc HO_263001.out _) hg (.inl rfl)); have n4_ := yA (blk_grown (by first | exact BK250.out | exact yI BK250.out _) hg (Kd.R_ne HO_16.out BK250.out (by decide))); have n5_ := yA (blk_grown (by first | exact BK251.out | exact yI BK251.out _) hg (Kd.R_ne HO_16.out BK251.out (by decide))); have n6_ := yA (blk_grown (by first | exact BK252.out | exact yI BK252.out _) hg (Kd.R_ne HO_16.out BK252.out (by decide))); have n7_ := yA (blk_grown (by first | exact BK255.out | exact yI BK255.out _) hg (R_ne_map HO_16.out BK255.out MO255.out)); have n8_ := yA (blk_grown (by first | exact BK256.out | exact yI BK256.out _) hg (R_ne_map HO_16.out BK256.out MO256.out)); have n9_ := yA (blk_grown (by first | exact BK257.out | exact yI BK257.out _) hg (Kd.R_ne HO_16.out BK257.out (by decide))); have n10_ := yA (blk_grown (by first | exact BK258.out | exact yI BK258.out _) hg (Kd.R_ne HO_16.out BK258.out (by decide))); have n11_ := yA (blk_grown (by first | exact BK262.out | exact yI BK262.out _) hg (Kd.R_ne HO_16.out BK262.out (by decide))); have n12_ := yA ((by rw [hw]; exact yJ (yJ (HB.out) GB129.out) GB129.out : Below w.heap.size w w165)); clear HO_16; clear HO_82; clear HO_263000; clear HO_263001; clear BK250; clear BK251; clear BK252; clear BK255; clear BK256; clear BK257; clear BK258; clear BK262; clear HB; have HO_16 := n0_; have HO_82 := n1_; have HO_263000 := n2_; have HO_263001 := n3_; have BK250 := n4_; have BK251 := n5_; have BK252 := n6_; have BK255 := n7_; have BK256 := n8_; have BK257 := n9_; have BK258 := n10_; have BK262 := n11_; have HB := n12_; clear n0_ n1_ n2_ n3_ n4_ n5_ n6_ n7_ n8_ n9_ n10_ n11_ n12_; clear hg hw hp_))
                   go_roundg k3
                   case measure => have := HK1.out; have := HK2.out; have := HK3.out; omega
                   case rel => exact ⟨(y280), (wrap64 (x84_3 + 1)), (by first | rfl | (simp; done) | (simp [*]; done)), H', ⟨by have := HK1.out; have := HK2.out; have := HK3.out; omega⟩, ⟨by (with_reducible repeat (first | apply Kd.R_alloc | apply Kd.R_drewN | apply Kd.R_drew)); exact HO_16.out⟩, ⟨by (with_reducible repeat (first | apply Kd.R_alloc | apply Kd.R_drewN | apply Kd.R_drew)); exact HO_82.out⟩, ⟨by (with_reducible repeat (first | apply Kd.R_alloc | apply Kd.R_drewN | apply Kd.R_drew)); exact HO_263000.out⟩, ⟨by (with_reducible repeat (first | apply Kd.S_alloc | apply Kd.S_drewN | apply Kd.S_drew)); exact Kd.S_mono HO_263001.out (fun _ hk => hk.2)⟩, ⟨by (with_reducible repeat (first | refine yG ?_ _ | refine yH ?_ | refine yI ?_ _)); exact BK250.out⟩, ⟨by (with_reducible repeat (first | refine yG ?_ _ | refine yH ?_ | refine yI ?_ _)); exact BK251.out⟩, ⟨by (with_reducible repeat (first | refine yG ?_ _ | refine yH ?_ | refine yI ?_ _)); exact BK252.out⟩, ⟨by (with_reducible repeat (first | refine yG ?_ _ | refine yH ?_ | refine yI ?_ _)); exact BK255.out⟩, ⟨by (with_reducible repeat (first | refine yG ?_ _ | refine yH ?_ | refine yI ?_ _)); exact BK256.out⟩, ⟨by (with_reducible repeat (first | refine yG ?_ _ | refine yH ?_ | refine yI ?_ _)); exact BK257.out⟩, ⟨by (with_reducible repeat (first | refine yG ?_ _ | refine yH ?_ | refine yI ?_ _)); exact BK258.out⟩, ⟨by (with_reducible repeat (first | refine yG ?_ _ | refine yH ?_ | refine yI ?_ _)); exact BK262.out⟩, ⟨by repeat (first | exact HB.out | apply yE | apply yD | refine yJ ?_ GE252.out | refine yJ ?_ GE262.out)⟩⟩
                 ·rw [if_neg c128] at H
                  exact absurd H (by simp)
                ·rw [if_neg c126] at H
                 exact absurd H (by simp)
               ·rw [if_neg c125] at H
                exact absurd H (by simp)
              ·rw [if_neg c124] at H
               have c124b0 : decide (x84_3 < (x263000_1.length : Int)) = false := yM c124
               clear c124
               by_cases c166 : x263001_2.length < 5864062014805
               ·rw [if_pos c166] at H
                have LMc166 := yA c166
                clear c166
                obtain ⟨y270, hy270⟩ : ∃ y_ : List (List (S52)), y_ = (x263001_2 ++ [x16_3]) := ⟨_, rfl⟩
                replace H : (table_Overlay.l1 k3 ji87 (wrap64 (x74_2 + 1)) l0_0 l0_1 l1_0 l1_1 x263000_1 y270) = some (r1, r2, r3) := by first | (rw [hy270]; with_reducible exact H) | (have H2_ := (Option.bind_some _ _).symm.trans H; rw [hy270]; with_reducible exact H2_) | (have H2_ := (Option.bind_some _ _).symm.trans H; with_reducible exact H2_) | with_reducible exact H | (rw [hy270]; exact H) | exact H
                have Ny270 := yA hy270
                clear hy270
                have H' := yA H
                clear H
                have hnb167 := NB262_250.out
                have hnc167 := NB250_262.out
                have hnb168 := NB262_251.out
                have hnc168 := NB251_262.out
                have hnb169 := NB262_252.out
                have hnc169 := NB252_262.out
                have hnb170 := NB262_255.out
                have hnc170 := NB255_262.out
                have hnb171 := NB262_256.out
                have hnc171 := NB256_262.out
                have hnb172 := NB262_257.out
                have hnc172 := NB257_262.out
                have hnb173 := NB262_258.out
                have hnc173 := NB258_262.out
                have hcz174_0 : wr.cell? ⟨gb262, 0, none⟩ = some (.slice Ao96 x263000_1.length co96) := (yR BK262.out 0).trans rfl
                have hcz174_1 : wr.cell? ⟨gb262, 1, none⟩ = some (u263001) := (yR BK262.out 1).trans rfl
                have hfz174_0 := yS BK262.out 0
                have hfz174_1 := yS BK262.out 1
                obtain ⟨Ao176, co176, eo176⟩ := Kd.R_slice HO_16.out
                subst eo176
                go_wp2_with (first | ((with_reducible refine gate_builtin (b := .append) (xs := #[.tmp 111, .tmp 113]) rfl ?_); at_builtin; refine Kd.S_append (Kd.slice 52 k52) (w0 := w) w.heap.size rfl (.tmp 111) (.tmp 113) 23 54 (.slice none 0 0) 24 rfl Tryd.underlying23 info54 rfl (by decide) (by omega) u263001 x263001_2 x16_3 [.slice Ao176 x16_3.length co176] (fun _ => True) (fun k_ => some k_ = (.slice Ao176 x16_3.length co176 : Value).ownBlock) rfl rfl ?aP (fun k_ hk_ => ((Kd.R_mono (ok' := fun k_ => ((fun _ => True)) k_ ∧ some k_ ≠ (u263001 : Value).ownBlock) (Kd.R_apart' (HO_16.out) (Kd.S_typed HO_263001.out) (by decide)) (fun k_ hk => ⟨trivial, hk.2⟩))).1 k_ hk_.symm) ?aF ?aO ?aB ?aS ?aL ?_; (case aP => exact Kd.M_row (Kd.R_mono (Kd.R_tight rfl (Kd.R_mono (ok' := fun k_ => ((fun _ => True)) k_ ∧ some k_ ≠ (u263001 : Value).ownBlock) (Kd.R_apart' (HO_16.out) (Kd.S_typed HO_263001.out) (by decide)) (fun k_ hk => ⟨trivial, hk.2⟩))) (fun _ h_ => h_))); (case aB => exact (by repeat (first | exact HB.out | apply yE | apply yD | refine yJ ?_ GE252.out | refine yJ ?_ GE262.out))); (case aF => exact (fun _ _ => trivial)); (case aO => exact (by (with_reducible repeat (first | apply Kd.S_alloc | apply Kd.S_drewN | apply Kd.S_drew)); exact Kd.S_mono HO_263001.out (fun k_ hk => ⟨trivial, fun e_ => hk e_⟩))); (case aS => exact (below_size (by repeat (first | exact HB.out | apply yE | apply yD | refine yJ ?_ GE252.out | refine yJ ?_ GE262.out)))); (case aL => have := LMc166.out; omega); intro v271 w175 ho hb hg hat; rw [← Ny270.out] at ho; have n0_ := yA (Kd.R_over' (by first | exact HO_82.out | exact Kd.R_drew HO_82.out | exact Kd.R_alloc HO_82.out _) (Kd.S_typed (by first | exact HO_263001.out | exact Kd.S_drew HO_263001.out | exact Kd.S_alloc HO_263001.out _)) (by decide) hg); have n1_ := yA (Kd.R_over' (by first | exact HO_263000.out | exact Kd.R_drew HO_263000.out | exact Kd.R_alloc HO_263000.out _) (Kd.S_typed (by first | exact HO_263001.out | exact Kd.S_drew HO_263001.out | exact Kd.S_alloc HO_263001.out _)) (by decide) hg); have n2_ := yA (blk_grown (by first | exact BK250.out | exact yI BK250.out _) hg (Kd.S_ne HO_263001.out BK250.out (by decide))); have n3_ := yA (blk_grown (by first | exact BK251.out | exact yI BK251.out _) hg (Kd.S_ne HO_263001.out BK251.out (by decide))); have n4_ := yA (blk_grown (by first | exact BK252.out | exact yI BK252.out _) hg (Kd.S_ne HO_263001.out BK252.out (by decide))); have n5_ := yA (blk_grown (by first | exact BK255.out | exact yI BK255.out _) hg (S_ne_map HO_263001.out BK255.out MO255.out)); have n6_ := yA (blk_grown (by first | exact BK256.out | exact yI BK256.out _) hg (S_ne_map HO_263001.out BK256.out MO256.out)); have n7_ := yA (blk_grown (by first | exact BK257.out | exact yI BK257.out _) hg (Kd.S_ne HO_263001.out BK257.out (by decide))); have n8_ := yA (blk_grown (by first | exact BK258.out | exact yI BK258.out _) hg (Kd.S_ne HO_263001.out BK258.out (by decide))); have n9_ := yA (blk_grown (by first | exact BK262.out | exact yI BK262.out _) hg (Kd.S_ne HO_263001.out BK262.out (by decide))); have n10_ := yA (hb); have n11_ := yA (ho); clear HO_82; clear HO_263000; clear BK250; clear BK251; clear BK252; clear BK255; clear BK256; clear BK257; clear BK258; clear BK262; clear HB; clear HO_263001; clear HO_16; have HO_82 := n0_; have HO_263000 := n1_; have BK250 := n2_; have BK251 := n3_; have BK252 := n4_; have BK255 := n5_; have BK256 := n6_; have BK257 := n7_; have BK258 := n8_; have BK262 := n9_; have HB := n10_; have HO272 := n11_; clear n0_ n1_ n2_ n3_ n4_ n5_ n6_ n7_ n8_ n9_ n10_ n11_; clear ho hb hg hat; obtain ⟨Ao177, co177, eo177⟩ := Kd.S_slice HO272.out; subst eo177; have hcz178_0 : w175.cell? ⟨gb262, 0, none⟩ = some (.slice Ao96 x263000_1.length co96) := (yR BK262.out 0).trans rfl; have hcz178_1 : w175.cell? ⟨gb262, 1, none⟩ = some (u263001) := (yR BK262.out 1).trans rfl; have hfz178_0 := yS BK262.out 0; have hfz178_1 := yS BK262.out 1))
                go_roundg k3
                case measure => have := HK1.out; have := HK2.out; have := HK3.out; omega
                case rel => exact ⟨(wrap64 (x74_2 + 1)), (y270), (.slice Ao177 y270.length co177), (by first | rfl | (simp; done) | (simp [*]; done)), H', ⟨by have := HK1.out; have := HK2.out; have := HK3.out; omega⟩, ⟨by (with_reducible repeat (first | apply Kd.R_alloc | apply Kd.R_drewN | apply Kd.R_drew)); exact Kd.R_mono (Kd.R_far (p := ⟨gb262, 1, none⟩) (Kd.R_types HO_263000.out BK262.out (by decide)) (fun _ hk => hk.2) (.slice Ao177 y270.length co177)) (fun _ hk => trivial)⟩, ⟨by (with_reducible repeat (first | apply Kd.S_alloc | apply Kd.S_drewN | apply Kd.S_drew)); exact Kd.S_mono (Kd.S_far (p := ⟨gb262, 1, none⟩) (Kd.S_types HO272.out BK262.out (by decide)) (fun _ hk => hk.2) (.slice Ao177 y270.length co177)) (fun _ hk => trivial)⟩, ⟨by (with_reducible repeat (first | refine yG ?_ _ | refine yH ?_ | refine yI ?_ _)); refine blk_far ?_ NB250_262.out _; (with_reducible repeat (first | refine yG ?_ _ | refine yH ?_ | refine yI ?_ _)); exact BK250.out⟩, ⟨by (with_reducible repeat (first | refine yG ?_ _ | refine yH ?_ | refine yI ?_ _)); refine blk_far ?_ NB251_262.out _; (with_reducible repeat (first | refine yG ?_ _ | refine yH ?_ | refine yI ?_ _)); exact BK251.out⟩, ⟨by (with_reducible repeat (first | refine yG ?_ _ | refine yH ?_ | refine yI ?_ _)); refine blk_far ?_ NB252_262.out _; (with_reducible repeat (first | refine yG ?_ _ | refine yH ?_ | refine yI ?_ _)); exact BK252.out⟩, ⟨by (with_reducible repeat (first | refine yG ?_ _ | refine yH ?_ | refine yI ?_ _)); refine blk_farO ?_ NB255_262.out _; (with_reducible repeat (first | refine yG ?_ _ | refine yH ?_ | refine yI ?_ _)); exact BK255.out⟩, ⟨by (with_reducible repeat (first | refine yG ?_ _ | refine yH ?_ | refine yI ?_ _)); refine blk_farO ?_ NB256_262.out _; (with_reducible repeat (first | refine yG ?_ _ | refine yH ?_ | refine yI ?_ _)); exact BK256.out⟩, ⟨by (with_reducible repeat (first | refine yG ?_ _ | refine yH ?_ | refine yI ?_ _)); refine blk_far ?_ NB257_262.out _; (with_reducible repeat (first | refine yG ?_ _ | refine yH ?_ | refine yI ?_ _)); exact BK257.out⟩, ⟨by (with_reducible repeat (first | refine yG ?_ _ | refine yH ?_ | refine yI ?_ _)); refine blk_far ?_ NB258_262.out _; (with_reducible repeat (first | refine yG ?_ _ | refine yH ?_ | refine yI ?_ _)); exact BK258.out⟩, ⟨by (with_reducible repeat (first | refine yG ?_ _ | refine yH ?_ | refine yI ?_ _)); refine blk_put (cs := #[.slice Ao96 x263000_1.length co96, u263001]) ?_ 1 _ rfl; (with_reducible repeat (first | refine yG ?_ _ | refine yH ?_ | refine yI ?_ _)); exact BK262.out⟩, ⟨by repeat (first | exact HB.out | apply yE | apply yD | refine yJ ?_ GE252.out | refine yJ ?_ GE262.out)⟩⟩
               ·rw [if_neg c166] at H
                exact absurd H (by simp)
           ·rw [if_neg c112] at H
            exact absurd H (by simp)
          ·rw [if_neg c111] at H
           exact absurd H (by simp)
         ·rw [if_neg c110] at H
          have c110b0 : decide (x74_2 < ji87) = false := yM c110
          clear c110
          simp only [Option.some.injEq, Prod.mk.injEq] at H
          obtain ⟨rfl, rfl, rfl⟩ := H
          have hnb179 := NB262_250.out
          have hnc179 := NB250_262.out
          have hnb180 := NB262_251.out
          have hnc180 := NB251_262.out
          have hnb181 := NB262_252.out
          have hnc181 := NB252_262.out
          have hnb182 := NB262_255.out
          have hnc182 := NB255_262.out
          have hnb183 := NB262_256.out
          have hnc183 := NB256_262.out
          have hnb184 := NB262_257.out
          have hnc184 := NB257_262.out
          have hnb185 := NB262_258.out
          have hnc185 := NB258_262.out
          have hcz186_0 : wr.cell? ⟨gb262, 0, none⟩ = some (.slice Ao96 x263000_1.length co96) := (yR BK262.out 0).trans rfl
          have hcz186_1 : wr.cell? ⟨gb262, 1, none⟩ = some (u263001) := (yR BK262.out 1).trans rfl
          have hfz186_0 := yS BK262.out 0
          have hfz186_1 := yS BK262.out 1
          have hnb187 := NB252_250.out
          have hnc187 := NB250_252.out
          have hnb188 := NB252_251.out
          have hnc188 := NB251_252.out
          have hnb189 := NB252_255.out
          have hnc189 := NB255_252.out
          have hnb190 := NB252_256.out
          have hnc190 := NB256_252.out
          have hnb191 := NB252_257.out
          have hnc191 := NB257_252.out
          have hnb192 := NB252_258.out
          have hnc192 := NB258_252.out
          have hcz193_0 : wr.cell? ⟨gb252, 0, none⟩ = some (.slice none 0 0) := (yR BK252.out 0).trans rfl
          have hcz193_1 : wr.cell? ⟨gb252, 1, none⟩ = some (.slice none 0 0) := (yR BK252.out 1).trans rfl
          have hfz193_0 := yS BK252.out 0
          have hfz193_1 := yS BK252.out 1
          obtain ⟨Ao194, co194, eo194⟩ := Kd.S_slice HO_263001.out
          subst eo194
          go_wp2
          refine bodyPost_ret (results_ct rfl _ _ gb252 25 #[.slice Ao96 x263000_1.length co96, .slice Ao194 x263001_2.length co194] (0, 0) _ rfl (by (with_reducible repeat (first | refine yG ?_ _ | refine yH ?_ | refine yI ?_ _)); refine blk_put (cs := #[.slice Ao96 x263000_1.length co96, .slice none 0 0]) ?_ 1 _ rfl; (with_reducible repeat (first | refine yG ?_ _ | refine yH ?_ | refine yI ?_ _)); refine blk_put (cs := #[.slice none 0 0, .slice none 0 0]) ?_ 0 _ rfl; (with_reducible repeat (first | refine yG ?_ _ | refine yH ?_ | refine yI ?_ _)); exact BK252.out) Tryd.underlying25 rfl (by kernel_rfl)) rfl ?_
          exact ⟨_, _, by first | rfl | (simp [errW_none, errW_some] <;> rfl) | (simp only [← hji87]; first | rfl | (simp [errW_none, errW_some] <;> rfl)) | (simp [*, errW_none, errW_some] <;> rfl), by (with_reducible repeat (first | apply Kd.R_alloc | apply Kd.R_drewN | apply Kd.R_drew)); exact Kd.R_mono (Kd.R_far (p := ⟨gb252, 1, none⟩) (Kd.R_far (p := ⟨gb252, 0, none⟩) (Kd.R_types HO_263000.out BK252.out (by decide)) (fun _ hk => hk.2) (.slice Ao96 x263000_1.length co96)) (fun _ hk => hk.2) (.slice Ao194 x263001_2.length co194)) (fun _ hk => trivial), by (with_reducible repeat (first | apply Kd.S_alloc | apply Kd.S_drewN | apply Kd.S_drew)); exact Kd.S_mono (Kd.S_far (p := ⟨gb252, 1, none⟩) (Kd.S_far (p := ⟨gb252, 0, none⟩) (Kd.S_types HO_263001.out BK252.out (by decide)) (fun _ hk => hk.2) (.slice Ao96 x263000_1.length co96)) (fun _ hk => hk.2) (.slice Ao194 x263001_2.length co194)) (fun _ hk => trivial), by repeat (first | exact HB.out | apply yE | apply yD | refine yJ ?_ GE252.out | refine yJ ?_ GE262.out)⟩
  ·rw [if_neg c6] at H
   have c6b0 : (t254 == 0) = false := beq_eq_false_iff_ne.mpr c6
   have c6b1 : (t254 != 0) = true := bne_iff_ne.mpr c6
   simp only [Option.some.injEq, Prod.mk.injEq] at H
   obtain ⟨rfl, rfl, rfl⟩ := H
   go_enter Tryd.func37, Tryd.ntmps37
   go_wp2_with (first | ((with_reducible refine yP (N := 2) rfl ?_); refine yQ ?hg (N := 2) ?hd (cs := #[.slice A0_0 l0_0.length c0_0, .slice A0_1 l0_1.length c0_1]) (t := 25) ?hr ?_; (case hd => rfl); (case hg => rfl); (case hr => first | (go_simp; done) | (go_simp; rfl)); intro gb250 hg w195 hbox hb; have n0_ := yA (yB (by repeat (first | exact HB.out | apply yE | apply yD)) hb); have n1_ := yA (hbox); have n2_ := yA ((by rw [hg]; exact (below_size (by repeat (first | exact HB.out | apply yE | apply yD))) : w.heap.size ≤ gb250)); have n3_ := yA ((by rw [hg]; exact (below_size (by repeat (first | exact HB.out | apply yE | apply yD))) : w.heap.size ≤ gb250)); clear HB; have HB := n0_; have BK250 := n1_; have GW250 := n2_; have GE250 := n3_; clear n0_ n1_ n2_ n3_; clear hb hbox hg) | ((with_reducible refine yP (N := 3) rfl ?_); refine yQ ?hg (N := 3) ?hd (cs := #[.slice A1_0 l1_0.length c1_0, .slice A1_1 l1_1.length c1_1]) (t := 25) ?hr ?_; (case hd => rfl); (case hg => rfl); (case hr => first | (go_simp; done) | (go_simp; rfl)); intro gb251 hg w196 hbox hb; have n0_ := yA (yC (by first | exact BK250.out | exact yI BK250.out _) hb); have n1_ := yA (yB (by repeat (first | exact HB.out | apply yE | apply yD)) hb); have n2_ := yA (hbox); have n3_ := yA ((by rw [hg]; exact (below_size (by repeat (first | exact HB.out | apply yE | apply yD))) : w.heap.size ≤ gb251)); have n4_ := yA ((by rw [hg]; exact (below_size (by repeat (first | exact HB.out | apply yE | apply yD))) : w.heap.size ≤ gb251)); have n5_ := yA ((by rw [hg]; exact Nat.ne_of_lt (blk_lt (by first | exact BK250.out | exact yI BK250.out _)) : gb250 ≠ gb251)); have n6_ := yA ((by rw [hg]; exact Nat.ne_of_gt (blk_lt (by first | exact BK250.out | exact yI BK250.out _)) : gb251 ≠ gb250)); clear BK250; clear HB; have BK250 := n0_; have HB := n1_; have BK251 := n2_; have GW251 := n3_; have GE251 := n4_; have NB250_251 := n5_; have NB251_250 := n6_; clear n0_ n1_ n2_ n3_ n4_ n5_ n6_; clear hb hbox hg) | ((with_reducible refine yP (N := 4) rfl ?_); refine yQ ?hg (N := 4) ?hd (cs := #[.slice none 0 0, .slice none 0 0]) (t := 25) ?hr ?_; (case hd => rfl); (case hg => rfl); (case hr => first | (go_simp; done) | (go_simp; rfl)); intro gb252 hg w197 hbox hb; have n0_ := yA (yC (by first | exact BK250.out | exact yI BK250.out _) hb); have n1_ := yA (yC (by first | exact BK251.out | exact yI BK251.out _) hb); have n2_ := yA (yB (by repeat (first | exact HB.out | apply yE | apply yD)) hb); have n3_ := yA (hbox); have n4_ := yA ((by rw [hg]; exact (below_size (by repeat (first | exact HB.out | apply yE | apply yD))) : w.heap.size ≤ gb252)); have n5_ := yA ((by rw [hg]; exact (below_size (by repeat (first | exact HB.out | apply yE | apply yD))) : w.heap.size ≤ gb252)); have n6_ := yA ((by rw [hg]; exact Nat.ne_of_lt (blk_lt (by first | exact BK250.out | exact yI BK250.out _)) : gb250 ≠ gb252)); have n7_ := yA ((by rw [hg]; exact Nat.ne_of_gt (blk_lt (by first | exact BK250.out | exact yI BK250.out _)) : gb252 ≠ gb250)); have n8_ := yA ((by rw [hg]; exact Nat.ne_of_lt (blk_lt (by first | exact BK251.out | exact yI BK251.out _)) : gb251 ≠ gb252)); have n9_ := yA ((by rw [hg]; exact Nat.ne_of_gt (blk_lt (by first | exact BK251.out | exact yI BK251.out _)) : gb252 ≠ gb251)); clear BK250; clear BK251; clear HB; have BK250 := n0_; have BK251 := n1_; have HB := n2_; have BK252 := n3_; have GW252 := n4_; have GE252 := n5_; have NB250_252 := n6_; have NB252_250 := n7_; have NB251_252 := n8_; have NB252_251 := n9_; clear n0_ n1_ n2_ n3_ n4_ n5_ n6_ n7_ n8_ n9_; clear hb hbox hg; have hnb198 := NB250_251.out; have hnc198 := NB251_250.out; have hnb199 := NB250_252.out; have hnc199 := NB252_250.out; have hcz200_0 : w197.cell? ⟨gb250, 0, none⟩ = some (.slice A0_0 l0_0.length c0_0) := (yR BK250.out 0).trans rfl; have hcz200_1 : w197.cell? ⟨gb250, 1, none⟩ = some (.slice A0_1 l0_1.length c0_1) := (yR BK250.out 1).trans rfl; have hfz200_0 := yS BK250.out 0; have hfz200_1 := yS BK250.out 1) | ((with_reducible refine yO (f := 20) rfl ?_); refine goesL_ (some 20) rfl rfl Tryd.func20 (by kernel_rfl) rfl #[.agg #[.slice A0_0 l0_0.length c0_0, .slice A0_1 l0_1.length c0_1]] rfl (by (try simp only [List.map_toArray, List.map_cons, List.map_nil]); first | done | rfl | (simp only [List.length_drop, List.length_take]; rfl)) ?_; (with_reducible refine (table_Valid.calls k _ _ l0_0 _ _ l0_1 t253 _ ?side1 ?side2 ?side3 ?side4 A3.out).mono ?_); (case side1 => repeat (first | exact (Kd.C_below HR0_0.out HB.out) | (with_reducible refine Kd.C_alloc ?_ _) | (with_reducible refine Kd.C_drewN ?_ _) | (with_reducible refine Kd.C_drew ?_))); (case side2 => exact HC0_0.out); (case side3 => repeat (first | exact (Kd.C_below HR0_1.out HB.out) | (with_reducible refine Kd.C_alloc ?_ _) | (with_reducible refine Kd.C_drewN ?_ _) | (with_reducible refine Kd.C_drew ?_))); (case side4 => exact HC0_1.out); rintro e w201 ⟨rfl, hb⟩; refine ⟨_, rfl, ?_⟩; have n0_ := yA (yC (by first | exact BK250.out | exact yI BK250.out _) hb); have n1_ := yA (yC (by first | exact BK251.out | exact yI BK251.out _) hb); have n2_ := yA (yC (by first | exact BK252.out | exact yI BK252.out _) hb); have n3_ := yA (yB (by repeat (first | exact HB.out | apply yE | apply yD | refine yJ ?_ GE252.out)) hb); clear BK250; clear BK251; clear BK252; clear HB; have BK250 := n0_; have BK251 := n1_; have BK252 := n2_; have HB := n3_; clear n0_ n1_ n2_ n3_; (try clear hb); (try clear hb2); (try clear hk); (try clear hi); have hnb202 := NB251_252.out; have hnc202 := NB252_251.out; have hcz203_0 : w201.cell? ⟨gb251, 0, none⟩ = some (.slice A1_0 l1_0.length c1_0) := (yR BK251.out 0).trans rfl; have hcz203_1 : w201.cell? ⟨gb251, 1, none⟩ = some (.slice A1_1 l1_1.length c1_1) := (yR BK251.out 1).trans rfl; have hfz203_0 := yS BK251.out 0; have hfz203_1 := yS BK251.out 1) | ((with_reducible refine yO (f := 20) rfl ?_); refine goesL_ (some 26) rfl rfl Tryd.func20 (by kernel_rfl) rfl #[.agg #[.slice A1_0 l1_0.length c1_0, .slice A1_1 l1_1.length c1_1]] rfl (by (try simp only [List.map_toArray, List.map_cons, List.map_nil]); first | done | rfl | (simp only [List.length_drop, List.length_take]; rfl)) ?_; (with_reducible refine (table_Valid.calls k _ _ l1_0 _ _ l1_1 t254 _ ?side1 ?side2 ?side3 ?side4 A5.out).mono ?_); (case side1 => repeat (first | exact (Kd.C_below HR1_0.out HB.out) | (with_reducible refine Kd.C_alloc ?_ _) | (with_reducible refine Kd.C_drewN ?_ _) | (with_reducible refine Kd.C_drew ?_))); (case side2 => exact HC1_0.out); (case side3 => repeat (first | exact (Kd.C_below HR1_1.out HB.out) | (with_reducible refine Kd.C_alloc ?_ _) | (with_reducible refine Kd.C_drewN ?_ _) | (with_reducible refine Kd.C_drew ?_))); (case side4 => exact HC1_1.out); rintro e w204 ⟨rfl, hb⟩; refine ⟨_, rfl, ?_⟩; have n0_ := yA (yC (by first | exact BK250.out | exact yI BK250.out _) hb); have n1_ := yA (yC (by first | exact BK251.out | exact yI BK251.out _) hb); have n2_ := yA (yC (by first | exact BK252.out | exact yI BK252.out _) hb); have n3_ := yA (yB (by repeat (first | exact HB.out | apply yE | apply yD | refine yJ ?_ GE252.out)) hb); clear BK250; clear BK251; clear BK252; clear HB; have BK250 := n0_; have BK251 := n1_; have BK252 := n2_; have HB := n3_; clear n0_ n1_ n2_ n3_; (try clear hb); (try clear hb2); (try clear hk); (try clear hi); have hcz205_0 : w204.cell? ⟨gb252, 0, none⟩ = some (.slice none 0 0) := (yR BK252.out 0).trans rfl; have hcz205_1 : w204.cell? ⟨gb252, 1, none⟩ = some (.slice none 0 0) := (yR BK252.out 1).trans rfl; have hfz205_0 := yS BK252.out 0; have hfz205_1 := yS BK252.out 1))
   refine bodyPost_ret (results_ct rfl _ _ gb252 25 #[.slice none 0 0, .slice none 0 0] (0, 0) _ rfl (by (with_reducible repeat (first | refine yG ?_ _ | refine yH ?_ | refine yI ?_ _)); refine blk_put (cs := #[.slice none 0 0, .slice none 0 0]) ?_ 1 _ rfl; (with_reducible repeat (first | refine yG ?_ _ | refine yH ?_ | refine yI ?_ _)); refine blk_put (cs := #[.slice none 0 0, .slice none 0 0]) ?_ 0 _ rfl; (with_reducible repeat (first | refine yG ?_ _ | refine yH ?_ | refine yI ?_ _)); exact BK252.out) Tryd.underlying25 rfl (by kernel_rfl)) rfl ?_
   exact ⟨_, _, by first | rfl | (simp [errW_none, errW_some] <;> rfl) | (simp [*, errW_none, errW_some] <;> rfl), by first | exact Kd.R_nil _ _ _ _ _ | exact Kd.N_nil _ _ _ _ _ | exact Kd.V_nil _ _ _ _ _ | exact Kd.Q_nil _ _ _ _ _ | exact Kd.S_nil _ _ _ _ _, by first | exact Kd.S_nil _ _ _ _ _ | exact Kd.N_nil _ _ _ _ _ | exact Kd.V_nil _ _ _ _ _ | exact Kd.Q_nil _ _ _ _ _ | exact Kd.R_nil _ _ _ _ _, by repeat (first | exact HB.out | apply yE | apply yD | refine yJ ?_ GE252.out)⟩
 ·rw [if_neg c4] at H
  have c4b0 : (t253 == 0) = false := beq_eq_false_iff_ne.mpr c4
  have c4b1 : (t253 != 0) = true := bne_iff_ne.mpr c4
  simp only [Option.some.injEq, Prod.mk.injEq] at H
  obtain ⟨rfl, rfl, rfl⟩ := H
  go_enter Tryd.func37, Tryd.ntmps37
  go_wp2_with (first | ((with_reducible refine yP (N := 2) rfl ?_); refine yQ ?hg (N := 2) ?hd (cs := #[.slice A0_0 l0_0.length c0_0, .slice A0_1 l0_1.length c0_1]) (t := 25) ?hr ?_; (case hd => rfl); (case hg => rfl); (case hr => first | (go_simp; done) | (go_simp; rfl)); intro gb250 hg w206 hbox hb; have n0_ := yA (yB (by repeat (first | exact HB.out | apply yE | apply yD)) hb); have n1_ := yA (hbox); have n2_ := yA ((by rw [hg]; exact (below_size (by repeat (first | exact HB.out | apply yE | apply yD))) : w.heap.size ≤ gb250)); have n3_ := yA ((by rw [hg]; exact (below_size (by repeat (first | exact HB.out | apply yE | apply yD))) : w.heap.size ≤ gb250)); clear HB; have HB := n0_; have BK250 := n1_; have GW250 := n2_; have GE250 := n3_; clear n0_ n1_ n2_ n3_; clear hb hbox hg) | ((with_reducible refine yP (N := 3) rfl ?_); refine yQ ?hg (N := 3) ?hd (cs := #[.slice A1_0 l1_0.length c1_0, .slice A1_1 l1_1.length c1_1]) (t := 25) ?hr ?_; (case hd => rfl); (case hg => rfl); (case hr => first | (go_simp; done) | (go_simp; rfl)); intro gb251 hg w207 hbox hb; have n0_ := yA (yC (by first | exact BK250.out | exact yI BK250.out _) hb); have n1_ := yA (yB (by repeat (first | exact HB.out | apply yE | apply yD)) hb); have n2_ := yA (hbox); have n3_ := yA ((by rw [hg]; exact (below_size (by repeat (first | exact HB.out | apply yE | apply yD))) : w.heap.size ≤ gb251)); have n4_ := yA ((by rw [hg]; exact (below_size (by repeat (first | exact HB.out | apply yE | apply yD))) : w.heap.size ≤ gb251)); have n5_ := yA ((by rw [hg]; exact Nat.ne_of_lt (blk_lt (by first | exact BK250.out | exact yI BK250.out _)) : gb250 ≠ gb251)); have n6_ := yA ((by rw [hg]; exact Nat.ne_of_gt (blk_lt (by first | exact BK250.out | exact yI BK250.out _)) : gb251 ≠ gb250)); clear BK250; clear HB; have BK250 := n0_; have HB := n1_; have BK251 := n2_; have GW251 := n3_; have GE251 := n4_; have NB250_251 := n5_; have NB251_250 := n6_; clear n0_ n1_ n2_ n3_ n4_ n5_ n6_; clear hb hbox hg) | ((with_reducible refine yP (N := 4) rfl ?_); refine yQ ?hg (N := 4) ?hd (cs := #[.slice none 0 0, .slice none 0 0]) (t := 25) ?hr ?_; (case hd => rfl); (case hg => rfl); (case hr => first | (go_simp; done) | (go_simp; rfl)); intro gb252 hg w208 hbox hb; have n0_ := yA (yC (by first | exact BK250.out | exact yI BK250.out _) hb); have n1_ := yA (yC (by first | exact BK251.out | exact yI BK251.out _) hb); have n2_ := yA (yB (by repeat (first | exact HB.out | apply yE | apply yD)) hb); have n3_ := yA (hbox); have n4_ := yA ((by rw [hg]; exact (below_size (by repeat (first | exact HB.out | apply yE | apply yD))) : w.heap.size ≤ gb252)); have n5_ := yA ((by rw [hg]; exact (below_size (by repeat (first | exact HB.out | apply yE | apply yD))) : w.heap.size ≤ gb252)); have n6_ := yA ((by rw [hg]; exact Nat.ne_of_lt (blk_lt (by first | exact BK250.out | exact yI BK250.out _)) : gb250 ≠ gb252)); have n7_ := yA ((by rw [hg]; exact Nat.ne_of_gt (blk_lt (by first | exact BK250.out | exact yI BK250.out _)) : gb252 ≠ gb250)); have n8_ := yA ((by rw [hg]; exact Nat.ne_of_lt (blk_lt (by first | exact BK251.out | exact yI BK251.out _)) : gb251 ≠ gb252)); have n9_ := yA ((by rw [hg]; exact Nat.ne_of_gt (blk_lt (by first | exact BK251.out | exact yI BK251.out _)) : gb252 ≠ gb251)); clear BK250; clear BK251; clear HB; have BK250 := n0_; have BK251 := n1_; have HB := n2_; have BK252 := n3_; have GW252 := n4_; have GE252 := n5_; have NB250_252 := n6_; have NB252_250 := n7_; have NB251_252 := n8_; have NB252_251 := n9_; clear n0_ n1_ n2_ n3_ n4_ n5_ n6_ n7_ n8_ n9_; clear hb hbox hg; have hnb209 := NB250_251.out; have hnc209 := NB251_250.out; have hnb210 := NB250_252.out; have hnc210 := NB252_250.out; have hcz211_0 : w208.cell? ⟨gb250, 0, none⟩ = some (.slice A0_0 l0_0.length c0_0) := (yR BK250.out 0).trans rfl; have hcz211_1 : w208.cell? ⟨gb250, 1, none⟩ = some (.slice A0_1 l0_1.length c0_1) := (yR BK250.out 1).trans rfl; have hfz211_0 := yS BK250.out 0; have hfz211_1 := yS BK250.out 1) | ((with_reducible refine yO (f := 20) rfl ?_); refine goesL_ (some 20) rfl rfl Tryd.func20 (by kernel_rfl) rfl #[.agg #[.slice A0_0 l0_0.length c0_0, .slice A0_1 l0_1.length c0_1]] rfl (by (try simp only [List.map_toArray, List.map_cons, List.map_nil]); first | done | rfl | (simp only [List.length_drop, List.length_take]; rfl)) ?_; (with_reducible refine (table_Valid.calls k _ _ l0_0 _ _ l0_1 t253 _ ?side1 ?side2 ?side3 ?side4 A3.out).mono ?_); (case side1 => repeat (first | exact (Kd.C_below HR0_0.out HB.out) | (with_reducible refine Kd.C_alloc ?_ _) | (with_reducible refine Kd.C_drewN ?_ _) | (with_reducible refine Kd.C_drew ?_))); (case side2 => exact HC0_0.out); (case side3 => repeat (first | exact (Kd.C_below HR0_1.out HB.out) | (with_reducible refine Kd.C_alloc ?_ _) | (with_reducible refine Kd.C_drewN ?_ _) | (with_reducible refine Kd.C_drew ?_))); (case side4 => exact HC0_1.out); rintro e w212 ⟨rfl, hb⟩; refine ⟨_, rfl, ?_⟩; have n0_ := yA (yC (by first | exact BK250.out | exact yI BK250.out _) hb); have n1_ := yA (yC (by first | exact BK251.out | exact yI BK251.out _) hb); have n2_ := yA (yC (by first | exact BK252.out | exact yI BK252.out _) hb); have n3_ := yA (yB (by repeat (first | exact HB.out | apply yE | apply yD | refine yJ ?_ GE252.out)) hb); clear BK250; clear BK251; clear BK252; clear HB; have BK250 := n0_; have BK251 := n1_; have BK252 := n2_; have HB := n3_; clear n0_ n1_ n2_ n3_; (try clear hb); (try clear hb2); (try clear hk); (try clear hi); have hnb213 := NB252_251.out; have hnc213 := NB251_252.out; have hcz214_0 : w212.cell? ⟨gb252, 0, none⟩ = some (.slice none 0 0) := (yR BK252.out 0).trans rfl; have hcz214_1 : w212.cell? ⟨gb252, 1, none⟩ = some (.slice none 0 0) := (yR BK252.out 1).trans rfl; have hfz214_0 := yS BK252.out 0; have hfz214_1 := yS BK252.out 1))
  refine bodyPost_ret (results_ct rfl _ _ gb252 25 #[.slice none 0 0, .slice none 0 0] (0, 0) _ rfl (by (with_reducible repeat (first | refine yG ?_ _ | refine yH ?_ | refine yI ?_ _)); refine blk_put (cs := #[.slice none 0 0, .slice none 0 0]) ?_ 1 _ rfl; (with_reducible repeat (first | refine yG ?_ _ | refine yH ?_ | refine yI ?_ _)); refine blk_put (cs := #[.slice none 0 0, .slice none 0 0]) ?_ 0 _ rfl; (with_reducible repeat (first | refine yG ?_ _ | refine yH ?_ | refine yI ?_ _)); exact BK252.out) Tryd.underlying25 rfl (by kernel_rfl)) rfl ?_
  exact ⟨_, _, by first | rfl | (simp [errW_none, errW_some] <;> rfl) | (simp [*, errW_none, errW_some] <;> rfl), by first | exact Kd.R_nil _ _ _ _ _ | exact Kd.N_nil _ _ _ _ _ | exact Kd.V_nil _ _ _ _ _ | exact Kd.Q_nil _ _ _ _ _ | exact Kd.S_nil _ _ _ _ _, by first | exact Kd.S_nil _ _ _ _ _ | exact Kd.N_nil _ _ _ _ _ | exact Kd.V_nil _ _ _ _ _ | exact Kd.Q_nil _ _ _ _ _ | exact Kd.R_nil _ _ _ _ _, by repeat (first | exact HB.out | apply yE | apply yD | refine yJ ?_ GE252.out)⟩
end Go.Proofs.YtppojbafagneeaaDoor.PTab
