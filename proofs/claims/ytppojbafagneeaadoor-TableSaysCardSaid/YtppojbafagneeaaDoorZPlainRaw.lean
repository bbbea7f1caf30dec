/- Own text, for this claim: plain(): the table's blocks, one by one. -/
import Derived.Test.YtppojbafagneeaaDoorZOkBack
namespace Go.Proofs.YtppojbafagneeaaDoor.PTab
open Go.RowKit Go.Maps Go.WideMaps Go.Proofs.YtppojbafagneeaaDoor.Pure Go.Proofs.YtppojbafagneeaaDoorW.PrintWords Go.Proofs.YtppojbafagneeaaDoorW.PrintLast Go.Proofs.YtppojbafagneeaaDoorW.PrintMore
set_option linter.unusedVariables false
set_option linter.unusedSimpArgs false
attribute [local go_sem high] eqA52
structure PB (w : World) (b g0 g1 g2 g3 gO : Nat) (c : Array Value) : Prop where
 names : w.heap[g0]? = some (.cells #[.string ⟨#[82, 65, 84, 69]⟩, .string ⟨#[83, 95, 49]⟩] 9 (0, 0))
 r1 : w.heap[g1]? = some (.cells #[.bool true, .int .i64 5, .bool true, .int .i64 (-7)] 52 (0, 0))
 r2 : w.heap[g2]? = some (.cells c 52 (0, 0))
 r3 : w.heap[g3]? = some (.cells #[.bool false, .int .i64 0, .bool false, .int .i64 0] 52 (0, 0))
 out : w.heap[gO]? = some (.cells #[.slice (some ⟨g1, 0, none⟩) 2 2, .slice (some ⟨g2, 0, none⟩) 2 2, .slice (some ⟨g3, 0, none⟩) 2 2] 54 (0, 0))
 base : b ≤ g2
 n12 : g1 ≠ g2
 n32 : g3 ≠ g2
set_option maxHeartbeats 8000000 in
set_option maxRecDepth 100000 in
theorem plain_raw (w : World) : Calls Tryd.prog 32 #[] w fun e w' => ∃ g0 g1 g2 g3 gO : Nat, e = .returned (.agg #[.slice (some ⟨g0, 0, none⟩) 2 2, .slice (some ⟨gO, 0, none⟩) 3 3]) ∧ PB w' w.heap.size g0 g1 g2 g3 gO #[.bool false, .int .i64 0, .bool true, .int .i64 0] ∧ Below w.heap.size w w' := by
 have hu25 := Tryd.underlying25
 have hu52 := Tryd.underlying52
 have HB := yA (Below.refl w.heap.size w)
 go_enter Tryd.func32, Tryd.ntmps32
 go_wp2_with (first | ((with_reducible refine yP (N := 0) rfl ?_); refine yQ ?hg (N := 0) ?hd (cs := #[.slice none 0 0, .slice none 0 0]) (t := 25) ?hr ?_; (case hd => rfl); (case hg => rfl); (case hr => first | (go_simp; done) | (go_simp; rfl)); intro gb hg w1 hbox hb; replace HB := yA (yB HB.out hb); have BK := yA hbox; have L1 := BK; have GE := yA (by rw [hg]; exact Nat.le_refl _ : w.heap.size ≤ gb); clear hb hg hbox) | ((with_reducible refine yO (f := 33) rfl ?_); refine goesL_ (some 2) rfl rfl Tryd.func33 (by kernel_rfl) rfl #[.int .i64 5] rfl (by (try simp only [List.map_toArray, List.map_cons, List.map_nil]); first | done | rfl) ?_; (with_reducible refine (payofflaw05_told.calls 5 true 5 _ rfl).mono ?_); rintro e w2 ⟨rfl, hb⟩; refine ⟨_, rfl, ?_⟩; replace HB := yA (yB (yE HB.out _) hb); replace BK := yA (yC (yI BK.out _) hb); have BN := yA (yC (blk_new w1 _) hb); have NN := yA (Nat.ne_of_gt (blk_lt L1.out) : w1.heap.size ≠ gb); clear hb) | ((with_reducible refine yO (f := 33) rfl ?_); refine goesL_ (some 3) rfl rfl Tryd.func33 (by kernel_rfl) rfl #[.int .i64 (-7)] rfl (by (try simp only [List.map_toArray, List.map_cons, List.map_nil]); first | done | rfl) ?_; (with_reducible refine (payofflaw05_told.calls (-7) true (-7) _ rfl).mono ?_); rintro e w3 ⟨rfl, hb⟩; refine ⟨_, rfl, ?_⟩; replace HB := yA (yB HB.out hb); replace BK := yA (yC BK.out hb); replace BN := yA (yC BN.out hb); have L3 := BK; clear hb) | ((with_reducible refine yO (f := 33) rfl ?_); refine goesL_ (some 6) rfl rfl Tryd.func33 (by kernel_rfl) rfl #[.int .i64 0] rfl (by (try simp only [List.map_toArray, List.map_cons, List.map_nil]); first | done | rfl) ?_; (with_reducible refine (payofflaw05_told.calls 0 true 0 _ rfl).mono ?_); rintro e w4 ⟨rfl, hb⟩; refine ⟨_, rfl, ?_⟩; replace HB := yA (yB (yE HB.out _) hb); replace BK := yA (yC (yI BK.out _) hb); replace BN := yA (yC (yI BN.out _) hb); have B1 := yA (yC (blk_new w3 _) hb); have N1 := yA (Nat.ne_of_gt (blk_lt L3.out) : w3.heap.size ≠ gb); clear hb; have hcz_0 : ∀ o1 o2 o3 : Obj, (((w4.alloc o1).alloc o2).alloc o3).cell? ⟨gb, 0, none⟩ = some (.slice none 0 0) := (fun o1 o2 o3 => (yR (yI (yI (yI BK.out o1) o2) o3) 0).trans rfl); have hcz_1 : ∀ o1 o2 o3 : Obj, (((w4.alloc o1).alloc o2).alloc o3).cell? ⟨gb, 1, none⟩ = some (.slice none 0 0) := (fun o1 o2 o3 => (yR (yI (yI (yI BK.out o1) o2) o3) 1).trans rfl); have hfz_0 : ∀ o1 o2 o3 : Obj, (((w4.alloc o1).alloc o2).alloc o3).frozen? ⟨gb, 0, none⟩ = false := (fun o1 o2 o3 => yS (yI (yI (yI BK.out o1) o2) o3) 0); have hfz_1 : ∀ o1 o2 o3 : Obj, (((w4.alloc o1).alloc o2).alloc o3).frozen? ⟨gb, 1, none⟩ = false := (fun o1 o2 o3 => yS (yI (yI (yI BK.out o1) o2) o3) 1)))
 clear hcz_0 hcz_1 hfz_0 hfz_1
 have hb4 : gb < w4.heap.size := blk_lt BK.out
 have e1 : ∀ o : Obj, (w4.alloc o).heap.size = w4.heap.size + 1 := fun o => by show (w4.heap.push o).size = _; simp
 have e2 : ∀ o o' : Obj, ((w4.alloc o).alloc o').heap.size = w4.heap.size + 1 + 1 := fun o o' => by show ((w4.heap.push o).push o').size = _; simp
 have l1 : w1.heap.size < w4.heap.size := blk_lt BN.out
 have l3 : w3.heap.size < w4.heap.size := blk_lt B1.out
 have f2 : ∀ o1 o2 o3 : Obj, (((w4.alloc o1).alloc o2).alloc o3).heap[w4.heap.size]? = some o1 := fun o1 o2 o3 => yI (yI (blk_new w4 o1) o2) o3
 have f3 : ∀ o1 o2 o3 : Obj, (((w4.alloc o1).alloc o2).alloc o3).heap[w4.heap.size + 1]? = some o2 := fun o1 o2 o3 => yI (by have := blk_new (w4.alloc o1) o2; rwa [e1] at this) o3
 have f4 : ∀ o1 o2 o3 : Obj, (((w4.alloc o1).alloc o2).alloc o3).heap[w4.heap.size + 1 + 1]? = some o3 := fun o1 o2 o3 => by have := blk_new ((w4.alloc o1).alloc o2) o3; rwa [e2] at this
 refine bodyPost_ret (results_cell_row rfl _ _ gb 25 #[.slice (some ⟨w1.heap.size, 0, none⟩) 2 2, .slice (some ⟨w4.heap.size + 1 + 1, 0, none⟩) 3 3] (0, 0) _ rfl (by refine blk_put (cs := #[.slice (some ⟨w1.heap.size, 0, none⟩) 2 2, .slice none 0 0]) ?_ 1 _ rfl; refine blk_put (cs := #[.slice none 0 0, .slice none 0 0]) ?_ 0 _ rfl; exact yI (yI (yI BK.out _) _) _) Tryd.underlying25 rfl (by kernel_rfl)) rfl ?_
 have hge := GE.out
 refine ⟨w1.heap.size, w3.heap.size, w4.heap.size, w4.heap.size + 1, w4.heap.size + 1 + 1, rfl, ⟨?_, ?_, ?_, ?_, ?_, by omega, by omega, by omega⟩, ?_⟩
 ·exact blk_far (blk_far (yI (yI (yI BN.out _) _) _) (p := ⟨gb, 0, none⟩) (NN.out) _) (p := ⟨gb, 1, none⟩) (NN.out) _
 ·exact blk_far (blk_far (yI (yI (yI B1.out _) _) _) (p := ⟨gb, 0, none⟩) (N1.out) _) (p := ⟨gb, 1, none⟩) (N1.out) _
 ·exact blk_far (blk_far (f2 _ _ _) (p := ⟨gb, 0, none⟩) (Nat.ne_of_gt hb4) _) (p := ⟨gb, 1, none⟩) (Nat.ne_of_gt hb4) _
 ·exact blk_far (blk_far (f3 _ _ _) (p := ⟨gb, 0, none⟩) (Nat.ne_of_gt (Nat.lt_succ_of_lt hb4)) _) (p := ⟨gb, 1, none⟩) (Nat.ne_of_gt (Nat.lt_succ_of_lt hb4)) _
 ·exact blk_far (blk_far (f4 _ _ _) (p := ⟨gb, 0, none⟩) (Nat.ne_of_gt (Nat.lt_succ_of_lt (Nat.lt_succ_of_lt hb4))) _) (p := ⟨gb, 1, none⟩) (Nat.ne_of_gt (Nat.lt_succ_of_lt (Nat.lt_succ_of_lt hb4))) _
 ·exact yJ (yJ (yE (yE (yE HB.out _) _) _) hge) hge
end Go.Proofs.YtppojbafagneeaaDoor.PTab
