/- Own text: the walk of CodeValids. -/
import Derived.Test.YtknlcpojglhbnaaDoorValid
import Derived.Deep.RegionWith
namespace Go.Proofs.YtknlcpojglhbnaaDoor.Pure
open Go.RowKit Go.ChangeShapes Go.WideShapes Go.Proofs.YtknlcpojglhbnaaDoorW.PrintWords Go.Proofs.YtknlcpojglhbnaaDoorW.PrintLast Go.Proofs.YtknlcpojglhbnaaDoorW.PrintMore
set_option linter.unusedVariables false
set_option linter.unusedSimpArgs false

set_option maxHeartbeats 1000000 in
theorem CodeValids_walk (i x y : Int) (w : World) (hi : (Lit.int .i64 i).wf = true) (hx : (Lit.int .i64 x).wf = true) (hy : (Lit.int .i64 y).wf = true) (hL : (∃ t fr, w.heap[0]? = some (.cells kA t fr)) ∧ ∃ t fr, w.heap[1]? = some (.cells tA t fr)) :
    Calls Tryd.prog 4 #[.agg #[.int .i64 i, .int .i64 x, .int .i64 y]] w fun e w' => e = .returned (.bool true) ∧ Below w.heap.size w w' := by
  obtain ⟨⟨t, fr, hK⟩, ⟨t2, fr2, hT⟩⟩ := hL
  have HK0 := Aside0.mk hK
  have HT0 := Aside0.mk hT
  clear hK hT
  go_enter Tryd.func4, Tryd.ntmps4
  go_upto_region 1 with ((with_reducible refine gate_dst (N := 1) rfl ?_); refine box_event ?hg (N := 1) ?hd (cs := #[.int .i64 i, .int .i64 x, .int .i64 y]) (t := 27) ?hr ?_; (case hd => rfl); (case hg => rfl); (case hr => first | (go_simp; done) | (go_simp; rfl)); intro gb hg w6 hbox hb; have B := Aside0.mk hbox; have HB := Aside0.mk hb; have HK := Aside0.mk (blk_below HK0.out hb); have HT := Aside0.mk (blk_below HT0.out hb); clear hb hbox hg)
  have c0 := blk_cell B.out 0
  have c1 := blk_cell B.out 1
  have c2 := blk_cell B.out 2
  simp only [List.getElem?_toArray, List.getElem?_cons_zero, List.getElem?_cons_succ] at c0 c1 c2
  go_region_with (first | (go_at_call 16; refine (valid_any _ _ _ _ t fr (by exact HK.out)).mono ?_; rintro e w1 ⟨rfl, hb⟩; have n0_ := Aside0.mk (blk_below (by exact B.out) hb); have n1_ := Aside0.mk (blk_below (by exact HK.out) hb); have n2_ := Aside0.mk (blk_below (by exact HT.out) hb); have n3_ := Aside0.mk (below_step (by repeat (first | (with_reducible first | exact HB.out | apply below_alloc | apply pw_below_drewN | apply below_drew1) | exact HB.out)) hb); clear hb B HK HT HB; have B := n0_; have HK := n1_; have HT := n2_; have HB := n3_; clear n0_ n1_ n2_ n3_; have c0 := blk_cell B.out 0; have c1 := blk_cell B.out 1; have c2 := blk_cell B.out 2; simp only [List.getElem?_toArray, List.getElem?_cons_zero, List.getElem?_cons_succ] at c0 c1 c2) | (go_at_call 17; refine (rvalid_any _ _ _ _ t2 fr2 (by exact HT.out)).mono ?_; rintro e w1 ⟨rfl, hb⟩; have n0_ := Aside0.mk (blk_below (by exact B.out) hb); have n1_ := Aside0.mk (blk_below (by exact HK.out) hb); have n2_ := Aside0.mk (blk_below (by exact HT.out) hb); have n3_ := Aside0.mk (below_step (by repeat (first | (with_reducible first | exact HB.out | apply below_alloc | apply pw_below_drewN | apply below_drew1) | exact HB.out)) hb); clear hb B HK HT HB; have B := n0_; have HK := n1_; have HT := n2_; have HB := n3_; clear n0_ n1_ n2_ n3_; have c0 := blk_cell B.out 0; have c1 := blk_cell B.out 1; have c2 := blk_cell B.out 2; simp only [List.getElem?_toArray, List.getElem?_cons_zero, List.getElem?_cons_succ] at c0 c1 c2))
  all_goals
    go_wp2
    go_ret
    exact ⟨by first | rfl | (simp [Act.put]; done), by repeat (first | (with_reducible first | exact HB.out | apply below_alloc | apply pw_below_drewN | apply below_drew1) | exact HB.out)⟩
end Go.Proofs.YtknlcpojglhbnaaDoor.Pure
