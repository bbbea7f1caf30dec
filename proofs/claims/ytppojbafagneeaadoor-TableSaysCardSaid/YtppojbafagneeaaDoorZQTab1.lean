/- Own text, for this claim: equality of cells, after the text that the kit's printer writes. -/
import Derived.Test.YtppojbafagneeaaDoorZQTab0
namespace Go.Proofs.YtppojbafagneeaaDoor.PTab
open Go.RowKit Go.Proofs.YtppojbafagneeaaDoorW.PrintWords Go.Proofs.YtppojbafagneeaaDoorW.PrintLast Go.Proofs.YtppojbafagneeaaDoorW.PrintMore
attribute [local go_sem] max2_int min2_int max_two min_two max_three min_three max_four min_four
set_option linter.unusedVariables false
set_option linter.unusedSimpArgs false
theorem eqA52 (d : Nat) (w : World) (x0 y0 : Bool) (x1 y1 : Int) :
  (Op.equalIn (d + 2) 52 (.agg #[.bool x0, .int .i64 x1]) (.agg #[.bool y0, .int .i64 y1])).run Tryd.prog w = .ok (x0 == y0 && (x1 == y1)) w := by
 refine eqA_of Tryd.underlying52 (by kernel_rfl) ?_
 refine eqf_cons (by rfl) (by go_simp; rfl) (by go_simp; rfl) (by go_simp) ?_
 exact eqf_last (by rfl) (by go_simp; rfl) (by go_simp; rfl) (by go_simp)
end Go.Proofs.YtppojbafagneeaaDoor.PTab
