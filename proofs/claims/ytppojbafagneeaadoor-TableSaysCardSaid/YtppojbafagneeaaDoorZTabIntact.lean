/- Own text, for this claim: intactNames and intact, where the lists are as own has made them. -/
import Derived.Test.YtppojbafagneeaaDoorZQTabo
import Derived.Test.YtppojbafagneeaaDoorZQTab2
namespace Go.Proofs.YtppojbafagneeaaDoor.PTab
open Go.RowKit Go.Proofs.YtppojbafagneeaaDoorW.PrintWords Go.Proofs.YtppojbafagneeaaDoorW.PrintLast Go.Proofs.YtppojbafagneeaaDoorW.PrintMore
attribute [local go_sem] max2_int min2_int max_two min_two max_three min_three max_four min_four
attribute [local go_sem] nil22 nil23
attribute [local go_sem high] eqA52
set_option linter.unusedVariables false
set_option linter.unusedSimpArgs false
def bN : ByteArray := ⟨#[66, 101, 104, 105, 110, 100]⟩
def bC : S52 := ⟨true, (-77177)⟩
def withN (n : Bool) (l : List ByteArray) : List ByteArray := if n = true then [] else l ++ [bN, bN]
def withC (r : List S52) : List S52 := r ++ [bC, bC]
theorem w64n (n : Nat) (h : n ≤ 9223372036854775806) : wrap64 ((n : Int) + 1) = ((n + 1 : Nat) : Int) := by unfold wrap64; omega
theorem short_with (l : List (List S52)) : (l.map withC).map short = l := by
 rw [List.map_map]
 have : (short ∘ withC) = id := by funext r; exact short_app r bC bC
 rw [this, List.map_id]
end Go.Proofs.YtppojbafagneeaaDoor.PTab
