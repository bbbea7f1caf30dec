/- Own text: words of the printed texts that this claim uses. -/
import Derived.Test.YtppojbafagneeaaDoorWApart
import Derived.Test.YtppojbafagneeaaDoorWArr
namespace Go.Proofs.YtppojbafagneeaaDoorW.PrintWords
open Go.RowKit
namespace Kd
section
variable {α : Type} {d : Kd α} {e : Nat} {w : World} {base : Nat} {ok : Nat → Prop} {v : Value} {xs : List α}
def zipO (xs : List α) (z : α) (m : Nat) : List (α × Option Nat) := xs.zipIdx.map (fun p => (p.1, some p.2)) ++ List.replicate m (z, none)
theorem zipO_length (xs : List α) (z : α) (m : Nat) : (zipO xs z m).length = (xs ++ List.replicate m z).length := by simp [zipO]
end
end Kd
end Go.Proofs.YtppojbafagneeaaDoorW.PrintWords
