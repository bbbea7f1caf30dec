/- Own text: words of the printed texts that this claim uses. -/
import Derived.Test.YtppojbafagneeaaDoorWApart
import Derived.Test.YtppojbafagneeaaDoorWArr
namespace Go.Proofs.YtppojbafagneeaaDoorW.PrintWords
open Go.RowKit
namespace Kd
structure Heap {α : Type} (d : Kd α) : Prop where
  K : ∀ {w w1 : World} {x : α} {cs : List Value}, (∀ k, k < w.heap.size → w1.heap[k]? = w.heap[k]?) → d.K w x cs → d.K w1 x cs
end Kd
end Go.Proofs.YtppojbafagneeaaDoorW.PrintWords
