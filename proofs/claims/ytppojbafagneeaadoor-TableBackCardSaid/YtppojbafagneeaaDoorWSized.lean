/- Own text: words of the printed texts that this claim uses. -/
import Derived.SizedLaws
import Derived.ChangeSlices
namespace Go.Proofs.YtppojbafagneeaaDoorW.PrintWords
open Go.ChangeShapes Go.WideShapes
end Go.Proofs.YtppojbafagneeaaDoorW.PrintWords
