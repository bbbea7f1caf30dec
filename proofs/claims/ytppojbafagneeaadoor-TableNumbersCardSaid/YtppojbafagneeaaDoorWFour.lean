/- Own text: words of the printed texts that this claim uses. -/
import Derived.Test.YtppojbafagneeaaDoorWTab
namespace Go.Proofs.YtppojbafagneeaaDoorW.PrintLast
end Go.Proofs.YtppojbafagneeaaDoorW.PrintLast
