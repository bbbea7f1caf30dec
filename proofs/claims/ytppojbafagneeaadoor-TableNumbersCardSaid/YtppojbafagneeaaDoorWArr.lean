/- Own text: words of the printed texts that this claim uses. -/
import Derived.Test.YtppojbafagneeaaDoorWWords
namespace Go.Proofs.YtppojbafagneeaaDoorW.PrintWords
open Go.RowKit
namespace Kd
end Kd
end Go.Proofs.YtppojbafagneeaaDoorW.PrintWords
