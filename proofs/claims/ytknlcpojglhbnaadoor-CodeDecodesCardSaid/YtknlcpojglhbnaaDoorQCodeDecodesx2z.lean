/- Own text: functions of law CodeDecodes, after the text that the kit's printer writes, with this session's contracts for those that read the table. -/
import Derived.Test.YtknlcpojglhbnaaDoorGl
import Derived.Test.YtknlcpojglhbnaaDoorGt
import Derived.Test.YtknlcpojglhbnaaDoorTable
import Derived.Deep.DeepMust
import Derived.Outline
import Derived.Deep.RegionWith
import Derived.Test.YtknlcpojglhbnaaDoorQCodeDecodesx0
import Derived.Test.YtknlcpojglhbnaaDoorQCodeDecodesx1
import Derived.Test.YtknlcpojglhbnaaDoorQCodeDecodesx2
import Derived.Test.YtknlcpojglhbnaaDoorQCodeDecodesxr
namespace Go.Proofs.YtknlcpojglhbnaaDoor.PCodeDecodes
open Go.RowKit Go.Proofs.YtknlcpojglhbnaaDoorW.PrintWords Go.Proofs.YtknlcpojglhbnaaDoorW.PrintLast Go.Proofs.YtknlcpojglhbnaaDoorW.PrintMore
attribute [local go_sem] max2_int min2_int max_two min_two max_three min_three max_four min_four   -- for this text's walks alone
set_option linter.unusedVariables false
set_option linter.unusedSimpArgs false

attribute [local go_sem high] eqA27
