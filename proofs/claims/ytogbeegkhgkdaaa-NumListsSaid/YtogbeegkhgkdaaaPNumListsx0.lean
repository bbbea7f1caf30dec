-- PRINTED BY print.sh 35421559b90ae4d0a3588c463048766b98c2df88dd9212a6774a882060cdf62d: not written by this session
import Derived.Test.YtogbeegkhgkdaaaProg
import Derived.Below
import Derived.Deep.Draws
import Derived.Deep.AppendLies
import Derived.Maps.AppendAt
import Derived.OwnWalk
import Derived.Laws.BytesArg
import Derived.Laws.MakeOwn
import Derived.Laws.OwnMore
import Derived.Deep.OwnRows
import Derived.Tactics
import Derived.Lib.ConvBytes
import Derived.Laws.Slices
import Derived.WalkKit
import Derived.KernelRfl
import Derived.RowKit3
import Derived.Deep.LoopGhost
import Derived.Deep.QuietTactic
import Derived.BigQuiet
import Derived.WideLaws
import Derived.Deep.DeepCutAuto
import Derived.Deep.CutBlock
import Derived.Deep.RegionHeld3
import Derived.Laws.Rows
import Derived.Lib.AppendStr
import Derived.ArgAppend
import Derived.Laws.IdiomCopy
import Derived.OrdersHeld
import Derived.Laws.BitsLemmas
import Derived.RowKit
import Derived.Test.YtogbeegkhgkdaaaWWords
import Derived.Test.YtogbeegkhgkdaaaWLast
import Derived.Test.YtogbeegkhgkdaaaWTab
import Derived.Test.YtogbeegkhgkdaaaWFour
import Derived.Test.YtogbeegkhgkdaaaWQPut
import Derived.Test.YtogbeegkhgkdaaaWApart
import Derived.Test.YtogbeegkhgkdaaaWArr
import Derived.Test.YtogbeegkhgkdaaaWZeros
import Derived.Test.YtogbeegkhgkdaaaWFoot
import Derived.Test.YtogbeegkhgkdaaaWKept
import Derived.Test.YtogbeegkhgkdaaaWShare
import Derived.Test.YtogbeegkhgkdaaaWN
import Derived.Test.YtogbeegkhgkdaaaWFootNe
import Derived.Test.YtogbeegkhgkdaaaWAt
import Derived.Test.YtogbeegkhgkdaaaWEqStruct
import Derived.Test.YtogbeegkhgkdaaaWRepsOne
import Derived.Test.YtogbeegkhgkdaaaWInv
import Derived.Test.YtogbeegkhgkdaaaWInvWords
import Derived.Test.YtogbeegkhgkdaaaWGuard
import Derived.Test.YtogbeegkhgkdaaaWNEv
import Derived.Test.YtogbeegkhgkdaaaWMore
namespace Go.Proofs.Ytogbeegkhgkdaaa.PNumLists
open Go.RowKit Go.Proofs.YtogbeegkhgkdaaaW.PrintWords Go.Proofs.YtogbeegkhgkdaaaW.PrintLast Go.Proofs.YtogbeegkhgkdaaaW.PrintMore
attribute [local go_sem] max2_int min2_int max_two min_two max_three min_three max_four min_four   -- for this text's walks alone
set_option linter.unusedVariables false
set_option linter.unusedSimpArgs false



def errW : Option Int → Value
  | none => .nilIface
  | some c => .iface 0 (.int .i64 c)
theorem errW_none : errW none = .nilIface := rfl
theorem errW_some (c : Int) : errW (some c) = .iface 0 (.int .i64 c) := rfl

theorem info3 : (Try.prog.info? 3).map (fun i => (i.zero, i.size, i.bytes)) = some (some (.int .i64 0), 1, 8) := by kernel_rfl
-- the values' own types

end Go.Proofs.Ytogbeegkhgkdaaa.PNumLists
