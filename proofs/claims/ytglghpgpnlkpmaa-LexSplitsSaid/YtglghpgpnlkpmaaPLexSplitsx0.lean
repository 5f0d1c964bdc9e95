-- PRINTED BY print.sh 35421559b90ae4d0a3588c463048766b98c2df88dd9212a6774a882060cdf62d: not written by this session
import Derived.Test.YtglghpgpnlkpmaaProg
import Derived.Below
import Derived.Deep.Draws
import Derived.Deep.AppendLies
import Derived.Maps.AppendAt
import Derived.OwnWalk
import Derived.Laws.BytesArg
import Derived.Laws.MakeOwn
import Derived.Laws.OwnMore
import Derived.Deep.OwnRows
import Derived.Tactics
import Derived.Lib.ConvBytes
import Derived.Laws.Slices
import Derived.WalkKit
import Derived.KernelRfl
import Derived.RowKit3
import Derived.Deep.LoopGhost
import Derived.Deep.QuietTactic
import Derived.BigQuiet
import Derived.WideLaws
import Derived.Deep.DeepCutAuto
import Derived.Deep.CutBlock
import Derived.Deep.RegionHeld3
import Derived.Laws.Rows
import Derived.Lib.AppendStr
import Derived.ArgAppend
import Derived.Laws.IdiomCopy
import Derived.OrdersHeld
import Derived.Laws.BitsLemmas
import Derived.RowKit
import Derived.Test.YtglghpgpnlkpmaaWWords
import Derived.Test.YtglghpgpnlkpmaaWLast
import Derived.Test.YtglghpgpnlkpmaaWTab
import Derived.Test.YtglghpgpnlkpmaaWFour
import Derived.Test.YtglghpgpnlkpmaaWQPut
import Derived.Test.YtglghpgpnlkpmaaWApart
import Derived.Test.YtglghpgpnlkpmaaWArr
import Derived.Test.YtglghpgpnlkpmaaWZeros
import Derived.Test.YtglghpgpnlkpmaaWFoot
import Derived.Test.YtglghpgpnlkpmaaWKept
import Derived.Test.YtglghpgpnlkpmaaWShare
import Derived.Test.YtglghpgpnlkpmaaWN
import Derived.Test.YtglghpgpnlkpmaaWFootNe
import Derived.Test.YtglghpgpnlkpmaaWAt
import Derived.Test.YtglghpgpnlkpmaaWEqStruct
import Derived.Test.YtglghpgpnlkpmaaWRepsOne
import Derived.Test.YtglghpgpnlkpmaaWInv
import Derived.Test.YtglghpgpnlkpmaaWInvWords
import Derived.Test.YtglghpgpnlkpmaaWGuard
import Derived.Test.YtglghpgpnlkpmaaWNEv
import Derived.Test.YtglghpgpnlkpmaaWMore
namespace Go.Proofs.Ytglghpgpnlkpmaa.PLexSplits
open Go.RowKit Go.Proofs.YtglghpgpnlkpmaaW.PrintWords Go.Proofs.YtglghpgpnlkpmaaW.PrintLast Go.Proofs.YtglghpgpnlkpmaaW.PrintMore
attribute [local go_sem] max2_int min2_int max_two min_two max_three min_three max_four min_four   -- for this text's walks alone
set_option linter.unusedVariables false
set_option linter.unusedSimpArgs false



def errW : Option Int → Value
  | none => .nilIface
  | some c => .iface 0 (.int .i64 c)
theorem errW_none : errW none = .nilIface := rfl
theorem errW_some (c : Int) : errW (some c) = .iface 0 (.int .i64 c) := rfl

-- the values' own types

end Go.Proofs.Ytglghpgpnlkpmaa.PLexSplits
