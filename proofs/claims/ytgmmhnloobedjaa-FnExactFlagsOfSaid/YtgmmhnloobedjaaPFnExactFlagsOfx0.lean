-- PRINTED BY print.sh 35421559b90ae4d0a3588c463048766b98c2df88dd9212a6774a882060cdf62d: not written by this session
import Derived.Test.YtgmmhnloobedjaaProg
import Derived.Below
import Derived.Deep.Draws
import Derived.Deep.AppendLies
import Derived.Maps.AppendAt
import Derived.OwnWalk
import Derived.Laws.BytesArg
import Derived.Laws.MakeOwn
import Derived.Laws.OwnMore
import Derived.Deep.OwnRows
import Derived.Tactics
import Derived.Lib.ConvBytes
import Derived.Laws.Slices
import Derived.WalkKit
import Derived.KernelRfl
import Derived.RowKit3
import Derived.Deep.LoopGhost
import Derived.Deep.QuietTactic
import Derived.BigQuiet
import Derived.WideLaws
import Derived.Deep.DeepCutAuto
import Derived.Deep.CutBlock
import Derived.Deep.RegionHeld3
import Derived.Laws.Rows
import Derived.Lib.AppendStr
import Derived.ArgAppend
import Derived.Laws.IdiomCopy
import Derived.OrdersHeld
import Derived.Laws.BitsLemmas
import Derived.RowKit
import Derived.Test.YtgmmhnloobedjaaWWords
import Derived.Test.YtgmmhnloobedjaaWLast
import Derived.Test.YtgmmhnloobedjaaWTab
import Derived.Test.YtgmmhnloobedjaaWFour
import Derived.Test.YtgmmhnloobedjaaWQPut
import Derived.Test.YtgmmhnloobedjaaWApart
import Derived.Test.YtgmmhnloobedjaaWArr
import Derived.Test.YtgmmhnloobedjaaWZeros
import Derived.Test.YtgmmhnloobedjaaWFoot
import Derived.Test.YtgmmhnloobedjaaWKept
import Derived.Test.YtgmmhnloobedjaaWShare
import Derived.Test.YtgmmhnloobedjaaWN
import Derived.Test.YtgmmhnloobedjaaWFootNe
import Derived.Test.YtgmmhnloobedjaaWAt
import Derived.Test.YtgmmhnloobedjaaWEqStruct
import Derived.Test.YtgmmhnloobedjaaWRepsOne
import Derived.Test.YtgmmhnloobedjaaWInv
import Derived.Test.YtgmmhnloobedjaaWInvWords
import Derived.Test.YtgmmhnloobedjaaWGuard
import Derived.Test.YtgmmhnloobedjaaWNEv
import Derived.Test.YtgmmhnloobedjaaWMore
namespace Go.Proofs.Ytgmmhnloobedjaa.PFnExactFlagsOf
open Go.RowKit Go.Proofs.YtgmmhnloobedjaaW.PrintWords Go.Proofs.YtgmmhnloobedjaaW.PrintLast Go.Proofs.YtgmmhnloobedjaaW.PrintMore
attribute [local go_sem] max2_int min2_int max_two min_two max_three min_three max_four min_four   -- for this text's walks alone
set_option linter.unusedVariables false
set_option linter.unusedSimpArgs false



def errW : Option Int → Value
  | none => .nilIface
  | some c => .iface 0 (.int .i64 c)
theorem errW_none : errW none = .nilIface := rfl
theorem errW_some (c : Int) : errW (some c) = .iface 0 (.int .i64 c) := rfl

-- the values' own types

end Go.Proofs.Ytgmmhnloobedjaa.PFnExactFlagsOf
