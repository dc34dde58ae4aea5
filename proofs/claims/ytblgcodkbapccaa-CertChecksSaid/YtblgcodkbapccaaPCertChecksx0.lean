-- PRINTED BY print.sh 35421559b90ae4d0a3588c463048766b98c2df88dd9212a6774a882060cdf62d: not written by this session
import Derived.Test.YtblgcodkbapccaaProg
import Derived.Below
import Derived.Deep.Draws
import Derived.Deep.AppendLies
import Derived.Maps.AppendAt
import Derived.OwnWalk
import Derived.Laws.BytesArg
import Derived.Laws.MakeOwn
import Derived.Laws.OwnMore
import Derived.Deep.OwnRows
import Derived.Tactics
import Derived.Lib.ConvBytes
import Derived.Laws.Slices
import Derived.WalkKit
import Derived.KernelRfl
import Derived.RowKit3
import Derived.Deep.LoopGhost
import Derived.Deep.QuietTactic
import Derived.BigQuiet
import Derived.WideLaws
import Derived.Deep.DeepCutAuto
import Derived.Deep.CutBlock
import Derived.Deep.RegionHeld3
import Derived.Laws.Rows
import Derived.Lib.AppendStr
import Derived.ArgAppend
import Derived.Laws.IdiomCopy
import Derived.OrdersHeld
import Derived.Laws.BitsLemmas
import Derived.RowKit
import Derived.Test.YtblgcodkbapccaaWWords
import Derived.Test.YtblgcodkbapccaaWLast
import Derived.Test.YtblgcodkbapccaaWTab
import Derived.Test.YtblgcodkbapccaaWFour
import Derived.Test.YtblgcodkbapccaaWQPut
import Derived.Test.YtblgcodkbapccaaWApart
import Derived.Test.YtblgcodkbapccaaWArr
import Derived.Test.YtblgcodkbapccaaWZeros
import Derived.Test.YtblgcodkbapccaaWFoot
import Derived.Test.YtblgcodkbapccaaWKept
import Derived.Test.YtblgcodkbapccaaWShare
import Derived.Test.YtblgcodkbapccaaWN
import Derived.Test.YtblgcodkbapccaaWFootNe
import Derived.Test.YtblgcodkbapccaaWAt
import Derived.Test.YtblgcodkbapccaaWEqStruct
import Derived.Test.YtblgcodkbapccaaWRepsOne
import Derived.Test.YtblgcodkbapccaaWInv
import Derived.Test.YtblgcodkbapccaaWInvWords
import Derived.Test.YtblgcodkbapccaaWGuard
import Derived.Test.YtblgcodkbapccaaWNEv
import Derived.Test.YtblgcodkbapccaaWMore
namespace Go.Proofs.Ytblgcodkbapccaa.PCertChecks
open Go.RowKit Go.Proofs.YtblgcodkbapccaaW.PrintWords Go.Proofs.YtblgcodkbapccaaW.PrintLast Go.Proofs.YtblgcodkbapccaaW.PrintMore
attribute [local go_sem] max2_int min2_int max_two min_two max_three min_three max_four min_four   -- for this text's walks alone
set_option linter.unusedVariables false
set_option linter.unusedSimpArgs false



def errW : Option Int → Value
  | none => .nilIface
  | some c => .iface 0 (.int .i64 c)
theorem errW_none : errW none = .nilIface := rfl
theorem errW_some (c : Int) : errW (some c) = .iface 0 (.int .i64 c) := rfl

-- the values' own types

end Go.Proofs.Ytblgcodkbapccaa.PCertChecks
