/- Proves what functions that a law reaches come to, one contract each; no conditions beyond those that each names. Printed by a program of this session (xprint) out of the translation. -/
import Derived.Test.YtclneihcbnbmbaaProg
import Derived.Below
import Derived.Deep.Draws
import Derived.Deep.AppendLies
import Derived.Maps.AppendAt
import Derived.OwnWalk
import Derived.Laws.BytesArg
import Derived.Laws.MakeOwn
import Derived.Laws.OwnMore
import Derived.Deep.OwnRows
import Derived.Tactics
import Derived.Lib.ConvBytes
import Derived.Laws.Slices
import Derived.WalkKit
import Derived.KernelRfl
import Derived.RowKit3
import Derived.Deep.LoopGhost
import Derived.Deep.QuietTactic
import Derived.BigQuiet
import Derived.WideLaws
import Derived.Deep.DeepCutAuto
import Derived.Deep.CutBlock
import Derived.Deep.RegionHeld3
import Derived.Laws.Rows
import Derived.Lib.AppendStr
import Derived.ArgAppend
import Derived.Laws.IdiomCopy
import Derived.OrdersHeld
import Derived.Laws.BitsLemmas
import Derived.RowKit
import Derived.Test.YtclneihcbnbmbaaWWords
import Derived.Test.YtclneihcbnbmbaaWLast
import Derived.Test.YtclneihcbnbmbaaWTab
import Derived.Test.YtclneihcbnbmbaaWFour
import Derived.Test.YtclneihcbnbmbaaWQPut
import Derived.Test.YtclneihcbnbmbaaWApart
import Derived.Test.YtclneihcbnbmbaaWArr
import Derived.Test.YtclneihcbnbmbaaWZeros
import Derived.Test.YtclneihcbnbmbaaWFoot
import Derived.Test.YtclneihcbnbmbaaWKept
import Derived.Test.YtclneihcbnbmbaaWShare
import Derived.Test.YtclneihcbnbmbaaWN
import Derived.Test.YtclneihcbnbmbaaWFootNe
import Derived.Test.YtclneihcbnbmbaaWAt
import Derived.Test.YtclneihcbnbmbaaWEqStruct
import Derived.Test.YtclneihcbnbmbaaWRepsOne
import Derived.Test.YtclneihcbnbmbaaWInv
import Derived.Test.YtclneihcbnbmbaaWInvWords
import Derived.Test.YtclneihcbnbmbaaWGuard
import Derived.Test.YtclneihcbnbmbaaWNEv
import Derived.Test.YtclneihcbnbmbaaWMore
namespace Go.Proofs.Ytclneihcbnbmbaa.PFnExactWithFilters
open Go.RowKit Go.Proofs.YtclneihcbnbmbaaW.PrintWords Go.Proofs.YtclneihcbnbmbaaW.PrintLast Go.Proofs.YtclneihcbnbmbaaW.PrintMore
attribute [local go_sem] max2_int min2_int max_two min_two max_three min_three max_four min_four   -- for this text's walks alone
set_option linter.unusedVariables false
set_option linter.unusedSimpArgs false



def errW : Option Int → Value
  | none => .nilIface
  | some c => .iface 0 (.int .i64 c)
theorem errW_none : errW none = .nilIface := rfl
theorem errW_some (c : Int) : errW (some c) = .iface 0 (.int .i64 c) := rfl

theorem info2 : (Try.prog.info? 2).map (fun i => (i.zero, i.size, i.bytes)) = some (some (.int .i64 0), 1, 8) := by kernel_rfl
-- the values' own types

end Go.Proofs.Ytclneihcbnbmbaa.PFnExactWithFilters
