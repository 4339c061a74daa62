/- Proves what functions that a law reaches come to, one contract each; no conditions beyond those that each names. Printed by a program of this session (xprint) out of the translation. -/
import Derived.Test.YtglgfobfmcipoaaProg
import Derived.Below
import Derived.Deep.Draws
import Derived.Deep.AppendLies
import Derived.Maps.AppendAt
import Derived.OwnWalk
import Derived.Laws.BytesArg
import Derived.Laws.MakeOwn
import Derived.Laws.OwnMore
import Derived.Deep.OwnRows
import Derived.Tactics
import Derived.Lib.ConvBytes
import Derived.Laws.Slices
import Derived.WalkKit
import Derived.KernelRfl
import Derived.RowKit3
import Derived.Deep.LoopGhost
import Derived.Deep.QuietTactic
import Derived.BigQuiet
import Derived.WideLaws
import Derived.Deep.DeepCutAuto
import Derived.Deep.CutBlock
import Derived.Deep.RegionHeld3
import Derived.Laws.Rows
import Derived.Lib.AppendStr
import Derived.ArgAppend
import Derived.Laws.IdiomCopy
import Derived.OrdersHeld
import Derived.Laws.BitsLemmas
import Derived.RowKit
import Derived.Test.YtglgfobfmcipoaaWWords
import Derived.Test.YtglgfobfmcipoaaWLast
import Derived.Test.YtglgfobfmcipoaaWTab
import Derived.Test.YtglgfobfmcipoaaWFour
import Derived.Test.YtglgfobfmcipoaaWQPut
import Derived.Test.YtglgfobfmcipoaaWApart
import Derived.Test.YtglgfobfmcipoaaWArr
import Derived.Test.YtglgfobfmcipoaaWZeros
import Derived.Test.YtglgfobfmcipoaaWFoot
import Derived.Test.YtglgfobfmcipoaaWKept
import Derived.Test.YtglgfobfmcipoaaWShare
import Derived.Test.YtglgfobfmcipoaaWN
import Derived.Test.YtglgfobfmcipoaaWFootNe
import Derived.Test.YtglgfobfmcipoaaWAt
import Derived.Test.YtglgfobfmcipoaaWEqStruct
import Derived.Test.YtglgfobfmcipoaaWRepsOne
import Derived.Test.YtglgfobfmcipoaaWInv
import Derived.Test.YtglgfobfmcipoaaWInvWords
import Derived.Test.YtglgfobfmcipoaaWGuard
import Derived.Test.YtglgfobfmcipoaaWNEv
import Derived.Test.YtglgfobfmcipoaaWMore
namespace Go.Proofs.Ytglgfobfmcipoaa.PFnTimes
open Go.RowKit Go.Proofs.YtglgfobfmcipoaaW.PrintWords Go.Proofs.YtglgfobfmcipoaaW.PrintLast Go.Proofs.YtglgfobfmcipoaaW.PrintMore
attribute [local go_sem] max2_int min2_int max_two min_two max_three min_three max_four min_four   -- for this text's walks alone
set_option linter.unusedVariables false
set_option linter.unusedSimpArgs false



def errW : Option Int → Value
  | none => .nilIface
  | some c => .iface 0 (.int .i64 c)
theorem errW_none : errW none = .nilIface := rfl
theorem errW_some (c : Int) : errW (some c) = .iface 0 (.int .i64 c) := rfl

theorem info2 : (Try.prog.info? 2).map (fun i => (i.zero, i.size, i.bytes)) = some (some (.int .i64 0), 1, 8) := by kernel_rfl
-- the values' own types

end Go.Proofs.Ytglgfobfmcipoaa.PFnTimes
