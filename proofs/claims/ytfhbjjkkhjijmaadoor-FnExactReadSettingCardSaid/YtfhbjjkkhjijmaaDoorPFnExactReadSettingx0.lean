/- Proves what functions that a law reaches come to, one contract each; no conditions beyond those that each names. Printed by a program of this session (xprint) out of the translation. -/
import Derived.Test.YtfhbjjkkhjijmaaDoorProg
import Derived.Test.YtfhbjjkkhjijmaaDoorShelfA
import Derived.Below
import Derived.Deep.Draws
import Derived.Deep.AppendLies
import Derived.Maps.AppendAt
import Derived.OwnWalk
import Derived.Laws.BytesArg
import Derived.Laws.MakeOwn
import Derived.Laws.OwnMore
import Derived.Deep.OwnRows
import Derived.Tactics
import Derived.Lib.ConvBytes
import Derived.Laws.Slices
import Derived.WalkKit
import Derived.KernelRfl
import Derived.RowKit3
import Derived.Deep.LoopGhost
import Derived.Deep.QuietTactic
import Derived.BigQuiet
import Derived.WideLaws
import Derived.Deep.DeepCutAuto
import Derived.Deep.CutBlock
import Derived.Deep.RegionHeld3
import Derived.Laws.Rows
import Derived.Lib.AppendStr
import Derived.ArgAppend
import Derived.Laws.IdiomCopy
import Derived.OrdersHeld
import Derived.Laws.BitsLemmas
import Derived.RowKit
import Derived.Deep.RegionLaw
import Derived.Lib.SliceRun
import Derived.Test.YtfhbjjkkhjijmaaDoorWWords
import Derived.Test.YtfhbjjkkhjijmaaDoorWLast
import Derived.Test.YtfhbjjkkhjijmaaDoorWTab
import Derived.Test.YtfhbjjkkhjijmaaDoorWFour
import Derived.Test.YtfhbjjkkhjijmaaDoorWQPut
import Derived.Test.YtfhbjjkkhjijmaaDoorWApart
import Derived.Test.YtfhbjjkkhjijmaaDoorWArr
import Derived.Test.YtfhbjjkkhjijmaaDoorWZeros
import Derived.Test.YtfhbjjkkhjijmaaDoorWFoot
import Derived.Test.YtfhbjjkkhjijmaaDoorWKept
import Derived.Test.YtfhbjjkkhjijmaaDoorWShare
import Derived.Test.YtfhbjjkkhjijmaaDoorWN
import Derived.Test.YtfhbjjkkhjijmaaDoorWFootNe
import Derived.Test.YtfhbjjkkhjijmaaDoorWAt
import Derived.Test.YtfhbjjkkhjijmaaDoorWEqStruct
import Derived.Test.YtfhbjjkkhjijmaaDoorWRepsOne
import Derived.Test.YtfhbjjkkhjijmaaDoorWInv
import Derived.Test.YtfhbjjkkhjijmaaDoorWInvWords
import Derived.Test.YtfhbjjkkhjijmaaDoorWGuard
import Derived.Test.YtfhbjjkkhjijmaaDoorWNEv
import Derived.Test.YtfhbjjkkhjijmaaDoorWMore
namespace Go.Proofs.YtfhbjjkkhjijmaaDoor.PFnExactReadSetting
open Go.RowKit Go.Proofs.YtfhbjjkkhjijmaaDoorW.PrintWords Go.Proofs.YtfhbjjkkhjijmaaDoorW.PrintLast Go.Proofs.YtfhbjjkkhjijmaaDoorW.PrintMore
attribute [local go_sem] max2_int min2_int max_two min_two max_three min_three max_four min_four   -- for this text's walks alone
set_option linter.unusedVariables false
set_option linter.unusedSimpArgs false



def errW : Option Int → Value
  | none => .nilIface
  | some c => .iface 0 (.int .i64 c)
theorem errW_none : errW none = .nilIface := rfl
theorem errW_some (c : Int) : errW (some c) = .iface 0 (.int .i64 c) := rfl

theorem info5 : (Tryd.prog.info? 5).map (fun i => (i.zero, i.size, i.bytes)) = some (some (.int .u8 0), 1, 1) := by kernel_rfl
theorem info9 : (Tryd.prog.info? 9).map (fun i => (i.zero, i.size, i.bytes)) = some (some (.string ⟨#[]⟩), 1, 16) := by kernel_rfl
-- the values' own types

end Go.Proofs.YtfhbjjkkhjijmaaDoor.PFnExactReadSetting
