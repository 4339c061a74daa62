/- States a world in which the library's tables lie as the program's own initialisers lay them, for the witnesses of the seat's rows; no condition. -/
import Derived.Test.YtfhbjjkkhjijmaaGreatDoorRows
import Derived.WalkKit
import Derived.LaidLaws
namespace Go.Proofs.YtfhbjjkkhjijmaaGreatDoor.Lay
def leaves : Nat → DataW Unit → List Value
  | 0, _ => []
  | _ + 1, .lit (.int k n) => [.int k n]
  | f + 1, .agg l => l.flatMap (leaves f)
  | _, _ => []
def put (h : Array Obj) (g : Nat) (d : DataW Unit) : Array Obj := h.modify g fun
  | .cells _ t fz => .cells (leaves 4 d).toArray t fz
  | o => o
noncomputable def laidWorld (os : Os) : World :=
  { World.holding Tryz.prog os ⟨#[], #[], []⟩ with heap := put (put (put (put (put ((World.holding Tryz.prog os ⟨#[], #[], []⟩).heap) 3 Rows.laid_unicode_utf8_first) 4 Rows.laid_unicode_utf8_acceptRanges) 5 Rows.laid_internal_strconv_uint64pow10) 6 Rows.laid_math_bits_deBruijn32tab) 7 Rows.laid_math_bits_deBruijn64tab }
end Go.Proofs.YtfhbjjkkhjijmaaGreatDoor.Lay
