/- Proves what functions that a law reaches come to, one contract each; no conditions beyond those that each names. Printed by a program of this session (xprint) out of the translation. -/
import Derived.Test.YtfhbjjkkhjijmaaDoorProg
import Derived.Test.YtfhbjjkkhjijmaaDoorShelfA
import Derived.Below
import Derived.Deep.Draws
import Derived.Deep.AppendLies
import Derived.Maps.AppendAt
import Derived.OwnWalk
import Derived.Laws.BytesArg
import Derived.Laws.MakeOwn
import Derived.Laws.OwnMore
import Derived.Deep.OwnRows
import Derived.Tactics
import Derived.Lib.ConvBytes
import Derived.Laws.Slices
import Derived.WalkKit
import Derived.KernelRfl
import Derived.RowKit3
import Derived.Deep.LoopGhost
import Derived.Deep.QuietTactic
import Derived.BigQuiet
import Derived.WideLaws
import Derived.Deep.DeepCutAuto
import Derived.Deep.CutBlock
import Derived.Deep.RegionHeld3
import Derived.Laws.Rows
import Derived.Lib.AppendStr
import Derived.ArgAppend
import Derived.Laws.IdiomCopy
import Derived.OrdersHeld
import Derived.Laws.BitsLemmas
import Derived.RowKit
import Derived.Deep.RegionLaw
import Derived.Lib.SliceRun
import Derived.Test.YtfhbjjkkhjijmaaDoorWWords
import Derived.Test.YtfhbjjkkhjijmaaDoorWLast
import Derived.Test.YtfhbjjkkhjijmaaDoorWTab
import Derived.Test.YtfhbjjkkhjijmaaDoorWFour
import Derived.Test.YtfhbjjkkhjijmaaDoorWQPut
import Derived.Test.YtfhbjjkkhjijmaaDoorWApart
import Derived.Test.YtfhbjjkkhjijmaaDoorWArr
import Derived.Test.YtfhbjjkkhjijmaaDoorWZeros
import Derived.Test.YtfhbjjkkhjijmaaDoorWFoot
import Derived.Test.YtfhbjjkkhjijmaaDoorWKept
import Derived.Test.YtfhbjjkkhjijmaaDoorWShare
import Derived.Test.YtfhbjjkkhjijmaaDoorWN
import Derived.Test.YtfhbjjkkhjijmaaDoorWFootNe
import Derived.Test.YtfhbjjkkhjijmaaDoorWAt
import Derived.Test.YtfhbjjkkhjijmaaDoorWEqStruct
import Derived.Test.YtfhbjjkkhjijmaaDoorWRepsOne
import Derived.Test.YtfhbjjkkhjijmaaDoorWInv
import Derived.Test.YtfhbjjkkhjijmaaDoorWInvWords
import Derived.Test.YtfhbjjkkhjijmaaDoorWGuard
import Derived.Test.YtfhbjjkkhjijmaaDoorWNEv
import Derived.Test.YtfhbjjkkhjijmaaDoorWMore
namespace Go.Proofs.YtfhbjjkkhjijmaaDoor.PFnSettings
open Go.RowKit Go.Proofs.YtfhbjjkkhjijmaaDoorW.PrintWords Go.Proofs.YtfhbjjkkhjijmaaDoorW.PrintLast Go.Proofs.YtfhbjjkkhjijmaaDoorW.PrintMore
attribute [local go_sem] max2_int min2_int max_two min_two max_three min_three max_four min_four   -- for this text's walks alone
set_option linter.unusedVariables false
set_option linter.unusedSimpArgs false



def errW : Option Int → Value
  | none => .nilIface
  | some c => .iface 0 (.int .i64 c)
theorem errW_none : errW none = .nilIface := rfl
theorem errW_some (c : Int) : errW (some c) = .iface 0 (.int .i64 c) := rfl

theorem info26 : (Tryd.prog.info? 26).map (fun i => (i.zero, i.size, i.bytes)) = some (some (.agg #[(.int .i8 0), (.int .i8 0), (.int .i8 0)]), 3, 3) := by kernel_rfl
-- the values' own types
/-! #### struct type 26 -/
structure S26 where
  f0 : Int
  f1 : Int
  f2 : Int
def z26 : S26 := ⟨(0 : Int), (0 : Int), (0 : Int)⟩
def k26 : Kd S26 := Kd.iso (Kd.pair (Kd.int .i8) (Kd.pair (Kd.int .i8) (Kd.int .i8))) (fun x : S26 => (x.f0, x.f1, x.f2))
theorem k26_open {w : World} {x : S26} {cs : List Value} (h : k26.K w x cs) : cs = [.int .i8 x.f0, .int .i8 x.f1, .int .i8 x.f2] := by
  obtain ⟨_, _, rfl, rfl, ⟨_, _, rfl, rfl, rfl⟩⟩ := h
  exact rfl
theorem k26_openM {w : World} {base : Nat} {ok : Nat → Prop} {x : S26} {cs : List Value} (h : k26.M w base ok x cs) : cs = [.int .i8 x.f0, .int .i8 x.f1, .int .i8 x.f2] := by
  obtain ⟨_, _, rfl, rfl, ⟨_, _, rfl, rfl, rfl⟩⟩ := h
  exact rfl
theorem k26_mk (w : World) (x : S26)  : k26.K w x [.int .i8 x.f0, .int .i8 x.f1, .int .i8 x.f2] := ⟨[.int .i8 x.f0], [.int .i8 x.f1, .int .i8 x.f2], rfl, rfl, ⟨[.int .i8 x.f1], [.int .i8 x.f2], rfl, rfl, rfl⟩⟩
theorem k26_mkM (w : World) (base : Nat) (ok : Nat → Prop) (x : S26)  : k26.M w base ok x [.int .i8 x.f0, .int .i8 x.f1, .int .i8 x.f2] := ⟨[.int .i8 x.f0], [.int .i8 x.f1, .int .i8 x.f2], rfl, rfl, ⟨[.int .i8 x.f1], [.int .i8 x.f2], rfl, rfl, rfl⟩⟩
def rd_T26 (xs : List S26) (i : Int) : S26 := xs.getD i.toNat z26
theorem at_T26 {w : World} {A : Option Addr} {n : Nat} {xs : List S26} (h : Kd.C k26 w A n xs) (i : Int) (h0 : 0 ≤ i) (h1 : i < n) : ∃ ad , A = some ad ∧ w.cell? (ad.add (i.toNat * 3)) = some (.int .i8 (rd_T26 xs i).f0) ∧ w.cell? ⟨(ad.add (i.toNat * 3)).block, (ad.add (i.toNat * 3)).off + 1, none⟩ = some (.int .i8 (rd_T26 xs i).f1) ∧ w.cell? ⟨(ad.add (i.toNat * 3)).block, (ad.add (i.toNat * 3)).off + 2, none⟩ = some (.int .i8 (rd_T26 xs i).f2) := by
  obtain ⟨ad, c, e, _, hK, hc0⟩ := Kd.C_get h z26 i h0 h1
  have hc : ∀ j u, c[j]? = some u → w.cell? (ad.add (i.toNat * 3 + j)) = some u := hc0
  obtain rfl := k26_open hK
  exact ⟨ad, e, hc 0 _ rfl, by rw [← add_field _ _ 1 (by omega)]; exact hc 1 _ rfl, by rw [← add_field _ _ 2 (by omega)]; exact hc 2 _ rfl⟩

end Go.Proofs.YtfhbjjkkhjijmaaDoor.PFnSettings
