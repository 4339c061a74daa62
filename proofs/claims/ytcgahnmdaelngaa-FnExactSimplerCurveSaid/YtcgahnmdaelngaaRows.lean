/-
  No cell of these rows narrows 'for every input' (looked for: loops, veiled, ifaces, maps, wideKeys, modest, calm, conditions, laid).
  DERIVED. THE GIVEN ROWS OF THIS SEAT. 8 by the template 'for every input the law returns true; each argument reads behind the call as it read before'; 0 by the template 'total and deterministic' (their statements: YtcgahnmdaelngaaTotals.lean).
  GIVEN WITH THE SEED: the statements are not yours to turn. If you find one false, say at which input.
  Laid BY PROGRAM, IN A SANDBOX (cutbox-rows.mjs): the forced cells as the released guide's own fill.sh prints them over the translation 1e92854e0e2e7537… (all of the seat's roots in one cut). By AI agents, Wed Nov 11 2026. No macro, syntax, notation, axiom, sorry.
-/
import Derived.Test.YtcgahnmdaelngaaChecked
import GoSem.Claim
import GoSem.ClaimJoined
import GoSem.ClaimMapViews
import Derived.JoinedTies
import Derived.KernelRfl
namespace Go.Proofs.Ytcgahnmdaelngaa
/- THE CELL 'sum', in the pinned program and in every row, IS THE sha256 OF THE DUMP (.gsa) THAT YtcgahnmdaelngaaProg.lean LOADS. Nothing in Lean hashes anything: it is a label: what it is worth is what the hold of that sum in a sandbox is worth. -/
noncomputable def Try.pinned : Pinned := { name := "ytcgahnmdaelngaa", sum := "1e92854e0e2e75376fc6c81c143b13683264cc21d2c2a59c31683be93b1a5ae8", checked := Try.checked }
namespace Rows
def none {H : Type} : Left H := { results := [], args := [] }

/-- 'laws.FnMovedCurves': WHATEVER THE INPUT: true; the input reads as it did. -/
def fnMovedCurvesSpec : ChangeSpec := { name := "fnMovedCurves", fn := fun _ => fun
  | [d1, d2] => { results := [.lit (.bool true)], args := [d1, d2] }
  | _ => none }
def fnMovedCurvesRow : OpenClaim := { program := "ytcgahnmdaelngaa", sum := "1e92854e0e2e75376fc6c81c143b13683264cc21d2c2a59c31683be93b1a5ae8", func := "loop.example/g01301/laws.FnMovedCurves", spec := "fnMovedCurves", unfollowed := true, recurses := true, apart := false }
def FnMovedCurvesSaid : Prop := fnMovedCurvesRow.holds Try.pinned (OpenSpec.ofChange fnMovedCurvesSpec)

/-- ITS FALSE NEIGHBOUR: 'it returns false'. Refute it at one input. -/
def fnMovedCurvesWrong : ChangeSpec := { name := "fnMovedCurves", fn := fun _ => fun
  | [d1, d2] => { results := [.lit (.bool false)], args := [d1, d2] }
  | _ => none }
def FnMovedCurvesWrongFalsely : Prop := fnMovedCurvesRow.holds Try.pinned (OpenSpec.ofChange fnMovedCurvesWrong)

/-- 'laws.FnExactGreatestGap': WHATEVER THE INPUT: true; the input reads as it did. -/
def fnExactGreatestGapSpec : ChangeSpec := { name := "fnExactGreatestGap", fn := fun _ => fun
  | [d1, d2] => { results := [.lit (.bool true)], args := [d1, d2] }
  | _ => none }
def fnExactGreatestGapRow : OpenClaim := { program := "ytcgahnmdaelngaa", sum := "1e92854e0e2e75376fc6c81c143b13683264cc21d2c2a59c31683be93b1a5ae8", func := "loop.example/g01301/laws.FnExactGreatestGap", spec := "fnExactGreatestGap", apart := false }
def FnExactGreatestGapSaid : Prop := fnExactGreatestGapRow.holds Try.pinned (OpenSpec.ofChange fnExactGreatestGapSpec)

/-- ITS FALSE NEIGHBOUR: 'it returns false'. Refute it at one input. -/
def fnExactGreatestGapWrong : ChangeSpec := { name := "fnExactGreatestGap", fn := fun _ => fun
  | [d1, d2] => { results := [.lit (.bool false)], args := [d1, d2] }
  | _ => none }
def FnExactGreatestGapWrongFalsely : Prop := fnExactGreatestGapRow.holds Try.pinned (OpenSpec.ofChange fnExactGreatestGapWrong)

/-- 'laws.FnExactPrintedAt': WHATEVER THE INPUT: true; the input reads as it did. -/
def fnExactPrintedAtSpec : ChangeSpec := { name := "fnExactPrintedAt", fn := fun _ => fun
  | [d1, d2, d3, d4] => { results := [.lit (.bool true)], args := [d1, d2, d3, d4] }
  | _ => none }
def fnExactPrintedAtRow : OpenClaim := { program := "ytcgahnmdaelngaa", sum := "1e92854e0e2e75376fc6c81c143b13683264cc21d2c2a59c31683be93b1a5ae8", func := "loop.example/g01301/laws.FnExactPrintedAt", spec := "fnExactPrintedAt", apart := false }
def FnExactPrintedAtSaid : Prop := fnExactPrintedAtRow.holds Try.pinned (OpenSpec.ofChange fnExactPrintedAtSpec)

/-- ITS FALSE NEIGHBOUR: 'it returns false'. Refute it at one input. -/
def fnExactPrintedAtWrong : ChangeSpec := { name := "fnExactPrintedAt", fn := fun _ => fun
  | [d1, d2, d3, d4] => { results := [.lit (.bool false)], args := [d1, d2, d3, d4] }
  | _ => none }
def FnExactPrintedAtWrongFalsely : Prop := fnExactPrintedAtRow.holds Try.pinned (OpenSpec.ofChange fnExactPrintedAtWrong)

/-- 'laws.FnExactLightFor': WHATEVER THE INPUT: true; the input reads as it did. -/
def fnExactLightForSpec : ChangeSpec := { name := "fnExactLightFor", fn := fun _ => fun
  | [d1, d2, d3, d4] => { results := [.lit (.bool true)], args := [d1, d2, d3, d4] }
  | _ => none }
def fnExactLightForRow : OpenClaim := { program := "ytcgahnmdaelngaa", sum := "1e92854e0e2e75376fc6c81c143b13683264cc21d2c2a59c31683be93b1a5ae8", func := "loop.example/g01301/laws.FnExactLightFor", spec := "fnExactLightFor", apart := false }
def FnExactLightForSaid : Prop := fnExactLightForRow.holds Try.pinned (OpenSpec.ofChange fnExactLightForSpec)

/-- ITS FALSE NEIGHBOUR: 'it returns false'. Refute it at one input. -/
def fnExactLightForWrong : ChangeSpec := { name := "fnExactLightFor", fn := fun _ => fun
  | [d1, d2, d3, d4] => { results := [.lit (.bool false)], args := [d1, d2, d3, d4] }
  | _ => none }
def FnExactLightForWrongFalsely : Prop := fnExactLightForRow.holds Try.pinned (OpenSpec.ofChange fnExactLightForWrong)

/-- 'laws.FnExactCurveThrough': WHATEVER THE INPUT: true; the input reads as it did. -/
def fnExactCurveThroughSpec : ChangeSpec := { name := "fnExactCurveThrough", fn := fun _ => fun
  | [d] => { results := [.lit (.bool true)], args := [d] }
  | _ => none }
def fnExactCurveThroughRow : OpenClaim := { program := "ytcgahnmdaelngaa", sum := "1e92854e0e2e75376fc6c81c143b13683264cc21d2c2a59c31683be93b1a5ae8", func := "loop.example/g01301/laws.FnExactCurveThrough", spec := "fnExactCurveThrough", unfollowed := true, recurses := true, apart := false }
def FnExactCurveThroughSaid : Prop := fnExactCurveThroughRow.holds Try.pinned (OpenSpec.ofChange fnExactCurveThroughSpec)

/-- ITS FALSE NEIGHBOUR: 'it returns false'. Refute it at one input. -/
def fnExactCurveThroughWrong : ChangeSpec := { name := "fnExactCurveThrough", fn := fun _ => fun
  | [d] => { results := [.lit (.bool false)], args := [d] }
  | _ => none }
def FnExactCurveThroughWrongFalsely : Prop := fnExactCurveThroughRow.holds Try.pinned (OpenSpec.ofChange fnExactCurveThroughWrong)

/-- 'laws.FnExactPrintedRange': WHATEVER THE INPUT: true; the input reads as it did. -/
def fnExactPrintedRangeSpec : ChangeSpec := { name := "fnExactPrintedRange", fn := fun _ => fun
  | [d1, d2, d3, d4, d5] => { results := [.lit (.bool true)], args := [d1, d2, d3, d4, d5] }
  | _ => none }
def fnExactPrintedRangeRow : OpenClaim := { program := "ytcgahnmdaelngaa", sum := "1e92854e0e2e75376fc6c81c143b13683264cc21d2c2a59c31683be93b1a5ae8", func := "loop.example/g01301/laws.FnExactPrintedRange", spec := "fnExactPrintedRange", apart := false }
def FnExactPrintedRangeSaid : Prop := fnExactPrintedRangeRow.holds Try.pinned (OpenSpec.ofChange fnExactPrintedRangeSpec)

/-- ITS FALSE NEIGHBOUR: 'it returns false'. Refute it at one input. -/
def fnExactPrintedRangeWrong : ChangeSpec := { name := "fnExactPrintedRange", fn := fun _ => fun
  | [d1, d2, d3, d4, d5] => { results := [.lit (.bool false)], args := [d1, d2, d3, d4, d5] }
  | _ => none }
def FnExactPrintedRangeWrongFalsely : Prop := fnExactPrintedRangeRow.holds Try.pinned (OpenSpec.ofChange fnExactPrintedRangeWrong)

/-- 'laws.FnPrinted': WHATEVER THE INPUT: true; the input reads as it did. -/
def fnPrintedSpec : ChangeSpec := { name := "fnPrinted", fn := fun _ => fun
  | [d1, d2] => { results := [.lit (.bool true)], args := [d1, d2] }
  | _ => none }
def fnPrintedRow : OpenClaim := { program := "ytcgahnmdaelngaa", sum := "1e92854e0e2e75376fc6c81c143b13683264cc21d2c2a59c31683be93b1a5ae8", func := "loop.example/g01301/laws.FnPrinted", spec := "fnPrinted", apart := false }
def FnPrintedSaid : Prop := fnPrintedRow.holds Try.pinned (OpenSpec.ofChange fnPrintedSpec)

/-- ITS FALSE NEIGHBOUR: 'it returns false'. Refute it at one input. -/
def fnPrintedWrong : ChangeSpec := { name := "fnPrinted", fn := fun _ => fun
  | [d1, d2] => { results := [.lit (.bool false)], args := [d1, d2] }
  | _ => none }
def FnPrintedWrongFalsely : Prop := fnPrintedRow.holds Try.pinned (OpenSpec.ofChange fnPrintedWrong)

/-- 'laws.FnExactSimplerCurve': WHATEVER THE INPUT: true; the input reads as it did. -/
def fnExactSimplerCurveSpec : ChangeSpec := { name := "fnExactSimplerCurve", fn := fun _ => fun
  | [d1, d2] => { results := [.lit (.bool true)], args := [d1, d2] }
  | _ => none }
def fnExactSimplerCurveRow : OpenClaim := { program := "ytcgahnmdaelngaa", sum := "1e92854e0e2e75376fc6c81c143b13683264cc21d2c2a59c31683be93b1a5ae8", func := "loop.example/g01301/laws.FnExactSimplerCurve", spec := "fnExactSimplerCurve", apart := false }
def FnExactSimplerCurveSaid : Prop := fnExactSimplerCurveRow.holds Try.pinned (OpenSpec.ofChange fnExactSimplerCurveSpec)

/-- ITS FALSE NEIGHBOUR: 'it returns false'. Refute it at one input. -/
def fnExactSimplerCurveWrong : ChangeSpec := { name := "fnExactSimplerCurve", fn := fun _ => fun
  | [d1, d2] => { results := [.lit (.bool false)], args := [d1, d2] }
  | _ => none }
def FnExactSimplerCurveWrongFalsely : Prop := fnExactSimplerCurveRow.holds Try.pinned (OpenSpec.ofChange fnExactSimplerCurveWrong)

/- THE SECOND FORM. 'bulk': how many values and letters a reading holds, each counted each time it is reached (what is shared counts as often as it is met; a slice's spare places count too). A statement '..UptoSaid' is the law's where the arguments, and the package variables that the reading takes, are together of bulk at most 1048576: NARROWER than '..Said'. Prove '..Said' where nothing that the law and all that it calls make is longer than what came in: it says more and counts as full. Else prove '..UptoSaid'. A law counts once. -/
mutual
def uptoBulk {H : Type} : DataW H → Nat
  | .lit (.string bytes) => bytes.length + 1
  | .lit _ => 1
  | .nil => 1
  | .ptr d => uptoBulk d + 1
  | .slice elems spare => uptoBulkAll elems + uptoBulkAll spare + 1
  | .agg parts => uptoBulkAll parts + 1
  | .iface _ d => uptoBulk d + 1
  | .map entries => uptoBulkEntries entries + 1
  | .held _ => 1
def uptoBulkAll {H : Type} : List (DataW H) → Nat
  | [] => 0
  | d :: r => uptoBulk d + uptoBulkAll r
def uptoBulkEntries {H : Type} : List (Lit × DataW H) → Nat
  | [] => 0
  | x :: r => uptoBulkEntry x + uptoBulkEntries r
def uptoBulkEntry {H : Type} : Lit × DataW H → Nat
  | (.string bytes, d) => bytes.length + uptoBulk d + 1
  | (_, d) => uptoBulk d + 1
 end
def uptoSmall : (H : Type) → List (DataW H) → Bool := fun _ ds => decide (uptoBulkAll ds ≤ 1048576)
def OpenSpec.upto (s : _root_.Go.ChangeSpec) : _root_.Go.OpenSpec := { _root_.Go.OpenSpec.ofChange s with cond := some uptoSmall }

/-- 'laws.FnMovedCurves', WHERE WHAT IT READS IS OF BULK AT MOST 1048576: true; the input reads as it did. -/
def fnMovedCurvesUptoRow : OpenClaim := { program := "ytcgahnmdaelngaa", sum := "1e92854e0e2e75376fc6c81c143b13683264cc21d2c2a59c31683be93b1a5ae8", func := "loop.example/g01301/laws.FnMovedCurves", spec := "fnMovedCurves", unfollowed := true, recurses := true, apart := false, narrowed := true }
def FnMovedCurvesUptoSaid : Prop := fnMovedCurvesUptoRow.holds Try.pinned (OpenSpec.upto fnMovedCurvesSpec)

/-- 'laws.FnExactGreatestGap', WHERE WHAT IT READS IS OF BULK AT MOST 1048576: true; the input reads as it did. -/
def fnExactGreatestGapUptoRow : OpenClaim := { program := "ytcgahnmdaelngaa", sum := "1e92854e0e2e75376fc6c81c143b13683264cc21d2c2a59c31683be93b1a5ae8", func := "loop.example/g01301/laws.FnExactGreatestGap", spec := "fnExactGreatestGap", apart := false, narrowed := true }
def FnExactGreatestGapUptoSaid : Prop := fnExactGreatestGapUptoRow.holds Try.pinned (OpenSpec.upto fnExactGreatestGapSpec)

/-- 'laws.FnExactPrintedAt', WHERE WHAT IT READS IS OF BULK AT MOST 1048576: true; the input reads as it did. -/
def fnExactPrintedAtUptoRow : OpenClaim := { program := "ytcgahnmdaelngaa", sum := "1e92854e0e2e75376fc6c81c143b13683264cc21d2c2a59c31683be93b1a5ae8", func := "loop.example/g01301/laws.FnExactPrintedAt", spec := "fnExactPrintedAt", apart := false, narrowed := true }
def FnExactPrintedAtUptoSaid : Prop := fnExactPrintedAtUptoRow.holds Try.pinned (OpenSpec.upto fnExactPrintedAtSpec)

/-- 'laws.FnExactLightFor', WHERE WHAT IT READS IS OF BULK AT MOST 1048576: true; the input reads as it did. -/
def fnExactLightForUptoRow : OpenClaim := { program := "ytcgahnmdaelngaa", sum := "1e92854e0e2e75376fc6c81c143b13683264cc21d2c2a59c31683be93b1a5ae8", func := "loop.example/g01301/laws.FnExactLightFor", spec := "fnExactLightFor", apart := false, narrowed := true }
def FnExactLightForUptoSaid : Prop := fnExactLightForUptoRow.holds Try.pinned (OpenSpec.upto fnExactLightForSpec)

/-- 'laws.FnExactCurveThrough', WHERE WHAT IT READS IS OF BULK AT MOST 1048576: true; the input reads as it did. -/
def fnExactCurveThroughUptoRow : OpenClaim := { program := "ytcgahnmdaelngaa", sum := "1e92854e0e2e75376fc6c81c143b13683264cc21d2c2a59c31683be93b1a5ae8", func := "loop.example/g01301/laws.FnExactCurveThrough", spec := "fnExactCurveThrough", unfollowed := true, recurses := true, apart := false, narrowed := true }
def FnExactCurveThroughUptoSaid : Prop := fnExactCurveThroughUptoRow.holds Try.pinned (OpenSpec.upto fnExactCurveThroughSpec)

/-- 'laws.FnExactPrintedRange', WHERE WHAT IT READS IS OF BULK AT MOST 1048576: true; the input reads as it did. -/
def fnExactPrintedRangeUptoRow : OpenClaim := { program := "ytcgahnmdaelngaa", sum := "1e92854e0e2e75376fc6c81c143b13683264cc21d2c2a59c31683be93b1a5ae8", func := "loop.example/g01301/laws.FnExactPrintedRange", spec := "fnExactPrintedRange", apart := false, narrowed := true }
def FnExactPrintedRangeUptoSaid : Prop := fnExactPrintedRangeUptoRow.holds Try.pinned (OpenSpec.upto fnExactPrintedRangeSpec)

/-- 'laws.FnPrinted', WHERE WHAT IT READS IS OF BULK AT MOST 1048576: true; the input reads as it did. -/
def fnPrintedUptoRow : OpenClaim := { program := "ytcgahnmdaelngaa", sum := "1e92854e0e2e75376fc6c81c143b13683264cc21d2c2a59c31683be93b1a5ae8", func := "loop.example/g01301/laws.FnPrinted", spec := "fnPrinted", apart := false, narrowed := true }
def FnPrintedUptoSaid : Prop := fnPrintedUptoRow.holds Try.pinned (OpenSpec.upto fnPrintedSpec)

/-- 'laws.FnExactSimplerCurve', WHERE WHAT IT READS IS OF BULK AT MOST 1048576: true; the input reads as it did. -/
def fnExactSimplerCurveUptoRow : OpenClaim := { program := "ytcgahnmdaelngaa", sum := "1e92854e0e2e75376fc6c81c143b13683264cc21d2c2a59c31683be93b1a5ae8", func := "loop.example/g01301/laws.FnExactSimplerCurve", spec := "fnExactSimplerCurve", apart := false, narrowed := true }
def FnExactSimplerCurveUptoSaid : Prop := fnExactSimplerCurveUptoRow.holds Try.pinned (OpenSpec.upto fnExactSimplerCurveSpec)

end Rows
end Go.Proofs.Ytcgahnmdaelngaa
