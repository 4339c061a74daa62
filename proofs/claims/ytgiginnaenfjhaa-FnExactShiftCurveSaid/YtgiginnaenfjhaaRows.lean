/-
  No cell of these rows narrows 'for every input' (looked for: loops, veiled, ifaces, maps, wideKeys, modest, calm, conditions, laid).
  DERIVED. THE GIVEN ROWS OF THIS SEAT. 12 by the template 'for every input the law returns true; each argument reads behind the call as it read before'; 0 by the template 'total and deterministic' (their statements: YtgiginnaenfjhaaTotals.lean).
  GIVEN WITH THE SEED: the statements are not yours to turn. If you find one false, say at which input.
  Laid BY PROGRAM, IN A SANDBOX (cutbox-rows.mjs): the forced cells as the released guide's own fill.sh prints them over the translation 74206e2d67b674ee… (all of the seat's roots in one cut). By AI agents, Wed Nov 11 2026. No macro, syntax, notation, axiom, sorry.
-/
import Derived.Test.YtgiginnaenfjhaaChecked
import GoSem.Claim
import GoSem.ClaimJoined
import GoSem.ClaimMapViews
import Derived.JoinedTies
import Derived.KernelRfl
namespace Go.Proofs.Ytgiginnaenfjhaa
/- THE CELL 'sum', in the pinned program and in every row, IS THE sha256 OF THE DUMP (.gsa) THAT YtgiginnaenfjhaaProg.lean LOADS. Nothing in Lean hashes anything: it is a label: what it is worth is what the hold of that sum in a sandbox is worth. -/
noncomputable def Try.pinned : Pinned := { name := "ytgiginnaenfjhaa", sum := "74206e2d67b674ee3ccd8206e66c29fee7e84c6db3efa27e9297b92acd46044d", checked := Try.checked }
namespace Rows
def none {H : Type} : Left H := { results := [], args := [] }

/-- 'laws.FnExactSameCurve': WHATEVER THE INPUT: true; the input reads as it did. -/
def fnExactSameCurveSpec : ChangeSpec := { name := "fnExactSameCurve", fn := fun _ => fun
  | [d1, d2] => { results := [.lit (.bool true)], args := [d1, d2] }
  | _ => none }
def fnExactSameCurveRow : OpenClaim := { program := "ytgiginnaenfjhaa", sum := "74206e2d67b674ee3ccd8206e66c29fee7e84c6db3efa27e9297b92acd46044d", func := "loop.example/g01301/laws.FnExactSameCurve", spec := "fnExactSameCurve", apart := false }
def FnExactSameCurveSaid : Prop := fnExactSameCurveRow.holds Try.pinned (OpenSpec.ofChange fnExactSameCurveSpec)

/-- ITS FALSE NEIGHBOUR: 'it returns false'. Refute it at one input. -/
def fnExactSameCurveWrong : ChangeSpec := { name := "fnExactSameCurve", fn := fun _ => fun
  | [d1, d2] => { results := [.lit (.bool false)], args := [d1, d2] }
  | _ => none }
def FnExactSameCurveWrongFalsely : Prop := fnExactSameCurveRow.holds Try.pinned (OpenSpec.ofChange fnExactSameCurveWrong)

/-- 'laws.FnExactValidCurve': WHATEVER THE INPUT: true; the input reads as it did. -/
def fnExactValidCurveSpec : ChangeSpec := { name := "fnExactValidCurve", fn := fun _ => fun
  | [d] => { results := [.lit (.bool true)], args := [d] }
  | _ => none }
def fnExactValidCurveRow : OpenClaim := { program := "ytgiginnaenfjhaa", sum := "74206e2d67b674ee3ccd8206e66c29fee7e84c6db3efa27e9297b92acd46044d", func := "loop.example/g01301/laws.FnExactValidCurve", spec := "fnExactValidCurve", apart := false }
def FnExactValidCurveSaid : Prop := fnExactValidCurveRow.holds Try.pinned (OpenSpec.ofChange fnExactValidCurveSpec)

/-- ITS FALSE NEIGHBOUR: 'it returns false'. Refute it at one input. -/
def fnExactValidCurveWrong : ChangeSpec := { name := "fnExactValidCurve", fn := fun _ => fun
  | [d] => { results := [.lit (.bool false)], args := [d] }
  | _ => none }
def FnExactValidCurveWrongFalsely : Prop := fnExactValidCurveRow.holds Try.pinned (OpenSpec.ofChange fnExactValidCurveWrong)

/-- 'laws.FnExactDensitiesOf': WHATEVER THE INPUT: true; the input reads as it did. -/
def fnExactDensitiesOfSpec : ChangeSpec := { name := "fnExactDensitiesOf", fn := fun _ => fun
  | [d] => { results := [.lit (.bool true)], args := [d] }
  | _ => none }
def fnExactDensitiesOfRow : OpenClaim := { program := "ytgiginnaenfjhaa", sum := "74206e2d67b674ee3ccd8206e66c29fee7e84c6db3efa27e9297b92acd46044d", func := "loop.example/g01301/laws.FnExactDensitiesOf", spec := "fnExactDensitiesOf", apart := false }
def FnExactDensitiesOfSaid : Prop := fnExactDensitiesOfRow.holds Try.pinned (OpenSpec.ofChange fnExactDensitiesOfSpec)

/-- ITS FALSE NEIGHBOUR: 'it returns false'. Refute it at one input. -/
def fnExactDensitiesOfWrong : ChangeSpec := { name := "fnExactDensitiesOf", fn := fun _ => fun
  | [d] => { results := [.lit (.bool false)], args := [d] }
  | _ => none }
def FnExactDensitiesOfWrongFalsely : Prop := fnExactDensitiesOfRow.holds Try.pinned (OpenSpec.ofChange fnExactDensitiesOfWrong)

/-- 'laws.FnExactSteepestPart': WHATEVER THE INPUT: true; the input reads as it did. -/
def fnExactSteepestPartSpec : ChangeSpec := { name := "fnExactSteepestPart", fn := fun _ => fun
  | [d] => { results := [.lit (.bool true)], args := [d] }
  | _ => none }
def fnExactSteepestPartRow : OpenClaim := { program := "ytgiginnaenfjhaa", sum := "74206e2d67b674ee3ccd8206e66c29fee7e84c6db3efa27e9297b92acd46044d", func := "loop.example/g01301/laws.FnExactSteepestPart", spec := "fnExactSteepestPart", recurses := true, apart := false }
def FnExactSteepestPartSaid : Prop := fnExactSteepestPartRow.holds Try.pinned (OpenSpec.ofChange fnExactSteepestPartSpec)

/-- ITS FALSE NEIGHBOUR: 'it returns false'. Refute it at one input. -/
def fnExactSteepestPartWrong : ChangeSpec := { name := "fnExactSteepestPart", fn := fun _ => fun
  | [d] => { results := [.lit (.bool false)], args := [d] }
  | _ => none }
def FnExactSteepestPartWrongFalsely : Prop := fnExactSteepestPartRow.holds Try.pinned (OpenSpec.ofChange fnExactSteepestPartWrong)

/-- 'laws.FnExactCurveAt': WHATEVER THE INPUT: true; the input reads as it did. -/
def fnExactCurveAtSpec : ChangeSpec := { name := "fnExactCurveAt", fn := fun _ => fun
  | [d1, d2] => { results := [.lit (.bool true)], args := [d1, d2] }
  | _ => none }
def fnExactCurveAtRow : OpenClaim := { program := "ytgiginnaenfjhaa", sum := "74206e2d67b674ee3ccd8206e66c29fee7e84c6db3efa27e9297b92acd46044d", func := "loop.example/g01301/laws.FnExactCurveAt", spec := "fnExactCurveAt", apart := false }
def FnExactCurveAtSaid : Prop := fnExactCurveAtRow.holds Try.pinned (OpenSpec.ofChange fnExactCurveAtSpec)

/-- ITS FALSE NEIGHBOUR: 'it returns false'. Refute it at one input. -/
def fnExactCurveAtWrong : ChangeSpec := { name := "fnExactCurveAt", fn := fun _ => fun
  | [d1, d2] => { results := [.lit (.bool false)], args := [d1, d2] }
  | _ => none }
def FnExactCurveAtWrongFalsely : Prop := fnExactCurveAtRow.holds Try.pinned (OpenSpec.ofChange fnExactCurveAtWrong)

/-- 'laws.FnExactRiseAt': WHATEVER THE INPUT: true; the input reads as it did. -/
def fnExactRiseAtSpec : ChangeSpec := { name := "fnExactRiseAt", fn := fun _ => fun
  | [d1, d2] => { results := [.lit (.bool true)], args := [d1, d2] }
  | _ => none }
def fnExactRiseAtRow : OpenClaim := { program := "ytgiginnaenfjhaa", sum := "74206e2d67b674ee3ccd8206e66c29fee7e84c6db3efa27e9297b92acd46044d", func := "loop.example/g01301/laws.FnExactRiseAt", spec := "fnExactRiseAt", apart := false }
def FnExactRiseAtSaid : Prop := fnExactRiseAtRow.holds Try.pinned (OpenSpec.ofChange fnExactRiseAtSpec)

/-- ITS FALSE NEIGHBOUR: 'it returns false'. Refute it at one input. -/
def fnExactRiseAtWrong : ChangeSpec := { name := "fnExactRiseAt", fn := fun _ => fun
  | [d1, d2] => { results := [.lit (.bool false)], args := [d1, d2] }
  | _ => none }
def FnExactRiseAtWrongFalsely : Prop := fnExactRiseAtRow.holds Try.pinned (OpenSpec.ofChange fnExactRiseAtWrong)

/-- 'laws.FnExactStretchCurve': WHATEVER THE INPUT: true; the input reads as it did. -/
def fnExactStretchCurveSpec : ChangeSpec := { name := "fnExactStretchCurve", fn := fun _ => fun
  | [d1, d2, d3] => { results := [.lit (.bool true)], args := [d1, d2, d3] }
  | _ => none }
def fnExactStretchCurveRow : OpenClaim := { program := "ytgiginnaenfjhaa", sum := "74206e2d67b674ee3ccd8206e66c29fee7e84c6db3efa27e9297b92acd46044d", func := "loop.example/g01301/laws.FnExactStretchCurve", spec := "fnExactStretchCurve", unfollowed := true, recurses := true, apart := false }
def FnExactStretchCurveSaid : Prop := fnExactStretchCurveRow.holds Try.pinned (OpenSpec.ofChange fnExactStretchCurveSpec)

/-- ITS FALSE NEIGHBOUR: 'it returns false'. Refute it at one input. -/
def fnExactStretchCurveWrong : ChangeSpec := { name := "fnExactStretchCurve", fn := fun _ => fun
  | [d1, d2, d3] => { results := [.lit (.bool false)], args := [d1, d2, d3] }
  | _ => none }
def FnExactStretchCurveWrongFalsely : Prop := fnExactStretchCurveRow.holds Try.pinned (OpenSpec.ofChange fnExactStretchCurveWrong)

/-- 'laws.FnExactLiftCurve': WHATEVER THE INPUT: true; the input reads as it did. -/
def fnExactLiftCurveSpec : ChangeSpec := { name := "fnExactLiftCurve", fn := fun _ => fun
  | [d1, d2] => { results := [.lit (.bool true)], args := [d1, d2] }
  | _ => none }
def fnExactLiftCurveRow : OpenClaim := { program := "ytgiginnaenfjhaa", sum := "74206e2d67b674ee3ccd8206e66c29fee7e84c6db3efa27e9297b92acd46044d", func := "loop.example/g01301/laws.FnExactLiftCurve", spec := "fnExactLiftCurve", unfollowed := true, recurses := true, apart := false }
def FnExactLiftCurveSaid : Prop := fnExactLiftCurveRow.holds Try.pinned (OpenSpec.ofChange fnExactLiftCurveSpec)

/-- ITS FALSE NEIGHBOUR: 'it returns false'. Refute it at one input. -/
def fnExactLiftCurveWrong : ChangeSpec := { name := "fnExactLiftCurve", fn := fun _ => fun
  | [d1, d2] => { results := [.lit (.bool false)], args := [d1, d2] }
  | _ => none }
def FnExactLiftCurveWrongFalsely : Prop := fnExactLiftCurveRow.holds Try.pinned (OpenSpec.ofChange fnExactLiftCurveWrong)

/-- 'laws.FnExactShiftCurve': WHATEVER THE INPUT: true; the input reads as it did. -/
def fnExactShiftCurveSpec : ChangeSpec := { name := "fnExactShiftCurve", fn := fun _ => fun
  | [d1, d2] => { results := [.lit (.bool true)], args := [d1, d2] }
  | _ => none }
def fnExactShiftCurveRow : OpenClaim := { program := "ytgiginnaenfjhaa", sum := "74206e2d67b674ee3ccd8206e66c29fee7e84c6db3efa27e9297b92acd46044d", func := "loop.example/g01301/laws.FnExactShiftCurve", spec := "fnExactShiftCurve", unfollowed := true, recurses := true, apart := false }
def FnExactShiftCurveSaid : Prop := fnExactShiftCurveRow.holds Try.pinned (OpenSpec.ofChange fnExactShiftCurveSpec)

/-- ITS FALSE NEIGHBOUR: 'it returns false'. Refute it at one input. -/
def fnExactShiftCurveWrong : ChangeSpec := { name := "fnExactShiftCurve", fn := fun _ => fun
  | [d1, d2] => { results := [.lit (.bool false)], args := [d1, d2] }
  | _ => none }
def FnExactShiftCurveWrongFalsely : Prop := fnExactShiftCurveRow.holds Try.pinned (OpenSpec.ofChange fnExactShiftCurveWrong)

/-- 'laws.FnExactExposureFor': WHATEVER THE INPUT: true; the input reads as it did. -/
def fnExactExposureForSpec : ChangeSpec := { name := "fnExactExposureFor", fn := fun _ => fun
  | [d1, d2] => { results := [.lit (.bool true)], args := [d1, d2] }
  | _ => none }
def fnExactExposureForRow : OpenClaim := { program := "ytgiginnaenfjhaa", sum := "74206e2d67b674ee3ccd8206e66c29fee7e84c6db3efa27e9297b92acd46044d", func := "loop.example/g01301/laws.FnExactExposureFor", spec := "fnExactExposureFor", apart := false }
def FnExactExposureForSaid : Prop := fnExactExposureForRow.holds Try.pinned (OpenSpec.ofChange fnExactExposureForSpec)

/-- ITS FALSE NEIGHBOUR: 'it returns false'. Refute it at one input. -/
def fnExactExposureForWrong : ChangeSpec := { name := "fnExactExposureFor", fn := fun _ => fun
  | [d1, d2] => { results := [.lit (.bool false)], args := [d1, d2] }
  | _ => none }
def FnExactExposureForWrongFalsely : Prop := fnExactExposureForRow.holds Try.pinned (OpenSpec.ofChange fnExactExposureForWrong)

/-- 'laws.FnExactExposuresFor': WHATEVER THE INPUT: true; the input reads as it did. -/
def fnExactExposuresForSpec : ChangeSpec := { name := "fnExactExposuresFor", fn := fun _ => fun
  | [d1, d2] => { results := [.lit (.bool true)], args := [d1, d2] }
  | _ => none }
def fnExactExposuresForRow : OpenClaim := { program := "ytgiginnaenfjhaa", sum := "74206e2d67b674ee3ccd8206e66c29fee7e84c6db3efa27e9297b92acd46044d", func := "loop.example/g01301/laws.FnExactExposuresFor", spec := "fnExactExposuresFor", apart := false }
def FnExactExposuresForSaid : Prop := fnExactExposuresForRow.holds Try.pinned (OpenSpec.ofChange fnExactExposuresForSpec)

/-- ITS FALSE NEIGHBOUR: 'it returns false'. Refute it at one input. -/
def fnExactExposuresForWrong : ChangeSpec := { name := "fnExactExposuresFor", fn := fun _ => fun
  | [d1, d2] => { results := [.lit (.bool false)], args := [d1, d2] }
  | _ => none }
def FnExactExposuresForWrongFalsely : Prop := fnExactExposuresForRow.holds Try.pinned (OpenSpec.ofChange fnExactExposuresForWrong)

/-- 'laws.FnExactJoinCurves': WHATEVER THE INPUT: true; the input reads as it did. -/
def fnExactJoinCurvesSpec : ChangeSpec := { name := "fnExactJoinCurves", fn := fun _ => fun
  | [d1, d2, d3] => { results := [.lit (.bool true)], args := [d1, d2, d3] }
  | _ => none }
def fnExactJoinCurvesRow : OpenClaim := { program := "ytgiginnaenfjhaa", sum := "74206e2d67b674ee3ccd8206e66c29fee7e84c6db3efa27e9297b92acd46044d", func := "loop.example/g01301/laws.FnExactJoinCurves", spec := "fnExactJoinCurves", apart := false }
def FnExactJoinCurvesSaid : Prop := fnExactJoinCurvesRow.holds Try.pinned (OpenSpec.ofChange fnExactJoinCurvesSpec)

/-- ITS FALSE NEIGHBOUR: 'it returns false'. Refute it at one input. -/
def fnExactJoinCurvesWrong : ChangeSpec := { name := "fnExactJoinCurves", fn := fun _ => fun
  | [d1, d2, d3] => { results := [.lit (.bool false)], args := [d1, d2, d3] }
  | _ => none }
def FnExactJoinCurvesWrongFalsely : Prop := fnExactJoinCurvesRow.holds Try.pinned (OpenSpec.ofChange fnExactJoinCurvesWrong)

/- THE SECOND FORM. 'bulk': how many values and letters a reading holds, each counted each time it is reached (what is shared counts as often as it is met; a slice's spare places count too). A statement '..UptoSaid' is the law's where the arguments, and the package variables that the reading takes, are together of bulk at most 1048576: NARROWER than '..Said'. Prove '..Said' where nothing that the law and all that it calls make is longer than what came in: it says more and counts as full. Else prove '..UptoSaid'. A law counts once. -/
mutual
def uptoBulk {H : Type} : DataW H → Nat
  | .lit (.string bytes) => bytes.length + 1
  | .lit _ => 1
  | .nil => 1
  | .ptr d => uptoBulk d + 1
  | .slice elems spare => uptoBulkAll elems + uptoBulkAll spare + 1
  | .agg parts => uptoBulkAll parts + 1
  | .iface _ d => uptoBulk d + 1
  | .map entries => uptoBulkEntries entries + 1
  | .held _ => 1
def uptoBulkAll {H : Type} : List (DataW H) → Nat
  | [] => 0
  | d :: r => uptoBulk d + uptoBulkAll r
def uptoBulkEntries {H : Type} : List (Lit × DataW H) → Nat
  | [] => 0
  | x :: r => uptoBulkEntry x + uptoBulkEntries r
def uptoBulkEntry {H : Type} : Lit × DataW H → Nat
  | (.string bytes, d) => bytes.length + uptoBulk d + 1
  | (_, d) => uptoBulk d + 1
 end
def uptoSmall : (H : Type) → List (DataW H) → Bool := fun _ ds => decide (uptoBulkAll ds ≤ 1048576)
def OpenSpec.upto (s : _root_.Go.ChangeSpec) : _root_.Go.OpenSpec := { _root_.Go.OpenSpec.ofChange s with cond := some uptoSmall }

/-- 'laws.FnExactSameCurve', WHERE WHAT IT READS IS OF BULK AT MOST 1048576: true; the input reads as it did. -/
def fnExactSameCurveUptoRow : OpenClaim := { program := "ytgiginnaenfjhaa", sum := "74206e2d67b674ee3ccd8206e66c29fee7e84c6db3efa27e9297b92acd46044d", func := "loop.example/g01301/laws.FnExactSameCurve", spec := "fnExactSameCurve", apart := false, narrowed := true }
def FnExactSameCurveUptoSaid : Prop := fnExactSameCurveUptoRow.holds Try.pinned (OpenSpec.upto fnExactSameCurveSpec)

/-- 'laws.FnExactValidCurve', WHERE WHAT IT READS IS OF BULK AT MOST 1048576: true; the input reads as it did. -/
def fnExactValidCurveUptoRow : OpenClaim := { program := "ytgiginnaenfjhaa", sum := "74206e2d67b674ee3ccd8206e66c29fee7e84c6db3efa27e9297b92acd46044d", func := "loop.example/g01301/laws.FnExactValidCurve", spec := "fnExactValidCurve", apart := false, narrowed := true }
def FnExactValidCurveUptoSaid : Prop := fnExactValidCurveUptoRow.holds Try.pinned (OpenSpec.upto fnExactValidCurveSpec)

/-- 'laws.FnExactDensitiesOf', WHERE WHAT IT READS IS OF BULK AT MOST 1048576: true; the input reads as it did. -/
def fnExactDensitiesOfUptoRow : OpenClaim := { program := "ytgiginnaenfjhaa", sum := "74206e2d67b674ee3ccd8206e66c29fee7e84c6db3efa27e9297b92acd46044d", func := "loop.example/g01301/laws.FnExactDensitiesOf", spec := "fnExactDensitiesOf", apart := false, narrowed := true }
def FnExactDensitiesOfUptoSaid : Prop := fnExactDensitiesOfUptoRow.holds Try.pinned (OpenSpec.upto fnExactDensitiesOfSpec)

/-- 'laws.FnExactSteepestPart', WHERE WHAT IT READS IS OF BULK AT MOST 1048576: true; the input reads as it did. -/
def fnExactSteepestPartUptoRow : OpenClaim := { program := "ytgiginnaenfjhaa", sum := "74206e2d67b674ee3ccd8206e66c29fee7e84c6db3efa27e9297b92acd46044d", func := "loop.example/g01301/laws.FnExactSteepestPart", spec := "fnExactSteepestPart", recurses := true, apart := false, narrowed := true }
def FnExactSteepestPartUptoSaid : Prop := fnExactSteepestPartUptoRow.holds Try.pinned (OpenSpec.upto fnExactSteepestPartSpec)

/-- 'laws.FnExactCurveAt', WHERE WHAT IT READS IS OF BULK AT MOST 1048576: true; the input reads as it did. -/
def fnExactCurveAtUptoRow : OpenClaim := { program := "ytgiginnaenfjhaa", sum := "74206e2d67b674ee3ccd8206e66c29fee7e84c6db3efa27e9297b92acd46044d", func := "loop.example/g01301/laws.FnExactCurveAt", spec := "fnExactCurveAt", apart := false, narrowed := true }
def FnExactCurveAtUptoSaid : Prop := fnExactCurveAtUptoRow.holds Try.pinned (OpenSpec.upto fnExactCurveAtSpec)

/-- 'laws.FnExactRiseAt', WHERE WHAT IT READS IS OF BULK AT MOST 1048576: true; the input reads as it did. -/
def fnExactRiseAtUptoRow : OpenClaim := { program := "ytgiginnaenfjhaa", sum := "74206e2d67b674ee3ccd8206e66c29fee7e84c6db3efa27e9297b92acd46044d", func := "loop.example/g01301/laws.FnExactRiseAt", spec := "fnExactRiseAt", apart := false, narrowed := true }
def FnExactRiseAtUptoSaid : Prop := fnExactRiseAtUptoRow.holds Try.pinned (OpenSpec.upto fnExactRiseAtSpec)

/-- 'laws.FnExactStretchCurve', WHERE WHAT IT READS IS OF BULK AT MOST 1048576: true; the input reads as it did. -/
def fnExactStretchCurveUptoRow : OpenClaim := { program := "ytgiginnaenfjhaa", sum := "74206e2d67b674ee3ccd8206e66c29fee7e84c6db3efa27e9297b92acd46044d", func := "loop.example/g01301/laws.FnExactStretchCurve", spec := "fnExactStretchCurve", unfollowed := true, recurses := true, apart := false, narrowed := true }
def FnExactStretchCurveUptoSaid : Prop := fnExactStretchCurveUptoRow.holds Try.pinned (OpenSpec.upto fnExactStretchCurveSpec)

/-- 'laws.FnExactLiftCurve', WHERE WHAT IT READS IS OF BULK AT MOST 1048576: true; the input reads as it did. -/
def fnExactLiftCurveUptoRow : OpenClaim := { program := "ytgiginnaenfjhaa", sum := "74206e2d67b674ee3ccd8206e66c29fee7e84c6db3efa27e9297b92acd46044d", func := "loop.example/g01301/laws.FnExactLiftCurve", spec := "fnExactLiftCurve", unfollowed := true, recurses := true, apart := false, narrowed := true }
def FnExactLiftCurveUptoSaid : Prop := fnExactLiftCurveUptoRow.holds Try.pinned (OpenSpec.upto fnExactLiftCurveSpec)

/-- 'laws.FnExactShiftCurve', WHERE WHAT IT READS IS OF BULK AT MOST 1048576: true; the input reads as it did. -/
def fnExactShiftCurveUptoRow : OpenClaim := { program := "ytgiginnaenfjhaa", sum := "74206e2d67b674ee3ccd8206e66c29fee7e84c6db3efa27e9297b92acd46044d", func := "loop.example/g01301/laws.FnExactShiftCurve", spec := "fnExactShiftCurve", unfollowed := true, recurses := true, apart := false, narrowed := true }
def FnExactShiftCurveUptoSaid : Prop := fnExactShiftCurveUptoRow.holds Try.pinned (OpenSpec.upto fnExactShiftCurveSpec)

/-- 'laws.FnExactExposureFor', WHERE WHAT IT READS IS OF BULK AT MOST 1048576: true; the input reads as it did. -/
def fnExactExposureForUptoRow : OpenClaim := { program := "ytgiginnaenfjhaa", sum := "74206e2d67b674ee3ccd8206e66c29fee7e84c6db3efa27e9297b92acd46044d", func := "loop.example/g01301/laws.FnExactExposureFor", spec := "fnExactExposureFor", apart := false, narrowed := true }
def FnExactExposureForUptoSaid : Prop := fnExactExposureForUptoRow.holds Try.pinned (OpenSpec.upto fnExactExposureForSpec)

/-- 'laws.FnExactExposuresFor', WHERE WHAT IT READS IS OF BULK AT MOST 1048576: true; the input reads as it did. -/
def fnExactExposuresForUptoRow : OpenClaim := { program := "ytgiginnaenfjhaa", sum := "74206e2d67b674ee3ccd8206e66c29fee7e84c6db3efa27e9297b92acd46044d", func := "loop.example/g01301/laws.FnExactExposuresFor", spec := "fnExactExposuresFor", apart := false, narrowed := true }
def FnExactExposuresForUptoSaid : Prop := fnExactExposuresForUptoRow.holds Try.pinned (OpenSpec.upto fnExactExposuresForSpec)

/-- 'laws.FnExactJoinCurves', WHERE WHAT IT READS IS OF BULK AT MOST 1048576: true; the input reads as it did. -/
def fnExactJoinCurvesUptoRow : OpenClaim := { program := "ytgiginnaenfjhaa", sum := "74206e2d67b674ee3ccd8206e66c29fee7e84c6db3efa27e9297b92acd46044d", func := "loop.example/g01301/laws.FnExactJoinCurves", spec := "fnExactJoinCurves", apart := false, narrowed := true }
def FnExactJoinCurvesUptoSaid : Prop := fnExactJoinCurvesUptoRow.holds Try.pinned (OpenSpec.upto fnExactJoinCurvesSpec)

end Rows
end Go.Proofs.Ytgiginnaenfjhaa
