/-
  No cell of these rows narrows 'for every input' (looked for: loops, veiled, ifaces, maps, wideKeys, modest, calm, conditions, laid).
  DERIVED. THE GIVEN ROWS OF THIS SEAT. 7 by the template 'for every input the law returns true; each argument reads behind the call as it read before'; 0 by the template 'total and deterministic' (their statements: YtpdgfmiknegmoaaTotals.lean).
  GIVEN WITH THE SEED: the statements are not yours to turn. If you find one false, say at which input.
  Laid BY PROGRAM, IN A SANDBOX (cutbox-rows.mjs): the forced cells as the released guide's own fill.sh prints them over the translation 76a66fe0f9fe2f8f… (all of the seat's roots in one cut). By AI agents, Wed Nov 11 2026. No macro, syntax, notation, axiom, sorry.
-/
import Derived.Test.YtpdgfmiknegmoaaChecked
import GoSem.Claim
import GoSem.ClaimJoined
import GoSem.ClaimMapViews
import Derived.JoinedTies
import Derived.KernelRfl
namespace Go.Proofs.Ytpdgfmiknegmoaa
/- THE CELL 'sum', in the pinned program and in every row, IS THE sha256 OF THE DUMP (.gsa) THAT YtpdgfmiknegmoaaProg.lean LOADS. Nothing in Lean hashes anything: it is a label: what it is worth is what the hold of that sum in a sandbox is worth. -/
noncomputable def Try.pinned : Pinned := { name := "ytpdgfmiknegmoaa", sum := "76a66fe0f9fe2f8f30036d35ddce675a47e9dbc17d9ab8c23e39883486bf5603", checked := Try.checked }
namespace Rows
def none {H : Type} : Left H := { results := [], args := [] }

/-- 'laws.FnExactMaskOf': WHATEVER THE INPUT: true; the input reads as it did. -/
def fnExactMaskOfSpec : ChangeSpec := { name := "fnExactMaskOf", fn := fun _ => fun
  | [d1, d2, d3, d4] => { results := [.lit (.bool true)], args := [d1, d2, d3, d4] }
  | _ => none }
def fnExactMaskOfRow : OpenClaim := { program := "ytpdgfmiknegmoaa", sum := "76a66fe0f9fe2f8f30036d35ddce675a47e9dbc17d9ab8c23e39883486bf5603", func := "loop.example/g01301/laws.FnExactMaskOf", spec := "fnExactMaskOf", apart := false }
def FnExactMaskOfSaid : Prop := fnExactMaskOfRow.holds Try.pinned (OpenSpec.ofChange fnExactMaskOfSpec)

/-- ITS FALSE NEIGHBOUR: 'it returns false'. Refute it at one input. -/
def fnExactMaskOfWrong : ChangeSpec := { name := "fnExactMaskOf", fn := fun _ => fun
  | [d1, d2, d3, d4] => { results := [.lit (.bool false)], args := [d1, d2, d3, d4] }
  | _ => none }
def FnExactMaskOfWrongFalsely : Prop := fnExactMaskOfRow.holds Try.pinned (OpenSpec.ofChange fnExactMaskOfWrong)

/-- 'laws.FnExactValidNegative': WHATEVER THE INPUT: true; the input reads as it did. -/
def fnExactValidNegativeSpec : ChangeSpec := { name := "fnExactValidNegative", fn := fun _ => fun
  | [d] => { results := [.lit (.bool true)], args := [d] }
  | _ => none }
def fnExactValidNegativeRow : OpenClaim := { program := "ytpdgfmiknegmoaa", sum := "76a66fe0f9fe2f8f30036d35ddce675a47e9dbc17d9ab8c23e39883486bf5603", func := "loop.example/g01301/laws.FnExactValidNegative", spec := "fnExactValidNegative", apart := false }
def FnExactValidNegativeSaid : Prop := fnExactValidNegativeRow.holds Try.pinned (OpenSpec.ofChange fnExactValidNegativeSpec)

/-- ITS FALSE NEIGHBOUR: 'it returns false'. Refute it at one input. -/
def fnExactValidNegativeWrong : ChangeSpec := { name := "fnExactValidNegative", fn := fun _ => fun
  | [d] => { results := [.lit (.bool false)], args := [d] }
  | _ => none }
def FnExactValidNegativeWrongFalsely : Prop := fnExactValidNegativeRow.holds Try.pinned (OpenSpec.ofChange fnExactValidNegativeWrong)

/-- 'laws.FnExactValidPrint': WHATEVER THE INPUT: true; the input reads as it did. -/
def fnExactValidPrintSpec : ChangeSpec := { name := "fnExactValidPrint", fn := fun _ => fun
  | [d] => { results := [.lit (.bool true)], args := [d] }
  | _ => none }
def fnExactValidPrintRow : OpenClaim := { program := "ytpdgfmiknegmoaa", sum := "76a66fe0f9fe2f8f30036d35ddce675a47e9dbc17d9ab8c23e39883486bf5603", func := "loop.example/g01301/laws.FnExactValidPrint", spec := "fnExactValidPrint", apart := false }
def FnExactValidPrintSaid : Prop := fnExactValidPrintRow.holds Try.pinned (OpenSpec.ofChange fnExactValidPrintSpec)

/-- ITS FALSE NEIGHBOUR: 'it returns false'. Refute it at one input. -/
def fnExactValidPrintWrong : ChangeSpec := { name := "fnExactValidPrint", fn := fun _ => fun
  | [d] => { results := [.lit (.bool false)], args := [d] }
  | _ => none }
def FnExactValidPrintWrongFalsely : Prop := fnExactValidPrintRow.holds Try.pinned (OpenSpec.ofChange fnExactValidPrintWrong)

/-- 'laws.FnExactBurnSteps': WHATEVER THE INPUT: true; the input reads as it did. -/
def fnExactBurnStepsSpec : ChangeSpec := { name := "fnExactBurnSteps", fn := fun _ => fun
  | [d1, d2, d3] => { results := [.lit (.bool true)], args := [d1, d2, d3] }
  | _ => none }
def fnExactBurnStepsRow : OpenClaim := { program := "ytpdgfmiknegmoaa", sum := "76a66fe0f9fe2f8f30036d35ddce675a47e9dbc17d9ab8c23e39883486bf5603", func := "loop.example/g01301/laws.FnExactBurnSteps", spec := "fnExactBurnSteps", apart := false }
def FnExactBurnStepsSaid : Prop := fnExactBurnStepsRow.holds Try.pinned (OpenSpec.ofChange fnExactBurnStepsSpec)

/-- ITS FALSE NEIGHBOUR: 'it returns false'. Refute it at one input. -/
def fnExactBurnStepsWrong : ChangeSpec := { name := "fnExactBurnSteps", fn := fun _ => fun
  | [d1, d2, d3] => { results := [.lit (.bool false)], args := [d1, d2, d3] }
  | _ => none }
def FnExactBurnStepsWrongFalsely : Prop := fnExactBurnStepsRow.holds Try.pinned (OpenSpec.ofChange fnExactBurnStepsWrong)

/-- 'laws.FnExactDodgeSteps': WHATEVER THE INPUT: true; the input reads as it did. -/
def fnExactDodgeStepsSpec : ChangeSpec := { name := "fnExactDodgeSteps", fn := fun _ => fun
  | [d1, d2, d3] => { results := [.lit (.bool true)], args := [d1, d2, d3] }
  | _ => none }
def fnExactDodgeStepsRow : OpenClaim := { program := "ytpdgfmiknegmoaa", sum := "76a66fe0f9fe2f8f30036d35ddce675a47e9dbc17d9ab8c23e39883486bf5603", func := "loop.example/g01301/laws.FnExactDodgeSteps", spec := "fnExactDodgeSteps", apart := false }
def FnExactDodgeStepsSaid : Prop := fnExactDodgeStepsRow.holds Try.pinned (OpenSpec.ofChange fnExactDodgeStepsSpec)

/-- ITS FALSE NEIGHBOUR: 'it returns false'. Refute it at one input. -/
def fnExactDodgeStepsWrong : ChangeSpec := { name := "fnExactDodgeSteps", fn := fun _ => fun
  | [d1, d2, d3] => { results := [.lit (.bool false)], args := [d1, d2, d3] }
  | _ => none }
def FnExactDodgeStepsWrongFalsely : Prop := fnExactDodgeStepsRow.holds Try.pinned (OpenSpec.ofChange fnExactDodgeStepsWrong)

/-- 'laws.FnExactSameSteps': WHATEVER THE INPUT: true; the input reads as it did. -/
def fnExactSameStepsSpec : ChangeSpec := { name := "fnExactSameSteps", fn := fun _ => fun
  | [d1, d2] => { results := [.lit (.bool true)], args := [d1, d2] }
  | _ => none }
def fnExactSameStepsRow : OpenClaim := { program := "ytpdgfmiknegmoaa", sum := "76a66fe0f9fe2f8f30036d35ddce675a47e9dbc17d9ab8c23e39883486bf5603", func := "loop.example/g01301/laws.FnExactSameSteps", spec := "fnExactSameSteps", apart := false }
def FnExactSameStepsSaid : Prop := fnExactSameStepsRow.holds Try.pinned (OpenSpec.ofChange fnExactSameStepsSpec)

/-- ITS FALSE NEIGHBOUR: 'it returns false'. Refute it at one input. -/
def fnExactSameStepsWrong : ChangeSpec := { name := "fnExactSameSteps", fn := fun _ => fun
  | [d1, d2] => { results := [.lit (.bool false)], args := [d1, d2] }
  | _ => none }
def FnExactSameStepsWrongFalsely : Prop := fnExactSameStepsRow.holds Try.pinned (OpenSpec.ofChange fnExactSameStepsWrong)

/-- 'laws.FnExactGreatestDifference': WHATEVER THE INPUT: true; the input reads as it did. -/
def fnExactGreatestDifferenceSpec : ChangeSpec := { name := "fnExactGreatestDifference", fn := fun _ => fun
  | [d1, d2] => { results := [.lit (.bool true)], args := [d1, d2] }
  | _ => none }
def fnExactGreatestDifferenceRow : OpenClaim := { program := "ytpdgfmiknegmoaa", sum := "76a66fe0f9fe2f8f30036d35ddce675a47e9dbc17d9ab8c23e39883486bf5603", func := "loop.example/g01301/laws.FnExactGreatestDifference", spec := "fnExactGreatestDifference", apart := false }
def FnExactGreatestDifferenceSaid : Prop := fnExactGreatestDifferenceRow.holds Try.pinned (OpenSpec.ofChange fnExactGreatestDifferenceSpec)

/-- ITS FALSE NEIGHBOUR: 'it returns false'. Refute it at one input. -/
def fnExactGreatestDifferenceWrong : ChangeSpec := { name := "fnExactGreatestDifference", fn := fun _ => fun
  | [d1, d2] => { results := [.lit (.bool false)], args := [d1, d2] }
  | _ => none }
def FnExactGreatestDifferenceWrongFalsely : Prop := fnExactGreatestDifferenceRow.holds Try.pinned (OpenSpec.ofChange fnExactGreatestDifferenceWrong)

/- THE SECOND FORM. 'bulk': how many values and letters a reading holds, each counted each time it is reached (what is shared counts as often as it is met; a slice's spare places count too). A statement '..UptoSaid' is the law's where the arguments, and the package variables that the reading takes, are together of bulk at most 1048576: NARROWER than '..Said'. Prove '..Said' where nothing that the law and all that it calls make is longer than what came in: it says more and counts as full. Else prove '..UptoSaid'. A law counts once. -/
mutual
def uptoBulk {H : Type} : DataW H → Nat
  | .lit (.string bytes) => bytes.length + 1
  | .lit _ => 1
  | .nil => 1
  | .ptr d => uptoBulk d + 1
  | .slice elems spare => uptoBulkAll elems + uptoBulkAll spare + 1
  | .agg parts => uptoBulkAll parts + 1
  | .iface _ d => uptoBulk d + 1
  | .map entries => uptoBulkEntries entries + 1
  | .held _ => 1
def uptoBulkAll {H : Type} : List (DataW H) → Nat
  | [] => 0
  | d :: r => uptoBulk d + uptoBulkAll r
def uptoBulkEntries {H : Type} : List (Lit × DataW H) → Nat
  | [] => 0
  | x :: r => uptoBulkEntry x + uptoBulkEntries r
def uptoBulkEntry {H : Type} : Lit × DataW H → Nat
  | (.string bytes, d) => bytes.length + uptoBulk d + 1
  | (_, d) => uptoBulk d + 1
 end
def uptoSmall : (H : Type) → List (DataW H) → Bool := fun _ ds => decide (uptoBulkAll ds ≤ 1048576)
def OpenSpec.upto (s : _root_.Go.ChangeSpec) : _root_.Go.OpenSpec := { _root_.Go.OpenSpec.ofChange s with cond := some uptoSmall }

/-- 'laws.FnExactMaskOf', WHERE WHAT IT READS IS OF BULK AT MOST 1048576: true; the input reads as it did. -/
def fnExactMaskOfUptoRow : OpenClaim := { program := "ytpdgfmiknegmoaa", sum := "76a66fe0f9fe2f8f30036d35ddce675a47e9dbc17d9ab8c23e39883486bf5603", func := "loop.example/g01301/laws.FnExactMaskOf", spec := "fnExactMaskOf", apart := false, narrowed := true }
def FnExactMaskOfUptoSaid : Prop := fnExactMaskOfUptoRow.holds Try.pinned (OpenSpec.upto fnExactMaskOfSpec)

/-- 'laws.FnExactValidNegative', WHERE WHAT IT READS IS OF BULK AT MOST 1048576: true; the input reads as it did. -/
def fnExactValidNegativeUptoRow : OpenClaim := { program := "ytpdgfmiknegmoaa", sum := "76a66fe0f9fe2f8f30036d35ddce675a47e9dbc17d9ab8c23e39883486bf5603", func := "loop.example/g01301/laws.FnExactValidNegative", spec := "fnExactValidNegative", apart := false, narrowed := true }
def FnExactValidNegativeUptoSaid : Prop := fnExactValidNegativeUptoRow.holds Try.pinned (OpenSpec.upto fnExactValidNegativeSpec)

/-- 'laws.FnExactValidPrint', WHERE WHAT IT READS IS OF BULK AT MOST 1048576: true; the input reads as it did. -/
def fnExactValidPrintUptoRow : OpenClaim := { program := "ytpdgfmiknegmoaa", sum := "76a66fe0f9fe2f8f30036d35ddce675a47e9dbc17d9ab8c23e39883486bf5603", func := "loop.example/g01301/laws.FnExactValidPrint", spec := "fnExactValidPrint", apart := false, narrowed := true }
def FnExactValidPrintUptoSaid : Prop := fnExactValidPrintUptoRow.holds Try.pinned (OpenSpec.upto fnExactValidPrintSpec)

/-- 'laws.FnExactBurnSteps', WHERE WHAT IT READS IS OF BULK AT MOST 1048576: true; the input reads as it did. -/
def fnExactBurnStepsUptoRow : OpenClaim := { program := "ytpdgfmiknegmoaa", sum := "76a66fe0f9fe2f8f30036d35ddce675a47e9dbc17d9ab8c23e39883486bf5603", func := "loop.example/g01301/laws.FnExactBurnSteps", spec := "fnExactBurnSteps", apart := false, narrowed := true }
def FnExactBurnStepsUptoSaid : Prop := fnExactBurnStepsUptoRow.holds Try.pinned (OpenSpec.upto fnExactBurnStepsSpec)

/-- 'laws.FnExactDodgeSteps', WHERE WHAT IT READS IS OF BULK AT MOST 1048576: true; the input reads as it did. -/
def fnExactDodgeStepsUptoRow : OpenClaim := { program := "ytpdgfmiknegmoaa", sum := "76a66fe0f9fe2f8f30036d35ddce675a47e9dbc17d9ab8c23e39883486bf5603", func := "loop.example/g01301/laws.FnExactDodgeSteps", spec := "fnExactDodgeSteps", apart := false, narrowed := true }
def FnExactDodgeStepsUptoSaid : Prop := fnExactDodgeStepsUptoRow.holds Try.pinned (OpenSpec.upto fnExactDodgeStepsSpec)

/-- 'laws.FnExactSameSteps', WHERE WHAT IT READS IS OF BULK AT MOST 1048576: true; the input reads as it did. -/
def fnExactSameStepsUptoRow : OpenClaim := { program := "ytpdgfmiknegmoaa", sum := "76a66fe0f9fe2f8f30036d35ddce675a47e9dbc17d9ab8c23e39883486bf5603", func := "loop.example/g01301/laws.FnExactSameSteps", spec := "fnExactSameSteps", apart := false, narrowed := true }
def FnExactSameStepsUptoSaid : Prop := fnExactSameStepsUptoRow.holds Try.pinned (OpenSpec.upto fnExactSameStepsSpec)

/-- 'laws.FnExactGreatestDifference', WHERE WHAT IT READS IS OF BULK AT MOST 1048576: true; the input reads as it did. -/
def fnExactGreatestDifferenceUptoRow : OpenClaim := { program := "ytpdgfmiknegmoaa", sum := "76a66fe0f9fe2f8f30036d35ddce675a47e9dbc17d9ab8c23e39883486bf5603", func := "loop.example/g01301/laws.FnExactGreatestDifference", spec := "fnExactGreatestDifference", apart := false, narrowed := true }
def FnExactGreatestDifferenceUptoSaid : Prop := fnExactGreatestDifferenceUptoRow.holds Try.pinned (OpenSpec.upto fnExactGreatestDifferenceSpec)

end Rows
end Go.Proofs.Ytpdgfmiknegmoaa
