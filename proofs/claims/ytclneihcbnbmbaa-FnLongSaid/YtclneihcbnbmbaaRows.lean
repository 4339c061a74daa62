/-
  No cell of these rows narrows 'for every input' (looked for: loops, veiled, ifaces, maps, wideKeys, modest, calm, conditions, laid).
  DERIVED. THE GIVEN ROWS OF THIS SEAT. 9 by the template 'for every input the law returns true; each argument reads behind the call as it read before'; 0 by the template 'total and deterministic' (their statements: YtclneihcbnbmbaaTotals.lean).
  GIVEN WITH THE SEED: the statements are not yours to turn. If you find one false, say at which input.
  Laid BY PROGRAM, IN A SANDBOX (cutbox-rows.mjs): the forced cells as the released guide's own fill.sh prints them over the translation 5c7dce02cc51da05… (all of the seat's roots in one cut). By AI agents, Wed Nov 11 2026. No macro, syntax, notation, axiom, sorry.
-/
import Derived.Test.YtclneihcbnbmbaaChecked
import GoSem.Claim
import GoSem.ClaimJoined
import GoSem.ClaimMapViews
import Derived.JoinedTies
import Derived.KernelRfl
namespace Go.Proofs.Ytclneihcbnbmbaa
/- THE CELL 'sum', in the pinned program and in every row, IS THE sha256 OF THE DUMP (.gsa) THAT YtclneihcbnbmbaaProg.lean LOADS. Nothing in Lean hashes anything: it is a label: what it is worth is what the hold of that sum in a sandbox is worth. -/
noncomputable def Try.pinned : Pinned := { name := "ytclneihcbnbmbaa", sum := "5c7dce02cc51da05fb69f32224aa2189e4e67b3d5ff7933ed8856bb01a509eaf", checked := Try.checked }
namespace Rows
def none {H : Type} : Left H := { results := [], args := [] }

/-- 'laws.FnExactValidTable': WHATEVER THE INPUT: true; the input reads as it did. -/
def fnExactValidTableSpec : ChangeSpec := { name := "fnExactValidTable", fn := fun _ => fun
  | [d] => { results := [.lit (.bool true)], args := [d] }
  | _ => none }
def fnExactValidTableRow : OpenClaim := { program := "ytclneihcbnbmbaa", sum := "5c7dce02cc51da05fb69f32224aa2189e4e67b3d5ff7933ed8856bb01a509eaf", func := "loop.example/g01301/laws.FnExactValidTable", spec := "fnExactValidTable", apart := false }
def FnExactValidTableSaid : Prop := fnExactValidTableRow.holds Try.pinned (OpenSpec.ofChange fnExactValidTableSpec)

/-- ITS FALSE NEIGHBOUR: 'it returns false'. Refute it at one input. -/
def fnExactValidTableWrong : ChangeSpec := { name := "fnExactValidTable", fn := fun _ => fun
  | [d] => { results := [.lit (.bool false)], args := [d] }
  | _ => none }
def FnExactValidTableWrongFalsely : Prop := fnExactValidTableRow.holds Try.pinned (OpenSpec.ofChange fnExactValidTableWrong)

/-- 'laws.FnExactSettingsFor': WHATEVER THE INPUT: true; the input reads as it did. -/
def fnExactSettingsForSpec : ChangeSpec := { name := "fnExactSettingsFor", fn := fun _ => fun
  | [d1, d2] => { results := [.lit (.bool true)], args := [d1, d2] }
  | _ => none }
def fnExactSettingsForRow : OpenClaim := { program := "ytclneihcbnbmbaa", sum := "5c7dce02cc51da05fb69f32224aa2189e4e67b3d5ff7933ed8856bb01a509eaf", func := "loop.example/g01301/laws.FnExactSettingsFor", spec := "fnExactSettingsFor", apart := false }
def FnExactSettingsForSaid : Prop := fnExactSettingsForRow.holds Try.pinned (OpenSpec.ofChange fnExactSettingsForSpec)

/-- ITS FALSE NEIGHBOUR: 'it returns false'. Refute it at one input. -/
def fnExactSettingsForWrong : ChangeSpec := { name := "fnExactSettingsFor", fn := fun _ => fun
  | [d1, d2] => { results := [.lit (.bool false)], args := [d1, d2] }
  | _ => none }
def FnExactSettingsForWrongFalsely : Prop := fnExactSettingsForRow.holds Try.pinned (OpenSpec.ofChange fnExactSettingsForWrong)

/-- 'laws.FnExactExtraFor': WHATEVER THE INPUT: true; the input reads as it did. -/
def fnExactExtraForSpec : ChangeSpec := { name := "fnExactExtraFor", fn := fun _ => fun
  | [d1, d2] => { results := [.lit (.bool true)], args := [d1, d2] }
  | _ => none }
def fnExactExtraForRow : OpenClaim := { program := "ytclneihcbnbmbaa", sum := "5c7dce02cc51da05fb69f32224aa2189e4e67b3d5ff7933ed8856bb01a509eaf", func := "loop.example/g01301/laws.FnExactExtraFor", spec := "fnExactExtraFor", apart := false }
def FnExactExtraForSaid : Prop := fnExactExtraForRow.holds Try.pinned (OpenSpec.ofChange fnExactExtraForSpec)

/-- ITS FALSE NEIGHBOUR: 'it returns false'. Refute it at one input. -/
def fnExactExtraForWrong : ChangeSpec := { name := "fnExactExtraFor", fn := fun _ => fun
  | [d1, d2] => { results := [.lit (.bool false)], args := [d1, d2] }
  | _ => none }
def FnExactExtraForWrongFalsely : Prop := fnExactExtraForRow.holds Try.pinned (OpenSpec.ofChange fnExactExtraForWrong)

/-- 'laws.FnExactNearestSettings': WHATEVER THE INPUT: true; the input reads as it did. -/
def fnExactNearestSettingsSpec : ChangeSpec := { name := "fnExactNearestSettings", fn := fun _ => fun
  | [d1, d2] => { results := [.lit (.bool true)], args := [d1, d2] }
  | _ => none }
def fnExactNearestSettingsRow : OpenClaim := { program := "ytclneihcbnbmbaa", sum := "5c7dce02cc51da05fb69f32224aa2189e4e67b3d5ff7933ed8856bb01a509eaf", func := "loop.example/g01301/laws.FnExactNearestSettings", spec := "fnExactNearestSettings", apart := false }
def FnExactNearestSettingsSaid : Prop := fnExactNearestSettingsRow.holds Try.pinned (OpenSpec.ofChange fnExactNearestSettingsSpec)

/-- ITS FALSE NEIGHBOUR: 'it returns false'. Refute it at one input. -/
def fnExactNearestSettingsWrong : ChangeSpec := { name := "fnExactNearestSettings", fn := fun _ => fun
  | [d1, d2] => { results := [.lit (.bool false)], args := [d1, d2] }
  | _ => none }
def FnExactNearestSettingsWrongFalsely : Prop := fnExactNearestSettingsRow.holds Try.pinned (OpenSpec.ofChange fnExactNearestSettingsWrong)

/-- 'laws.FnExactCorrectedFor': WHATEVER THE INPUT: true; the input reads as it did. -/
def fnExactCorrectedForSpec : ChangeSpec := { name := "fnExactCorrectedFor", fn := fun _ => fun
  | [d1, d2] => { results := [.lit (.bool true)], args := [d1, d2] }
  | _ => none }
def fnExactCorrectedForRow : OpenClaim := { program := "ytclneihcbnbmbaa", sum := "5c7dce02cc51da05fb69f32224aa2189e4e67b3d5ff7933ed8856bb01a509eaf", func := "loop.example/g01301/laws.FnExactCorrectedFor", spec := "fnExactCorrectedFor", apart := false }
def FnExactCorrectedForSaid : Prop := fnExactCorrectedForRow.holds Try.pinned (OpenSpec.ofChange fnExactCorrectedForSpec)

/-- ITS FALSE NEIGHBOUR: 'it returns false'. Refute it at one input. -/
def fnExactCorrectedForWrong : ChangeSpec := { name := "fnExactCorrectedFor", fn := fun _ => fun
  | [d1, d2] => { results := [.lit (.bool false)], args := [d1, d2] }
  | _ => none }
def FnExactCorrectedForWrongFalsely : Prop := fnExactCorrectedForRow.holds Try.pinned (OpenSpec.ofChange fnExactCorrectedForWrong)

/-- 'laws.FnExactBracketOf': WHATEVER THE INPUT: true; the input reads as it did. -/
def fnExactBracketOfSpec : ChangeSpec := { name := "fnExactBracketOf", fn := fun _ => fun
  | [d1, d2, d3] => { results := [.lit (.bool true)], args := [d1, d2, d3] }
  | _ => none }
def fnExactBracketOfRow : OpenClaim := { program := "ytclneihcbnbmbaa", sum := "5c7dce02cc51da05fb69f32224aa2189e4e67b3d5ff7933ed8856bb01a509eaf", func := "loop.example/g01301/laws.FnExactBracketOf", spec := "fnExactBracketOf", apart := false }
def FnExactBracketOfSaid : Prop := fnExactBracketOfRow.holds Try.pinned (OpenSpec.ofChange fnExactBracketOfSpec)

/-- ITS FALSE NEIGHBOUR: 'it returns false'. Refute it at one input. -/
def fnExactBracketOfWrong : ChangeSpec := { name := "fnExactBracketOf", fn := fun _ => fun
  | [d1, d2, d3] => { results := [.lit (.bool false)], args := [d1, d2, d3] }
  | _ => none }
def FnExactBracketOfWrongFalsely : Prop := fnExactBracketOfRow.holds Try.pinned (OpenSpec.ofChange fnExactBracketOfWrong)

/-- 'laws.FnExactWithFilters': WHATEVER THE INPUT: true; the input reads as it did. -/
def fnExactWithFiltersSpec : ChangeSpec := { name := "fnExactWithFilters", fn := fun _ => fun
  | [d1, d2] => { results := [.lit (.bool true)], args := [d1, d2] }
  | _ => none }
def fnExactWithFiltersRow : OpenClaim := { program := "ytclneihcbnbmbaa", sum := "5c7dce02cc51da05fb69f32224aa2189e4e67b3d5ff7933ed8856bb01a509eaf", func := "loop.example/g01301/laws.FnExactWithFilters", spec := "fnExactWithFilters", apart := false }
def FnExactWithFiltersSaid : Prop := fnExactWithFiltersRow.holds Try.pinned (OpenSpec.ofChange fnExactWithFiltersSpec)

/-- ITS FALSE NEIGHBOUR: 'it returns false'. Refute it at one input. -/
def fnExactWithFiltersWrong : ChangeSpec := { name := "fnExactWithFilters", fn := fun _ => fun
  | [d1, d2] => { results := [.lit (.bool false)], args := [d1, d2] }
  | _ => none }
def FnExactWithFiltersWrongFalsely : Prop := fnExactWithFiltersRow.holds Try.pinned (OpenSpec.ofChange fnExactWithFiltersWrong)

/-- 'laws.FnExactMeteredFor': WHATEVER THE INPUT: true; the input reads as it did. -/
def fnExactMeteredForSpec : ChangeSpec := { name := "fnExactMeteredFor", fn := fun _ => fun
  | [d1, d2] => { results := [.lit (.bool true)], args := [d1, d2] }
  | _ => none }
def fnExactMeteredForRow : OpenClaim := { program := "ytclneihcbnbmbaa", sum := "5c7dce02cc51da05fb69f32224aa2189e4e67b3d5ff7933ed8856bb01a509eaf", func := "loop.example/g01301/laws.FnExactMeteredFor", spec := "fnExactMeteredFor", apart := false }
def FnExactMeteredForSaid : Prop := fnExactMeteredForRow.holds Try.pinned (OpenSpec.ofChange fnExactMeteredForSpec)

/-- ITS FALSE NEIGHBOUR: 'it returns false'. Refute it at one input. -/
def fnExactMeteredForWrong : ChangeSpec := { name := "fnExactMeteredFor", fn := fun _ => fun
  | [d1, d2] => { results := [.lit (.bool false)], args := [d1, d2] }
  | _ => none }
def FnExactMeteredForWrongFalsely : Prop := fnExactMeteredForRow.holds Try.pinned (OpenSpec.ofChange fnExactMeteredForWrong)

/-- 'laws.FnLong': WHATEVER THE INPUT: true; the input reads as it did. -/
def fnLongSpec : ChangeSpec := { name := "fnLong", fn := fun _ => fun
  | [d1, d2] => { results := [.lit (.bool true)], args := [d1, d2] }
  | _ => none }
def fnLongRow : OpenClaim := { program := "ytclneihcbnbmbaa", sum := "5c7dce02cc51da05fb69f32224aa2189e4e67b3d5ff7933ed8856bb01a509eaf", func := "loop.example/g01301/laws.FnLong", spec := "fnLong", apart := false }
def FnLongSaid : Prop := fnLongRow.holds Try.pinned (OpenSpec.ofChange fnLongSpec)

/-- ITS FALSE NEIGHBOUR: 'it returns false'. Refute it at one input. -/
def fnLongWrong : ChangeSpec := { name := "fnLong", fn := fun _ => fun
  | [d1, d2] => { results := [.lit (.bool false)], args := [d1, d2] }
  | _ => none }
def FnLongWrongFalsely : Prop := fnLongRow.holds Try.pinned (OpenSpec.ofChange fnLongWrong)

/- THE SECOND FORM. 'bulk': how many values and letters a reading holds, each counted each time it is reached (what is shared counts as often as it is met; a slice's spare places count too). A statement '..UptoSaid' is the law's where the arguments, and the package variables that the reading takes, are together of bulk at most 1048576: NARROWER than '..Said'. Prove '..Said' where nothing that the law and all that it calls make is longer than what came in: it says more and counts as full. Else prove '..UptoSaid'. A law counts once. -/
mutual
def uptoBulk {H : Type} : DataW H → Nat
  | .lit (.string bytes) => bytes.length + 1
  | .lit _ => 1
  | .nil => 1
  | .ptr d => uptoBulk d + 1
  | .slice elems spare => uptoBulkAll elems + uptoBulkAll spare + 1
  | .agg parts => uptoBulkAll parts + 1
  | .iface _ d => uptoBulk d + 1
  | .map entries => uptoBulkEntries entries + 1
  | .held _ => 1
def uptoBulkAll {H : Type} : List (DataW H) → Nat
  | [] => 0
  | d :: r => uptoBulk d + uptoBulkAll r
def uptoBulkEntries {H : Type} : List (Lit × DataW H) → Nat
  | [] => 0
  | x :: r => uptoBulkEntry x + uptoBulkEntries r
def uptoBulkEntry {H : Type} : Lit × DataW H → Nat
  | (.string bytes, d) => bytes.length + uptoBulk d + 1
  | (_, d) => uptoBulk d + 1
 end
def uptoSmall : (H : Type) → List (DataW H) → Bool := fun _ ds => decide (uptoBulkAll ds ≤ 1048576)
def OpenSpec.upto (s : _root_.Go.ChangeSpec) : _root_.Go.OpenSpec := { _root_.Go.OpenSpec.ofChange s with cond := some uptoSmall }

/-- 'laws.FnExactValidTable', WHERE WHAT IT READS IS OF BULK AT MOST 1048576: true; the input reads as it did. -/
def fnExactValidTableUptoRow : OpenClaim := { program := "ytclneihcbnbmbaa", sum := "5c7dce02cc51da05fb69f32224aa2189e4e67b3d5ff7933ed8856bb01a509eaf", func := "loop.example/g01301/laws.FnExactValidTable", spec := "fnExactValidTable", apart := false, narrowed := true }
def FnExactValidTableUptoSaid : Prop := fnExactValidTableUptoRow.holds Try.pinned (OpenSpec.upto fnExactValidTableSpec)

/-- 'laws.FnExactSettingsFor', WHERE WHAT IT READS IS OF BULK AT MOST 1048576: true; the input reads as it did. -/
def fnExactSettingsForUptoRow : OpenClaim := { program := "ytclneihcbnbmbaa", sum := "5c7dce02cc51da05fb69f32224aa2189e4e67b3d5ff7933ed8856bb01a509eaf", func := "loop.example/g01301/laws.FnExactSettingsFor", spec := "fnExactSettingsFor", apart := false, narrowed := true }
def FnExactSettingsForUptoSaid : Prop := fnExactSettingsForUptoRow.holds Try.pinned (OpenSpec.upto fnExactSettingsForSpec)

/-- 'laws.FnExactExtraFor', WHERE WHAT IT READS IS OF BULK AT MOST 1048576: true; the input reads as it did. -/
def fnExactExtraForUptoRow : OpenClaim := { program := "ytclneihcbnbmbaa", sum := "5c7dce02cc51da05fb69f32224aa2189e4e67b3d5ff7933ed8856bb01a509eaf", func := "loop.example/g01301/laws.FnExactExtraFor", spec := "fnExactExtraFor", apart := false, narrowed := true }
def FnExactExtraForUptoSaid : Prop := fnExactExtraForUptoRow.holds Try.pinned (OpenSpec.upto fnExactExtraForSpec)

/-- 'laws.FnExactNearestSettings', WHERE WHAT IT READS IS OF BULK AT MOST 1048576: true; the input reads as it did. -/
def fnExactNearestSettingsUptoRow : OpenClaim := { program := "ytclneihcbnbmbaa", sum := "5c7dce02cc51da05fb69f32224aa2189e4e67b3d5ff7933ed8856bb01a509eaf", func := "loop.example/g01301/laws.FnExactNearestSettings", spec := "fnExactNearestSettings", apart := false, narrowed := true }
def FnExactNearestSettingsUptoSaid : Prop := fnExactNearestSettingsUptoRow.holds Try.pinned (OpenSpec.upto fnExactNearestSettingsSpec)

/-- 'laws.FnExactCorrectedFor', WHERE WHAT IT READS IS OF BULK AT MOST 1048576: true; the input reads as it did. -/
def fnExactCorrectedForUptoRow : OpenClaim := { program := "ytclneihcbnbmbaa", sum := "5c7dce02cc51da05fb69f32224aa2189e4e67b3d5ff7933ed8856bb01a509eaf", func := "loop.example/g01301/laws.FnExactCorrectedFor", spec := "fnExactCorrectedFor", apart := false, narrowed := true }
def FnExactCorrectedForUptoSaid : Prop := fnExactCorrectedForUptoRow.holds Try.pinned (OpenSpec.upto fnExactCorrectedForSpec)

/-- 'laws.FnExactBracketOf', WHERE WHAT IT READS IS OF BULK AT MOST 1048576: true; the input reads as it did. -/
def fnExactBracketOfUptoRow : OpenClaim := { program := "ytclneihcbnbmbaa", sum := "5c7dce02cc51da05fb69f32224aa2189e4e67b3d5ff7933ed8856bb01a509eaf", func := "loop.example/g01301/laws.FnExactBracketOf", spec := "fnExactBracketOf", apart := false, narrowed := true }
def FnExactBracketOfUptoSaid : Prop := fnExactBracketOfUptoRow.holds Try.pinned (OpenSpec.upto fnExactBracketOfSpec)

/-- 'laws.FnExactWithFilters', WHERE WHAT IT READS IS OF BULK AT MOST 1048576: true; the input reads as it did. -/
def fnExactWithFiltersUptoRow : OpenClaim := { program := "ytclneihcbnbmbaa", sum := "5c7dce02cc51da05fb69f32224aa2189e4e67b3d5ff7933ed8856bb01a509eaf", func := "loop.example/g01301/laws.FnExactWithFilters", spec := "fnExactWithFilters", apart := false, narrowed := true }
def FnExactWithFiltersUptoSaid : Prop := fnExactWithFiltersUptoRow.holds Try.pinned (OpenSpec.upto fnExactWithFiltersSpec)

/-- 'laws.FnExactMeteredFor', WHERE WHAT IT READS IS OF BULK AT MOST 1048576: true; the input reads as it did. -/
def fnExactMeteredForUptoRow : OpenClaim := { program := "ytclneihcbnbmbaa", sum := "5c7dce02cc51da05fb69f32224aa2189e4e67b3d5ff7933ed8856bb01a509eaf", func := "loop.example/g01301/laws.FnExactMeteredFor", spec := "fnExactMeteredFor", apart := false, narrowed := true }
def FnExactMeteredForUptoSaid : Prop := fnExactMeteredForUptoRow.holds Try.pinned (OpenSpec.upto fnExactMeteredForSpec)

/-- 'laws.FnLong', WHERE WHAT IT READS IS OF BULK AT MOST 1048576: true; the input reads as it did. -/
def fnLongUptoRow : OpenClaim := { program := "ytclneihcbnbmbaa", sum := "5c7dce02cc51da05fb69f32224aa2189e4e67b3d5ff7933ed8856bb01a509eaf", func := "loop.example/g01301/laws.FnLong", spec := "fnLong", apart := false, narrowed := true }
def FnLongUptoSaid : Prop := fnLongUptoRow.holds Try.pinned (OpenSpec.upto fnLongSpec)

end Rows
end Go.Proofs.Ytclneihcbnbmbaa
