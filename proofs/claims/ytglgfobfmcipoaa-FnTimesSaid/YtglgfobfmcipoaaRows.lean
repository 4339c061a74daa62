/-
  No cell of these rows narrows 'for every input' (looked for: loops, veiled, ifaces, maps, wideKeys, modest, calm, conditions, laid).
  DERIVED. THE GIVEN ROWS OF THIS SEAT. 12 by the template 'for every input the law returns true; each argument reads behind the call as it read before'; 0 by the template 'total and deterministic' (their statements: YtglgfobfmcipoaaTotals.lean).
  GIVEN WITH THE SEED: the statements are not yours to turn. If you find one false, say at which input.
  Laid BY PROGRAM, IN A SANDBOX (cutbox-rows.mjs): the forced cells as the released guide's own fill.sh prints them over the translation b4d2f3dc1f202173… (all of the seat's roots in one cut). By AI agents, Wed Nov 11 2026. No macro, syntax, notation, axiom, sorry.
-/
import Derived.Test.YtglgfobfmcipoaaChecked
import GoSem.Claim
import GoSem.ClaimJoined
import GoSem.ClaimMapViews
import Derived.JoinedTies
import Derived.KernelRfl
namespace Go.Proofs.Ytglgfobfmcipoaa
/- THE CELL 'sum', in the pinned program and in every row, IS THE sha256 OF THE DUMP (.gsa) THAT YtglgfobfmcipoaaProg.lean LOADS. Nothing in Lean hashes anything: it is a label: what it is worth is what the hold of that sum in a sandbox is worth. -/
noncomputable def Try.pinned : Pinned := { name := "ytglgfobfmcipoaa", sum := "b4d2f3dc1f202173e841d4bdb15f5a397cd0724e6a943d06d2cfafa13584ec82", checked := Try.checked }
namespace Rows
def none {H : Type} : Left H := { results := [], args := [] }

/-- 'laws.FnExactConstants': WHATEVER THE INPUT: true; the input reads as it did. -/
def fnExactConstantsSpec : ChangeSpec := { name := "fnExactConstants", fn := fun _ => fun
  | [] => { results := [.lit (.bool true)], args := [] }
  | _ => none }
def fnExactConstantsRow : OpenClaim := { program := "ytglgfobfmcipoaa", sum := "b4d2f3dc1f202173e841d4bdb15f5a397cd0724e6a943d06d2cfafa13584ec82", func := "loop.example/g01301/laws.FnExactConstants", spec := "fnExactConstants", apart := false }
def FnExactConstantsSaid : Prop := fnExactConstantsRow.holds Try.pinned (OpenSpec.ofChange fnExactConstantsSpec)

/-- ITS FALSE NEIGHBOUR: 'it returns false'. Refute it at one input. -/
def fnExactConstantsWrong : ChangeSpec := { name := "fnExactConstants", fn := fun _ => fun
  | [] => { results := [.lit (.bool false)], args := [] }
  | _ => none }
def FnExactConstantsWrongFalsely : Prop := fnExactConstantsRow.holds Try.pinned (OpenSpec.ofChange fnExactConstantsWrong)

/-- 'laws.FnExactCodeName': WHATEVER THE INPUT: true; the input reads as it did. -/
def fnExactCodeNameSpec : ChangeSpec := { name := "fnExactCodeName", fn := fun _ => fun
  | [d] => { results := [.lit (.bool true)], args := [d] }
  | _ => none }
def fnExactCodeNameRow : OpenClaim := { program := "ytglgfobfmcipoaa", sum := "b4d2f3dc1f202173e841d4bdb15f5a397cd0724e6a943d06d2cfafa13584ec82", func := "loop.example/g01301/laws.FnExactCodeName", spec := "fnExactCodeName", apart := false }
def FnExactCodeNameSaid : Prop := fnExactCodeNameRow.holds Try.pinned (OpenSpec.ofChange fnExactCodeNameSpec)

/-- ITS FALSE NEIGHBOUR: 'it returns false'. Refute it at one input. -/
def fnExactCodeNameWrong : ChangeSpec := { name := "fnExactCodeName", fn := fun _ => fun
  | [d] => { results := [.lit (.bool false)], args := [d] }
  | _ => none }
def FnExactCodeNameWrongFalsely : Prop := fnExactCodeNameRow.holds Try.pinned (OpenSpec.ofChange fnExactCodeNameWrong)

/-- 'laws.FnExactValidSetting': WHATEVER THE INPUT: true; the input reads as it did. -/
def fnExactValidSettingSpec : ChangeSpec := { name := "fnExactValidSetting", fn := fun _ => fun
  | [d] => { results := [.lit (.bool true)], args := [d] }
  | _ => none }
def fnExactValidSettingRow : OpenClaim := { program := "ytglgfobfmcipoaa", sum := "b4d2f3dc1f202173e841d4bdb15f5a397cd0724e6a943d06d2cfafa13584ec82", func := "loop.example/g01301/laws.FnExactValidSetting", spec := "fnExactValidSetting", apart := false }
def FnExactValidSettingSaid : Prop := fnExactValidSettingRow.holds Try.pinned (OpenSpec.ofChange fnExactValidSettingSpec)

/-- ITS FALSE NEIGHBOUR: 'it returns false'. Refute it at one input. -/
def fnExactValidSettingWrong : ChangeSpec := { name := "fnExactValidSetting", fn := fun _ => fun
  | [d] => { results := [.lit (.bool false)], args := [d] }
  | _ => none }
def FnExactValidSettingWrongFalsely : Prop := fnExactValidSettingRow.holds Try.pinned (OpenSpec.ofChange fnExactValidSettingWrong)

/-- 'laws.FnExactTimeOf': WHATEVER THE INPUT: true; the input reads as it did. -/
def fnExactTimeOfSpec : ChangeSpec := { name := "fnExactTimeOf", fn := fun _ => fun
  | [d] => { results := [.lit (.bool true)], args := [d] }
  | _ => none }
def fnExactTimeOfRow : OpenClaim := { program := "ytglgfobfmcipoaa", sum := "b4d2f3dc1f202173e841d4bdb15f5a397cd0724e6a943d06d2cfafa13584ec82", func := "loop.example/g01301/laws.FnExactTimeOf", spec := "fnExactTimeOf", apart := false }
def FnExactTimeOfSaid : Prop := fnExactTimeOfRow.holds Try.pinned (OpenSpec.ofChange fnExactTimeOfSpec)

/-- ITS FALSE NEIGHBOUR: 'it returns false'. Refute it at one input. -/
def fnExactTimeOfWrong : ChangeSpec := { name := "fnExactTimeOf", fn := fun _ => fun
  | [d] => { results := [.lit (.bool false)], args := [d] }
  | _ => none }
def FnExactTimeOfWrongFalsely : Prop := fnExactTimeOfRow.holds Try.pinned (OpenSpec.ofChange fnExactTimeOfWrong)

/-- 'laws.FnExactValueOf': WHATEVER THE INPUT: true; the input reads as it did. -/
def fnExactValueOfSpec : ChangeSpec := { name := "fnExactValueOf", fn := fun _ => fun
  | [d] => { results := [.lit (.bool true)], args := [d] }
  | _ => none }
def fnExactValueOfRow : OpenClaim := { program := "ytglgfobfmcipoaa", sum := "b4d2f3dc1f202173e841d4bdb15f5a397cd0724e6a943d06d2cfafa13584ec82", func := "loop.example/g01301/laws.FnExactValueOf", spec := "fnExactValueOf", apart := false }
def FnExactValueOfSaid : Prop := fnExactValueOfRow.holds Try.pinned (OpenSpec.ofChange fnExactValueOfSpec)

/-- ITS FALSE NEIGHBOUR: 'it returns false'. Refute it at one input. -/
def fnExactValueOfWrong : ChangeSpec := { name := "fnExactValueOf", fn := fun _ => fun
  | [d] => { results := [.lit (.bool false)], args := [d] }
  | _ => none }
def FnExactValueOfWrongFalsely : Prop := fnExactValueOfRow.holds Try.pinned (OpenSpec.ofChange fnExactValueOfWrong)

/-- 'laws.FnExactFactorThirds': WHATEVER THE INPUT: true; the input reads as it did. -/
def fnExactFactorThirdsSpec : ChangeSpec := { name := "fnExactFactorThirds", fn := fun _ => fun
  | [d] => { results := [.lit (.bool true)], args := [d] }
  | _ => none }
def fnExactFactorThirdsRow : OpenClaim := { program := "ytglgfobfmcipoaa", sum := "b4d2f3dc1f202173e841d4bdb15f5a397cd0724e6a943d06d2cfafa13584ec82", func := "loop.example/g01301/laws.FnExactFactorThirds", spec := "fnExactFactorThirds", apart := false }
def FnExactFactorThirdsSaid : Prop := fnExactFactorThirdsRow.holds Try.pinned (OpenSpec.ofChange fnExactFactorThirdsSpec)

/-- ITS FALSE NEIGHBOUR: 'it returns false'. Refute it at one input. -/
def fnExactFactorThirdsWrong : ChangeSpec := { name := "fnExactFactorThirds", fn := fun _ => fun
  | [d] => { results := [.lit (.bool false)], args := [d] }
  | _ => none }
def FnExactFactorThirdsWrongFalsely : Prop := fnExactFactorThirdsRow.holds Try.pinned (OpenSpec.ofChange fnExactFactorThirdsWrong)

/-- 'laws.FnExactThirdsIn': WHATEVER THE INPUT: true; the input reads as it did. -/
def fnExactThirdsInSpec : ChangeSpec := { name := "fnExactThirdsIn", fn := fun _ => fun
  | [d] => { results := [.lit (.bool true)], args := [d] }
  | _ => none }
def fnExactThirdsInRow : OpenClaim := { program := "ytglgfobfmcipoaa", sum := "b4d2f3dc1f202173e841d4bdb15f5a397cd0724e6a943d06d2cfafa13584ec82", func := "loop.example/g01301/laws.FnExactThirdsIn", spec := "fnExactThirdsIn", apart := false }
def FnExactThirdsInSaid : Prop := fnExactThirdsInRow.holds Try.pinned (OpenSpec.ofChange fnExactThirdsInSpec)

/-- ITS FALSE NEIGHBOUR: 'it returns false'. Refute it at one input. -/
def fnExactThirdsInWrong : ChangeSpec := { name := "fnExactThirdsIn", fn := fun _ => fun
  | [d] => { results := [.lit (.bool false)], args := [d] }
  | _ => none }
def FnExactThirdsInWrongFalsely : Prop := fnExactThirdsInRow.holds Try.pinned (OpenSpec.ofChange fnExactThirdsInWrong)

/-- 'laws.FnExactTimesOf': WHATEVER THE INPUT: true; the input reads as it did. -/
def fnExactTimesOfSpec : ChangeSpec := { name := "fnExactTimesOf", fn := fun _ => fun
  | [d] => { results := [.lit (.bool true)], args := [d] }
  | _ => none }
def fnExactTimesOfRow : OpenClaim := { program := "ytglgfobfmcipoaa", sum := "b4d2f3dc1f202173e841d4bdb15f5a397cd0724e6a943d06d2cfafa13584ec82", func := "loop.example/g01301/laws.FnExactTimesOf", spec := "fnExactTimesOf", apart := false }
def FnExactTimesOfSaid : Prop := fnExactTimesOfRow.holds Try.pinned (OpenSpec.ofChange fnExactTimesOfSpec)

/-- ITS FALSE NEIGHBOUR: 'it returns false'. Refute it at one input. -/
def fnExactTimesOfWrong : ChangeSpec := { name := "fnExactTimesOf", fn := fun _ => fun
  | [d] => { results := [.lit (.bool false)], args := [d] }
  | _ => none }
def FnExactTimesOfWrongFalsely : Prop := fnExactTimesOfRow.holds Try.pinned (OpenSpec.ofChange fnExactTimesOfWrong)

/-- 'laws.FnExactNearestThirds': WHATEVER THE INPUT: true; the input reads as it did. -/
def fnExactNearestThirdsSpec : ChangeSpec := { name := "fnExactNearestThirds", fn := fun _ => fun
  | [d] => { results := [.lit (.bool true)], args := [d] }
  | _ => none }
def fnExactNearestThirdsRow : OpenClaim := { program := "ytglgfobfmcipoaa", sum := "b4d2f3dc1f202173e841d4bdb15f5a397cd0724e6a943d06d2cfafa13584ec82", func := "loop.example/g01301/laws.FnExactNearestThirds", spec := "fnExactNearestThirds", apart := false }
def FnExactNearestThirdsSaid : Prop := fnExactNearestThirdsRow.holds Try.pinned (OpenSpec.ofChange fnExactNearestThirdsSpec)

/-- ITS FALSE NEIGHBOUR: 'it returns false'. Refute it at one input. -/
def fnExactNearestThirdsWrong : ChangeSpec := { name := "fnExactNearestThirds", fn := fun _ => fun
  | [d] => { results := [.lit (.bool false)], args := [d] }
  | _ => none }
def FnExactNearestThirdsWrongFalsely : Prop := fnExactNearestThirdsRow.holds Try.pinned (OpenSpec.ofChange fnExactNearestThirdsWrong)

/-- 'laws.FnExactEnlargedBy': WHATEVER THE INPUT: true; the input reads as it did. -/
def fnExactEnlargedBySpec : ChangeSpec := { name := "fnExactEnlargedBy", fn := fun _ => fun
  | [d1, d2, d3] => { results := [.lit (.bool true)], args := [d1, d2, d3] }
  | _ => none }
def fnExactEnlargedByRow : OpenClaim := { program := "ytglgfobfmcipoaa", sum := "b4d2f3dc1f202173e841d4bdb15f5a397cd0724e6a943d06d2cfafa13584ec82", func := "loop.example/g01301/laws.FnExactEnlargedBy", spec := "fnExactEnlargedBy", apart := false }
def FnExactEnlargedBySaid : Prop := fnExactEnlargedByRow.holds Try.pinned (OpenSpec.ofChange fnExactEnlargedBySpec)

/-- ITS FALSE NEIGHBOUR: 'it returns false'. Refute it at one input. -/
def fnExactEnlargedByWrong : ChangeSpec := { name := "fnExactEnlargedBy", fn := fun _ => fun
  | [d1, d2, d3] => { results := [.lit (.bool false)], args := [d1, d2, d3] }
  | _ => none }
def FnExactEnlargedByWrongFalsely : Prop := fnExactEnlargedByRow.holds Try.pinned (OpenSpec.ofChange fnExactEnlargedByWrong)

/-- 'laws.FnExactMoreLight': WHATEVER THE INPUT: true; the input reads as it did. -/
def fnExactMoreLightSpec : ChangeSpec := { name := "fnExactMoreLight", fn := fun _ => fun
  | [d1, d2] => { results := [.lit (.bool true)], args := [d1, d2] }
  | _ => none }
def fnExactMoreLightRow : OpenClaim := { program := "ytglgfobfmcipoaa", sum := "b4d2f3dc1f202173e841d4bdb15f5a397cd0724e6a943d06d2cfafa13584ec82", func := "loop.example/g01301/laws.FnExactMoreLight", spec := "fnExactMoreLight", apart := false }
def FnExactMoreLightSaid : Prop := fnExactMoreLightRow.holds Try.pinned (OpenSpec.ofChange fnExactMoreLightSpec)

/-- ITS FALSE NEIGHBOUR: 'it returns false'. Refute it at one input. -/
def fnExactMoreLightWrong : ChangeSpec := { name := "fnExactMoreLight", fn := fun _ => fun
  | [d1, d2] => { results := [.lit (.bool false)], args := [d1, d2] }
  | _ => none }
def FnExactMoreLightWrongFalsely : Prop := fnExactMoreLightRow.holds Try.pinned (OpenSpec.ofChange fnExactMoreLightWrong)

/-- 'laws.FnTimes': WHATEVER THE INPUT: true; the input reads as it did. -/
def fnTimesSpec : ChangeSpec := { name := "fnTimes", fn := fun _ => fun
  | [d1, d2] => { results := [.lit (.bool true)], args := [d1, d2] }
  | _ => none }
def fnTimesRow : OpenClaim := { program := "ytglgfobfmcipoaa", sum := "b4d2f3dc1f202173e841d4bdb15f5a397cd0724e6a943d06d2cfafa13584ec82", func := "loop.example/g01301/laws.FnTimes", spec := "fnTimes", apart := false }
def FnTimesSaid : Prop := fnTimesRow.holds Try.pinned (OpenSpec.ofChange fnTimesSpec)

/-- ITS FALSE NEIGHBOUR: 'it returns false'. Refute it at one input. -/
def fnTimesWrong : ChangeSpec := { name := "fnTimes", fn := fun _ => fun
  | [d1, d2] => { results := [.lit (.bool false)], args := [d1, d2] }
  | _ => none }
def FnTimesWrongFalsely : Prop := fnTimesRow.holds Try.pinned (OpenSpec.ofChange fnTimesWrong)

/- THE SECOND FORM. 'bulk': how many values and letters a reading holds, each counted each time it is reached (what is shared counts as often as it is met; a slice's spare places count too). A statement '..UptoSaid' is the law's where the arguments, and the package variables that the reading takes, are together of bulk at most 1048576: NARROWER than '..Said'. Prove '..Said' where nothing that the law and all that it calls make is longer than what came in: it says more and counts as full. Else prove '..UptoSaid'. A law counts once. -/
mutual
def uptoBulk {H : Type} : DataW H → Nat
  | .lit (.string bytes) => bytes.length + 1
  | .lit _ => 1
  | .nil => 1
  | .ptr d => uptoBulk d + 1
  | .slice elems spare => uptoBulkAll elems + uptoBulkAll spare + 1
  | .agg parts => uptoBulkAll parts + 1
  | .iface _ d => uptoBulk d + 1
  | .map entries => uptoBulkEntries entries + 1
  | .held _ => 1
def uptoBulkAll {H : Type} : List (DataW H) → Nat
  | [] => 0
  | d :: r => uptoBulk d + uptoBulkAll r
def uptoBulkEntries {H : Type} : List (Lit × DataW H) → Nat
  | [] => 0
  | x :: r => uptoBulkEntry x + uptoBulkEntries r
def uptoBulkEntry {H : Type} : Lit × DataW H → Nat
  | (.string bytes, d) => bytes.length + uptoBulk d + 1
  | (_, d) => uptoBulk d + 1
 end
def uptoSmall : (H : Type) → List (DataW H) → Bool := fun _ ds => decide (uptoBulkAll ds ≤ 1048576)
def OpenSpec.upto (s : _root_.Go.ChangeSpec) : _root_.Go.OpenSpec := { _root_.Go.OpenSpec.ofChange s with cond := some uptoSmall }

/-- 'laws.FnExactConstants', WHERE WHAT IT READS IS OF BULK AT MOST 1048576: true; the input reads as it did. -/
def fnExactConstantsUptoRow : OpenClaim := { program := "ytglgfobfmcipoaa", sum := "b4d2f3dc1f202173e841d4bdb15f5a397cd0724e6a943d06d2cfafa13584ec82", func := "loop.example/g01301/laws.FnExactConstants", spec := "fnExactConstants", apart := false, narrowed := true }
def FnExactConstantsUptoSaid : Prop := fnExactConstantsUptoRow.holds Try.pinned (OpenSpec.upto fnExactConstantsSpec)

/-- 'laws.FnExactCodeName', WHERE WHAT IT READS IS OF BULK AT MOST 1048576: true; the input reads as it did. -/
def fnExactCodeNameUptoRow : OpenClaim := { program := "ytglgfobfmcipoaa", sum := "b4d2f3dc1f202173e841d4bdb15f5a397cd0724e6a943d06d2cfafa13584ec82", func := "loop.example/g01301/laws.FnExactCodeName", spec := "fnExactCodeName", apart := false, narrowed := true }
def FnExactCodeNameUptoSaid : Prop := fnExactCodeNameUptoRow.holds Try.pinned (OpenSpec.upto fnExactCodeNameSpec)

/-- 'laws.FnExactValidSetting', WHERE WHAT IT READS IS OF BULK AT MOST 1048576: true; the input reads as it did. -/
def fnExactValidSettingUptoRow : OpenClaim := { program := "ytglgfobfmcipoaa", sum := "b4d2f3dc1f202173e841d4bdb15f5a397cd0724e6a943d06d2cfafa13584ec82", func := "loop.example/g01301/laws.FnExactValidSetting", spec := "fnExactValidSetting", apart := false, narrowed := true }
def FnExactValidSettingUptoSaid : Prop := fnExactValidSettingUptoRow.holds Try.pinned (OpenSpec.upto fnExactValidSettingSpec)

/-- 'laws.FnExactTimeOf', WHERE WHAT IT READS IS OF BULK AT MOST 1048576: true; the input reads as it did. -/
def fnExactTimeOfUptoRow : OpenClaim := { program := "ytglgfobfmcipoaa", sum := "b4d2f3dc1f202173e841d4bdb15f5a397cd0724e6a943d06d2cfafa13584ec82", func := "loop.example/g01301/laws.FnExactTimeOf", spec := "fnExactTimeOf", apart := false, narrowed := true }
def FnExactTimeOfUptoSaid : Prop := fnExactTimeOfUptoRow.holds Try.pinned (OpenSpec.upto fnExactTimeOfSpec)

/-- 'laws.FnExactValueOf', WHERE WHAT IT READS IS OF BULK AT MOST 1048576: true; the input reads as it did. -/
def fnExactValueOfUptoRow : OpenClaim := { program := "ytglgfobfmcipoaa", sum := "b4d2f3dc1f202173e841d4bdb15f5a397cd0724e6a943d06d2cfafa13584ec82", func := "loop.example/g01301/laws.FnExactValueOf", spec := "fnExactValueOf", apart := false, narrowed := true }
def FnExactValueOfUptoSaid : Prop := fnExactValueOfUptoRow.holds Try.pinned (OpenSpec.upto fnExactValueOfSpec)

/-- 'laws.FnExactFactorThirds', WHERE WHAT IT READS IS OF BULK AT MOST 1048576: true; the input reads as it did. -/
def fnExactFactorThirdsUptoRow : OpenClaim := { program := "ytglgfobfmcipoaa", sum := "b4d2f3dc1f202173e841d4bdb15f5a397cd0724e6a943d06d2cfafa13584ec82", func := "loop.example/g01301/laws.FnExactFactorThirds", spec := "fnExactFactorThirds", apart := false, narrowed := true }
def FnExactFactorThirdsUptoSaid : Prop := fnExactFactorThirdsUptoRow.holds Try.pinned (OpenSpec.upto fnExactFactorThirdsSpec)

/-- 'laws.FnExactThirdsIn', WHERE WHAT IT READS IS OF BULK AT MOST 1048576: true; the input reads as it did. -/
def fnExactThirdsInUptoRow : OpenClaim := { program := "ytglgfobfmcipoaa", sum := "b4d2f3dc1f202173e841d4bdb15f5a397cd0724e6a943d06d2cfafa13584ec82", func := "loop.example/g01301/laws.FnExactThirdsIn", spec := "fnExactThirdsIn", apart := false, narrowed := true }
def FnExactThirdsInUptoSaid : Prop := fnExactThirdsInUptoRow.holds Try.pinned (OpenSpec.upto fnExactThirdsInSpec)

/-- 'laws.FnExactTimesOf', WHERE WHAT IT READS IS OF BULK AT MOST 1048576: true; the input reads as it did. -/
def fnExactTimesOfUptoRow : OpenClaim := { program := "ytglgfobfmcipoaa", sum := "b4d2f3dc1f202173e841d4bdb15f5a397cd0724e6a943d06d2cfafa13584ec82", func := "loop.example/g01301/laws.FnExactTimesOf", spec := "fnExactTimesOf", apart := false, narrowed := true }
def FnExactTimesOfUptoSaid : Prop := fnExactTimesOfUptoRow.holds Try.pinned (OpenSpec.upto fnExactTimesOfSpec)

/-- 'laws.FnExactNearestThirds', WHERE WHAT IT READS IS OF BULK AT MOST 1048576: true; the input reads as it did. -/
def fnExactNearestThirdsUptoRow : OpenClaim := { program := "ytglgfobfmcipoaa", sum := "b4d2f3dc1f202173e841d4bdb15f5a397cd0724e6a943d06d2cfafa13584ec82", func := "loop.example/g01301/laws.FnExactNearestThirds", spec := "fnExactNearestThirds", apart := false, narrowed := true }
def FnExactNearestThirdsUptoSaid : Prop := fnExactNearestThirdsUptoRow.holds Try.pinned (OpenSpec.upto fnExactNearestThirdsSpec)

/-- 'laws.FnExactEnlargedBy', WHERE WHAT IT READS IS OF BULK AT MOST 1048576: true; the input reads as it did. -/
def fnExactEnlargedByUptoRow : OpenClaim := { program := "ytglgfobfmcipoaa", sum := "b4d2f3dc1f202173e841d4bdb15f5a397cd0724e6a943d06d2cfafa13584ec82", func := "loop.example/g01301/laws.FnExactEnlargedBy", spec := "fnExactEnlargedBy", apart := false, narrowed := true }
def FnExactEnlargedByUptoSaid : Prop := fnExactEnlargedByUptoRow.holds Try.pinned (OpenSpec.upto fnExactEnlargedBySpec)

/-- 'laws.FnExactMoreLight', WHERE WHAT IT READS IS OF BULK AT MOST 1048576: true; the input reads as it did. -/
def fnExactMoreLightUptoRow : OpenClaim := { program := "ytglgfobfmcipoaa", sum := "b4d2f3dc1f202173e841d4bdb15f5a397cd0724e6a943d06d2cfafa13584ec82", func := "loop.example/g01301/laws.FnExactMoreLight", spec := "fnExactMoreLight", apart := false, narrowed := true }
def FnExactMoreLightUptoSaid : Prop := fnExactMoreLightUptoRow.holds Try.pinned (OpenSpec.upto fnExactMoreLightSpec)

/-- 'laws.FnTimes', WHERE WHAT IT READS IS OF BULK AT MOST 1048576: true; the input reads as it did. -/
def fnTimesUptoRow : OpenClaim := { program := "ytglgfobfmcipoaa", sum := "b4d2f3dc1f202173e841d4bdb15f5a397cd0724e6a943d06d2cfafa13584ec82", func := "loop.example/g01301/laws.FnTimes", spec := "fnTimes", apart := false, narrowed := true }
def FnTimesUptoSaid : Prop := fnTimesUptoRow.holds Try.pinned (OpenSpec.upto fnTimesSpec)

end Rows
end Go.Proofs.Ytglgfobfmcipoaa
