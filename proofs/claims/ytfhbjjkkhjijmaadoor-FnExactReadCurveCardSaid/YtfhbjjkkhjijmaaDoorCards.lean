/-
  DERIVED. GIVEN WITH THE SEED: THE CARDS: each row of YtfhbjjkkhjijmaaDoorRows.lean that lists a variable, with what it lists TIED to the program's text (the seventh form; the later family's looks); each row that meets fmt, with fmt's text TOLD by the authors' own Lean function (tested against real Go, not proved from fmt's source: count such statements apart). THE CARD IS WHAT COUNTS. Prove the row's statement (the work); the ties are given (YtfhbjjkkhjijmaaDoorTie.lean); close each card by the builder's one call (the guide's Derived/Test/ToyasCard.lean, 'card_holds'). Laid BY PROGRAM, IN A SANDBOX (cutbox-door.mjs). By AI agents, Wed Nov 11 2026. No macro, syntax, notation, axiom, sorry.
-/
import Derived.Test.YtfhbjjkkhjijmaaDoorRows
import GoSem.ClaimSeven
namespace Go.Proofs.YtfhbjjkkhjijmaaDoor
namespace Rows

/-- THE TIED CARD OF 'laws.FnSettings'. -/
def fnSettingsCard : Claim7 := { stood := { row := fnSettingsRow, standIns := [], harness := (true, "c167cdac05b3fb0c2bb6f5b97c6582d76c548e7fedcdd5246a5bd28e26ebb2cf"), looks := true }, kinds := [], alts := [], laidByText := true, laidKinds := [.data, .data, .data, .data, .pinned], laidTests := true, laidLooks := .later }
def FnSettingsCardSaid : Prop := Claim7.holds Tryd.pinned (.plain (OpenSpec.ofChange fnSettingsSpec)) fnSettingsCard

/-- THE TIED CARD OF 'laws.FnExactCurveText'. -/
def fnExactCurveTextCard : Claim7 := { stood := { row := fnExactCurveTextRow, standIns := [], harness := (true, "c167cdac05b3fb0c2bb6f5b97c6582d76c548e7fedcdd5246a5bd28e26ebb2cf"), looks := true }, kinds := [], alts := [], laidByText := true, laidKinds := [.data, .data, .data], laidTests := true, laidLooks := .later }
def FnExactCurveTextCardSaid : Prop := Claim7.holds Tryd.pinned (.plain (OpenSpec.ofChange fnExactCurveTextSpec)) fnExactCurveTextCard

/-- THE TIED CARD OF 'laws.FnExactApertureName'. -/
def fnExactApertureNameCard : Claim7 := { stood := { row := fnExactApertureNameRow, standIns := [], harness := (true, "c167cdac05b3fb0c2bb6f5b97c6582d76c548e7fedcdd5246a5bd28e26ebb2cf"), looks := true }, kinds := [], alts := [], laidByText := true, laidKinds := [.data, .data, .data, .data, .pinned], laidTests := true, laidLooks := .later }
def FnExactApertureNameCardSaid : Prop := Claim7.holds Tryd.pinned (.plain (OpenSpec.ofChange fnExactApertureNameSpec)) fnExactApertureNameCard

/-- THE TIED CARD OF 'laws.FnExactShutterName'. -/
def fnExactShutterNameCard : Claim7 := { stood := { row := fnExactShutterNameRow, standIns := [], harness := (true, "c167cdac05b3fb0c2bb6f5b97c6582d76c548e7fedcdd5246a5bd28e26ebb2cf"), looks := true }, kinds := [], alts := [], laidByText := true, laidKinds := [.data, .data, .data, .data, .pinned], laidTests := true, laidLooks := .later }
def FnExactShutterNameCardSaid : Prop := Claim7.holds Tryd.pinned (.plain (OpenSpec.ofChange fnExactShutterNameSpec)) fnExactShutterNameCard

/-- THE TIED CARD OF 'laws.FnExactSettingText'. -/
def fnExactSettingTextCard : Claim7 := { stood := { row := fnExactSettingTextRow, standIns := [], harness := (true, "c167cdac05b3fb0c2bb6f5b97c6582d76c548e7fedcdd5246a5bd28e26ebb2cf"), looks := true }, kinds := [], alts := [], laidByText := true, laidKinds := [.data, .data, .data, .data, .pinned], laidTests := true, laidLooks := .later }
def FnExactSettingTextCardSaid : Prop := Claim7.holds Tryd.pinned (.plain (OpenSpec.ofChange fnExactSettingTextSpec)) fnExactSettingTextCard

/-- THE TIED CARD OF 'laws.FnExactReadSetting'. -/
def fnExactReadSettingCard : Claim7 := { stood := { row := fnExactReadSettingRow, standIns := [], harness := (true, "c167cdac05b3fb0c2bb6f5b97c6582d76c548e7fedcdd5246a5bd28e26ebb2cf"), looks := true }, kinds := [], alts := [], laidByText := true, laidKinds := [.data, .data, .data, .data, .pinned], laidTests := true, laidLooks := .later }
def FnExactReadSettingCardSaid : Prop := Claim7.holds Tryd.pinned (.plain (OpenSpec.ofChange fnExactReadSettingSpec)) fnExactReadSettingCard

/-- THE TIED CARD OF 'laws.FnExactReadCurve'. -/
def fnExactReadCurveCard : Claim7 := { stood := { row := fnExactReadCurveRow, standIns := [], harness := (true, "c167cdac05b3fb0c2bb6f5b97c6582d76c548e7fedcdd5246a5bd28e26ebb2cf"), looks := true }, kinds := [], alts := [], laidByText := true, laidKinds := [.data, .data, .data, .data, .sentinel, .sentinel, .pinned], laidTests := true, laidLooks := .later }
def FnExactReadCurveCardSaid : Prop := Claim7.holds Tryd.pinned (.plain (OpenSpec.ofChange fnExactReadCurveSpec)) fnExactReadCurveCard

/-- THE SECOND FORM's CARD OF 'laws.FnSettings'. -/
def fnSettingsUptoCard : Claim7 := { stood := { row := fnSettingsUptoRow, standIns := [], harness := (true, "c167cdac05b3fb0c2bb6f5b97c6582d76c548e7fedcdd5246a5bd28e26ebb2cf"), looks := true }, kinds := [], alts := [], laidByText := true, laidKinds := [.data, .data, .data, .data, .pinned], laidTests := true, laidLooks := .later }
def FnSettingsUptoCardSaid : Prop := Claim7.holds Tryd.pinned (.plain (OpenSpec.upto fnSettingsSpec)) fnSettingsUptoCard

/-- THE SECOND FORM's CARD OF 'laws.FnExactCurveText'. -/
def fnExactCurveTextUptoCard : Claim7 := { stood := { row := fnExactCurveTextUptoRow, standIns := [], harness := (true, "c167cdac05b3fb0c2bb6f5b97c6582d76c548e7fedcdd5246a5bd28e26ebb2cf"), looks := true }, kinds := [], alts := [], laidByText := true, laidKinds := [.data, .data, .data], laidTests := true, laidLooks := .later }
def FnExactCurveTextUptoCardSaid : Prop := Claim7.holds Tryd.pinned (.plain (OpenSpec.upto fnExactCurveTextSpec)) fnExactCurveTextUptoCard

/-- THE SECOND FORM's CARD OF 'laws.FnExactApertureName'. -/
def fnExactApertureNameUptoCard : Claim7 := { stood := { row := fnExactApertureNameUptoRow, standIns := [], harness := (true, "c167cdac05b3fb0c2bb6f5b97c6582d76c548e7fedcdd5246a5bd28e26ebb2cf"), looks := true }, kinds := [], alts := [], laidByText := true, laidKinds := [.data, .data, .data, .data, .pinned], laidTests := true, laidLooks := .later }
def FnExactApertureNameUptoCardSaid : Prop := Claim7.holds Tryd.pinned (.plain (OpenSpec.upto fnExactApertureNameSpec)) fnExactApertureNameUptoCard

/-- THE SECOND FORM's CARD OF 'laws.FnExactShutterName'. -/
def fnExactShutterNameUptoCard : Claim7 := { stood := { row := fnExactShutterNameUptoRow, standIns := [], harness := (true, "c167cdac05b3fb0c2bb6f5b97c6582d76c548e7fedcdd5246a5bd28e26ebb2cf"), looks := true }, kinds := [], alts := [], laidByText := true, laidKinds := [.data, .data, .data, .data, .pinned], laidTests := true, laidLooks := .later }
def FnExactShutterNameUptoCardSaid : Prop := Claim7.holds Tryd.pinned (.plain (OpenSpec.upto fnExactShutterNameSpec)) fnExactShutterNameUptoCard

/-- THE SECOND FORM's CARD OF 'laws.FnExactSettingText'. -/
def fnExactSettingTextUptoCard : Claim7 := { stood := { row := fnExactSettingTextUptoRow, standIns := [], harness := (true, "c167cdac05b3fb0c2bb6f5b97c6582d76c548e7fedcdd5246a5bd28e26ebb2cf"), looks := true }, kinds := [], alts := [], laidByText := true, laidKinds := [.data, .data, .data, .data, .pinned], laidTests := true, laidLooks := .later }
def FnExactSettingTextUptoCardSaid : Prop := Claim7.holds Tryd.pinned (.plain (OpenSpec.upto fnExactSettingTextSpec)) fnExactSettingTextUptoCard

/-- THE SECOND FORM's CARD OF 'laws.FnExactReadSetting'. -/
def fnExactReadSettingUptoCard : Claim7 := { stood := { row := fnExactReadSettingUptoRow, standIns := [], harness := (true, "c167cdac05b3fb0c2bb6f5b97c6582d76c548e7fedcdd5246a5bd28e26ebb2cf"), looks := true }, kinds := [], alts := [], laidByText := true, laidKinds := [.data, .data, .data, .data, .pinned], laidTests := true, laidLooks := .later }
def FnExactReadSettingUptoCardSaid : Prop := Claim7.holds Tryd.pinned (.plain (OpenSpec.upto fnExactReadSettingSpec)) fnExactReadSettingUptoCard

/-- THE SECOND FORM's CARD OF 'laws.FnExactReadCurve'. -/
def fnExactReadCurveUptoCard : Claim7 := { stood := { row := fnExactReadCurveUptoRow, standIns := [], harness := (true, "c167cdac05b3fb0c2bb6f5b97c6582d76c548e7fedcdd5246a5bd28e26ebb2cf"), looks := true }, kinds := [], alts := [], laidByText := true, laidKinds := [.data, .data, .data, .data, .sentinel, .sentinel, .pinned], laidTests := true, laidLooks := .later }
def FnExactReadCurveUptoCardSaid : Prop := Claim7.holds Tryd.pinned (.plain (OpenSpec.upto fnExactReadCurveSpec)) fnExactReadCurveUptoCard
end Rows
end Go.Proofs.YtfhbjjkkhjijmaaDoor
