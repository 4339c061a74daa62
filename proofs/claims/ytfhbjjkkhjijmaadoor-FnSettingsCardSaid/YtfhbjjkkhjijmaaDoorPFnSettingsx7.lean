/- Proves what functions that a law reaches come to, one contract each; no conditions beyond those that each names. Printed by a program of this session (xprint) out of the translation. -/
import Derived.Test.YtfhbjjkkhjijmaaDoorPFnSettingsx0
import Derived.Test.YtfhbjjkkhjijmaaDoorPFnSettingsx1
import Derived.Test.YtfhbjjkkhjijmaaDoorPFnSettingsx2
import Derived.Test.YtfhbjjkkhjijmaaDoorPFnSettingsx3
import Derived.Test.YtfhbjjkkhjijmaaDoorPFnSettingsx4
import Derived.Test.YtfhbjjkkhjijmaaDoorPFnSettingsx5
import Derived.Test.YtfhbjjkkhjijmaaDoorPFnSettingsx6
namespace Go.Proofs.YtfhbjjkkhjijmaaDoor.PFnSettings
open Go.RowKit Go.Proofs.YtfhbjjkkhjijmaaDoorW.PrintWords Go.Proofs.YtfhbjjkkhjijmaaDoorW.PrintLast Go.Proofs.YtfhbjjkkhjijmaaDoorW.PrintMore
attribute [local go_sem] max2_int min2_int max_two min_two max_three min_three max_four min_four   -- for this text's walks alone
set_option linter.unusedVariables false
set_option linter.unusedSimpArgs false

attribute [local go_sem high] eqA26
/-! ### laws_FnSettings: function 3 -/
mutual
def laws_FnSettings.j0 : Nat → List Int → List Int → Bool → Option (Bool)
  | 0, _, _, _ => none
  | k + 1, x0, x1, x47 => if x47 = true then (some true) else ((spec_P6Setting.f x0).bind fun bt313 => ((impl_ValueOf.f bt313.1 bt313.2.1 bt313.2.2).bind fun bt317 => ((impl_SettingText.f bt313.1 bt313.2.1 bt313.2.2).bind fun t319 => ((impl_ReadSetting.f k t319).bind fun bt320 => ((spec_P6Pick.f x1 80).bind fun t325 => ((impl_MoreLight.f bt313.1 bt313.2.1 bt313.2.2 (wrap64 (t325 - 40))).bind fun bt326 => ((spec_MoreLight.f bt313.1 bt313.2.1 bt313.2.2 (wrap64 (t325 - 40))).bind fun bt331 => (if bt317.2 = 0 then (if bt320.2.2.2 = 0 then (if (!(bt320.1 == bt313.1) || (!(bt320.2.1 == bt313.2.1) || (!(bt320.2.2.1 == bt313.2.2)))) = true then (none) else ((impl_ValidSetting.f bt313.1 bt313.2.1 bt313.2.2).bind fun t336 => (if t336 = true then (if bt326.2.2.2 = bt331.2.2.2 then (laws_FnSettings.j1 k x0 x1 bt317.1 (wrap64 (t325 - 40)) bt326.2.2.2 (!(bt326.1 == bt331.1) || (!(bt326.2.1 == bt331.2.1) || (!(bt326.2.2.1 == bt331.2.2.1)))) bt313.1 bt313.2.1 bt313.2.2 bt331.1 bt331.2.1 bt331.2.2.1) else (none)) else (none)))) else (none)) else (none)))))))))
def laws_FnSettings.j1 : Nat → List Int → List Int → Int → Int → Int → Bool → Int → Int → Int → Int → Int → Int → Option (Bool)
  | 0, _, _, _, _, _, _, _, _, _, _, _, _ => none
  | k + 1, x0, x1, x6, x10, x12, x101, x317000, x317001, x317002, x336000, x336001, x336002 => if x101 = true then (none) else (if x12 = 0 then ((impl_ValueOf.f x336000 x336001 x336002).bind fun bt337 => ((impl_MoreLight.f x336000 x336001 x336002 (wrap64 (-x10))).bind fun bt339 => ((spec_ValueOf.f bt339.1 bt339.2.1 bt339.2.2.1).bind fun bt344 => (if bt337.2 = 0 then (if bt337.1 = (wrap64 (x6 + x10)) then (if x336002 = x317002 then (if bt339.2.2.2 = 0 then (if bt344.2 = 0 then (laws_FnSettings.j2 k x0 x1 x6 (bt344.1 != x6) x317000 x317001 x317002) else (none)) else (none)) else (none)) else (none)) else (none))))) else (if x12 = 6 then (laws_FnSettings.j3 k x0 x1 x6 x317000 x317001 x317002) else (none)))
def laws_FnSettings.j3 : Nat → List Int → List Int → Int → Int → Int → Int → Option (Bool)
  | 0, _, _, _, _, _, _ => none
  | k + 1, x0, x1, x6, x317000, x317001, x317002 => (spec_P6Pick.f x0 60).bind fun t346 => ((impl_SettingsFor.f k (wrap64 (t346 - 30)) (wrap64 (x317002))).bind fun bt347 => ((spec_SettingsFor.f k (wrap64 (t346 - 30)) (wrap64 (x317002))).bind fun bt351 => ((impl_NearestSettings.f k (wrap64 (t346 - 30)) (wrap64 (x317002))).bind fun bt355 => ((spec_NearestSettings.f k (wrap64 (t346 - 30)) (wrap64 (x317002))).bind fun bt359 => (if bt347.2 = bt351.2 then ((spec_SameSettings.f k bt347.1 bt351.1).bind fun t363 => (if t363 = true then (if bt355.2 = bt359.2 then (if bt355.2 = 0 then ((spec_SameSettings.f k bt355.1 bt359.1).bind fun t364 => (if t364 = true then (if (bt359.1.length : Int) = 0 then (none) else (if bt347.2 = 0 then ((spec_SameSettings.f k bt351.1 bt359.1).bind fun t365 => (laws_FnSettings.j4 k x0 x1 x6 (wrap64 (t346 - 30)) bt351.1 (!t365) x317000 x317001 x317002)) else (laws_FnSettings.j4 k x0 x1 x6 (wrap64 (t346 - 30)) bt351.1 false x317000 x317001 x317002))) else (none))) else (none)) else (none)) else (none))) else (none))))))
def laws_FnSettings.j4 : Nat → List Int → List Int → Int → Int → List (S26) → Bool → Int → Int → Int → Option (Bool)
  | 0, _, _, _, _, _, _, _, _, _ => none
  | k + 1, x0, x1, x6, x21, x24, x225, x317000, x317001, x317002 => if x225 = true then (none) else (laws_FnSettings.l0 k x0 x1 x6 x21 x24 0 x317000 x317001 x317002)
def laws_FnSettings.l0 : Nat → List Int → List Int → Int → Int → List (S26) → Int → Int → Int → Int → Option (Bool)
  | 0, _, _, _, _, _, _, _, _, _ => none
  | k + 1, x0, x1, x6, x21, x24, x30, x317000, x317001, x317002 => if x30 < (x24.length : Int) then (if 0 ≤ x30 then ((impl_ValueOf.f ((rd_T26 x24 x30).f0) ((rd_T26 x24 x30).f1) ((rd_T26 x24 x30).f2)).bind fun bt367 => (if bt367.2 = 0 then (if bt367.1 = x21 then (if (Int.tmod ((rd_T26 x24 x30).f0) 3) = 0 then (if (Int.tmod ((rd_T26 x24 x30).f1) 3) = 0 then (if x30 > 0 then (if 0 ≤ (wrap64 (x30 - 1)) then (if (wrap64 (x30 - 1)) < (x24.length : Int) then (laws_FnSettings.j6 k x0 x1 x6 x21 x24 x30 (decide (((rd_T26 x24 x30).f0) ≤ ((rd_T26 x24 (wrap64 (x30 - 1))).f0))) x317000 x317001 x317002) else (none)) else (none)) else (laws_FnSettings.j6 k x0 x1 x6 x21 x24 x30 false x317000 x317001 x317002)) else (none)) else (none)) else (none)) else (none))) else (none)) else ((spec_P6Pick.f x1 4).bind fun t373 => ((spec_P6Pick.f x0 4).bind fun t374 => ((impl_BracketOf.f k x317000 x317001 x317002 t373 (wrap64 (1 + t374))).bind fun bt375 => ((spec_BracketOf.f k x317000 x317001 x317002 t373 (wrap64 (1 + t374))).bind fun bt379 => (if bt375.2 = bt379.2 then ((spec_SameSettings.f k bt375.1 bt379.1).bind fun t383 => (laws_FnSettings.j7 k x6 t373 (wrap64 (1 + t374)) bt375.2 bt379.1 (!t383))) else (none))))))
def laws_FnSettings.j6 : Nat → List Int → List Int → Int → Int → List (S26) → Int → Bool → Int → Int → Int → Option (Bool)
  | 0, _, _, _, _, _, _, _, _, _, _ => none
  | k + 1, x0, x1, x6, x21, x24, x30, x282, x317000, x317001, x317002 => if x282 = true then (none) else (laws_FnSettings.l0 k x0 x1 x6 x21 x24 (wrap64 (x30 + 1)) x317000 x317001 x317002)
def laws_FnSettings.j7 : Nat → Int → Int → Int → Int → List (S26) → Bool → Option (Bool)
  | 0, _, _, _, _, _, _ => none
  | k + 1, x6, x33, x34, x36, x37, x310 => if x310 = true then (none) else (if x36 = 0 then (laws_FnSettings.l1 k x6 x33 x34 x37 0) else (some (x36 == 6)))
def laws_FnSettings.l1 : Nat → Int → Int → Int → List (S26) → Int → Option (Bool)
  | 0, _, _, _, _, _ => none
  | k + 1, x6, x33, x34, x37, x39 => if x39 < (x37.length : Int) then (if 0 ≤ x39 then ((impl_ValueOf.f ((rd_T26 x37 x39).f0) ((rd_T26 x37 x39).f1) ((rd_T26 x37 x39).f2)).bind fun bt385 => (if bt385.2 = 0 then (if bt385.1 = (wrap64 (x6 + (wrap64 ((wrap64 (x39 - x33)) * x34)))) then (laws_FnSettings.l1 k x6 x33 x34 x37 (wrap64 (x39 + 1))) else (none)) else (none))) else (none)) else (some ((x37.length : Int) == (wrap64 ((wrap64 (2 * x33)) + 1))))
def laws_FnSettings.j2 : Nat → List Int → List Int → Int → Bool → Int → Int → Int → Option (Bool)
  | 0, _, _, _, _, _, _, _ => none
  | k + 1, x0, x1, x6, x149, x317000, x317001, x317002 => if x149 = true then (none) else (laws_FnSettings.j3 k x0 x1 x6 x317000 x317001 x317002)
end
def laws_FnSettings.f (k : Nat) (l0 : List Int) (l1 : List Int) : Option (Bool) := (laws_f6big.f l0).bind fun t311 => (if t311 = true then (laws_FnSettings.j0 k l0 l1 true) else ((laws_f6big.f l1).bind fun t312 => (laws_FnSettings.j0 k l0 l1 t312)))
theorem laws_FnSettings.mono_l : ∀ k, (∀ y0 y1 y2, LeO (laws_FnSettings.j0 k y0 y1 y2) (laws_FnSettings.j0 (k + 1) y0 y1 y2)) ∧ (∀ y0 y1 y2 y3 y4 y5 y6 y7 y8 y9 y10 y11, LeO (laws_FnSettings.j1 k y0 y1 y2 y3 y4 y5 y6 y7 y8 y9 y10 y11) (laws_FnSettings.j1 (k + 1) y0 y1 y2 y3 y4 y5 y6 y7 y8 y9 y10 y11)) ∧ (∀ y0 y1 y2 y3 y4 y5, LeO (laws_FnSettings.j3 k y0 y1 y2 y3 y4 y5) (laws_FnSettings.j3 (k + 1) y0 y1 y2 y3 y4 y5)) ∧ (∀ y0 y1 y2 y3 y4 y5 y6 y7 y8, LeO (laws_FnSettings.j4 k y0 y1 y2 y3 y4 y5 y6 y7 y8) (laws_FnSettings.j4 (k + 1) y0 y1 y2 y3 y4 y5 y6 y7 y8)) ∧ (∀ y0 y1 y2 y3 y4 y5 y6 y7 y8, LeO (laws_FnSettings.l0 k y0 y1 y2 y3 y4 y5 y6 y7 y8) (laws_FnSettings.l0 (k + 1) y0 y1 y2 y3 y4 y5 y6 y7 y8)) ∧ (∀ y0 y1 y2 y3 y4 y5 y6 y7 y8 y9, LeO (laws_FnSettings.j6 k y0 y1 y2 y3 y4 y5 y6 y7 y8 y9) (laws_FnSettings.j6 (k + 1) y0 y1 y2 y3 y4 y5 y6 y7 y8 y9)) ∧ (∀ y0 y1 y2 y3 y4 y5, LeO (laws_FnSettings.j7 k y0 y1 y2 y3 y4 y5) (laws_FnSettings.j7 (k + 1) y0 y1 y2 y3 y4 y5)) ∧ (∀ y0 y1 y2 y3 y4, LeO (laws_FnSettings.l1 k y0 y1 y2 y3 y4) (laws_FnSettings.l1 (k + 1) y0 y1 y2 y3 y4)) ∧ (∀ y0 y1 y2 y3 y4 y5 y6, LeO (laws_FnSettings.j2 k y0 y1 y2 y3 y4 y5 y6) (laws_FnSettings.j2 (k + 1) y0 y1 y2 y3 y4 y5 y6))
  | 0 => ⟨fun _ _ _ r h => by simp [laws_FnSettings.j0] at h, fun _ _ _ _ _ _ _ _ _ _ _ _ r h => by simp [laws_FnSettings.j1] at h, fun _ _ _ _ _ _ r h => by simp [laws_FnSettings.j3] at h, fun _ _ _ _ _ _ _ _ _ r h => by simp [laws_FnSettings.j4] at h, fun _ _ _ _ _ _ _ _ _ r h => by simp [laws_FnSettings.l0] at h, fun _ _ _ _ _ _ _ _ _ _ r h => by simp [laws_FnSettings.j6] at h, fun _ _ _ _ _ _ r h => by simp [laws_FnSettings.j7] at h, fun _ _ _ _ _ r h => by simp [laws_FnSettings.l1] at h, fun _ _ _ _ _ _ _ r h => by simp [laws_FnSettings.j2] at h⟩
  | k + 1 => by
    obtain ⟨ih0, ih1, ih2, ih3, ih4, ih5, ih6, ih7, ih8⟩ := laws_FnSettings.mono_l k
    refine ⟨?_, ?_, ?_, ?_, ?_, ?_, ?_, ?_, ?_⟩
    · intro y0 y1 y2
      unfold laws_FnSettings.j0
      repeat' first
      | (with_reducible exact ih0 _ _ _)
      | (with_reducible exact ih1 _ _ _ _ _ _ _ _ _ _ _ _)
      | (with_reducible exact ih2 _ _ _ _ _ _)
      | (with_reducible exact ih3 _ _ _ _ _ _ _ _ _)
      | (with_reducible exact ih4 _ _ _ _ _ _ _ _ _)
      | (with_reducible exact ih5 _ _ _ _ _ _ _ _ _ _)
      | (with_reducible exact ih6 _ _ _ _ _ _)
      | (with_reducible exact ih7 _ _ _ _ _)
      | (with_reducible exact ih8 _ _ _ _ _ _ _)
      | (with_reducible exact impl_BracketOf.mono _ _ _ _ _ _)
      | (with_reducible exact impl_NearestSettings.mono _ _ _)
      | (with_reducible exact impl_ReadSetting.mono _ _)
      | (with_reducible exact impl_SettingsFor.mono _ _ _)
      | (with_reducible exact spec_BracketOf.mono _ _ _ _ _ _)
      | (with_reducible exact spec_NearestSettings.mono _ _ _)
      | (with_reducible exact spec_SameSettings.mono _ _ _)
      | (with_reducible exact spec_SettingsFor.mono _ _ _)
      | (with_reducible exact LeO.refl _)
      | (with_reducible exact LeO.none _)
      | (with_reducible refine LeO.ite ?_ ?_)
      | (with_reducible refine LeO.bind ?_ (fun _ => ?_))
      | exact ih0 _ _ _
      | exact ih1 _ _ _ _ _ _ _ _ _ _ _ _
      | exact ih2 _ _ _ _ _ _
      | exact ih3 _ _ _ _ _ _ _ _ _
      | exact ih4 _ _ _ _ _ _ _ _ _
      | exact ih5 _ _ _ _ _ _ _ _ _ _
      | exact ih6 _ _ _ _ _ _
      | exact ih7 _ _ _ _ _
      | exact ih8 _ _ _ _ _ _ _
      | exact impl_BracketOf.mono _ _ _ _ _ _
      | exact impl_NearestSettings.mono _ _ _
      | exact impl_ReadSetting.mono _ _
      | exact impl_SettingsFor.mono _ _ _
      | exact spec_BracketOf.mono _ _ _ _ _ _
      | exact spec_NearestSettings.mono _ _ _
      | exact spec_SameSettings.mono _ _ _
      | exact spec_SettingsFor.mono _ _ _
      | exact LeO.none _
      | refine LeO.ite ?_ ?_
      | refine LeO.bind ?_ (fun _ => ?_)
    · intro y0 y1 y2 y3 y4 y5 y6 y7 y8 y9 y10 y11
      unfold laws_FnSettings.j1
      repeat' first
      | (with_reducible exact ih0 _ _ _)
      | (with_reducible exact ih1 _ _ _ _ _ _ _ _ _ _ _ _)
      | (with_reducible exact ih2 _ _ _ _ _ _)
      | (with_reducible exact ih3 _ _ _ _ _ _ _ _ _)
      | (with_reducible exact ih4 _ _ _ _ _ _ _ _ _)
      | (with_reducible exact ih5 _ _ _ _ _ _ _ _ _ _)
      | (with_reducible exact ih6 _ _ _ _ _ _)
      | (with_reducible exact ih7 _ _ _ _ _)
      | (with_reducible exact ih8 _ _ _ _ _ _ _)
      | (with_reducible exact impl_BracketOf.mono _ _ _ _ _ _)
      | (with_reducible exact impl_NearestSettings.mono _ _ _)
      | (with_reducible exact impl_ReadSetting.mono _ _)
      | (with_reducible exact impl_SettingsFor.mono _ _ _)
      | (with_reducible exact spec_BracketOf.mono _ _ _ _ _ _)
      | (with_reducible exact spec_NearestSettings.mono _ _ _)
      | (with_reducible exact spec_SameSettings.mono _ _ _)
      | (with_reducible exact spec_SettingsFor.mono _ _ _)
      | (with_reducible exact LeO.refl _)
      | (with_reducible exact LeO.none _)
      | (with_reducible refine LeO.ite ?_ ?_)
      | (with_reducible refine LeO.bind ?_ (fun _ => ?_))
      | exact ih0 _ _ _
      | exact ih1 _ _ _ _ _ _ _ _ _ _ _ _
      | exact ih2 _ _ _ _ _ _
      | exact ih3 _ _ _ _ _ _ _ _ _
      | exact ih4 _ _ _ _ _ _ _ _ _
      | exact ih5 _ _ _ _ _ _ _ _ _ _
      | exact ih6 _ _ _ _ _ _
      | exact ih7 _ _ _ _ _
      | exact ih8 _ _ _ _ _ _ _
      | exact impl_BracketOf.mono _ _ _ _ _ _
      | exact impl_NearestSettings.mono _ _ _
      | exact impl_ReadSetting.mono _ _
      | exact impl_SettingsFor.mono _ _ _
      | exact spec_BracketOf.mono _ _ _ _ _ _
      | exact spec_NearestSettings.mono _ _ _
      | exact spec_SameSettings.mono _ _ _
      | exact spec_SettingsFor.mono _ _ _
      | exact LeO.none _
      | refine LeO.ite ?_ ?_
      | refine LeO.bind ?_ (fun _ => ?_)
    · intro y0 y1 y2 y3 y4 y5
      unfold laws_FnSettings.j3
      repeat' first
      | (with_reducible exact ih0 _ _ _)
      | (with_reducible exact ih1 _ _ _ _ _ _ _ _ _ _ _ _)
      | (with_reducible exact ih2 _ _ _ _ _ _)
      | (with_reducible exact ih3 _ _ _ _ _ _ _ _ _)
      | (with_reducible exact ih4 _ _ _ _ _ _ _ _ _)
      | (with_reducible exact ih5 _ _ _ _ _ _ _ _ _ _)
      | (with_reducible exact ih6 _ _ _ _ _ _)
      | (with_reducible exact ih7 _ _ _ _ _)
      | (with_reducible exact ih8 _ _ _ _ _ _ _)
      | (with_reducible exact impl_BracketOf.mono _ _ _ _ _ _)
      | (with_reducible exact impl_NearestSettings.mono _ _ _)
      | (with_reducible exact impl_ReadSetting.mono _ _)
      | (with_reducible exact impl_SettingsFor.mono _ _ _)
      | (with_reducible exact spec_BracketOf.mono _ _ _ _ _ _)
      | (with_reducible exact spec_NearestSettings.mono _ _ _)
      | (with_reducible exact spec_SameSettings.mono _ _ _)
      | (with_reducible exact spec_SettingsFor.mono _ _ _)
      | (with_reducible exact LeO.refl _)
      | (with_reducible exact LeO.none _)
      | (with_reducible refine LeO.ite ?_ ?_)
      | (with_reducible refine LeO.bind ?_ (fun _ => ?_))
      | exact ih0 _ _ _
      | exact ih1 _ _ _ _ _ _ _ _ _ _ _ _
      | exact ih2 _ _ _ _ _ _
      | exact ih3 _ _ _ _ _ _ _ _ _
      | exact ih4 _ _ _ _ _ _ _ _ _
      | exact ih5 _ _ _ _ _ _ _ _ _ _
      | exact ih6 _ _ _ _ _ _
      | exact ih7 _ _ _ _ _
      | exact ih8 _ _ _ _ _ _ _
      | exact impl_BracketOf.mono _ _ _ _ _ _
      | exact impl_NearestSettings.mono _ _ _
      | exact impl_ReadSetting.mono _ _
      | exact impl_SettingsFor.mono _ _ _
      | exact spec_BracketOf.mono _ _ _ _ _ _
      | exact spec_NearestSettings.mono _ _ _
      | exact spec_SameSettings.mono _ _ _
      | exact spec_SettingsFor.mono _ _ _
      | exact LeO.none _
      | refine LeO.ite ?_ ?_
      | refine LeO.bind ?_ (fun _ => ?_)
    · intro y0 y1 y2 y3 y4 y5 y6 y7 y8
      unfold laws_FnSettings.j4
      repeat' first
      | (with_reducible exact ih0 _ _ _)
      | (with_reducible exact ih1 _ _ _ _ _ _ _ _ _ _ _ _)
      | (with_reducible exact ih2 _ _ _ _ _ _)
      | (with_reducible exact ih3 _ _ _ _ _ _ _ _ _)
      | (with_reducible exact ih4 _ _ _ _ _ _ _ _ _)
      | (with_reducible exact ih5 _ _ _ _ _ _ _ _ _ _)
      | (with_reducible exact ih6 _ _ _ _ _ _)
      | (with_reducible exact ih7 _ _ _ _ _)
      | (with_reducible exact ih8 _ _ _ _ _ _ _)
      | (with_reducible exact impl_BracketOf.mono _ _ _ _ _ _)
      | (with_reducible exact impl_NearestSettings.mono _ _ _)
      | (with_reducible exact impl_ReadSetting.mono _ _)
      | (with_reducible exact impl_SettingsFor.mono _ _ _)
      | (with_reducible exact spec_BracketOf.mono _ _ _ _ _ _)
      | (with_reducible exact spec_NearestSettings.mono _ _ _)
      | (with_reducible exact spec_SameSettings.mono _ _ _)
      | (with_reducible exact spec_SettingsFor.mono _ _ _)
      | (with_reducible exact LeO.refl _)
      | (with_reducible exact LeO.none _)
      | (with_reducible refine LeO.ite ?_ ?_)
      | (with_reducible refine LeO.bind ?_ (fun _ => ?_))
      | exact ih0 _ _ _
      | exact ih1 _ _ _ _ _ _ _ _ _ _ _ _
      | exact ih2 _ _ _ _ _ _
      | exact ih3 _ _ _ _ _ _ _ _ _
      | exact ih4 _ _ _ _ _ _ _ _ _
      | exact ih5 _ _ _ _ _ _ _ _ _ _
      | exact ih6 _ _ _ _ _ _
      | exact ih7 _ _ _ _ _
      | exact ih8 _ _ _ _ _ _ _
      | exact impl_BracketOf.mono _ _ _ _ _ _
      | exact impl_NearestSettings.mono _ _ _
      | exact impl_ReadSetting.mono _ _
      | exact impl_SettingsFor.mono _ _ _
      | exact spec_BracketOf.mono _ _ _ _ _ _
      | exact spec_NearestSettings.mono _ _ _
      | exact spec_SameSettings.mono _ _ _
      | exact spec_SettingsFor.mono _ _ _
      | exact LeO.none _
      | refine LeO.ite ?_ ?_
      | refine LeO.bind ?_ (fun _ => ?_)
    · intro y0 y1 y2 y3 y4 y5 y6 y7 y8
      unfold laws_FnSettings.l0
      repeat' first
      | (with_reducible exact ih0 _ _ _)
      | (with_reducible exact ih1 _ _ _ _ _ _ _ _ _ _ _ _)
      | (with_reducible exact ih2 _ _ _ _ _ _)
      | (with_reducible exact ih3 _ _ _ _ _ _ _ _ _)
      | (with_reducible exact ih4 _ _ _ _ _ _ _ _ _)
      | (with_reducible exact ih5 _ _ _ _ _ _ _ _ _ _)
      | (with_reducible exact ih6 _ _ _ _ _ _)
      | (with_reducible exact ih7 _ _ _ _ _)
      | (with_reducible exact ih8 _ _ _ _ _ _ _)
      | (with_reducible exact impl_BracketOf.mono _ _ _ _ _ _)
      | (with_reducible exact impl_NearestSettings.mono _ _ _)
      | (with_reducible exact impl_ReadSetting.mono _ _)
      | (with_reducible exact impl_SettingsFor.mono _ _ _)
      | (with_reducible exact spec_BracketOf.mono _ _ _ _ _ _)
      | (with_reducible exact spec_NearestSettings.mono _ _ _)
      | (with_reducible exact spec_SameSettings.mono _ _ _)
      | (with_reducible exact spec_SettingsFor.mono _ _ _)
      | (with_reducible exact LeO.refl _)
      | (with_reducible exact LeO.none _)
      | (with_reducible refine LeO.ite ?_ ?_)
      | (with_reducible refine LeO.bind ?_ (fun _ => ?_))
      | exact ih0 _ _ _
      | exact ih1 _ _ _ _ _ _ _ _ _ _ _ _
      | exact ih2 _ _ _ _ _ _
      | exact ih3 _ _ _ _ _ _ _ _ _
      | exact ih4 _ _ _ _ _ _ _ _ _
      | exact ih5 _ _ _ _ _ _ _ _ _ _
      | exact ih6 _ _ _ _ _ _
      | exact ih7 _ _ _ _ _
      | exact ih8 _ _ _ _ _ _ _
      | exact impl_BracketOf.mono _ _ _ _ _ _
      | exact impl_NearestSettings.mono _ _ _
      | exact impl_ReadSetting.mono _ _
      | exact impl_SettingsFor.mono _ _ _
      | exact spec_BracketOf.mono _ _ _ _ _ _
      | exact spec_NearestSettings.mono _ _ _
      | exact spec_SameSettings.mono _ _ _
      | exact spec_SettingsFor.mono _ _ _
      | exact LeO.none _
      | refine LeO.ite ?_ ?_
      | refine LeO.bind ?_ (fun _ => ?_)
    · intro y0 y1 y2 y3 y4 y5 y6 y7 y8 y9
      unfold laws_FnSettings.j6
      repeat' first
      | (with_reducible exact ih0 _ _ _)
      | (with_reducible exact ih1 _ _ _ _ _ _ _ _ _ _ _ _)
      | (with_reducible exact ih2 _ _ _ _ _ _)
      | (with_reducible exact ih3 _ _ _ _ _ _ _ _ _)
      | (with_reducible exact ih4 _ _ _ _ _ _ _ _ _)
      | (with_reducible exact ih5 _ _ _ _ _ _ _ _ _ _)
      | (with_reducible exact ih6 _ _ _ _ _ _)
      | (with_reducible exact ih7 _ _ _ _ _)
      | (with_reducible exact ih8 _ _ _ _ _ _ _)
      | (with_reducible exact impl_BracketOf.mono _ _ _ _ _ _)
      | (with_reducible exact impl_NearestSettings.mono _ _ _)
      | (with_reducible exact impl_ReadSetting.mono _ _)
      | (with_reducible exact impl_SettingsFor.mono _ _ _)
      | (with_reducible exact spec_BracketOf.mono _ _ _ _ _ _)
      | (with_reducible exact spec_NearestSettings.mono _ _ _)
      | (with_reducible exact spec_SameSettings.mono _ _ _)
      | (with_reducible exact spec_SettingsFor.mono _ _ _)
      | (with_reducible exact LeO.refl _)
      | (with_reducible exact LeO.none _)
      | (with_reducible refine LeO.ite ?_ ?_)
      | (with_reducible refine LeO.bind ?_ (fun _ => ?_))
      | exact ih0 _ _ _
      | exact ih1 _ _ _ _ _ _ _ _ _ _ _ _
      | exact ih2 _ _ _ _ _ _
      | exact ih3 _ _ _ _ _ _ _ _ _
      | exact ih4 _ _ _ _ _ _ _ _ _
      | exact ih5 _ _ _ _ _ _ _ _ _ _
      | exact ih6 _ _ _ _ _ _
      | exact ih7 _ _ _ _ _
      | exact ih8 _ _ _ _ _ _ _
      | exact impl_BracketOf.mono _ _ _ _ _ _
      | exact impl_NearestSettings.mono _ _ _
      | exact impl_ReadSetting.mono _ _
      | exact impl_SettingsFor.mono _ _ _
      | exact spec_BracketOf.mono _ _ _ _ _ _
      | exact spec_NearestSettings.mono _ _ _
      | exact spec_SameSettings.mono _ _ _
      | exact spec_SettingsFor.mono _ _ _
      | exact LeO.none _
      | refine LeO.ite ?_ ?_
      | refine LeO.bind ?_ (fun _ => ?_)
    · intro y0 y1 y2 y3 y4 y5
      unfold laws_FnSettings.j7
      repeat' first
      | (with_reducible exact ih0 _ _ _)
      | (with_reducible exact ih1 _ _ _ _ _ _ _ _ _ _ _ _)
      | (with_reducible exact ih2 _ _ _ _ _ _)
      | (with_reducible exact ih3 _ _ _ _ _ _ _ _ _)
      | (with_reducible exact ih4 _ _ _ _ _ _ _ _ _)
      | (with_reducible exact ih5 _ _ _ _ _ _ _ _ _ _)
      | (with_reducible exact ih6 _ _ _ _ _ _)
      | (with_reducible exact ih7 _ _ _ _ _)
      | (with_reducible exact ih8 _ _ _ _ _ _ _)
      | (with_reducible exact impl_BracketOf.mono _ _ _ _ _ _)
      | (with_reducible exact impl_NearestSettings.mono _ _ _)
      | (with_reducible exact impl_ReadSetting.mono _ _)
      | (with_reducible exact impl_SettingsFor.mono _ _ _)
      | (with_reducible exact spec_BracketOf.mono _ _ _ _ _ _)
      | (with_reducible exact spec_NearestSettings.mono _ _ _)
      | (with_reducible exact spec_SameSettings.mono _ _ _)
      | (with_reducible exact spec_SettingsFor.mono _ _ _)
      | (with_reducible exact LeO.refl _)
      | (with_reducible exact LeO.none _)
      | (with_reducible refine LeO.ite ?_ ?_)
      | (with_reducible refine LeO.bind ?_ (fun _ => ?_))
      | exact ih0 _ _ _
      | exact ih1 _ _ _ _ _ _ _ _ _ _ _ _
      | exact ih2 _ _ _ _ _ _
      | exact ih3 _ _ _ _ _ _ _ _ _
      | exact ih4 _ _ _ _ _ _ _ _ _
      | exact ih5 _ _ _ _ _ _ _ _ _ _
      | exact ih6 _ _ _ _ _ _
      | exact ih7 _ _ _ _ _
      | exact ih8 _ _ _ _ _ _ _
      | exact impl_BracketOf.mono _ _ _ _ _ _
      | exact impl_NearestSettings.mono _ _ _
      | exact impl_ReadSetting.mono _ _
      | exact impl_SettingsFor.mono _ _ _
      | exact spec_BracketOf.mono _ _ _ _ _ _
      | exact spec_NearestSettings.mono _ _ _
      | exact spec_SameSettings.mono _ _ _
      | exact spec_SettingsFor.mono _ _ _
      | exact LeO.none _
      | refine LeO.ite ?_ ?_
      | refine LeO.bind ?_ (fun _ => ?_)
    · intro y0 y1 y2 y3 y4
      unfold laws_FnSettings.l1
      repeat' first
      | (with_reducible exact ih0 _ _ _)
      | (with_reducible exact ih1 _ _ _ _ _ _ _ _ _ _ _ _)
      | (with_reducible exact ih2 _ _ _ _ _ _)
      | (with_reducible exact ih3 _ _ _ _ _ _ _ _ _)
      | (with_reducible exact ih4 _ _ _ _ _ _ _ _ _)
      | (with_reducible exact ih5 _ _ _ _ _ _ _ _ _ _)
      | (with_reducible exact ih6 _ _ _ _ _ _)
      | (with_reducible exact ih7 _ _ _ _ _)
      | (with_reducible exact ih8 _ _ _ _ _ _ _)
      | (with_reducible exact impl_BracketOf.mono _ _ _ _ _ _)
      | (with_reducible exact impl_NearestSettings.mono _ _ _)
      | (with_reducible exact impl_ReadSetting.mono _ _)
      | (with_reducible exact impl_SettingsFor.mono _ _ _)
      | (with_reducible exact spec_BracketOf.mono _ _ _ _ _ _)
      | (with_reducible exact spec_NearestSettings.mono _ _ _)
      | (with_reducible exact spec_SameSettings.mono _ _ _)
      | (with_reducible exact spec_SettingsFor.mono _ _ _)
      | (with_reducible exact LeO.refl _)
      | (with_reducible exact LeO.none _)
      | (with_reducible refine LeO.ite ?_ ?_)
      | (with_reducible refine LeO.bind ?_ (fun _ => ?_))
      | exact ih0 _ _ _
      | exact ih1 _ _ _ _ _ _ _ _ _ _ _ _
      | exact ih2 _ _ _ _ _ _
      | exact ih3 _ _ _ _ _ _ _ _ _
      | exact ih4 _ _ _ _ _ _ _ _ _
      | exact ih5 _ _ _ _ _ _ _ _ _ _
      | exact ih6 _ _ _ _ _ _
      | exact ih7 _ _ _ _ _
      | exact ih8 _ _ _ _ _ _ _
      | exact impl_BracketOf.mono _ _ _ _ _ _
      | exact impl_NearestSettings.mono _ _ _
      | exact impl_ReadSetting.mono _ _
      | exact impl_SettingsFor.mono _ _ _
      | exact spec_BracketOf.mono _ _ _ _ _ _
      | exact spec_NearestSettings.mono _ _ _
      | exact spec_SameSettings.mono _ _ _
      | exact spec_SettingsFor.mono _ _ _
      | exact LeO.none _
      | refine LeO.ite ?_ ?_
      | refine LeO.bind ?_ (fun _ => ?_)
    · intro y0 y1 y2 y3 y4 y5 y6
      unfold laws_FnSettings.j2
      repeat' first
      | (with_reducible exact ih0 _ _ _)
      | (with_reducible exact ih1 _ _ _ _ _ _ _ _ _ _ _ _)
      | (with_reducible exact ih2 _ _ _ _ _ _)
      | (with_reducible exact ih3 _ _ _ _ _ _ _ _ _)
      | (with_reducible exact ih4 _ _ _ _ _ _ _ _ _)
      | (with_reducible exact ih5 _ _ _ _ _ _ _ _ _ _)
      | (with_reducible exact ih6 _ _ _ _ _ _)
      | (with_reducible exact ih7 _ _ _ _ _)
      | (with_reducible exact ih8 _ _ _ _ _ _ _)
      | (with_reducible exact impl_BracketOf.mono _ _ _ _ _ _)
      | (with_reducible exact impl_NearestSettings.mono _ _ _)
      | (with_reducible exact impl_ReadSetting.mono _ _)
      | (with_reducible exact impl_SettingsFor.mono _ _ _)
      | (with_reducible exact spec_BracketOf.mono _ _ _ _ _ _)
      | (with_reducible exact spec_NearestSettings.mono _ _ _)
      | (with_reducible exact spec_SameSettings.mono _ _ _)
      | (with_reducible exact spec_SettingsFor.mono _ _ _)
      | (with_reducible exact LeO.refl _)
      | (with_reducible exact LeO.none _)
      | (with_reducible refine LeO.ite ?_ ?_)
      | (with_reducible refine LeO.bind ?_ (fun _ => ?_))
      | exact ih0 _ _ _
      | exact ih1 _ _ _ _ _ _ _ _ _ _ _ _
      | exact ih2 _ _ _ _ _ _
      | exact ih3 _ _ _ _ _ _ _ _ _
      | exact ih4 _ _ _ _ _ _ _ _ _
      | exact ih5 _ _ _ _ _ _ _ _ _ _
      | exact ih6 _ _ _ _ _ _
      | exact ih7 _ _ _ _ _
      | exact ih8 _ _ _ _ _ _ _
      | exact impl_BracketOf.mono _ _ _ _ _ _
      | exact impl_NearestSettings.mono _ _ _
      | exact impl_ReadSetting.mono _ _
      | exact impl_SettingsFor.mono _ _ _
      | exact spec_BracketOf.mono _ _ _ _ _ _
      | exact spec_NearestSettings.mono _ _ _
      | exact spec_SameSettings.mono _ _ _
      | exact spec_SettingsFor.mono _ _ _
      | exact LeO.none _
      | refine LeO.ite ?_ ?_
      | refine LeO.bind ?_ (fun _ => ?_)
theorem laws_FnSettings.mono : ∀ a0 a1 k, LeO (laws_FnSettings.f k a0 a1) (laws_FnSettings.f (k + 1) a0 a1) := by
  intro a0 a1 k
  obtain ⟨ih0, ih1, ih2, ih3, ih4, ih5, ih6, ih7, ih8⟩ := laws_FnSettings.mono_l k
  unfold laws_FnSettings.f
  repeat' first
      | (with_reducible exact ih0 _ _ _)
      | (with_reducible exact ih1 _ _ _ _ _ _ _ _ _ _ _ _)
      | (with_reducible exact ih2 _ _ _ _ _ _)
      | (with_reducible exact ih3 _ _ _ _ _ _ _ _ _)
      | (with_reducible exact ih4 _ _ _ _ _ _ _ _ _)
      | (with_reducible exact ih5 _ _ _ _ _ _ _ _ _ _)
      | (with_reducible exact ih6 _ _ _ _ _ _)
      | (with_reducible exact ih7 _ _ _ _ _)
      | (with_reducible exact ih8 _ _ _ _ _ _ _)
      | (with_reducible exact impl_BracketOf.mono _ _ _ _ _ _)
      | (with_reducible exact impl_NearestSettings.mono _ _ _)
      | (with_reducible exact impl_ReadSetting.mono _ _)
      | (with_reducible exact impl_SettingsFor.mono _ _ _)
      | (with_reducible exact spec_BracketOf.mono _ _ _ _ _ _)
      | (with_reducible exact spec_NearestSettings.mono _ _ _)
      | (with_reducible exact spec_SameSettings.mono _ _ _)
      | (with_reducible exact spec_SettingsFor.mono _ _ _)
      | (with_reducible exact LeO.refl _)
      | (with_reducible exact LeO.none _)
      | (with_reducible refine LeO.ite ?_ ?_)
      | (with_reducible refine LeO.bind ?_ (fun _ => ?_))
      | exact ih0 _ _ _
      | exact ih1 _ _ _ _ _ _ _ _ _ _ _ _
      | exact ih2 _ _ _ _ _ _
      | exact ih3 _ _ _ _ _ _ _ _ _
      | exact ih4 _ _ _ _ _ _ _ _ _
      | exact ih5 _ _ _ _ _ _ _ _ _ _
      | exact ih6 _ _ _ _ _ _
      | exact ih7 _ _ _ _ _
      | exact ih8 _ _ _ _ _ _ _
      | exact impl_BracketOf.mono _ _ _ _ _ _
      | exact impl_NearestSettings.mono _ _ _
      | exact impl_ReadSetting.mono _ _
      | exact impl_SettingsFor.mono _ _ _
      | exact spec_BracketOf.mono _ _ _ _ _ _
      | exact spec_NearestSettings.mono _ _ _
      | exact spec_SameSettings.mono _ _ _
      | exact spec_SettingsFor.mono _ _ _
      | exact LeO.none _
      | refine LeO.ite ?_ ?_
      | refine LeO.bind ?_ (fun _ => ?_)
set_option maxHeartbeats 8000000 in
set_option maxRecDepth 100000 in
theorem laws_FnSettings.calls (k : Nat) (A0 : Option Addr) (c0 : Nat) (l0 : List Int) (A1 : Option Addr) (c1 : Nat) (l1 : List Int) (r : Bool) (w : World) (hr0 : Kd.C (Kd.int .u8) w A0 l0.length l0) (hc0 : l0.length ≤ c0) (hr1 : Kd.C (Kd.int .u8) w A1 l1.length l1) (hc1 : l1.length ≤ c1) (h : laws_FnSettings.f k l0 l1 = some r) (hg_ : GlobW w) :
    Calls Tryd.prog 3 #[.slice A0 l0.length c0, .slice A1 l1.length c1] w fun e w' => e = .returned (.bool r) ∧ Below w.heap.size w w' := by
  have HG := Aside0.mk hg_
  clear hg_
  have hu26 := Tryd.underlying26
  have HR0 := Aside0.mk hr0
  have HC0 := Aside0.mk hc0
  clear hr0 hc0
  have HR1 := Aside0.mk hr1
  have HC1 := Aside0.mk hc1
  clear hr1 hc1
  have HB := Aside0.mk (Below.refl w.heap.size w)
  have H : ((laws_f6big.f l0).bind fun t311 => (if t311 = true then (laws_FnSettings.j0 k l0 l1 true) else ((laws_f6big.f l1).bind fun t312 => (laws_FnSettings.j0 k l0 l1 t312)))) = some r := h
  clear h
  have HC3 := Aside0.mk H
  clear H
  go_enter Tryd.func3, Tryd.ntmps3
  go_upto_region 1 with (first | (go_quiet (fail)))
  go_cut [47] (fun v47 wc => ∃ (kq : Nat) (x47_2 : Bool), v47 = .bool x47_2 ∧ Aside0 (laws_FnSettings.j0 kq l0 l1 x47_2 = some r) ∧ Aside0 (kq ≤ k) ∧ Aside0 (Below w.heap.size w wc))
  case first =>
    have H := HC3.out
    clear HC3
    replace H := Option.bind_eq_some_iff.mp H
    obtain ⟨t311, A40, H⟩ := H
    replace H : (if t311 = true then (laws_FnSettings.j0 k l0 l1 true) else ((laws_f6big.f l1).bind fun t312 => (laws_FnSettings.j0 k l0 l1 t312))) = some r := H
    have A4 := Aside0.mk A40
    clear A40
    by_cases c5 : t311 = true
    · subst c5
      have H1 : (laws_FnSettings.j0 k l0 l1 true) = some r := by rw [if_pos rfl] at H; exact H
      clear H
      have H := H1
      clear H1
      have H' := Aside0.mk H
      clear H
      go_wp2_with (first | (go_at_call 10; (with_reducible refine (laws_f6big.calls _ _ l0 true _ ?side1 ?side2 A4.out).mono ?_); (case side1 => repeat (first | exact (Kd.C_below HR0.out HB.out) | (with_reducible refine Kd.C_alloc ?_ _) | (with_reducible refine Kd.C_drewN ?_ _) | (with_reducible refine Kd.C_drew ?_))); (case side2 => exact HC0.out); rintro e w' ⟨rfl, ⟨nd, rfl⟩⟩; (try first | exact ⟨rfl, _, World.drewN_drewN _ _ _⟩ | exact ⟨rfl, _, Eq.trans (World.drewN_drewN _ _ _) (congrArg (World.drewN _) (Nat.add_assoc _ _ _))⟩)) | (go_quiet (first | (go_at_call 10; (with_reducible refine (laws_f6big.calls _ _ l0 true _ ?side1 ?side2 A4.out).mono ?_); (case side1 => repeat (first | exact (Kd.C_below HR0.out HB.out) | (with_reducible refine Kd.C_alloc ?_ _) | (with_reducible refine Kd.C_drewN ?_ _) | (with_reducible refine Kd.C_drew ?_))); (case side2 => exact HC0.out); rintro e w' ⟨rfl, ⟨nd, rfl⟩⟩; (try first | exact ⟨rfl, _, World.drewN_drewN _ _ _⟩ | exact ⟨rfl, _, Eq.trans (World.drewN_drewN _ _ _) (congrArg (World.drewN _) (Nat.add_assoc _ _ _))⟩)))))
      go_meet
      case rel => exact ⟨_, (true), (by first | rfl | (simp; done) | (simp [*]; done)), H', ⟨by first | omega | exact Nat.le_refl _⟩, ⟨by repeat (first | (with_reducible first | exact HB.out | apply below_alloc | apply pw_below_drewN | apply below_drew1) | exact HB.out)⟩⟩
    · replace c5 := Bool.eq_false_iff.mpr c5
      subst c5
      have H1 : ((laws_f6big.f l1).bind fun t312 => (laws_FnSettings.j0 k l0 l1 t312)) = some r := by rw [if_neg (show ¬ (false = true) by decide)] at H; exact H
      clear H
      have H := H1
      clear H1
      replace H := Option.bind_eq_some_iff.mp H
      obtain ⟨t312, A60, H⟩ := H
      replace H : (laws_FnSettings.j0 k l0 l1 t312) = some r := H
      have A6 := Aside0.mk A60
      clear A60
      have H' := Aside0.mk H
      clear H
      go_wp2_with (first | (go_at_call 10; (with_reducible refine (laws_f6big.calls _ _ l0 false _ ?side1 ?side2 A4.out).mono ?_); (case side1 => repeat (first | exact (Kd.C_below HR0.out HB.out) | (with_reducible refine Kd.C_alloc ?_ _) | (with_reducible refine Kd.C_drewN ?_ _) | (with_reducible refine Kd.C_drew ?_))); (case side2 => exact HC0.out); rintro e w' ⟨rfl, ⟨nd, rfl⟩⟩; (try first | exact ⟨rfl, _, World.drewN_drewN _ _ _⟩ | exact ⟨rfl, _, Eq.trans (World.drewN_drewN _ _ _) (congrArg (World.drewN _) (Nat.add_assoc _ _ _))⟩)) | (go_at_call 10; (with_reducible refine (laws_f6big.calls _ _ l1 t312 _ ?side1 ?side2 A6.out).mono ?_); (case side1 => repeat (first | exact (Kd.C_below HR1.out (by repeat (first | (with_reducible first | exact HB.out | apply below_alloc | apply pw_below_drewN | apply below_drew1) | exact HB.out))) | (with_reducible refine Kd.C_alloc ?_ _) | (with_reducible refine Kd.C_drewN ?_ _) | (with_reducible refine Kd.C_drew ?_))); (case side2 => exact HC1.out); rintro e w' ⟨rfl, ⟨nd, rfl⟩⟩; (try first | exact ⟨rfl, _, World.drewN_drewN _ _ _⟩ | exact ⟨rfl, _, Eq.trans (World.drewN_drewN _ _ _) (congrArg (World.drewN _) (Nat.add_assoc _ _ _))⟩)) | (go_quiet (first | (go_at_call 10; (with_reducible refine (laws_f6big.calls _ _ l0 false _ ?side1 ?side2 A4.out).mono ?_); (case side1 => repeat (first | exact (Kd.C_below HR0.out HB.out) | (with_reducible refine Kd.C_alloc ?_ _) | (with_reducible refine Kd.C_drewN ?_ _) | (with_reducible refine Kd.C_drew ?_))); (case side2 => exact HC0.out); rintro e w' ⟨rfl, ⟨nd, rfl⟩⟩; (try first | exact ⟨rfl, _, World.drewN_drewN _ _ _⟩ | exact ⟨rfl, _, Eq.trans (World.drewN_drewN _ _ _) (congrArg (World.drewN _) (Nat.add_assoc _ _ _))⟩)) | (go_at_call 10; (with_reducible refine (laws_f6big.calls _ _ l1 t312 _ ?side1 ?side2 A6.out).mono ?_); (case side1 => repeat (first | exact (Kd.C_below HR1.out (by repeat (first | (with_reducible first | exact HB.out | apply below_alloc | apply pw_below_drewN | apply below_drew1) | exact HB.out))) | (with_reducible refine Kd.C_alloc ?_ _) | (with_reducible refine Kd.C_drewN ?_ _) | (with_reducible refine Kd.C_drew ?_))); (case side2 => exact HC1.out); rintro e w' ⟨rfl, ⟨nd, rfl⟩⟩; (try first | exact ⟨rfl, _, World.drewN_drewN _ _ _⟩ | exact ⟨rfl, _, Eq.trans (World.drewN_drewN _ _ _) (congrArg (World.drewN _) (Nat.add_assoc _ _ _))⟩)))))
      go_meet
      case rel => exact ⟨_, (t312), (by first | rfl | (simp; done) | (simp [*]; done)), H', ⟨by first | omega | exact Nat.le_refl _⟩, ⟨by repeat (first | (with_reducible first | exact HB.out | apply below_alloc | apply pw_below_drewN | apply below_drew1) | exact HB.out)⟩⟩
  case rest => as_aux_lemma =>
    clear HC3
    try clear c1
    try clear p2
    try clear c3
    try clear c5
    obtain ⟨kq, x47_2, rfl, HA, HJ2, HB⟩ := hcut
    cases kq with
    | zero => exact absurd HA.out (by simp [laws_FnSettings.j0])
    | succ kj2 =>
      have H := HA.out
      clear HA
      simp only [laws_FnSettings.j0] at H
      by_cases c7 : x47_2 = true
      · subst c7
        have H1 : (some true) = some r := by rw [if_pos rfl] at H; exact H
        clear H
        have H := H1
        clear H1
        obtain rfl := Option.some.inj H
        go_wp2_with (first | (go_quiet (fail)))
        go_ret
        exact ⟨by first | rfl | (simp [errW_none, errW_some] <;> rfl) | (simp [*, errW_none, errW_some] <;> rfl), by repeat (first | (with_reducible first | exact HB.out | apply below_alloc | apply pw_below_drewN | apply below_drew1) | exact HB.out)⟩
      · replace c7 := Bool.eq_false_iff.mpr c7
        subst c7
        have H1 : ((spec_P6Setting.f l0).bind fun bt313 => ((impl_ValueOf.f bt313.1 bt313.2.1 bt313.2.2).bind fun bt317 => ((impl_SettingText.f bt313.1 bt313.2.1 bt313.2.2).bind fun t319 => ((impl_ReadSetting.f kj2 t319).bind fun bt320 => ((spec_P6Pick.f l1 80).bind fun t325 => ((impl_MoreLight.f bt313.1 bt313.2.1 bt313.2.2 (wrap64 (t325 - 40))).bind fun bt326 => ((spec_MoreLight.f bt313.1 bt313.2.1 bt313.2.2 (wrap64 (t325 - 40))).bind fun bt331 => (if bt317.2 = 0 then (if bt320.2.2.2 = 0 then (if (!(bt320.1 == bt313.1) || (!(bt320.2.1 == bt313.2.1) || (!(bt320.2.2.1 == bt313.2.2)))) = true then (none) else ((impl_ValidSetting.f bt313.1 bt313.2.1 bt313.2.2).bind fun t336 => (if t336 = true then (if bt326.2.2.2 = bt331.2.2.2 then (laws_FnSettings.j1 kj2 l0 l1 bt317.1 (wrap64 (t325 - 40)) bt326.2.2.2 (!(bt326.1 == bt331.1) || (!(bt326.2.1 == bt331.2.1) || (!(bt326.2.2.1 == bt331.2.2.1)))) bt313.1 bt313.2.1 bt313.2.2 bt331.1 bt331.2.1 bt331.2.2.1) else (none)) else (none)))) else (none)) else (none))))))))) = some r := by rw [if_neg (show ¬ (false = true) by decide)] at H; exact H
        clear H
        have H := H1
        clear H1
        replace H := Option.bind_eq_some_iff.mp H
        obtain ⟨⟨t313, t314, t315⟩, A80, H⟩ := H
        replace H : ((impl_ValueOf.f t313 t314 t315).bind fun bt317 => ((impl_SettingText.f t313 t314 t315).bind fun t319 => ((impl_ReadSetting.f kj2 t319).bind fun bt320 => ((spec_P6Pick.f l1 80).bind fun t325 => ((impl_MoreLight.f t313 t314 t315 (wrap64 (t325 - 40))).bind fun bt326 => ((spec_MoreLight.f t313 t314 t315 (wrap64 (t325 - 40))).bind fun bt331 => (if bt317.2 = 0 then (if bt320.2.2.2 = 0 then (if (!(bt320.1 == t313) || (!(bt320.2.1 == t314) || (!(bt320.2.2.1 == t315)))) = true then (none) else ((impl_ValidSetting.f t313 t314 t315).bind fun t336 => (if t336 = true then (if bt326.2.2.2 = bt331.2.2.2 then (laws_FnSettings.j1 kj2 l0 l1 bt317.1 (wrap64 (t325 - 40)) bt326.2.2.2 (!(bt326.1 == bt331.1) || (!(bt326.2.1 == bt331.2.1) || (!(bt326.2.2.1 == bt331.2.2.1)))) t313 t314 t315 bt331.1 bt331.2.1 bt331.2.2.1) else (none)) else (none)))) else (none)) else (none)))))))) = some r := H
        have A8 := Aside0.mk A80
        clear A80
        replace H := Option.bind_eq_some_iff.mp H
        obtain ⟨⟨t317, t318⟩, A90, H⟩ := H
        replace H : ((impl_SettingText.f t313 t314 t315).bind fun t319 => ((impl_ReadSetting.f kj2 t319).bind fun bt320 => ((spec_P6Pick.f l1 80).bind fun t325 => ((impl_MoreLight.f t313 t314 t315 (wrap64 (t325 - 40))).bind fun bt326 => ((spec_MoreLight.f t313 t314 t315 (wrap64 (t325 - 40))).bind fun bt331 => (if t318 = 0 then (if bt320.2.2.2 = 0 then (if (!(bt320.1 == t313) || (!(bt320.2.1 == t314) || (!(bt320.2.2.1 == t315)))) = true then (none) else ((impl_ValidSetting.f t313 t314 t315).bind fun t336 => (if t336 = true then (if bt326.2.2.2 = bt331.2.2.2 then (laws_FnSettings.j1 kj2 l0 l1 t317 (wrap64 (t325 - 40)) bt326.2.2.2 (!(bt326.1 == bt331.1) || (!(bt326.2.1 == bt331.2.1) || (!(bt326.2.2.1 == bt331.2.2.1)))) t313 t314 t315 bt331.1 bt331.2.1 bt331.2.2.1) else (none)) else (none)))) else (none)) else (none))))))) = some r := H
        have A9 := Aside0.mk A90
        clear A90
        replace H := Option.bind_eq_some_iff.mp H
        obtain ⟨t319, A100, H⟩ := H
        replace H : ((impl_ReadSetting.f kj2 t319).bind fun bt320 => ((spec_P6Pick.f l1 80).bind fun t325 => ((impl_MoreLight.f t313 t314 t315 (wrap64 (t325 - 40))).bind fun bt326 => ((spec_MoreLight.f t313 t314 t315 (wrap64 (t325 - 40))).bind fun bt331 => (if t318 = 0 then (if bt320.2.2.2 = 0 then (if (!(bt320.1 == t313) || (!(bt320.2.1 == t314) || (!(bt320.2.2.1 == t315)))) = true then (none) else ((impl_ValidSetting.f t313 t314 t315).bind fun t336 => (if t336 = true then (if bt326.2.2.2 = bt331.2.2.2 then (laws_FnSettings.j1 kj2 l0 l1 t317 (wrap64 (t325 - 40)) bt326.2.2.2 (!(bt326.1 == bt331.1) || (!(bt326.2.1 == bt331.2.1) || (!(bt326.2.2.1 == bt331.2.2.1)))) t313 t314 t315 bt331.1 bt331.2.1 bt331.2.2.1) else (none)) else (none)))) else (none)) else (none)))))) = some r := H
        have A10 := Aside0.mk A100
        clear A100
        replace H := Option.bind_eq_some_iff.mp H
        obtain ⟨⟨t320, t321, t322, t323⟩, A110, H⟩ := H
        replace H : ((spec_P6Pick.f l1 80).bind fun t325 => ((impl_MoreLight.f t313 t314 t315 (wrap64 (t325 - 40))).bind fun bt326 => ((spec_MoreLight.f t313 t314 t315 (wrap64 (t325 - 40))).bind fun bt331 => (if t318 = 0 then (if t323 = 0 then (if (!(t320 == t313) || (!(t321 == t314) || (!(t322 == t315)))) = true then (none) else ((impl_ValidSetting.f t313 t314 t315).bind fun t336 => (if t336 = true then (if bt326.2.2.2 = bt331.2.2.2 then (laws_FnSettings.j1 kj2 l0 l1 t317 (wrap64 (t325 - 40)) bt326.2.2.2 (!(bt326.1 == bt331.1) || (!(bt326.2.1 == bt331.2.1) || (!(bt326.2.2.1 == bt331.2.2.1)))) t313 t314 t315 bt331.1 bt331.2.1 bt331.2.2.1) else (none)) else (none)))) else (none)) else (none))))) = some r := H
        have A11 := Aside0.mk A110
        clear A110
        replace H := Option.bind_eq_some_iff.mp H
        obtain ⟨t325, A120, H⟩ := H
        replace H : ((impl_MoreLight.f t313 t314 t315 (wrap64 (t325 - 40))).bind fun bt326 => ((spec_MoreLight.f t313 t314 t315 (wrap64 (t325 - 40))).bind fun bt331 => (if t318 = 0 then (if t323 = 0 then (if (!(t320 == t313) || (!(t321 == t314) || (!(t322 == t315)))) = true then (none) else ((impl_ValidSetting.f t313 t314 t315).bind fun t336 => (if t336 = true then (if bt326.2.2.2 = bt331.2.2.2 then (laws_FnSettings.j1 kj2 l0 l1 t317 (wrap64 (t325 - 40)) bt326.2.2.2 (!(bt326.1 == bt331.1) || (!(bt326.2.1 == bt331.2.1) || (!(bt326.2.2.1 == bt331.2.2.1)))) t313 t314 t315 bt331.1 bt331.2.1 bt331.2.2.1) else (none)) else (none)))) else (none)) else (none)))) = some r := H
        have A12 := Aside0.mk A120
        clear A120
        replace H := Option.bind_eq_some_iff.mp H
        obtain ⟨⟨t326, t327, t328, t329⟩, A130, H⟩ := H
        replace H : ((spec_MoreLight.f t313 t314 t315 (wrap64 (t325 - 40))).bind fun bt331 => (if t318 = 0 then (if t323 = 0 then (if (!(t320 == t313) || (!(t321 == t314) || (!(t322 == t315)))) = true then (none) else ((impl_ValidSetting.f t313 t314 t315).bind fun t336 => (if t336 = true then (if t329 = bt331.2.2.2 then (laws_FnSettings.j1 kj2 l0 l1 t317 (wrap64 (t325 - 40)) t329 (!(t326 == bt331.1) || (!(t327 == bt331.2.1) || (!(t328 == bt331.2.2.1)))) t313 t314 t315 bt331.1 bt331.2.1 bt331.2.2.1) else (none)) else (none)))) else (none)) else (none))) = some r := H
        have A13 := Aside0.mk A130
        clear A130
        replace H := Option.bind_eq_some_iff.mp H
        obtain ⟨⟨t331, t332, t333, t334⟩, A140, H⟩ := H
        replace H : (if t318 = 0 then (if t323 = 0 then (if (!(t320 == t313) || (!(t321 == t314) || (!(t322 == t315)))) = true then (none) else ((impl_ValidSetting.f t313 t314 t315).bind fun t336 => (if t336 = true then (if t329 = t334 then (laws_FnSettings.j1 kj2 l0 l1 t317 (wrap64 (t325 - 40)) t329 (!(t326 == t331) || (!(t327 == t332) || (!(t328 == t333)))) t313 t314 t315 t331 t332 t333) else (none)) else (none)))) else (none)) else (none)) = some r := H
        have A14 := Aside0.mk A140
        clear A140
        have HC15 := Aside0.mk H
        clear H
        go_upto_region 9 with (first | (go_at_call 11; (with_reducible refine (spec_P6Setting.calls _ _ l0 t313 t314 t315 _ ?side1 ?side2 A8.out).mono ?_); (case side1 => repeat (first | exact (Kd.C_below HR0.out HB.out) | (with_reducible refine Kd.C_alloc ?_ _) | (with_reducible refine Kd.C_drewN ?_ _) | (with_reducible refine Kd.C_drew ?_))); (case side2 => exact HC0.out); rintro e w16 ⟨rfl, hb⟩; have n0_ := Aside0.mk (below_step (by repeat (first | (with_reducible first | exact HB.out | apply below_alloc | apply pw_below_drewN | apply below_drew1) | exact HB.out)) hb); clear HB; have HB := n0_; clear n0_; (try clear hb); (try clear hb2); (try clear hk); (try clear hi)) | ((with_reducible refine gate_dst (N := 5) rfl ?_); (try (refine gate_guard (by rfl) ?_; dsimp only)); refine box_event ?hg (N := 5) ?hd (cs := #[.int .i8 0, .int .i8 0, .int .i8 0]) (t := 26) ?hr ?_; (case hd => rfl); (case hg => rfl); (case hr => first | (go_simp; done) | (go_simp; rfl)); intro gb316 hg w17 hbox hb; have n0_ := Aside0.mk (below_step (by repeat (first | (with_reducible first | exact HB.out | apply below_alloc | apply pw_below_drewN | apply below_drew1) | exact HB.out)) hb); have n1_ := Aside0.mk (hbox); have n2_ := Aside0.mk ((by rw [hg]; exact (below_size (by repeat (first | (with_reducible first | exact HB.out | apply below_alloc | apply pw_below_drewN | apply below_drew1) | exact HB.out))) : w.heap.size ≤ gb316)); have n3_ := Aside0.mk ((by rw [hg]; exact (below_size (by repeat (first | (with_reducible first | exact HB.out | apply below_alloc | apply pw_below_drewN | apply below_drew1) | exact HB.out))) : w.heap.size ≤ gb316)); clear HB; have HB := n0_; have BK316 := n1_; have GW316 := n2_; have GE316 := n3_; clear n0_ n1_ n2_ n3_; clear hb hbox hg; have hcz18_0 : w17.cell? ⟨gb316, 0, none⟩ = some (.int .i8 0) := (blk_cell BK316.out 0).trans rfl; have hcz18_1 : w17.cell? ⟨gb316, 1, none⟩ = some (.int .i8 0) := (blk_cell BK316.out 1).trans rfl; have hcz18_2 : w17.cell? ⟨gb316, 2, none⟩ = some (.int .i8 0) := (blk_cell BK316.out 2).trans rfl; have hfz18_0 := blk_frozen BK316.out 0; have hfz18_1 := blk_frozen BK316.out 1; have hfz18_2 := blk_frozen BK316.out 2) | (go_at_call 12; (with_reducible refine (impl_ValueOf.calls t313 t314 t315 t317 t318 _ A9.out).mono ?_); rintro e w19 ⟨rfl, hb⟩; have n0_ := Aside0.mk (blk_below (g := gb316) (o := .cells #[.int .i8 t313, .int .i8 t314, .int .i8 t315] 26 (0, 0)) (by (with_reducible repeat (first | refine blk_drewN ?_ _ | refine blk_drew ?_ | refine blk_alloc ?_ _)); refine blk_put (cs := #[.int .i8 t313, .int .i8 t314, .int .i8 0]) ?_ 2 _ rfl; (with_reducible repeat (first | refine blk_drewN ?_ _ | refine blk_drew ?_ | refine blk_alloc ?_ _)); refine blk_put (cs := #[.int .i8 t313, .int .i8 0, .int .i8 0]) ?_ 1 _ rfl; (with_reducible repeat (first | refine blk_drewN ?_ _ | refine blk_drew ?_ | refine blk_alloc ?_ _)); refine blk_put (cs := #[.int .i8 0, .int .i8 0, .int .i8 0]) ?_ 0 _ rfl; (with_reducible repeat (first | refine blk_drewN ?_ _ | refine blk_drew ?_ | refine blk_alloc ?_ _)); exact BK316.out) hb); have n1_ := Aside0.mk (below_step (by repeat (first | (with_reducible first | exact HB.out | apply below_alloc | apply pw_below_drewN | apply below_drew1 | refine below_set ?_ GE316.out) | exact HB.out)) hb); clear BK316; clear HB; have BK316 := n0_; have HB := n1_; clear n0_ n1_; (try clear hb); (try clear hb2); (try clear hk); (try clear hi); have hcz20_0 : w19.cell? ⟨gb316, 0, none⟩ = some (.int .i8 t313) := (blk_cell BK316.out 0).trans rfl; have hcz20_1 : w19.cell? ⟨gb316, 1, none⟩ = some (.int .i8 t314) := (blk_cell BK316.out 1).trans rfl; have hcz20_2 : w19.cell? ⟨gb316, 2, none⟩ = some (.int .i8 t315) := (blk_cell BK316.out 2).trans rfl; have hfz20_0 := blk_frozen BK316.out 0; have hfz20_1 := blk_frozen BK316.out 1; have hfz20_2 := blk_frozen BK316.out 2) | (go_at_call 14; (with_reducible refine (impl_SettingText.calls t313 t314 t315 t319 _ A10.out ?gl_).mono ?_); (case gl_ => exact GlobW.at_ HG.out (by repeat (first | (with_reducible first | exact HB.out | apply below_alloc | apply pw_below_drewN | apply below_drew1 | refine below_set ?_ (Aside0.out (by assumption))) | exact HB.out))); rintro e w21 ⟨rfl, hb⟩; have n0_ := Aside0.mk (blk_below (g := gb316) (o := .cells #[.int .i8 t313, .int .i8 t314, .int .i8 t315] 26 (0, 0)) (by (with_reducible repeat (first | refine blk_drewN ?_ _ | refine blk_drew ?_ | refine blk_alloc ?_ _)); exact BK316.out) hb); have n1_ := Aside0.mk (below_step (by repeat (first | (with_reducible first | exact HB.out | apply below_alloc | apply pw_below_drewN | apply below_drew1 | refine below_set ?_ GE316.out) | exact HB.out)) hb); clear BK316; clear HB; have BK316 := n0_; have HB := n1_; clear n0_ n1_; (try clear hb); (try clear hb2); (try clear hk); (try clear hi)) | (go_at_call 13; (with_reducible refine (impl_ReadSetting.calls kj2 t319 t320 t321 t322 t323 _ A11.out ?gl_).mono ?_); (case gl_ => exact GlobW.at_ HG.out (by repeat (first | (with_reducible first | exact HB.out | apply below_alloc | apply pw_below_drewN | apply below_drew1 | refine below_set ?_ (Aside0.out (by assumption))) | exact HB.out))); rintro e w22 ⟨rfl, hb⟩; have n0_ := Aside0.mk (blk_below (g := gb316) (o := .cells #[.int .i8 t313, .int .i8 t314, .int .i8 t315] 26 (0, 0)) (by (with_reducible repeat (first | refine blk_drewN ?_ _ | refine blk_drew ?_ | refine blk_alloc ?_ _)); exact BK316.out) hb); have n1_ := Aside0.mk (below_step (by repeat (first | (with_reducible first | exact HB.out | apply below_alloc | apply pw_below_drewN | apply below_drew1 | refine below_set ?_ GE316.out) | exact HB.out)) hb); clear BK316; clear HB; have BK316 := n0_; have HB := n1_; clear n0_ n1_; (try clear hb); (try clear hb2); (try clear hk); (try clear hi)) | ((with_reducible refine gate_dst (N := 8) rfl ?_); (try (refine gate_guard (by rfl) ?_; dsimp only)); refine box_event ?hg (N := 8) ?hd (cs := #[.int .i8 0, .int .i8 0, .int .i8 0]) (t := 26) ?hr ?_; (case hd => rfl); (case hg => rfl); (case hr => first | (go_simp; done) | (go_simp; rfl)); intro gb324 hg w23 hbox hb; have n0_ := Aside0.mk (blk_below (g := gb316) (o := .cells #[.int .i8 t313, .int .i8 t314, .int .i8 t315] 26 (0, 0)) (by (with_reducible repeat (first | refine blk_drewN ?_ _ | refine blk_drew ?_ | refine blk_alloc ?_ _)); exact BK316.out) hb); have n1_ := Aside0.mk (below_step (by repeat (first | (with_reducible first | exact HB.out | apply below_alloc | apply pw_below_drewN | apply below_drew1 | refine below_set ?_ GE316.out) | exact HB.out)) hb); have n2_ := Aside0.mk (hbox); have n3_ := Aside0.mk ((by rw [hg]; exact (below_size (by repeat (first | (with_reducible first | exact HB.out | apply below_alloc | apply pw_below_drewN | apply below_drew1 | refine below_set ?_ GE316.out) | exact HB.out))) : w.heap.size ≤ gb324)); have n4_ := Aside0.mk ((by rw [hg]; exact (below_size (by repeat (first | (with_reducible first | exact HB.out | apply below_alloc | apply pw_below_drewN | apply below_drew1 | refine below_set ?_ GE316.out) | exact HB.out))) : w.heap.size ≤ gb324)); have n5_ := Aside0.mk ((by rw [hg]; exact Nat.ne_of_lt (blk_lt (g := gb316) (o := .cells #[.int .i8 t313, .int .i8 t314, .int .i8 t315] 26 (0, 0)) (by (with_reducible repeat (first | refine blk_drewN ?_ _ | refine blk_drew ?_ | refine blk_alloc ?_ _)); exact BK316.out)) : gb316 ≠ gb324)); have n6_ := Aside0.mk ((by rw [hg]; exact Nat.ne_of_gt (blk_lt (g := gb316) (o := .cells #[.int .i8 t313, .int .i8 t314, .int .i8 t315] 26 (0, 0)) (by (with_reducible repeat (first | refine blk_drewN ?_ _ | refine blk_drew ?_ | refine blk_alloc ?_ _)); exact BK316.out)) : gb324 ≠ gb316)); clear BK316; clear HB; have BK316 := n0_; have HB := n1_; have BK324 := n2_; have GW324 := n3_; have GE324 := n4_; have NB316_324 := n5_; have NB324_316 := n6_; clear n0_ n1_ n2_ n3_ n4_ n5_ n6_; clear hb hbox hg; have hnb24 := NB324_316.out; have hnc24 := NB316_324.out; have hcz25_0 : w23.cell? ⟨gb324, 0, none⟩ = some (.int .i8 0) := (blk_cell BK324.out 0).trans rfl; have hcz25_1 : w23.cell? ⟨gb324, 1, none⟩ = some (.int .i8 0) := (blk_cell BK324.out 1).trans rfl; have hcz25_2 : w23.cell? ⟨gb324, 2, none⟩ = some (.int .i8 0) := (blk_cell BK324.out 2).trans rfl; have hfz25_0 := blk_frozen BK324.out 0; have hfz25_1 := blk_frozen BK324.out 1; have hfz25_2 := blk_frozen BK324.out 2) | (go_at_call 15; (with_reducible refine (spec_P6Pick.calls _ _ l1 80 t325 _ ?side1 ?side2 A12.out).mono ?_); (case side1 => exact Kd.C_below HR1.out (by repeat (first | (with_reducible first | exact HB.out | apply below_alloc | apply pw_below_drewN | apply below_drew1 | refine below_set ?_ GE316.out | refine below_set ?_ GE324.out) | exact HB.out))); (case side2 => exact HC1.out); rintro e w26 ⟨rfl, hb⟩; have n0_ := Aside0.mk (blk_below (g := gb316) (o := .cells #[.int .i8 t313, .int .i8 t314, .int .i8 t315] 26 (0, 0)) (by (with_reducible repeat (first | refine blk_drewN ?_ _ | refine blk_drew ?_ | refine blk_alloc ?_ _)); refine blk_far ?_ NB316_324.out _; (with_reducible repeat (first | refine blk_drewN ?_ _ | refine blk_drew ?_ | refine blk_alloc ?_ _)); refine blk_far ?_ NB316_324.out _; (with_reducible repeat (first | refine blk_drewN ?_ _ | refine blk_drew ?_ | refine blk_alloc ?_ _)); refine blk_far ?_ NB316_324.out _; (with_reducible repeat (first | refine blk_drewN ?_ _ | refine blk_drew ?_ | refine blk_alloc ?_ _)); exact BK316.out) hb); have n1_ := Aside0.mk (blk_below (g := gb324) (o := .cells #[.int .i8 t320, .int .i8 t321, .int .i8 t322] 26 (0, 0)) (by (with_reducible repeat (first | refine blk_drewN ?_ _ | refine blk_drew ?_ | refine blk_alloc ?_ _)); refine blk_put (cs := #[.int .i8 t320, .int .i8 t321, .int .i8 0]) ?_ 2 _ rfl; (with_reducible repeat (first | refine blk_drewN ?_ _ | refine blk_drew ?_ | refine blk_alloc ?_ _)); refine blk_put (cs := #[.int .i8 t320, .int .i8 0, .int .i8 0]) ?_ 1 _ rfl; (with_reducible repeat (first | refine blk_drewN ?_ _ | refine blk_drew ?_ | refine blk_alloc ?_ _)); refine blk_put (cs := #[.int .i8 0, .int .i8 0, .int .i8 0]) ?_ 0 _ rfl; (with_reducible repeat (first | refine blk_drewN ?_ _ | refine blk_drew ?_ | refine blk_alloc ?_ _)); exact BK324.out) hb); have n2_ := Aside0.mk (below_step (by repeat (first | (with_reducible first | exact HB.out | apply below_alloc | apply pw_below_drewN | apply below_drew1 | refine below_set ?_ GE316.out | refine below_set ?_ GE324.out) | exact HB.out)) hb); clear BK316; clear BK324; clear HB; have BK316 := n0_; have BK324 := n1_; have HB := n2_; clear n0_ n1_ n2_; (try clear hb); (try clear hb2); (try clear hk); (try clear hi); have hcz27_0 : w26.cell? ⟨gb316, 0, none⟩ = some (.int .i8 t313) := (blk_cell BK316.out 0).trans rfl; have hcz27_1 : w26.cell? ⟨gb316, 1, none⟩ = some (.int .i8 t314) := (blk_cell BK316.out 1).trans rfl; have hcz27_2 : w26.cell? ⟨gb316, 2, none⟩ = some (.int .i8 t315) := (blk_cell BK316.out 2).trans rfl; have hfz27_0 := blk_frozen BK316.out 0; have hfz27_1 := blk_frozen BK316.out 1; have hfz27_2 := blk_frozen BK316.out 2) | (go_at_call 16; (with_reducible refine (impl_MoreLight.calls t313 t314 t315 (wrap64 (t325 - 40)) t326 t327 t328 t329 _ A13.out).mono ?_); rintro e w28 ⟨rfl, hb⟩; have n0_ := Aside0.mk (blk_below (g := gb316) (o := .cells #[.int .i8 t313, .int .i8 t314, .int .i8 t315] 26 (0, 0)) (by (with_reducible repeat (first | refine blk_drewN ?_ _ | refine blk_drew ?_ | refine blk_alloc ?_ _)); exact BK316.out) hb); have n1_ := Aside0.mk (blk_below (g := gb324) (o := .cells #[.int .i8 t320, .int .i8 t321, .int .i8 t322] 26 (0, 0)) (by (with_reducible repeat (first | refine blk_drewN ?_ _ | refine blk_drew ?_ | refine blk_alloc ?_ _)); exact BK324.out) hb); have n2_ := Aside0.mk (below_step (by repeat (first | (with_reducible first | exact HB.out | apply below_alloc | apply pw_below_drewN | apply below_drew1 | refine below_set ?_ GE316.out | refine below_set ?_ GE324.out) | exact HB.out)) hb); clear BK316; clear BK324; clear HB; have BK316 := n0_; have BK324 := n1_; have HB := n2_; clear n0_ n1_ n2_; (try clear hb); (try clear hb2); (try clear hk); (try clear hi)) | ((with_reducible refine gate_dst (N := 11) rfl ?_); (try (refine gate_guard (by rfl) ?_; dsimp only)); refine box_event ?hg (N := 11) ?hd (cs := #[.int .i8 0, .int .i8 0, .int .i8 0]) (t := 26) ?hr ?_; (case hd => rfl); (case hg => rfl); (case hr => first | (go_simp; done) | (go_simp; rfl)); intro gb330 hg w29 hbox hb; have n0_ := Aside0.mk (blk_below (g := gb316) (o := .cells #[.int .i8 t313, .int .i8 t314, .int .i8 t315] 26 (0, 0)) (by (with_reducible repeat (first | refine blk_drewN ?_ _ | refine blk_drew ?_ | refine blk_alloc ?_ _)); exact BK316.out) hb); have n1_ := Aside0.mk (blk_below (g := gb324) (o := .cells #[.int .i8 t320, .int .i8 t321, .int .i8 t322] 26 (0, 0)) (by (with_reducible repeat (first | refine blk_drewN ?_ _ | refine blk_drew ?_ | refine blk_alloc ?_ _)); exact BK324.out) hb); have n2_ := Aside0.mk (below_step (by repeat (first | (with_reducible first | exact HB.out | apply below_alloc | apply pw_below_drewN | apply below_drew1 | refine below_set ?_ GE316.out | refine below_set ?_ GE324.out) | exact HB.out)) hb); have n3_ := Aside0.mk (hbox); have n4_ := Aside0.mk ((by rw [hg]; exact (below_size (by repeat (first | (with_reducible first | exact HB.out | apply below_alloc | apply pw_below_drewN | apply below_drew1 | refine below_set ?_ GE316.out | refine below_set ?_ GE324.out) | exact HB.out))) : w.heap.size ≤ gb330)); have n5_ := Aside0.mk ((by rw [hg]; exact (below_size (by repeat (first | (with_reducible first | exact HB.out | apply below_alloc | apply pw_below_drewN | apply below_drew1 | refine below_set ?_ GE316.out | refine below_set ?_ GE324.out) | exact HB.out))) : w.heap.size ≤ gb330)); have n6_ := Aside0.mk ((by rw [hg]; exact Nat.ne_of_lt (blk_lt (g := gb316) (o := .cells #[.int .i8 t313, .int .i8 t314, .int .i8 t315] 26 (0, 0)) (by (with_reducible repeat (first | refine blk_drewN ?_ _ | refine blk_drew ?_ | refine blk_alloc ?_ _)); exact BK316.out)) : gb316 ≠ gb330)); have n7_ := Aside0.mk ((by rw [hg]; exact Nat.ne_of_gt (blk_lt (g := gb316) (o := .cells #[.int .i8 t313, .int .i8 t314, .int .i8 t315] 26 (0, 0)) (by (with_reducible repeat (first | refine blk_drewN ?_ _ | refine blk_drew ?_ | refine blk_alloc ?_ _)); exact BK316.out)) : gb330 ≠ gb316)); have n8_ := Aside0.mk ((by rw [hg]; exact Nat.ne_of_lt (blk_lt (g := gb324) (o := .cells #[.int .i8 t320, .int .i8 t321, .int .i8 t322] 26 (0, 0)) (by (with_reducible repeat (first | refine blk_drewN ?_ _ | refine blk_drew ?_ | refine blk_alloc ?_ _)); exact BK324.out)) : gb324 ≠ gb330)); have n9_ := Aside0.mk ((by rw [hg]; exact Nat.ne_of_gt (blk_lt (g := gb324) (o := .cells #[.int .i8 t320, .int .i8 t321, .int .i8 t322] 26 (0, 0)) (by (with_reducible repeat (first | refine blk_drewN ?_ _ | refine blk_drew ?_ | refine blk_alloc ?_ _)); exact BK324.out)) : gb330 ≠ gb324)); clear BK316; clear BK324; clear HB; have BK316 := n0_; have BK324 := n1_; have HB := n2_; have BK330 := n3_; have GW330 := n4_; have GE330 := n5_; have NB316_330 := n6_; have NB330_316 := n7_; have NB324_330 := n8_; have NB330_324 := n9_; clear n0_ n1_ n2_ n3_ n4_ n5_ n6_ n7_ n8_ n9_; clear hb hbox hg; have hnb30 := NB330_316.out; have hnc30 := NB316_330.out; have hnb31 := NB330_324.out; have hnc31 := NB324_330.out; have hcz32_0 : w29.cell? ⟨gb330, 0, none⟩ = some (.int .i8 0) := (blk_cell BK330.out 0).trans rfl; have hcz32_1 : w29.cell? ⟨gb330, 1, none⟩ = some (.int .i8 0) := (blk_cell BK330.out 1).trans rfl; have hcz32_2 : w29.cell? ⟨gb330, 2, none⟩ = some (.int .i8 0) := (blk_cell BK330.out 2).trans rfl; have hfz32_0 := blk_frozen BK330.out 0; have hfz32_1 := blk_frozen BK330.out 1; have hfz32_2 := blk_frozen BK330.out 2; have hcz33_0 : w29.cell? ⟨gb316, 0, none⟩ = some (.int .i8 t313) := (blk_cell BK316.out 0).trans rfl; have hcz33_1 : w29.cell? ⟨gb316, 1, none⟩ = some (.int .i8 t314) := (blk_cell BK316.out 1).trans rfl; have hcz33_2 : w29.cell? ⟨gb316, 2, none⟩ = some (.int .i8 t315) := (blk_cell BK316.out 2).trans rfl; have hfz33_0 := blk_frozen BK316.out 0; have hfz33_1 := blk_frozen BK316.out 1; have hfz33_2 := blk_frozen BK316.out 2) | (go_at_call 17; (with_reducible refine (spec_MoreLight.calls t313 t314 t315 (wrap64 (t325 - 40)) t331 t332 t333 t334 _ A14.out).mono ?_); rintro e w34 ⟨rfl, hb⟩; have n0_ := Aside0.mk (blk_below (g := gb316) (o := .cells #[.int .i8 t313, .int .i8 t314, .int .i8 t315] 26 (0, 0)) (by (with_reducible repeat (first | refine blk_drewN ?_ _ | refine blk_drew ?_ | refine blk_alloc ?_ _)); refine blk_far ?_ NB316_330.out _; (with_reducible repeat (first | refine blk_drewN ?_ _ | refine blk_drew ?_ | refine blk_alloc ?_ _)); refine blk_far ?_ NB316_330.out _; (with_reducible repeat (first | refine blk_drewN ?_ _ | refine blk_drew ?_ | refine blk_alloc ?_ _)); refine blk_far ?_ NB316_330.out _; (with_reducible repeat (first | refine blk_drewN ?_ _ | refine blk_drew ?_ | refine blk_alloc ?_ _)); exact BK316.out) hb); have n1_ := Aside0.mk (blk_below (g := gb324) (o := .cells #[.int .i8 t320, .int .i8 t321, .int .i8 t322] 26 (0, 0)) (by (with_reducible repeat (first | refine blk_drewN ?_ _ | refine blk_drew ?_ | refine blk_alloc ?_ _)); refine blk_far ?_ NB324_330.out _; (with_reducible repeat (first | refine blk_drewN ?_ _ | refine blk_drew ?_ | refine blk_alloc ?_ _)); refine blk_far ?_ NB324_330.out _; (with_reducible repeat (first | refine blk_drewN ?_ _ | refine blk_drew ?_ | refine blk_alloc ?_ _)); refine blk_far ?_ NB324_330.out _; (with_reducible repeat (first | refine blk_drewN ?_ _ | refine blk_drew ?_ | refine blk_alloc ?_ _)); exact BK324.out) hb); have n2_ := Aside0.mk (blk_below (g := gb330) (o := .cells #[.int .i8 t326, .int .i8 t327, .int .i8 t328] 26 (0, 0)) (by (with_reducible repeat (first | refine blk_drewN ?_ _ | refine blk_drew ?_ | refine blk_alloc ?_ _)); refine blk_put (cs := #[.int .i8 t326, .int .i8 t327, .int .i8 0]) ?_ 2 _ rfl; (with_reducible repeat (first | refine blk_drewN ?_ _ | refine blk_drew ?_ | refine blk_alloc ?_ _)); refine blk_put (cs := #[.int .i8 t326, .int .i8 0, .int .i8 0]) ?_ 1 _ rfl; (with_reducible repeat (first | refine blk_drewN ?_ _ | refine blk_drew ?_ | refine blk_alloc ?_ _)); refine blk_put (cs := #[.int .i8 0, .int .i8 0, .int .i8 0]) ?_ 0 _ rfl; (with_reducible repeat (first | refine blk_drewN ?_ _ | refine blk_drew ?_ | refine blk_alloc ?_ _)); exact BK330.out) hb); have n3_ := Aside0.mk (below_step (by repeat (first | (with_reducible first | exact HB.out | apply below_alloc | apply pw_below_drewN | apply below_drew1 | refine below_set ?_ GE316.out | refine below_set ?_ GE324.out | refine below_set ?_ GE330.out) | exact HB.out)) hb); clear BK316; clear BK324; clear BK330; clear HB; have BK316 := n0_; have BK324 := n1_; have BK330 := n2_; have HB := n3_; clear n0_ n1_ n2_ n3_; (try clear hb); (try clear hb2); (try clear hk); (try clear hi)) | ((with_reducible refine gate_dst (N := 13) rfl ?_); (try (refine gate_guard (by rfl) ?_; dsimp only)); refine box_event ?hg (N := 13) ?hd (cs := #[.int .i8 0, .int .i8 0, .int .i8 0]) (t := 26) ?hr ?_; (case hd => rfl); (case hg => rfl); (case hr => first | (go_simp; done) | (go_simp; rfl)); intro gb335 hg w35 hbox hb; have n0_ := Aside0.mk (blk_below (g := gb316) (o := .cells #[.int .i8 t313, .int .i8 t314, .int .i8 t315] 26 (0, 0)) (by (with_reducible repeat (first | refine blk_drewN ?_ _ | refine blk_drew ?_ | refine blk_alloc ?_ _)); exact BK316.out) hb); have n1_ := Aside0.mk (blk_below (g := gb324) (o := .cells #[.int .i8 t320, .int .i8 t321, .int .i8 t322] 26 (0, 0)) (by (with_reducible repeat (first | refine blk_drewN ?_ _ | refine blk_drew ?_ | refine blk_alloc ?_ _)); exact BK324.out) hb); have n2_ := Aside0.mk (blk_below (g := gb330) (o := .cells #[.int .i8 t326, .int .i8 t327, .int .i8 t328] 26 (0, 0)) (by (with_reducible repeat (first | refine blk_drewN ?_ _ | refine blk_drew ?_ | refine blk_alloc ?_ _)); exact BK330.out) hb); have n3_ := Aside0.mk (below_step (by repeat (first | (with_reducible first | exact HB.out | apply below_alloc | apply pw_below_drewN | apply below_drew1 | refine below_set ?_ GE316.out | refine below_set ?_ GE324.out | refine below_set ?_ GE330.out) | exact HB.out)) hb); have n4_ := Aside0.mk (hbox); have n5_ := Aside0.mk ((by rw [hg]; exact (below_size (by repeat (first | (with_reducible first | exact HB.out | apply below_alloc | apply pw_below_drewN | apply below_drew1 | refine below_set ?_ GE316.out | refine below_set ?_ GE324.out | refine below_set ?_ GE330.out) | exact HB.out))) : w.heap.size ≤ gb335)); have n6_ := Aside0.mk ((by rw [hg]; exact (below_size (by repeat (first | (with_reducible first | exact HB.out | apply below_alloc | apply pw_below_drewN | apply below_drew1 | refine below_set ?_ GE316.out | refine below_set ?_ GE324.out | refine below_set ?_ GE330.out) | exact HB.out))) : w.heap.size ≤ gb335)); have n7_ := Aside0.mk ((by rw [hg]; exact Nat.ne_of_lt (blk_lt (g := gb316) (o := .cells #[.int .i8 t313, .int .i8 t314, .int .i8 t315] 26 (0, 0)) (by (with_reducible repeat (first | refine blk_drewN ?_ _ | refine blk_drew ?_ | refine blk_alloc ?_ _)); exact BK316.out)) : gb316 ≠ gb335)); have n8_ := Aside0.mk ((by rw [hg]; exact Nat.ne_of_gt (blk_lt (g := gb316) (o := .cells #[.int .i8 t313, .int .i8 t314, .int .i8 t315] 26 (0, 0)) (by (with_reducible repeat (first | refine blk_drewN ?_ _ | refine blk_drew ?_ | refine blk_alloc ?_ _)); exact BK316.out)) : gb335 ≠ gb316)); have n9_ := Aside0.mk ((by rw [hg]; exact Nat.ne_of_lt (blk_lt (g := gb324) (o := .cells #[.int .i8 t320, .int .i8 t321, .int .i8 t322] 26 (0, 0)) (by (with_reducible repeat (first | refine blk_drewN ?_ _ | refine blk_drew ?_ | refine blk_alloc ?_ _)); exact BK324.out)) : gb324 ≠ gb335)); have n10_ := Aside0.mk ((by rw [hg]; exact Nat.ne_of_gt (blk_lt (g := gb324) (o := .cells #[.int .i8 t320, .int .i8 t321, .int .i8 t322] 26 (0, 0)) (by (with_reducible repeat (first | refine blk_drewN ?_ _ | refine blk_drew ?_ | refine blk_alloc ?_ _)); exact BK324.out)) : gb335 ≠ gb324)); have n11_ := Aside0.mk ((by rw [hg]; exact Nat.ne_of_lt (blk_lt (g := gb330) (o := .cells #[.int .i8 t326, .int .i8 t327, .int .i8 t328] 26 (0, 0)) (by (with_reducible repeat (first | refine blk_drewN ?_ _ | refine blk_drew ?_ | refine blk_alloc ?_ _)); exact BK330.out)) : gb330 ≠ gb335)); have n12_ := Aside0.mk ((by rw [hg]; exact Nat.ne_of_gt (blk_lt (g := gb330) (o := .cells #[.int .i8 t326, .int .i8 t327, .int .i8 t328] 26 (0, 0)) (by (with_reducible repeat (first | refine blk_drewN ?_ _ | refine blk_drew ?_ | refine blk_alloc ?_ _)); exact BK330.out)) : gb335 ≠ gb330)); clear BK316; clear BK324; clear BK330; clear HB; have BK316 := n0_; have BK324 := n1_; have BK330 := n2_; have HB := n3_; have BK335 := n4_; have GW335 := n5_; have GE335 := n6_; have NB316_335 := n7_; have NB335_316 := n8_; have NB324_335 := n9_; have NB335_324 := n10_; have NB330_335 := n11_; have NB335_330 := n12_; clear n0_ n1_ n2_ n3_ n4_ n5_ n6_ n7_ n8_ n9_ n10_ n11_ n12_; clear hb hbox hg; have hnb36 := NB335_316.out; have hnc36 := NB316_335.out; have hnb37 := NB335_324.out; have hnc37 := NB324_335.out; have hnb38 := NB335_330.out; have hnc38 := NB330_335.out; have hcz39_0 : w35.cell? ⟨gb335, 0, none⟩ = some (.int .i8 0) := (blk_cell BK335.out 0).trans rfl; have hcz39_1 : w35.cell? ⟨gb335, 1, none⟩ = some (.int .i8 0) := (blk_cell BK335.out 1).trans rfl; have hcz39_2 : w35.cell? ⟨gb335, 2, none⟩ = some (.int .i8 0) := (blk_cell BK335.out 2).trans rfl; have hfz39_0 := blk_frozen BK335.out 0; have hfz39_1 := blk_frozen BK335.out 1; have hfz39_2 := blk_frozen BK335.out 2) | (go_quiet (fail)))
        (try simp only [Act.put, List.setIfInBounds_toArray, List.set_cons_zero, List.set_cons_succ])
        go_cut [101] (fun v101 wc => ∃ (kq : Nat) (x101_14 : Bool), v101 = .bool x101_14 ∧ Aside0 (laws_FnSettings.j1 kq l0 l1 t317 (wrap64 (t325 - 40)) t329 x101_14 t313 t314 t315 t331 t332 t333 = some r) ∧ Aside0 (kq ≤ kj2) ∧ Aside0 (wc.heap[gb316]? = some (.cells #[.int .i8 t313, .int .i8 t314, .int .i8 t315] 26 (0, 0))) ∧ Aside0 (wc.heap[gb324]? = some (.cells #[.int .i8 t320, .int .i8 t321, .int .i8 t322] 26 (0, 0))) ∧ Aside0 (wc.heap[gb330]? = some (.cells #[.int .i8 t326, .int .i8 t327, .int .i8 t328] 26 (0, 0))) ∧ Aside0 (wc.heap[gb335]? = some (.cells #[.int .i8 t331, .int .i8 t332, .int .i8 t333] 26 (0, 0))) ∧ Aside0 (Below w.heap.size w wc))
        case first =>
          have H := HC15.out
          clear HC15
          by_cases c40 : t318 = 0
          · rw [if_pos c40] at H
            have c40b0 : (t318 == 0) = true := beq_iff_eq.mpr c40
            have c40b1 : (t318 != 0) = false := bne_eq_false_iff_eq.mpr c40
            clear c40
            (first | rw [c40b0] | (simp only [i64_w, i32_w]; rw [c40b0]) | skip)
            by_cases c41 : t323 = 0
            · rw [if_pos c41] at H
              have c41b0 : (t323 == 0) = true := beq_iff_eq.mpr c41
              have c41b1 : (t323 != 0) = false := bne_eq_false_iff_eq.mpr c41
              clear c41
              by_cases c42 : (!(t320 == t313) || (!(t321 == t314) || (!(t322 == t315)))) = true
              · rw [if_pos c42] at H
                exact absurd H (by simp)
              · rw [if_neg c42] at H
                have c42b0 : (!(t320 == t313) || (!(t321 == t314) || (!(t322 == t315)))) = false := by simpa using c42
                clear c42
                replace H := Option.bind_eq_some_iff.mp H
                obtain ⟨t336, A430, H⟩ := H
                replace H : (if t336 = true then (if t329 = t334 then (laws_FnSettings.j1 kj2 l0 l1 t317 (wrap64 (t325 - 40)) t329 (!(t326 == t331) || (!(t327 == t332) || (!(t328 == t333)))) t313 t314 t315 t331 t332 t333) else (none)) else (none)) = some r := H
                have A43 := Aside0.mk A430
                clear A430
                by_cases c44 : t336 = true
                · subst c44
                  have H1 : (if t329 = t334 then (laws_FnSettings.j1 kj2 l0 l1 t317 (wrap64 (t325 - 40)) t329 (!(t326 == t331) || (!(t327 == t332) || (!(t328 == t333)))) t313 t314 t315 t331 t332 t333) else (none)) = some r := by rw [if_pos rfl] at H; exact H
                  clear H
                  have H := H1
                  clear H1
                  by_cases c45 : t329 = t334
                  · rw [if_pos c45] at H
                    have c45b0 : (t329 == t334) = true := beq_iff_eq.mpr c45
                    have c45b1 : (t329 != t334) = false := bne_eq_false_iff_eq.mpr c45
                    clear c45
                    have H' := Aside0.mk H
                    clear H
                    have hnb46 := NB324_316.out
                    have hnc46 := NB316_324.out
                    have hnb47 := NB324_330.out
                    have hnc47 := NB330_324.out
                    have hnb48 := NB324_335.out
                    have hnc48 := NB335_324.out
                    have hcz49_0 : w35.cell? ⟨gb324, 0, none⟩ = some (.int .i8 t320) := (blk_cell BK324.out 0).trans rfl
                    have hcz49_1 : w35.cell? ⟨gb324, 1, none⟩ = some (.int .i8 t321) := (blk_cell BK324.out 1).trans rfl
                    have hcz49_2 : w35.cell? ⟨gb324, 2, none⟩ = some (.int .i8 t322) := (blk_cell BK324.out 2).trans rfl
                    have hfz49_0 := blk_frozen BK324.out 0
                    have hfz49_1 := blk_frozen BK324.out 1
                    have hfz49_2 := blk_frozen BK324.out 2
                    have hnb50 := NB316_330.out
                    have hnc50 := NB330_316.out
                    have hnb51 := NB316_335.out
                    have hnc51 := NB335_316.out
                    have hcz52_0 : w35.cell? ⟨gb316, 0, none⟩ = some (.int .i8 t313) := (blk_cell BK316.out 0).trans rfl
                    have hcz52_1 : w35.cell? ⟨gb316, 1, none⟩ = some (.int .i8 t314) := (blk_cell BK316.out 1).trans rfl
                    have hcz52_2 : w35.cell? ⟨gb316, 2, none⟩ = some (.int .i8 t315) := (blk_cell BK316.out 2).trans rfl
                    have hfz52_0 := blk_frozen BK316.out 0
                    have hfz52_1 := blk_frozen BK316.out 1
                    have hfz52_2 := blk_frozen BK316.out 2
                    go_wp2_with (first | (go_at_call 18; (with_reducible refine (impl_ValidSetting.calls t313 t314 t315 true _ A43.out).mono ?_); rintro e w53 ⟨rfl, hb⟩; have n0_ := Aside0.mk (blk_below (g := gb316) (o := .cells #[.int .i8 t313, .int .i8 t314, .int .i8 t315] 26 (0, 0)) (by (with_reducible repeat (first | refine blk_drewN ?_ _ | refine blk_drew ?_ | refine blk_alloc ?_ _)); refine blk_far ?_ NB316_335.out _; (with_reducible repeat (first | refine blk_drewN ?_ _ | refine blk_drew ?_ | refine blk_alloc ?_ _)); refine blk_far ?_ NB316_335.out _; (with_reducible repeat (first | refine blk_drewN ?_ _ | refine blk_drew ?_ | refine blk_alloc ?_ _)); refine blk_far ?_ NB316_335.out _; (with_reducible repeat (first | refine blk_drewN ?_ _ | refine blk_drew ?_ | refine blk_alloc ?_ _)); exact BK316.out) hb); have n1_ := Aside0.mk (blk_below (g := gb324) (o := .cells #[.int .i8 t320, .int .i8 t321, .int .i8 t322] 26 (0, 0)) (by (with_reducible repeat (first | refine blk_drewN ?_ _ | refine blk_drew ?_ | refine blk_alloc ?_ _)); refine blk_far ?_ NB324_335.out _; (with_reducible repeat (first | refine blk_drewN ?_ _ | refine blk_drew ?_ | refine blk_alloc ?_ _)); refine blk_far ?_ NB324_335.out _; (with_reducible repeat (first | refine blk_drewN ?_ _ | refine blk_drew ?_ | refine blk_alloc ?_ _)); refine blk_far ?_ NB324_335.out _; (with_reducible repeat (first | refine blk_drewN ?_ _ | refine blk_drew ?_ | refine blk_alloc ?_ _)); exact BK324.out) hb); have n2_ := Aside0.mk (blk_below (g := gb330) (o := .cells #[.int .i8 t326, .int .i8 t327, .int .i8 t328] 26 (0, 0)) (by (with_reducible repeat (first | refine blk_drewN ?_ _ | refine blk_drew ?_ | refine blk_alloc ?_ _)); refine blk_far ?_ NB330_335.out _; (with_reducible repeat (first | refine blk_drewN ?_ _ | refine blk_drew ?_ | refine blk_alloc ?_ _)); refine blk_far ?_ NB330_335.out _; (with_reducible repeat (first | refine blk_drewN ?_ _ | refine blk_drew ?_ | refine blk_alloc ?_ _)); refine blk_far ?_ NB330_335.out _; (with_reducible repeat (first | refine blk_drewN ?_ _ | refine blk_drew ?_ | refine blk_alloc ?_ _)); exact BK330.out) hb); have n3_ := Aside0.mk (blk_below (g := gb335) (o := .cells #[.int .i8 t331, .int .i8 t332, .int .i8 t333] 26 (0, 0)) (by (with_reducible repeat (first | refine blk_drewN ?_ _ | refine blk_drew ?_ | refine blk_alloc ?_ _)); refine blk_put (cs := #[.int .i8 t331, .int .i8 t332, .int .i8 0]) ?_ 2 _ rfl; (with_reducible repeat (first | refine blk_drewN ?_ _ | refine blk_drew ?_ | refine blk_alloc ?_ _)); refine blk_put (cs := #[.int .i8 t331, .int .i8 0, .int .i8 0]) ?_ 1 _ rfl; (with_reducible repeat (first | refine blk_drewN ?_ _ | refine blk_drew ?_ | refine blk_alloc ?_ _)); refine blk_put (cs := #[.int .i8 0, .int .i8 0, .int .i8 0]) ?_ 0 _ rfl; (with_reducible repeat (first | refine blk_drewN ?_ _ | refine blk_drew ?_ | refine blk_alloc ?_ _)); exact BK335.out) hb); have n4_ := Aside0.mk (below_step (by repeat (first | (with_reducible first | exact HB.out | apply below_alloc | apply pw_below_drewN | apply below_drew1 | refine below_set ?_ GE316.out | refine below_set ?_ GE324.out | refine below_set ?_ GE330.out | refine below_set ?_ GE335.out) | exact HB.out)) hb); clear BK316; clear BK324; clear BK330; clear BK335; clear HB; have BK316 := n0_; have BK324 := n1_; have BK330 := n2_; have BK335 := n3_; have HB := n4_; clear n0_ n1_ n2_ n3_ n4_; (try clear hb); (try clear hb2); (try clear hk); (try clear hi); have hnb54 := NB330_335.out; have hnc54 := NB335_330.out; have hcz55_0 : w53.cell? ⟨gb330, 0, none⟩ = some (.int .i8 t326) := (blk_cell BK330.out 0).trans rfl; have hcz55_1 : w53.cell? ⟨gb330, 1, none⟩ = some (.int .i8 t327) := (blk_cell BK330.out 1).trans rfl; have hcz55_2 : w53.cell? ⟨gb330, 2, none⟩ = some (.int .i8 t328) := (blk_cell BK330.out 2).trans rfl; have hfz55_0 := blk_frozen BK330.out 0; have hfz55_1 := blk_frozen BK330.out 1; have hfz55_2 := blk_frozen BK330.out 2; have hcz56_0 : w53.cell? ⟨gb335, 0, none⟩ = some (.int .i8 t331) := (blk_cell BK335.out 0).trans rfl; have hcz56_1 : w53.cell? ⟨gb335, 1, none⟩ = some (.int .i8 t332) := (blk_cell BK335.out 1).trans rfl; have hcz56_2 : w53.cell? ⟨gb335, 2, none⟩ = some (.int .i8 t333) := (blk_cell BK335.out 2).trans rfl; have hfz56_0 := blk_frozen BK335.out 0; have hfz56_1 := blk_frozen BK335.out 1; have hfz56_2 := blk_frozen BK335.out 2) | (go_quiet (fail)))
                    go_meet
                    case rel => exact ⟨_, ((!(t326 == t331) || (!(t327 == t332) || (!(t328 == t333))))), (by first | rfl | (simp; done) | (simp [*]; done)), H', ⟨by have := HJ2.out; first | omega | exact Nat.le_refl _⟩, ⟨by (with_reducible repeat (first | refine blk_drewN ?_ _ | refine blk_drew ?_ | refine blk_alloc ?_ _)); exact BK316.out⟩, ⟨by (with_reducible repeat (first | refine blk_drewN ?_ _ | refine blk_drew ?_ | refine blk_alloc ?_ _)); exact BK324.out⟩, ⟨by (with_reducible repeat (first | refine blk_drewN ?_ _ | refine blk_drew ?_ | refine blk_alloc ?_ _)); exact BK330.out⟩, ⟨by (with_reducible repeat (first | refine blk_drewN ?_ _ | refine blk_drew ?_ | refine blk_alloc ?_ _)); exact BK335.out⟩, ⟨by repeat (first | (with_reducible first | exact HB.out | apply below_alloc | apply pw_below_drewN | apply below_drew1 | refine below_set ?_ GE316.out | refine below_set ?_ GE324.out | refine below_set ?_ GE330.out | refine below_set ?_ GE335.out) | exact HB.out)⟩⟩
                  · rw [if_neg c45] at H
                    exact absurd H (by simp)
                · replace c44 := Bool.eq_false_iff.mpr c44
                  subst c44
                  have H1 : (none) = some r := by rw [if_neg (show ¬ (false = true) by decide)] at H; exact H
                  clear H
                  have H := H1
                  clear H1
                  exact absurd H (by simp)
            · rw [if_neg c41] at H
              exact absurd H (by simp)
          · rw [if_neg c40] at H
            exact absurd H (by simp)
        case rest => as_aux_lemma =>
          clear HC15
          try clear c1
          try clear c2
          try clear p2
          try clear c3
          try clear c4
          try clear c5
          try clear p6
          try clear c7
          try clear c24
          try clear c30
          try clear c31
          try clear c36
          try clear c37
          try clear c38
          try clear c40
          try clear c40b0
          try clear c40b1
          try clear c41
          try clear c41b0
          try clear c41b1
          try clear c42
          try clear c42b0
          try clear c44
          try clear c45
          try clear c45b0
          try clear c45b1
          try clear c46
          try clear c47
          try clear c48
          try clear c50
          try clear c51
          try clear c54
          try clear hcz18_0
          try clear hcz18_1
          try clear hcz18_2
          try clear hcz20_0
          try clear hcz20_1
          try clear hcz20_2
          try clear hcz25_0
          try clear hcz25_1
          try clear hcz25_2
          try clear hcz27_0
          try clear hcz27_1
          try clear hcz27_2
          try clear hcz32_0
          try clear hcz32_1
          try clear hcz32_2
          try clear hcz33_0
          try clear hcz33_1
          try clear hcz33_2
          try clear hcz39_0
          try clear hcz39_1
          try clear hcz39_2
          try clear hcz49_0
          try clear hcz49_1
          try clear hcz49_2
          try clear hcz52_0
          try clear hcz52_1
          try clear hcz52_2
          try clear hcz55_0
          try clear hcz55_1
          try clear hcz55_2
          try clear hcz56_0
          try clear hcz56_1
          try clear hcz56_2
          try clear hfz18_0
          try clear hfz18_1
          try clear hfz18_2
          try clear hfz20_0
          try clear hfz20_1
          try clear hfz20_2
          try clear hfz25_0
          try clear hfz25_1
          try clear hfz25_2
          try clear hfz27_0
          try clear hfz27_1
          try clear hfz27_2
          try clear hfz32_0
          try clear hfz32_1
          try clear hfz32_2
          try clear hfz33_0
          try clear hfz33_1
          try clear hfz33_2
          try clear hfz39_0
          try clear hfz39_1
          try clear hfz39_2
          try clear hfz49_0
          try clear hfz49_1
          try clear hfz49_2
          try clear hfz52_0
          try clear hfz52_1
          try clear hfz52_2
          try clear hfz55_0
          try clear hfz55_1
          try clear hfz55_2
          try clear hfz56_0
          try clear hfz56_1
          try clear hfz56_2
          try clear p2
          obtain ⟨kq, x101_14, rfl, HA, HJ14, BK316, BK324, BK330, BK335, HB⟩ := hcut
          cases kq with
          | zero => exact absurd HA.out (by simp [laws_FnSettings.j1])
          | succ kj14 =>
            have H := HA.out
            clear HA
            simp only [laws_FnSettings.j1] at H
            by_cases c57 : x101_14 = true
            · subst c57
              have H1 : (none) = some r := by rw [if_pos rfl] at H; exact H
              clear H
              have H := H1
              clear H1
              exact absurd H (by simp)
            · replace c57 := Bool.eq_false_iff.mpr c57
              subst c57
              have H1 : (if t329 = 0 then ((impl_ValueOf.f t331 t332 t333).bind fun bt337 => ((impl_MoreLight.f t331 t332 t333 (wrap64 (-(wrap64 (t325 - 40))))).bind fun bt339 => ((spec_ValueOf.f bt339.1 bt339.2.1 bt339.2.2.1).bind fun bt344 => (if bt337.2 = 0 then (if bt337.1 = (wrap64 (t317 + (wrap64 (t325 - 40)))) then (if t333 = t315 then (if bt339.2.2.2 = 0 then (if bt344.2 = 0 then (laws_FnSettings.j2 kj14 l0 l1 t317 (bt344.1 != t317) t313 t314 t315) else (none)) else (none)) else (none)) else (none)) else (none))))) else (if t329 = 6 then (laws_FnSettings.j3 kj14 l0 l1 t317 t313 t314 t315) else (none))) = some r := by rw [if_neg (show ¬ (false = true) by decide)] at H; exact H
              clear H
              have H := H1
              clear H1
              have HC58 := Aside0.mk H
              clear H
              go_upto_if 103 with (first | (go_quiet (fail)))
              go_cut [] (fun wc => ∃ (kq : Nat), Aside0 (laws_FnSettings.j3 kq l0 l1 t317 t313 t314 t315 = some r) ∧ Aside0 (kq ≤ kj14) ∧ Aside0 (wc.heap[gb316]? = some (.cells #[.int .i8 t313, .int .i8 t314, .int .i8 t315] 26 (0, 0))) ∧ Aside0 (wc.heap[gb324]? = some (.cells #[.int .i8 t320, .int .i8 t321, .int .i8 t322] 26 (0, 0))) ∧ Aside0 (wc.heap[gb330]? = some (.cells #[.int .i8 t326, .int .i8 t327, .int .i8 t328] 26 (0, 0))) ∧ Aside0 (wc.heap[gb335]? = some (.cells #[.int .i8 t331, .int .i8 t332, .int .i8 t333] 26 (0, 0))) ∧ Aside0 (Below w.heap.size w wc))
              case first =>
                have H := HC58.out
                clear HC58
                by_cases c59 : t329 = 0
                · rw [if_pos c59] at H
                  have c59b0 : (t329 == 0) = true := beq_iff_eq.mpr c59
                  have c59b1 : (t329 != 0) = false := bne_eq_false_iff_eq.mpr c59
                  clear c59
                  (first | rw [c59b0] | (simp only [i64_w, i32_w]; rw [c59b0]) | skip)
                  replace H := Option.bind_eq_some_iff.mp H
                  obtain ⟨⟨t337, t338⟩, A600, H⟩ := H
                  replace H : ((impl_MoreLight.f t331 t332 t333 (wrap64 (-(wrap64 (t325 - 40))))).bind fun bt339 => ((spec_ValueOf.f bt339.1 bt339.2.1 bt339.2.2.1).bind fun bt344 => (if t338 = 0 then (if t337 = (wrap64 (t317 + (wrap64 (t325 - 40)))) then (if t333 = t315 then (if bt339.2.2.2 = 0 then (if bt344.2 = 0 then (laws_FnSettings.j2 kj14 l0 l1 t317 (bt344.1 != t317) t313 t314 t315) else (none)) else (none)) else (none)) else (none)) else (none)))) = some r := H
                  have A60 := Aside0.mk A600
                  clear A600
                  replace H := Option.bind_eq_some_iff.mp H
                  obtain ⟨⟨t339, t340, t341, t342⟩, A610, H⟩ := H
                  replace H : ((spec_ValueOf.f t339 t340 t341).bind fun bt344 => (if t338 = 0 then (if t337 = (wrap64 (t317 + (wrap64 (t325 - 40)))) then (if t333 = t315 then (if t342 = 0 then (if bt344.2 = 0 then (laws_FnSettings.j2 kj14 l0 l1 t317 (bt344.1 != t317) t313 t314 t315) else (none)) else (none)) else (none)) else (none)) else (none))) = some r := H
                  have A61 := Aside0.mk A610
                  clear A610
                  replace H := Option.bind_eq_some_iff.mp H
                  obtain ⟨⟨t344, t345⟩, A620, H⟩ := H
                  replace H : (if t338 = 0 then (if t337 = (wrap64 (t317 + (wrap64 (t325 - 40)))) then (if t333 = t315 then (if t342 = 0 then (if t345 = 0 then (laws_FnSettings.j2 kj14 l0 l1 t317 (t344 != t317) t313 t314 t315) else (none)) else (none)) else (none)) else (none)) else (none)) = some r := H
                  have A62 := Aside0.mk A620
                  clear A620
                  have HC63 := Aside0.mk H
                  clear H
                  have hnb64 := NB335_316.out
                  have hnc64 := NB316_335.out
                  have hnb65 := NB335_324.out
                  have hnc65 := NB324_335.out
                  have hnb66 := NB335_330.out
                  have hnc66 := NB330_335.out
                  have hcz67_0 : wc.cell? ⟨gb335, 0, none⟩ = some (.int .i8 t331) := (blk_cell BK335.out 0).trans rfl
                  have hcz67_1 : wc.cell? ⟨gb335, 1, none⟩ = some (.int .i8 t332) := (blk_cell BK335.out 1).trans rfl
                  have hcz67_2 : wc.cell? ⟨gb335, 2, none⟩ = some (.int .i8 t333) := (blk_cell BK335.out 2).trans rfl
                  have hfz67_0 := blk_frozen BK335.out 0
                  have hfz67_1 := blk_frozen BK335.out 1
                  have hfz67_2 := blk_frozen BK335.out 2
                  go_upto_region 15 with (first | (go_at_call 12; (with_reducible refine (impl_ValueOf.calls t331 t332 t333 t337 t338 _ A60.out).mono ?_); rintro e w68 ⟨rfl, hb⟩; have n0_ := Aside0.mk (blk_below (g := gb316) (o := .cells #[.int .i8 t313, .int .i8 t314, .int .i8 t315] 26 (0, 0)) (by (with_reducible repeat (first | refine blk_drewN ?_ _ | refine blk_drew ?_ | refine blk_alloc ?_ _)); exact BK316.out) hb); have n1_ := Aside0.mk (blk_below (g := gb324) (o := .cells #[.int .i8 t320, .int .i8 t321, .int .i8 t322] 26 (0, 0)) (by (with_reducible repeat (first | refine blk_drewN ?_ _ | refine blk_drew ?_ | refine blk_alloc ?_ _)); exact BK324.out) hb); have n2_ := Aside0.mk (blk_below (g := gb330) (o := .cells #[.int .i8 t326, .int .i8 t327, .int .i8 t328] 26 (0, 0)) (by (with_reducible repeat (first | refine blk_drewN ?_ _ | refine blk_drew ?_ | refine blk_alloc ?_ _)); exact BK330.out) hb); have n3_ := Aside0.mk (blk_below (g := gb335) (o := .cells #[.int .i8 t331, .int .i8 t332, .int .i8 t333] 26 (0, 0)) (by (with_reducible repeat (first | refine blk_drewN ?_ _ | refine blk_drew ?_ | refine blk_alloc ?_ _)); exact BK335.out) hb); have n4_ := Aside0.mk (below_step (by repeat (first | (with_reducible first | exact HB.out | apply below_alloc | apply pw_below_drewN | apply below_drew1 | refine below_set ?_ GE316.out | refine below_set ?_ GE324.out | refine below_set ?_ GE330.out | refine below_set ?_ GE335.out) | exact HB.out)) hb); clear BK316; clear BK324; clear BK330; clear BK335; clear HB; have BK316 := n0_; have BK324 := n1_; have BK330 := n2_; have BK335 := n3_; have HB := n4_; clear n0_ n1_ n2_ n3_ n4_; (try clear hb); (try clear hb2); (try clear hk); (try clear hi); have hcz69_0 : w68.cell? ⟨gb335, 0, none⟩ = some (.int .i8 t331) := (blk_cell BK335.out 0).trans rfl; have hcz69_1 : w68.cell? ⟨gb335, 1, none⟩ = some (.int .i8 t332) := (blk_cell BK335.out 1).trans rfl; have hcz69_2 : w68.cell? ⟨gb335, 2, none⟩ = some (.int .i8 t333) := (blk_cell BK335.out 2).trans rfl; have hfz69_0 := blk_frozen BK335.out 0; have hfz69_1 := blk_frozen BK335.out 1; have hfz69_2 := blk_frozen BK335.out 2) | (go_at_call 16; (with_reducible refine (impl_MoreLight.calls t331 t332 t333 (wrap64 (-(wrap64 (t325 - 40)))) t339 t340 t341 t342 _ A61.out).mono ?_); rintro e w70 ⟨rfl, hb⟩; have n0_ := Aside0.mk (blk_below (g := gb316) (o := .cells #[.int .i8 t313, .int .i8 t314, .int .i8 t315] 26 (0, 0)) (by (with_reducible repeat (first | refine blk_drewN ?_ _ | refine blk_drew ?_ | refine blk_alloc ?_ _)); exact BK316.out) hb); have n1_ := Aside0.mk (blk_below (g := gb324) (o := .cells #[.int .i8 t320, .int .i8 t321, .int .i8 t322] 26 (0, 0)) (by (with_reducible repeat (first | refine blk_drewN ?_ _ | refine blk_drew ?_ | refine blk_alloc ?_ _)); exact BK324.out) hb); have n2_ := Aside0.mk (blk_below (g := gb330) (o := .cells #[.int .i8 t326, .int .i8 t327, .int .i8 t328] 26 (0, 0)) (by (with_reducible repeat (first | refine blk_drewN ?_ _ | refine blk_drew ?_ | refine blk_alloc ?_ _)); exact BK330.out) hb); have n3_ := Aside0.mk (blk_below (g := gb335) (o := .cells #[.int .i8 t331, .int .i8 t332, .int .i8 t333] 26 (0, 0)) (by (with_reducible repeat (first | refine blk_drewN ?_ _ | refine blk_drew ?_ | refine blk_alloc ?_ _)); exact BK335.out) hb); have n4_ := Aside0.mk (below_step (by repeat (first | (with_reducible first | exact HB.out | apply below_alloc | apply pw_below_drewN | apply below_drew1 | refine below_set ?_ GE316.out | refine below_set ?_ GE324.out | refine below_set ?_ GE330.out | refine below_set ?_ GE335.out) | exact HB.out)) hb); clear BK316; clear BK324; clear BK330; clear BK335; clear HB; have BK316 := n0_; have BK324 := n1_; have BK330 := n2_; have BK335 := n3_; have HB := n4_; clear n0_ n1_ n2_ n3_ n4_; (try clear hb); (try clear hb2); (try clear hk); (try clear hi)) | ((with_reducible refine gate_dst (N := 17) rfl ?_); (try (refine gate_guard (by rfl) ?_; dsimp only)); refine box_event ?hg (N := 17) ?hd (cs := #[.int .i8 0, .int .i8 0, .int .i8 0]) (t := 26) ?hr ?_; (case hd => rfl); (case hg => rfl); (case hr => first | (go_simp; done) | (go_simp; rfl)); intro gb343 hg w71 hbox hb; have n0_ := Aside0.mk (blk_below (g := gb316) (o := .cells #[.int .i8 t313, .int .i8 t314, .int .i8 t315] 26 (0, 0)) (by (with_reducible repeat (first | refine blk_drewN ?_ _ | refine blk_drew ?_ | refine blk_alloc ?_ _)); exact BK316.out) hb); have n1_ := Aside0.mk (blk_below (g := gb324) (o := .cells #[.int .i8 t320, .int .i8 t321, .int .i8 t322] 26 (0, 0)) (by (with_reducible repeat (first | refine blk_drewN ?_ _ | refine blk_drew ?_ | refine blk_alloc ?_ _)); exact BK324.out) hb); have n2_ := Aside0.mk (blk_below (g := gb330) (o := .cells #[.int .i8 t326, .int .i8 t327, .int .i8 t328] 26 (0, 0)) (by (with_reducible repeat (first | refine blk_drewN ?_ _ | refine blk_drew ?_ | refine blk_alloc ?_ _)); exact BK330.out) hb); have n3_ := Aside0.mk (blk_below (g := gb335) (o := .cells #[.int .i8 t331, .int .i8 t332, .int .i8 t333] 26 (0, 0)) (by (with_reducible repeat (first | refine blk_drewN ?_ _ | refine blk_drew ?_ | refine blk_alloc ?_ _)); exact BK335.out) hb); have n4_ := Aside0.mk (below_step (by repeat (first | (with_reducible first | exact HB.out | apply below_alloc | apply pw_below_drewN | apply below_drew1 | refine below_set ?_ GE316.out | refine below_set ?_ GE324.out | refine below_set ?_ GE330.out | refine below_set ?_ GE335.out) | exact HB.out)) hb); have n5_ := Aside0.mk (hbox); have n6_ := Aside0.mk ((by rw [hg]; exact (below_size (by repeat (first | (with_reducible first | exact HB.out | apply below_alloc | apply pw_below_drewN | apply below_drew1 | refine below_set ?_ GE316.out | refine below_set ?_ GE324.out | refine below_set ?_ GE330.out | refine below_set ?_ GE335.out) | exact HB.out))) : w.heap.size ≤ gb343)); have n7_ := Aside0.mk ((by rw [hg]; exact (below_size (by repeat (first | (with_reducible first | exact HB.out | apply below_alloc | apply pw_below_drewN | apply below_drew1 | refine below_set ?_ GE316.out | refine below_set ?_ GE324.out | refine below_set ?_ GE330.out | refine below_set ?_ GE335.out) | exact HB.out))) : w.heap.size ≤ gb343)); have n8_ := Aside0.mk ((by rw [hg]; exact Nat.ne_of_lt (blk_lt (g := gb316) (o := .cells #[.int .i8 t313, .int .i8 t314, .int .i8 t315] 26 (0, 0)) (by (with_reducible repeat (first | refine blk_drewN ?_ _ | refine blk_drew ?_ | refine blk_alloc ?_ _)); exact BK316.out)) : gb316 ≠ gb343)); have n9_ := Aside0.mk ((by rw [hg]; exact Nat.ne_of_gt (blk_lt (g := gb316) (o := .cells #[.int .i8 t313, .int .i8 t314, .int .i8 t315] 26 (0, 0)) (by (with_reducible repeat (first | refine blk_drewN ?_ _ | refine blk_drew ?_ | refine blk_alloc ?_ _)); exact BK316.out)) : gb343 ≠ gb316)); have n10_ := Aside0.mk ((by rw [hg]; exact Nat.ne_of_lt (blk_lt (g := gb324) (o := .cells #[.int .i8 t320, .int .i8 t321, .int .i8 t322] 26 (0, 0)) (by (with_reducible repeat (first | refine blk_drewN ?_ _ | refine blk_drew ?_ | refine blk_alloc ?_ _)); exact BK324.out)) : gb324 ≠ gb343)); have n11_ := Aside0.mk ((by rw [hg]; exact Nat.ne_of_gt (blk_lt (g := gb324) (o := .cells #[.int .i8 t320, .int .i8 t321, .int .i8 t322] 26 (0, 0)) (by (with_reducible repeat (first | refine blk_drewN ?_ _ | refine blk_drew ?_ | refine blk_alloc ?_ _)); exact BK324.out)) : gb343 ≠ gb324)); have n12_ := Aside0.mk ((by rw [hg]; exact Nat.ne_of_lt (blk_lt (g := gb330) (o := .cells #[.int .i8 t326, .int .i8 t327, .int .i8 t328] 26 (0, 0)) (by (with_reducible repeat (first | refine blk_drewN ?_ _ | refine blk_drew ?_ | refine blk_alloc ?_ _)); exact BK330.out)) : gb330 ≠ gb343)); have n13_ := Aside0.mk ((by rw [hg]; exact Nat.ne_of_gt (blk_lt (g := gb330) (o := .cells #[.int .i8 t326, .int .i8 t327, .int .i8 t328] 26 (0, 0)) (by (with_reducible repeat (first | refine blk_drewN ?_ _ | refine blk_drew ?_ | refine blk_alloc ?_ _)); exact BK330.out)) : gb343 ≠ gb330)); have n14_ := Aside0.mk ((by rw [hg]; exact Nat.ne_of_lt (blk_lt (g := gb335) (o := .cells #[.int .i8 t331, .int .i8 t332, .int .i8 t333] 26 (0, 0)) (by (with_reducible repeat (first | refine blk_drewN ?_ _ | refine blk_drew ?_ | refine blk_alloc ?_ _)); exact BK335.out)) : gb335 ≠ gb343)); have n15_ := Aside0.mk ((by rw [hg]; exact Nat.ne_of_gt (blk_lt (g := gb335) (o := .cells #[.int .i8 t331, .int .i8 t332, .int .i8 t333] 26 (0, 0)) (by (with_reducible repeat (first | refine blk_drewN ?_ _ | refine blk_drew ?_ | refine blk_alloc ?_ _)); exact BK335.out)) : gb343 ≠ gb335)); clear BK316; clear BK324; clear BK330; clear BK335; clear HB; have BK316 := n0_; have BK324 := n1_; have BK330 := n2_; have BK335 := n3_; have HB := n4_; have BK343 := n5_; have GW343 := n6_; have GE343 := n7_; have NB316_343 := n8_; have NB343_316 := n9_; have NB324_343 := n10_; have NB343_324 := n11_; have NB330_343 := n12_; have NB343_330 := n13_; have NB335_343 := n14_; have NB343_335 := n15_; clear n0_ n1_ n2_ n3_ n4_ n5_ n6_ n7_ n8_ n9_ n10_ n11_ n12_ n13_ n14_ n15_; clear hb hbox hg; have hnb72 := NB343_316.out; have hnc72 := NB316_343.out; have hnb73 := NB343_324.out; have hnc73 := NB324_343.out; have hnb74 := NB343_330.out; have hnc74 := NB330_343.out; have hnb75 := NB343_335.out; have hnc75 := NB335_343.out; have hcz76_0 : w71.cell? ⟨gb343, 0, none⟩ = some (.int .i8 0) := (blk_cell BK343.out 0).trans rfl; have hcz76_1 : w71.cell? ⟨gb343, 1, none⟩ = some (.int .i8 0) := (blk_cell BK343.out 1).trans rfl; have hcz76_2 : w71.cell? ⟨gb343, 2, none⟩ = some (.int .i8 0) := (blk_cell BK343.out 2).trans rfl; have hfz76_0 := blk_frozen BK343.out 0; have hfz76_1 := blk_frozen BK343.out 1; have hfz76_2 := blk_frozen BK343.out 2) | (go_at_call 19; (with_reducible refine (spec_ValueOf.calls t339 t340 t341 t344 t345 _ A62.out).mono ?_); rintro e w77 ⟨rfl, hb⟩; have n0_ := Aside0.mk (blk_below (g := gb316) (o := .cells #[.int .i8 t313, .int .i8 t314, .int .i8 t315] 26 (0, 0)) (by (with_reducible repeat (first | refine blk_drewN ?_ _ | refine blk_drew ?_ | refine blk_alloc ?_ _)); refine blk_far ?_ NB316_343.out _; (with_reducible repeat (first | refine blk_drewN ?_ _ | refine blk_drew ?_ | refine blk_alloc ?_ _)); refine blk_far ?_ NB316_343.out _; (with_reducible repeat (first | refine blk_drewN ?_ _ | refine blk_drew ?_ | refine blk_alloc ?_ _)); refine blk_far ?_ NB316_343.out _; (with_reducible repeat (first | refine blk_drewN ?_ _ | refine blk_drew ?_ | refine blk_alloc ?_ _)); exact BK316.out) hb); have n1_ := Aside0.mk (blk_below (g := gb324) (o := .cells #[.int .i8 t320, .int .i8 t321, .int .i8 t322] 26 (0, 0)) (by (with_reducible repeat (first | refine blk_drewN ?_ _ | refine blk_drew ?_ | refine blk_alloc ?_ _)); refine blk_far ?_ NB324_343.out _; (with_reducible repeat (first | refine blk_drewN ?_ _ | refine blk_drew ?_ | refine blk_alloc ?_ _)); refine blk_far ?_ NB324_343.out _; (with_reducible repeat (first | refine blk_drewN ?_ _ | refine blk_drew ?_ | refine blk_alloc ?_ _)); refine blk_far ?_ NB324_343.out _; (with_reducible repeat (first | refine blk_drewN ?_ _ | refine blk_drew ?_ | refine blk_alloc ?_ _)); exact BK324.out) hb); have n2_ := Aside0.mk (blk_below (g := gb330) (o := .cells #[.int .i8 t326, .int .i8 t327, .int .i8 t328] 26 (0, 0)) (by (with_reducible repeat (first | refine blk_drewN ?_ _ | refine blk_drew ?_ | refine blk_alloc ?_ _)); refine blk_far ?_ NB330_343.out _; (with_reducible repeat (first | refine blk_drewN ?_ _ | refine blk_drew ?_ | refine blk_alloc ?_ _)); refine blk_far ?_ NB330_343.out _; (with_reducible repeat (first | refine blk_drewN ?_ _ | refine blk_drew ?_ | refine blk_alloc ?_ _)); refine blk_far ?_ NB330_343.out _; (with_reducible repeat (first | refine blk_drewN ?_ _ | refine blk_drew ?_ | refine blk_alloc ?_ _)); exact BK330.out) hb); have n3_ := Aside0.mk (blk_below (g := gb335) (o := .cells #[.int .i8 t331, .int .i8 t332, .int .i8 t333] 26 (0, 0)) (by (with_reducible repeat (first | refine blk_drewN ?_ _ | refine blk_drew ?_ | refine blk_alloc ?_ _)); refine blk_far ?_ NB335_343.out _; (with_reducible repeat (first | refine blk_drewN ?_ _ | refine blk_drew ?_ | refine blk_alloc ?_ _)); refine blk_far ?_ NB335_343.out _; (with_reducible repeat (first | refine blk_drewN ?_ _ | refine blk_drew ?_ | refine blk_alloc ?_ _)); refine blk_far ?_ NB335_343.out _; (with_reducible repeat (first | refine blk_drewN ?_ _ | refine blk_drew ?_ | refine blk_alloc ?_ _)); exact BK335.out) hb); have n4_ := Aside0.mk (blk_below (g := gb343) (o := .cells #[.int .i8 t339, .int .i8 t340, .int .i8 t341] 26 (0, 0)) (by (with_reducible repeat (first | refine blk_drewN ?_ _ | refine blk_drew ?_ | refine blk_alloc ?_ _)); refine blk_put (cs := #[.int .i8 t339, .int .i8 t340, .int .i8 0]) ?_ 2 _ rfl; (with_reducible repeat (first | refine blk_drewN ?_ _ | refine blk_drew ?_ | refine blk_alloc ?_ _)); refine blk_put (cs := #[.int .i8 t339, .int .i8 0, .int .i8 0]) ?_ 1 _ rfl; (with_reducible repeat (first | refine blk_drewN ?_ _ | refine blk_drew ?_ | refine blk_alloc ?_ _)); refine blk_put (cs := #[.int .i8 0, .int .i8 0, .int .i8 0]) ?_ 0 _ rfl; (with_reducible repeat (first | refine blk_drewN ?_ _ | refine blk_drew ?_ | refine blk_alloc ?_ _)); exact BK343.out) hb); have n5_ := Aside0.mk (below_step (by repeat (first | (with_reducible first | exact HB.out | apply below_alloc | apply pw_below_drewN | apply below_drew1 | refine below_set ?_ GE316.out | refine below_set ?_ GE324.out | refine below_set ?_ GE330.out | refine below_set ?_ GE335.out | refine below_set ?_ GE343.out) | exact HB.out)) hb); clear BK316; clear BK324; clear BK330; clear BK335; clear BK343; clear HB; have BK316 := n0_; have BK324 := n1_; have BK330 := n2_; have BK335 := n3_; have BK343 := n4_; have HB := n5_; clear n0_ n1_ n2_ n3_ n4_ n5_; (try clear hb); (try clear hb2); (try clear hk); (try clear hi)) | (go_quiet (fail)))
                  (try simp only [Act.put, List.setIfInBounds_toArray, List.set_cons_zero, List.set_cons_succ])
                  go_cut [149] (fun v149 wc => ∃ (kq : Nat) (x149_62 : Bool), v149 = .bool x149_62 ∧ Aside0 (laws_FnSettings.j2 kq l0 l1 t317 x149_62 t313 t314 t315 = some r) ∧ Aside0 (kq ≤ kj14) ∧ Aside0 (wc.heap[gb316]? = some (.cells #[.int .i8 t313, .int .i8 t314, .int .i8 t315] 26 (0, 0))) ∧ Aside0 (wc.heap[gb324]? = some (.cells #[.int .i8 t320, .int .i8 t321, .int .i8 t322] 26 (0, 0))) ∧ Aside0 (wc.heap[gb330]? = some (.cells #[.int .i8 t326, .int .i8 t327, .int .i8 t328] 26 (0, 0))) ∧ Aside0 (wc.heap[gb335]? = some (.cells #[.int .i8 t331, .int .i8 t332, .int .i8 t333] 26 (0, 0))) ∧ Aside0 (wc.heap[gb343]? = some (.cells #[.int .i8 t339, .int .i8 t340, .int .i8 t341] 26 (0, 0))) ∧ Aside0 (Below w.heap.size w wc))
                  case first =>
                    have H := HC63.out
                    clear HC63
                    by_cases c78 : t338 = 0
                    · rw [if_pos c78] at H
                      have c78b0 : (t338 == 0) = true := beq_iff_eq.mpr c78
                      have c78b1 : (t338 != 0) = false := bne_eq_false_iff_eq.mpr c78
                      clear c78
                      (first | rw [c78b0] | (simp only [i64_w, i32_w]; rw [c78b0]) | skip)
                      by_cases c79 : t337 = (wrap64 (t317 + (wrap64 (t325 - 40))))
                      · rw [if_pos c79] at H
                        have c79b0 : (t337 == (wrap64 (t317 + (wrap64 (t325 - 40))))) = true := beq_iff_eq.mpr c79
                        have c79b1 : (t337 != (wrap64 (t317 + (wrap64 (t325 - 40))))) = false := bne_eq_false_iff_eq.mpr c79
                        clear c79
                        by_cases c80 : t333 = t315
                        · rw [if_pos c80] at H
                          have c80b0 : (t333 == t315) = true := beq_iff_eq.mpr c80
                          have c80b1 : (t333 != t315) = false := bne_eq_false_iff_eq.mpr c80
                          clear c80
                          by_cases c81 : t342 = 0
                          · rw [if_pos c81] at H
                            have c81b0 : (t342 == 0) = true := beq_iff_eq.mpr c81
                            have c81b1 : (t342 != 0) = false := bne_eq_false_iff_eq.mpr c81
                            clear c81
                            by_cases c82 : t345 = 0
                            · rw [if_pos c82] at H
                              have c82b0 : (t345 == 0) = true := beq_iff_eq.mpr c82
                              have c82b1 : (t345 != 0) = false := bne_eq_false_iff_eq.mpr c82
                              clear c82
                              have H' := Aside0.mk H
                              clear H
                              have hnb83 := NB335_316.out
                              have hnc83 := NB316_335.out
                              have hnb84 := NB335_324.out
                              have hnc84 := NB324_335.out
                              have hnb85 := NB335_330.out
                              have hnc85 := NB330_335.out
                              have hnb86 := NB335_343.out
                              have hnc86 := NB343_335.out
                              have hcz87_0 : w77.cell? ⟨gb335, 0, none⟩ = some (.int .i8 t331) := (blk_cell BK335.out 0).trans rfl
                              have hcz87_1 : w77.cell? ⟨gb335, 1, none⟩ = some (.int .i8 t332) := (blk_cell BK335.out 1).trans rfl
                              have hcz87_2 : w77.cell? ⟨gb335, 2, none⟩ = some (.int .i8 t333) := (blk_cell BK335.out 2).trans rfl
                              have hfz87_0 := blk_frozen BK335.out 0
                              have hfz87_1 := blk_frozen BK335.out 1
                              have hfz87_2 := blk_frozen BK335.out 2
                              have hnb88 := NB316_324.out
                              have hnc88 := NB324_316.out
                              have hnb89 := NB316_330.out
                              have hnc89 := NB330_316.out
                              have hnb90 := NB316_343.out
                              have hnc90 := NB343_316.out
                              have hcz91_0 : w77.cell? ⟨gb316, 0, none⟩ = some (.int .i8 t313) := (blk_cell BK316.out 0).trans rfl
                              have hcz91_1 : w77.cell? ⟨gb316, 1, none⟩ = some (.int .i8 t314) := (blk_cell BK316.out 1).trans rfl
                              have hcz91_2 : w77.cell? ⟨gb316, 2, none⟩ = some (.int .i8 t315) := (blk_cell BK316.out 2).trans rfl
                              have hfz91_0 := blk_frozen BK316.out 0
                              have hfz91_1 := blk_frozen BK316.out 1
                              have hfz91_2 := blk_frozen BK316.out 2
                              go_wp2_with (first | (go_quiet (fail)))
                              go_meet
                              case rel => exact ⟨_, ((t344 != t317)), (by first | rfl | (simp; done) | (simp [*]; done)), H', ⟨by have := HJ2.out; have := HJ14.out; first | omega | exact Nat.le_refl _⟩, ⟨by (with_reducible repeat (first | refine blk_drewN ?_ _ | refine blk_drew ?_ | refine blk_alloc ?_ _)); exact BK316.out⟩, ⟨by (with_reducible repeat (first | refine blk_drewN ?_ _ | refine blk_drew ?_ | refine blk_alloc ?_ _)); exact BK324.out⟩, ⟨by (with_reducible repeat (first | refine blk_drewN ?_ _ | refine blk_drew ?_ | refine blk_alloc ?_ _)); exact BK330.out⟩, ⟨by (with_reducible repeat (first | refine blk_drewN ?_ _ | refine blk_drew ?_ | refine blk_alloc ?_ _)); exact BK335.out⟩, ⟨by (with_reducible repeat (first | refine blk_drewN ?_ _ | refine blk_drew ?_ | refine blk_alloc ?_ _)); exact BK343.out⟩, ⟨by repeat (first | (with_reducible first | exact HB.out | apply below_alloc | apply pw_below_drewN | apply below_drew1 | refine below_set ?_ GE316.out | refine below_set ?_ GE324.out | refine below_set ?_ GE330.out | refine below_set ?_ GE335.out | refine below_set ?_ GE343.out) | exact HB.out)⟩⟩
                            · rw [if_neg c82] at H
                              exact absurd H (by simp)
                          · rw [if_neg c81] at H
                            exact absurd H (by simp)
                        · rw [if_neg c80] at H
                          exact absurd H (by simp)
                      · rw [if_neg c79] at H
                        exact absurd H (by simp)
                    · rw [if_neg c78] at H
                      exact absurd H (by simp)
                  case rest => as_aux_lemma =>
                    clear HC63
                    try clear c1
                    try clear c2
                    try clear p2
                    try clear c3
                    try clear c4
                    try clear c5
                    try clear c6
                    try clear p6
                    try clear c7
                    try clear c8
                    try clear c9
                    try clear c24
                    try clear c30
                    try clear c31
                    try clear c36
                    try clear c37
                    try clear c38
                    try clear c40
                    try clear c40b0
                    try clear c40b1
                    try clear c41
                    try clear c41b0
                    try clear c41b1
                    try clear c42
                    try clear c42b0
                    try clear c44
                    try clear c45
                    try clear c45b0
                    try clear c45b1
                    try clear c46
                    try clear c47
                    try clear c48
                    try clear c50
                    try clear c51
                    try clear c54
                    try clear c57
                    try clear c59
                    try clear c59b0
                    try clear c59b1
                    try clear c64
                    try clear p64
                    try clear c65
                    try clear c66
                    try clear c72
                    try clear c73
                    try clear c74
                    try clear c75
                    try clear c78
                    try clear c78b0
                    try clear c78b1
                    try clear c79
                    try clear c79b0
                    try clear c79b1
                    try clear c80
                    try clear c80b0
                    try clear c80b1
                    try clear c81
                    try clear c81b0
                    try clear c81b1
                    try clear c82
                    try clear c82b0
                    try clear c82b1
                    try clear c83
                    try clear c84
                    try clear c85
                    try clear c86
                    try clear c88
                    try clear c89
                    try clear c90
                    try clear hcz18_0
                    try clear hcz18_1
                    try clear hcz18_2
                    try clear hcz20_0
                    try clear hcz20_1
                    try clear hcz20_2
                    try clear hcz25_0
                    try clear hcz25_1
                    try clear hcz25_2
                    try clear hcz27_0
                    try clear hcz27_1
                    try clear hcz27_2
                    try clear hcz32_0
                    try clear hcz32_1
                    try clear hcz32_2
                    try clear hcz33_0
                    try clear hcz33_1
                    try clear hcz33_2
                    try clear hcz39_0
                    try clear hcz39_1
                    try clear hcz39_2
                    try clear hcz49_0
                    try clear hcz49_1
                    try clear hcz49_2
                    try clear hcz52_0
                    try clear hcz52_1
                    try clear hcz52_2
                    try clear hcz55_0
                    try clear hcz55_1
                    try clear hcz55_2
                    try clear hcz56_0
                    try clear hcz56_1
                    try clear hcz56_2
                    try clear hcz67_0
                    try clear hcz67_1
                    try clear hcz67_2
                    try clear hcz69_0
                    try clear hcz69_1
                    try clear hcz69_2
                    try clear hcz76_0
                    try clear hcz76_1
                    try clear hcz76_2
                    try clear hcz87_0
                    try clear hcz87_1
                    try clear hcz87_2
                    try clear hcz91_0
                    try clear hcz91_1
                    try clear hcz91_2
                    try clear hfz18_0
                    try clear hfz18_1
                    try clear hfz18_2
                    try clear hfz20_0
                    try clear hfz20_1
                    try clear hfz20_2
                    try clear hfz25_0
                    try clear hfz25_1
                    try clear hfz25_2
                    try clear hfz27_0
                    try clear hfz27_1
                    try clear hfz27_2
                    try clear hfz32_0
                    try clear hfz32_1
                    try clear hfz32_2
                    try clear hfz33_0
                    try clear hfz33_1
                    try clear hfz33_2
                    try clear hfz39_0
                    try clear hfz39_1
                    try clear hfz39_2
                    try clear hfz49_0
                    try clear hfz49_1
                    try clear hfz49_2
                    try clear hfz52_0
                    try clear hfz52_1
                    try clear hfz52_2
                    try clear hfz55_0
                    try clear hfz55_1
                    try clear hfz55_2
                    try clear hfz56_0
                    try clear hfz56_1
                    try clear hfz56_2
                    try clear hfz67_0
                    try clear hfz67_1
                    try clear hfz67_2
                    try clear hfz69_0
                    try clear hfz69_1
                    try clear hfz69_2
                    try clear hfz76_0
                    try clear hfz76_1
                    try clear hfz76_2
                    try clear hfz87_0
                    try clear hfz87_1
                    try clear hfz87_2
                    try clear hfz91_0
                    try clear hfz91_1
                    try clear hfz91_2
                    try clear p2
                    try clear p6
                    obtain ⟨kq, x149_62, rfl, HA, HJ62, BK316, BK324, BK330, BK335, BK343, HB⟩ := hcut
                    cases kq with
                    | zero => exact absurd HA.out (by simp [laws_FnSettings.j2])
                    | succ kj62 =>
                      have H := HA.out
                      clear HA
                      simp only [laws_FnSettings.j2] at H
                      by_cases c92 : x149_62 = true
                      · subst c92
                        have H1 : (none) = some r := by rw [if_pos rfl] at H; exact H
                        clear H
                        have H := H1
                        clear H1
                        exact absurd H (by simp)
                      · replace c92 := Bool.eq_false_iff.mpr c92
                        subst c92
                        have H1 : (laws_FnSettings.j3 kj62 l0 l1 t317 t313 t314 t315) = some r := by rw [if_neg (show ¬ (false = true) by decide)] at H; exact H
                        clear H
                        have H := H1
                        clear H1
                        have H' := Aside0.mk H
                        clear H
                        go_wp2_with (first | (go_quiet (fail)))
                        go_meet
                        case rel => exact ⟨_, H', ⟨by have := HJ2.out; have := HJ14.out; have := HJ62.out; first | omega | exact Nat.le_refl _⟩, ⟨by (with_reducible repeat (first | refine blk_drewN ?_ _ | refine blk_drew ?_ | refine blk_alloc ?_ _)); exact BK316.out⟩, ⟨by (with_reducible repeat (first | refine blk_drewN ?_ _ | refine blk_drew ?_ | refine blk_alloc ?_ _)); exact BK324.out⟩, ⟨by (with_reducible repeat (first | refine blk_drewN ?_ _ | refine blk_drew ?_ | refine blk_alloc ?_ _)); exact BK330.out⟩, ⟨by (with_reducible repeat (first | refine blk_drewN ?_ _ | refine blk_drew ?_ | refine blk_alloc ?_ _)); exact BK335.out⟩, ⟨by repeat (first | (with_reducible first | exact HB.out | apply below_alloc | apply pw_below_drewN | apply below_drew1 | refine below_set ?_ GE316.out | refine below_set ?_ GE324.out | refine below_set ?_ GE330.out | refine below_set ?_ GE335.out | refine below_set ?_ GE343.out) | exact HB.out)⟩⟩
                · rw [if_neg c59] at H
                  have c59b0 : (t329 == 0) = false := beq_eq_false_iff_ne.mpr c59
                  have c59b1 : (t329 != 0) = true := bne_iff_ne.mpr c59
                  (first | rw [c59b0] | (simp only [i64_w, i32_w]; rw [c59b0]) | skip)
                  by_cases c93 : t329 = 6
                  · rw [if_pos c93] at H
                    have c93b0 : (t329 == 6) = true := beq_iff_eq.mpr c93
                    have c93b1 : (t329 != 6) = false := bne_eq_false_iff_eq.mpr c93
                    clear c93
                    have H' := Aside0.mk H
                    clear H
                    go_wp2_with (first | (go_quiet (fail)))
                    go_meet
                    case rel => exact ⟨_, H', ⟨by have := HJ2.out; have := HJ14.out; first | omega | exact Nat.le_refl _⟩, ⟨by (with_reducible repeat (first | refine blk_drewN ?_ _ | refine blk_drew ?_ | refine blk_alloc ?_ _)); exact BK316.out⟩, ⟨by (with_reducible repeat (first | refine blk_drewN ?_ _ | refine blk_drew ?_ | refine blk_alloc ?_ _)); exact BK324.out⟩, ⟨by (with_reducible repeat (first | refine blk_drewN ?_ _ | refine blk_drew ?_ | refine blk_alloc ?_ _)); exact BK330.out⟩, ⟨by (with_reducible repeat (first | refine blk_drewN ?_ _ | refine blk_drew ?_ | refine blk_alloc ?_ _)); exact BK335.out⟩, ⟨by repeat (first | (with_reducible first | exact HB.out | apply below_alloc | apply pw_below_drewN | apply below_drew1 | refine below_set ?_ GE316.out | refine below_set ?_ GE324.out | refine below_set ?_ GE330.out | refine below_set ?_ GE335.out) | exact HB.out)⟩⟩
                  · rw [if_neg c93] at H
                    exact absurd H (by simp)
              case rest => as_aux_lemma =>
                clear HC58
                try clear c1
                try clear c2
                try clear p2
                try clear c3
                try clear c4
                try clear c5
                try clear c6
                try clear p6
                try clear c7
                try clear c8
                try clear c9
                try clear c24
                try clear c30
                try clear c31
                try clear c36
                try clear c37
                try clear c38
                try clear c40
                try clear c40b0
                try clear c40b1
                try clear c41
                try clear c41b0
                try clear c41b1
                try clear c42
                try clear c42b0
                try clear c44
                try clear c45
                try clear c45b0
                try clear c45b1
                try clear c46
                try clear c47
                try clear c48
                try clear c50
                try clear c51
                try clear c54
                try clear c57
                try clear c59
                try clear c59b0
                try clear c59b1
                try clear c64
                try clear p64
                try clear c65
                try clear c66
                try clear c72
                try clear c73
                try clear c74
                try clear c75
                try clear c78
                try clear c78b0
                try clear c78b1
                try clear c79
                try clear c79b0
                try clear c79b1
                try clear c80
                try clear c80b0
                try clear c80b1
                try clear c81
                try clear c81b0
                try clear c81b1
                try clear c82
                try clear c82b0
                try clear c82b1
                try clear c83
                try clear c84
                try clear c85
                try clear c86
                try clear c88
                try clear c89
                try clear c90
                try clear c92
                try clear c93
                try clear c93b0
                try clear c93b1
                try clear hcz18_0
                try clear hcz18_1
                try clear hcz18_2
                try clear hcz20_0
                try clear hcz20_1
                try clear hcz20_2
                try clear hcz25_0
                try clear hcz25_1
                try clear hcz25_2
                try clear hcz27_0
                try clear hcz27_1
                try clear hcz27_2
                try clear hcz32_0
                try clear hcz32_1
                try clear hcz32_2
                try clear hcz33_0
                try clear hcz33_1
                try clear hcz33_2
                try clear hcz39_0
                try clear hcz39_1
                try clear hcz39_2
                try clear hcz49_0
                try clear hcz49_1
                try clear hcz49_2
                try clear hcz52_0
                try clear hcz52_1
                try clear hcz52_2
                try clear hcz55_0
                try clear hcz55_1
                try clear hcz55_2
                try clear hcz56_0
                try clear hcz56_1
                try clear hcz56_2
                try clear hcz67_0
                try clear hcz67_1
                try clear hcz67_2
                try clear hcz69_0
                try clear hcz69_1
                try clear hcz69_2
                try clear hcz76_0
                try clear hcz76_1
                try clear hcz76_2
                try clear hcz87_0
                try clear hcz87_1
                try clear hcz87_2
                try clear hcz91_0
                try clear hcz91_1
                try clear hcz91_2
                try clear hfz18_0
                try clear hfz18_1
                try clear hfz18_2
                try clear hfz20_0
                try clear hfz20_1
                try clear hfz20_2
                try clear hfz25_0
                try clear hfz25_1
                try clear hfz25_2
                try clear hfz27_0
                try clear hfz27_1
                try clear hfz27_2
                try clear hfz32_0
                try clear hfz32_1
                try clear hfz32_2
                try clear hfz33_0
                try clear hfz33_1
                try clear hfz33_2
                try clear hfz39_0
                try clear hfz39_1
                try clear hfz39_2
                try clear hfz49_0
                try clear hfz49_1
                try clear hfz49_2
                try clear hfz52_0
                try clear hfz52_1
                try clear hfz52_2
                try clear hfz55_0
                try clear hfz55_1
                try clear hfz55_2
                try clear hfz56_0
                try clear hfz56_1
                try clear hfz56_2
                try clear hfz67_0
                try clear hfz67_1
                try clear hfz67_2
                try clear hfz69_0
                try clear hfz69_1
                try clear hfz69_2
                try clear hfz76_0
                try clear hfz76_1
                try clear hfz76_2
                try clear hfz87_0
                try clear hfz87_1
                try clear hfz87_2
                try clear hfz91_0
                try clear hfz91_1
                try clear hfz91_2
                try clear p2
                try clear p6
                try clear p64
                obtain ⟨kq, HA, HJ57, BK316, BK324, BK330, BK335, HB⟩ := hcut
                cases kq with
                | zero => exact absurd HA.out (by simp [laws_FnSettings.j3])
                | succ kj57 =>
                  have H := HA.out
                  clear HA
                  simp only [laws_FnSettings.j3] at H
                  replace H := Option.bind_eq_some_iff.mp H
                  obtain ⟨t346, A940, H⟩ := H
                  replace H : ((impl_SettingsFor.f kj57 (wrap64 (t346 - 30)) (wrap64 (t315))).bind fun bt347 => ((spec_SettingsFor.f kj57 (wrap64 (t346 - 30)) (wrap64 (t315))).bind fun bt351 => ((impl_NearestSettings.f kj57 (wrap64 (t346 - 30)) (wrap64 (t315))).bind fun bt355 => ((spec_NearestSettings.f kj57 (wrap64 (t346 - 30)) (wrap64 (t315))).bind fun bt359 => (if bt347.2 = bt351.2 then ((spec_SameSettings.f kj57 bt347.1 bt351.1).bind fun t363 => (if t363 = true then (if bt355.2 = bt359.2 then (if bt355.2 = 0 then ((spec_SameSettings.f kj57 bt355.1 bt359.1).bind fun t364 => (if t364 = true then (if (bt359.1.length : Int) = 0 then (none) else (if bt347.2 = 0 then ((spec_SameSettings.f kj57 bt351.1 bt359.1).bind fun t365 => (laws_FnSettings.j4 kj57 l0 l1 t317 (wrap64 (t346 - 30)) bt351.1 (!t365) t313 t314 t315)) else (laws_FnSettings.j4 kj57 l0 l1 t317 (wrap64 (t346 - 30)) bt351.1 false t313 t314 t315))) else (none))) else (none)) else (none)) else (none))) else (none)))))) = some r := H
                  have A94 := Aside0.mk A940
                  clear A940
                  replace H := Option.bind_eq_some_iff.mp H
                  obtain ⟨⟨t347, t348⟩, A950, H⟩ := H
                  replace H : ((spec_SettingsFor.f kj57 (wrap64 (t346 - 30)) (wrap64 (t315))).bind fun bt351 => ((impl_NearestSettings.f kj57 (wrap64 (t346 - 30)) (wrap64 (t315))).bind fun bt355 => ((spec_NearestSettings.f kj57 (wrap64 (t346 - 30)) (wrap64 (t315))).bind fun bt359 => (if t348 = bt351.2 then ((spec_SameSettings.f kj57 t347 bt351.1).bind fun t363 => (if t363 = true then (if bt355.2 = bt359.2 then (if bt355.2 = 0 then ((spec_SameSettings.f kj57 bt355.1 bt359.1).bind fun t364 => (if t364 = true then (if (bt359.1.length : Int) = 0 then (none) else (if t348 = 0 then ((spec_SameSettings.f kj57 bt351.1 bt359.1).bind fun t365 => (laws_FnSettings.j4 kj57 l0 l1 t317 (wrap64 (t346 - 30)) bt351.1 (!t365) t313 t314 t315)) else (laws_FnSettings.j4 kj57 l0 l1 t317 (wrap64 (t346 - 30)) bt351.1 false t313 t314 t315))) else (none))) else (none)) else (none)) else (none))) else (none))))) = some r := H
                  have A95 := Aside0.mk A950
                  clear A950
                  replace H := Option.bind_eq_some_iff.mp H
                  obtain ⟨⟨t351, t352⟩, A960, H⟩ := H
                  replace H : ((impl_NearestSettings.f kj57 (wrap64 (t346 - 30)) (wrap64 (t315))).bind fun bt355 => ((spec_NearestSettings.f kj57 (wrap64 (t346 - 30)) (wrap64 (t315))).bind fun bt359 => (if t348 = t352 then ((spec_SameSettings.f kj57 t347 t351).bind fun t363 => (if t363 = true then (if bt355.2 = bt359.2 then (if bt355.2 = 0 then ((spec_SameSettings.f kj57 bt355.1 bt359.1).bind fun t364 => (if t364 = true then (if (bt359.1.length : Int) = 0 then (none) else (if t348 = 0 then ((spec_SameSettings.f kj57 t351 bt359.1).bind fun t365 => (laws_FnSettings.j4 kj57 l0 l1 t317 (wrap64 (t346 - 30)) t351 (!t365) t313 t314 t315)) else (laws_FnSettings.j4 kj57 l0 l1 t317 (wrap64 (t346 - 30)) t351 false t313 t314 t315))) else (none))) else (none)) else (none)) else (none))) else (none)))) = some r := H
                  have A96 := Aside0.mk A960
                  clear A960
                  replace H := Option.bind_eq_some_iff.mp H
                  obtain ⟨⟨t355, t356⟩, A970, H⟩ := H
                  replace H : ((spec_NearestSettings.f kj57 (wrap64 (t346 - 30)) (wrap64 (t315))).bind fun bt359 => (if t348 = t352 then ((spec_SameSettings.f kj57 t347 t351).bind fun t363 => (if t363 = true then (if t356 = bt359.2 then (if t356 = 0 then ((spec_SameSettings.f kj57 t355 bt359.1).bind fun t364 => (if t364 = true then (if (bt359.1.length : Int) = 0 then (none) else (if t348 = 0 then ((spec_SameSettings.f kj57 t351 bt359.1).bind fun t365 => (laws_FnSettings.j4 kj57 l0 l1 t317 (wrap64 (t346 - 30)) t351 (!t365) t313 t314 t315)) else (laws_FnSettings.j4 kj57 l0 l1 t317 (wrap64 (t346 - 30)) t351 false t313 t314 t315))) else (none))) else (none)) else (none)) else (none))) else (none))) = some r := H
                  have A97 := Aside0.mk A970
                  clear A970
                  replace H := Option.bind_eq_some_iff.mp H
                  obtain ⟨⟨t359, t360⟩, A980, H⟩ := H
                  replace H : (if t348 = t352 then ((spec_SameSettings.f kj57 t347 t351).bind fun t363 => (if t363 = true then (if t356 = t360 then (if t356 = 0 then ((spec_SameSettings.f kj57 t355 t359).bind fun t364 => (if t364 = true then (if (t359.length : Int) = 0 then (none) else (if t348 = 0 then ((spec_SameSettings.f kj57 t351 t359).bind fun t365 => (laws_FnSettings.j4 kj57 l0 l1 t317 (wrap64 (t346 - 30)) t351 (!t365) t313 t314 t315)) else (laws_FnSettings.j4 kj57 l0 l1 t317 (wrap64 (t346 - 30)) t351 false t313 t314 t315))) else (none))) else (none)) else (none)) else (none))) else (none)) = some r := H
                  have A98 := Aside0.mk A980
                  clear A980
                  have HC99 := Aside0.mk H
                  clear H
                  go_upto_region 24 with (first | (go_at_call 15; (with_reducible refine (spec_P6Pick.calls _ _ l0 60 t346 _ ?side1 ?side2 A94.out).mono ?_); (case side1 => repeat (first | exact (Kd.C_below HR0.out HB.out) | (with_reducible refine Kd.C_alloc ?_ _) | (with_reducible refine Kd.C_drewN ?_ _) | (with_reducible refine Kd.C_drew ?_))); (case side2 => exact HC0.out); rintro e w100 ⟨rfl, hb⟩; have n0_ := Aside0.mk (blk_below (g := gb316) (o := .cells #[.int .i8 t313, .int .i8 t314, .int .i8 t315] 26 (0, 0)) (by (with_reducible repeat (first | refine blk_drewN ?_ _ | refine blk_drew ?_ | refine blk_alloc ?_ _)); exact BK316.out) hb); have n1_ := Aside0.mk (blk_below (g := gb324) (o := .cells #[.int .i8 t320, .int .i8 t321, .int .i8 t322] 26 (0, 0)) (by (with_reducible repeat (first | refine blk_drewN ?_ _ | refine blk_drew ?_ | refine blk_alloc ?_ _)); exact BK324.out) hb); have n2_ := Aside0.mk (blk_below (g := gb330) (o := .cells #[.int .i8 t326, .int .i8 t327, .int .i8 t328] 26 (0, 0)) (by (with_reducible repeat (first | refine blk_drewN ?_ _ | refine blk_drew ?_ | refine blk_alloc ?_ _)); exact BK330.out) hb); have n3_ := Aside0.mk (blk_below (g := gb335) (o := .cells #[.int .i8 t331, .int .i8 t332, .int .i8 t333] 26 (0, 0)) (by (with_reducible repeat (first | refine blk_drewN ?_ _ | refine blk_drew ?_ | refine blk_alloc ?_ _)); exact BK335.out) hb); have n4_ := Aside0.mk (below_step (by repeat (first | (with_reducible first | exact HB.out | apply below_alloc | apply pw_below_drewN | apply below_drew1 | refine below_set ?_ GE316.out | refine below_set ?_ GE324.out | refine below_set ?_ GE330.out | refine below_set ?_ GE335.out) | exact HB.out)) hb); clear BK316; clear BK324; clear BK330; clear BK335; clear HB; have BK316 := n0_; have BK324 := n1_; have BK330 := n2_; have BK335 := n3_; have HB := n4_; clear n0_ n1_ n2_ n3_ n4_; (try clear hb); (try clear hb2); (try clear hk); (try clear hi); have hnb101 := NB316_324.out; have hnc101 := NB324_316.out; have hnb102 := NB316_330.out; have hnc102 := NB330_316.out; have hnb103 := NB316_335.out; have hnc103 := NB335_316.out; have hcz104_0 : w100.cell? ⟨gb316, 0, none⟩ = some (.int .i8 t313) := (blk_cell BK316.out 0).trans rfl; have hcz104_1 : w100.cell? ⟨gb316, 1, none⟩ = some (.int .i8 t314) := (blk_cell BK316.out 1).trans rfl; have hcz104_2 : w100.cell? ⟨gb316, 2, none⟩ = some (.int .i8 t315) := (blk_cell BK316.out 2).trans rfl; have hfz104_0 := blk_frozen BK316.out 0; have hfz104_1 := blk_frozen BK316.out 1; have hfz104_2 := blk_frozen BK316.out 2) | (go_at_call 20; (with_reducible refine (impl_SettingsFor.calls kj57 (wrap64 (t346 - 30)) (wrap64 (t315)) t347 t348 _ A95.out).mono ?_); rintro e w105 ⟨v349, rfl, ho0, hb⟩; have n0_ := Aside0.mk (Kd.R_lower (Kd.R_newB (Kd.R_newB (Kd.R_newB (Kd.R_newB ho0 (g := gb316) (o := .cells #[.int .i8 t313, .int .i8 t314, .int .i8 t315] 26 (0, 0)) (by (with_reducible repeat (first | refine blk_drewN ?_ _ | refine blk_drew ?_ | refine blk_alloc ?_ _)); exact BK316.out)) (g := gb324) (o := .cells #[.int .i8 t320, .int .i8 t321, .int .i8 t322] 26 (0, 0)) (by (with_reducible repeat (first | refine blk_drewN ?_ _ | refine blk_drew ?_ | refine blk_alloc ?_ _)); exact BK324.out)) (g := gb330) (o := .cells #[.int .i8 t326, .int .i8 t327, .int .i8 t328] 26 (0, 0)) (by (with_reducible repeat (first | refine blk_drewN ?_ _ | refine blk_drew ?_ | refine blk_alloc ?_ _)); exact BK330.out)) (g := gb335) (o := .cells #[.int .i8 t331, .int .i8 t332, .int .i8 t333] 26 (0, 0)) (by (with_reducible repeat (first | refine blk_drewN ?_ _ | refine blk_drew ?_ | refine blk_alloc ?_ _)); exact BK335.out)) (below_size (by repeat (first | (with_reducible first | exact HB.out | apply below_alloc | apply pw_below_drewN | apply below_drew1 | refine below_set ?_ GE316.out | refine below_set ?_ GE324.out | refine below_set ?_ GE330.out | refine below_set ?_ GE335.out) | exact HB.out)))); have n1_ := Aside0.mk (blk_below (g := gb316) (o := .cells #[.int .i8 t313, .int .i8 t314, .int .i8 t315] 26 (0, 0)) (by (with_reducible repeat (first | refine blk_drewN ?_ _ | refine blk_drew ?_ | refine blk_alloc ?_ _)); exact BK316.out) hb); have n2_ := Aside0.mk (blk_below (g := gb324) (o := .cells #[.int .i8 t320, .int .i8 t321, .int .i8 t322] 26 (0, 0)) (by (with_reducible repeat (first | refine blk_drewN ?_ _ | refine blk_drew ?_ | refine blk_alloc ?_ _)); exact BK324.out) hb); have n3_ := Aside0.mk (blk_below (g := gb330) (o := .cells #[.int .i8 t326, .int .i8 t327, .int .i8 t328] 26 (0, 0)) (by (with_reducible repeat (first | refine blk_drewN ?_ _ | refine blk_drew ?_ | refine blk_alloc ?_ _)); exact BK330.out) hb); have n4_ := Aside0.mk (blk_below (g := gb335) (o := .cells #[.int .i8 t331, .int .i8 t332, .int .i8 t333] 26 (0, 0)) (by (with_reducible repeat (first | refine blk_drewN ?_ _ | refine blk_drew ?_ | refine blk_alloc ?_ _)); exact BK335.out) hb); have n5_ := Aside0.mk (below_step (by repeat (first | (with_reducible first | exact HB.out | apply below_alloc | apply pw_below_drewN | apply below_drew1 | refine below_set ?_ GE316.out | refine below_set ?_ GE324.out | refine below_set ?_ GE330.out | refine below_set ?_ GE335.out) | exact HB.out)) hb); clear BK316; clear BK324; clear BK330; clear BK335; clear HB; have HO350 := n0_; have BK316 := n1_; have BK324 := n2_; have BK330 := n3_; have BK335 := n4_; have HB := n5_; clear n0_ n1_ n2_ n3_ n4_ n5_; (try clear hb); (try clear hb2); (try clear hk); (try clear hi); (try clear ho0); have hcz106_0 : w105.cell? ⟨gb316, 0, none⟩ = some (.int .i8 t313) := (blk_cell BK316.out 0).trans rfl; have hcz106_1 : w105.cell? ⟨gb316, 1, none⟩ = some (.int .i8 t314) := (blk_cell BK316.out 1).trans rfl; have hcz106_2 : w105.cell? ⟨gb316, 2, none⟩ = some (.int .i8 t315) := (blk_cell BK316.out 2).trans rfl; have hfz106_0 := blk_frozen BK316.out 0; have hfz106_1 := blk_frozen BK316.out 1; have hfz106_2 := blk_frozen BK316.out 2) | (go_at_call 21; (with_reducible refine (spec_SettingsFor.calls kj57 (wrap64 (t346 - 30)) (wrap64 (t315)) t351 t352 _ A96.out).mono ?_); rintro e w107 ⟨v353, rfl, ho0, hb⟩; have n0_ := Aside0.mk (Kd.R_elder' (by (with_reducible repeat (first | apply Kd.R_alloc | apply Kd.R_drewN | apply Kd.R_drew)); exact HO350.out) (Kd.R_base ho0) hb); have n1_ := Aside0.mk (Kd.R_lower (Kd.R_newB (Kd.R_newB (Kd.R_newB (Kd.R_newB (Kd.R_new' ho0 (Kd.R_lt (by (with_reducible repeat (first | apply Kd.R_alloc | apply Kd.R_drewN | apply Kd.R_drew)); exact HO350.out))) (g := gb316) (o := .cells #[.int .i8 t313, .int .i8 t314, .int .i8 t315] 26 (0, 0)) (by (with_reducible repeat (first | refine blk_drewN ?_ _ | refine blk_drew ?_ | refine blk_alloc ?_ _)); exact BK316.out)) (g := gb324) (o := .cells #[.int .i8 t320, .int .i8 t321, .int .i8 t322] 26 (0, 0)) (by (with_reducible repeat (first | refine blk_drewN ?_ _ | refine blk_drew ?_ | refine blk_alloc ?_ _)); exact BK324.out)) (g := gb330) (o := .cells #[.int .i8 t326, .int .i8 t327, .int .i8 t328] 26 (0, 0)) (by (with_reducible repeat (first | refine blk_drewN ?_ _ | refine blk_drew ?_ | refine blk_alloc ?_ _)); exact BK330.out)) (g := gb335) (o := .cells #[.int .i8 t331, .int .i8 t332, .int .i8 t333] 26 (0, 0)) (by (with_reducible repeat (first | refine blk_drewN ?_ _ | refine blk_drew ?_ | refine blk_alloc ?_ _)); exact BK335.out)) (below_size (by repeat (first | (with_reducible first | exact HB.out | apply below_alloc | apply pw_below_drewN | apply below_drew1 | refine below_set ?_ GE316.out | refine below_set ?_ GE324.out | refine below_set ?_ GE330.out | refine below_set ?_ GE335.out) | exact HB.out)))); have n2_ := Aside0.mk (blk_below (g := gb316) (o := .cells #[.int .i8 t313, .int .i8 t314, .int .i8 t315] 26 (0, 0)) (by (with_reducible repeat (first | refine blk_drewN ?_ _ | refine blk_drew ?_ | refine blk_alloc ?_ _)); exact BK316.out) hb); have n3_ := Aside0.mk (blk_below (g := gb324) (o := .cells #[.int .i8 t320, .int .i8 t321, .int .i8 t322] 26 (0, 0)) (by (with_reducible repeat (first | refine blk_drewN ?_ _ | refine blk_drew ?_ | refine blk_alloc ?_ _)); exact BK324.out) hb); have n4_ := Aside0.mk (blk_below (g := gb330) (o := .cells #[.int .i8 t326, .int .i8 t327, .int .i8 t328] 26 (0, 0)) (by (with_reducible repeat (first | refine blk_drewN ?_ _ | refine blk_drew ?_ | refine blk_alloc ?_ _)); exact BK330.out) hb); have n5_ := Aside0.mk (blk_below (g := gb335) (o := .cells #[.int .i8 t331, .int .i8 t332, .int .i8 t333] 26 (0, 0)) (by (with_reducible repeat (first | refine blk_drewN ?_ _ | refine blk_drew ?_ | refine blk_alloc ?_ _)); exact BK335.out) hb); have n6_ := Aside0.mk (below_step (by repeat (first | (with_reducible first | exact HB.out | apply below_alloc | apply pw_below_drewN | apply below_drew1 | refine below_set ?_ GE316.out | refine below_set ?_ GE324.out | refine below_set ?_ GE330.out | refine below_set ?_ GE335.out) | exact HB.out)) hb); clear HO350; clear BK316; clear BK324; clear BK330; clear BK335; clear HB; have HO350 := n0_; have HO354 := n1_; have BK316 := n2_; have BK324 := n3_; have BK330 := n4_; have BK335 := n5_; have HB := n6_; clear n0_ n1_ n2_ n3_ n4_ n5_ n6_; (try clear hb); (try clear hb2); (try clear hk); (try clear hi); (try clear ho0); have hcz108_0 : w107.cell? ⟨gb316, 0, none⟩ = some (.int .i8 t313) := (blk_cell BK316.out 0).trans rfl; have hcz108_1 : w107.cell? ⟨gb316, 1, none⟩ = some (.int .i8 t314) := (blk_cell BK316.out 1).trans rfl; have hcz108_2 : w107.cell? ⟨gb316, 2, none⟩ = some (.int .i8 t315) := (blk_cell BK316.out 2).trans rfl; have hfz108_0 := blk_frozen BK316.out 0; have hfz108_1 := blk_frozen BK316.out 1; have hfz108_2 := blk_frozen BK316.out 2) | (go_at_call 22; (with_reducible refine (impl_NearestSettings.calls kj57 (wrap64 (t346 - 30)) (wrap64 (t315)) t355 t356 _ A97.out).mono ?_); rintro e w109 ⟨v357, rfl, ho0, hb⟩; have n0_ := Aside0.mk (Kd.R_elder' (by (with_reducible repeat (first | apply Kd.R_alloc | apply Kd.R_drewN | apply Kd.R_drew)); exact HO350.out) (Kd.R_base ho0) hb); have n1_ := Aside0.mk (Kd.R_elder' (by (with_reducible repeat (first | apply Kd.R_alloc | apply Kd.R_drewN | apply Kd.R_drew)); exact HO354.out) (Kd.R_base ho0) hb); have n2_ := Aside0.mk (Kd.R_lower (Kd.R_newB (Kd.R_newB (Kd.R_newB (Kd.R_newB (Kd.R_new' (Kd.R_new' ho0 (Kd.R_lt (by (with_reducible repeat (first | apply Kd.R_alloc | apply Kd.R_drewN | apply Kd.R_drew)); exact HO350.out))) (Kd.R_lt (by (with_reducible repeat (first | apply Kd.R_alloc | apply Kd.R_drewN | apply Kd.R_drew)); exact HO354.out))) (g := gb316) (o := .cells #[.int .i8 t313, .int .i8 t314, .int .i8 t315] 26 (0, 0)) (by (with_reducible repeat (first | refine blk_drewN ?_ _ | refine blk_drew ?_ | refine blk_alloc ?_ _)); exact BK316.out)) (g := gb324) (o := .cells #[.int .i8 t320, .int .i8 t321, .int .i8 t322] 26 (0, 0)) (by (with_reducible repeat (first | refine blk_drewN ?_ _ | refine blk_drew ?_ | refine blk_alloc ?_ _)); exact BK324.out)) (g := gb330) (o := .cells #[.int .i8 t326, .int .i8 t327, .int .i8 t328] 26 (0, 0)) (by (with_reducible repeat (first | refine blk_drewN ?_ _ | refine blk_drew ?_ | refine blk_alloc ?_ _)); exact BK330.out)) (g := gb335) (o := .cells #[.int .i8 t331, .int .i8 t332, .int .i8 t333] 26 (0, 0)) (by (with_reducible repeat (first | refine blk_drewN ?_ _ | refine blk_drew ?_ | refine blk_alloc ?_ _)); exact BK335.out)) (below_size (by repeat (first | (with_reducible first | exact HB.out | apply below_alloc | apply pw_below_drewN | apply below_drew1 | refine below_set ?_ GE316.out | refine below_set ?_ GE324.out | refine below_set ?_ GE330.out | refine below_set ?_ GE335.out) | exact HB.out)))); have n3_ := Aside0.mk (blk_below (g := gb316) (o := .cells #[.int .i8 t313, .int .i8 t314, .int .i8 t315] 26 (0, 0)) (by (with_reducible repeat (first | refine blk_drewN ?_ _ | refine blk_drew ?_ | refine blk_alloc ?_ _)); exact BK316.out) hb); have n4_ := Aside0.mk (blk_below (g := gb324) (o := .cells #[.int .i8 t320, .int .i8 t321, .int .i8 t322] 26 (0, 0)) (by (with_reducible repeat (first | refine blk_drewN ?_ _ | refine blk_drew ?_ | refine blk_alloc ?_ _)); exact BK324.out) hb); have n5_ := Aside0.mk (blk_below (g := gb330) (o := .cells #[.int .i8 t326, .int .i8 t327, .int .i8 t328] 26 (0, 0)) (by (with_reducible repeat (first | refine blk_drewN ?_ _ | refine blk_drew ?_ | refine blk_alloc ?_ _)); exact BK330.out) hb); have n6_ := Aside0.mk (blk_below (g := gb335) (o := .cells #[.int .i8 t331, .int .i8 t332, .int .i8 t333] 26 (0, 0)) (by (with_reducible repeat (first | refine blk_drewN ?_ _ | refine blk_drew ?_ | refine blk_alloc ?_ _)); exact BK335.out) hb); have n7_ := Aside0.mk (below_step (by repeat (first | (with_reducible first | exact HB.out | apply below_alloc | apply pw_below_drewN | apply below_drew1 | refine below_set ?_ GE316.out | refine below_set ?_ GE324.out | refine below_set ?_ GE330.out | refine below_set ?_ GE335.out) | exact HB.out)) hb); clear HO350; clear HO354; clear BK316; clear BK324; clear BK330; clear BK335; clear HB; have HO350 := n0_; have HO354 := n1_; have HO358 := n2_; have BK316 := n3_; have BK324 := n4_; have BK330 := n5_; have BK335 := n6_; have HB := n7_; clear n0_ n1_ n2_ n3_ n4_ n5_ n6_ n7_; (try clear hb); (try clear hb2); (try clear hk); (try clear hi); (try clear ho0); have hcz110_0 : w109.cell? ⟨gb316, 0, none⟩ = some (.int .i8 t313) := (blk_cell BK316.out 0).trans rfl; have hcz110_1 : w109.cell? ⟨gb316, 1, none⟩ = some (.int .i8 t314) := (blk_cell BK316.out 1).trans rfl; have hcz110_2 : w109.cell? ⟨gb316, 2, none⟩ = some (.int .i8 t315) := (blk_cell BK316.out 2).trans rfl; have hfz110_0 := blk_frozen BK316.out 0; have hfz110_1 := blk_frozen BK316.out 1; have hfz110_2 := blk_frozen BK316.out 2) | (go_at_call 23; (with_reducible refine (spec_NearestSettings.calls kj57 (wrap64 (t346 - 30)) (wrap64 (t315)) t359 t360 _ A98.out).mono ?_); rintro e w111 ⟨v361, rfl, ho0, hb⟩; have n0_ := Aside0.mk (Kd.R_elder' (by (with_reducible repeat (first | apply Kd.R_alloc | apply Kd.R_drewN | apply Kd.R_drew)); exact HO350.out) (Kd.R_base ho0) hb); have n1_ := Aside0.mk (Kd.R_elder' (by (with_reducible repeat (first | apply Kd.R_alloc | apply Kd.R_drewN | apply Kd.R_drew)); exact HO354.out) (Kd.R_base ho0) hb); have n2_ := Aside0.mk (Kd.R_elder' (by (with_reducible repeat (first | apply Kd.R_alloc | apply Kd.R_drewN | apply Kd.R_drew)); exact HO358.out) (Kd.R_base ho0) hb); have n3_ := Aside0.mk (Kd.R_lower (Kd.R_newB (Kd.R_newB (Kd.R_newB (Kd.R_newB (Kd.R_new' (Kd.R_new' (Kd.R_new' ho0 (Kd.R_lt (by (with_reducible repeat (first | apply Kd.R_alloc | apply Kd.R_drewN | apply Kd.R_drew)); exact HO350.out))) (Kd.R_lt (by (with_reducible repeat (first | apply Kd.R_alloc | apply Kd.R_drewN | apply Kd.R_drew)); exact HO354.out))) (Kd.R_lt (by (with_reducible repeat (first | apply Kd.R_alloc | apply Kd.R_drewN | apply Kd.R_drew)); exact HO358.out))) (g := gb316) (o := .cells #[.int .i8 t313, .int .i8 t314, .int .i8 t315] 26 (0, 0)) (by (with_reducible repeat (first | refine blk_drewN ?_ _ | refine blk_drew ?_ | refine blk_alloc ?_ _)); exact BK316.out)) (g := gb324) (o := .cells #[.int .i8 t320, .int .i8 t321, .int .i8 t322] 26 (0, 0)) (by (with_reducible repeat (first | refine blk_drewN ?_ _ | refine blk_drew ?_ | refine blk_alloc ?_ _)); exact BK324.out)) (g := gb330) (o := .cells #[.int .i8 t326, .int .i8 t327, .int .i8 t328] 26 (0, 0)) (by (with_reducible repeat (first | refine blk_drewN ?_ _ | refine blk_drew ?_ | refine blk_alloc ?_ _)); exact BK330.out)) (g := gb335) (o := .cells #[.int .i8 t331, .int .i8 t332, .int .i8 t333] 26 (0, 0)) (by (with_reducible repeat (first | refine blk_drewN ?_ _ | refine blk_drew ?_ | refine blk_alloc ?_ _)); exact BK335.out)) (below_size (by repeat (first | (with_reducible first | exact HB.out | apply below_alloc | apply pw_below_drewN | apply below_drew1 | refine below_set ?_ GE316.out | refine below_set ?_ GE324.out | refine below_set ?_ GE330.out | refine below_set ?_ GE335.out) | exact HB.out)))); have n4_ := Aside0.mk (blk_below (g := gb316) (o := .cells #[.int .i8 t313, .int .i8 t314, .int .i8 t315] 26 (0, 0)) (by (with_reducible repeat (first | refine blk_drewN ?_ _ | refine blk_drew ?_ | refine blk_alloc ?_ _)); exact BK316.out) hb); have n5_ := Aside0.mk (blk_below (g := gb324) (o := .cells #[.int .i8 t320, .int .i8 t321, .int .i8 t322] 26 (0, 0)) (by (with_reducible repeat (first | refine blk_drewN ?_ _ | refine blk_drew ?_ | refine blk_alloc ?_ _)); exact BK324.out) hb); have n6_ := Aside0.mk (blk_below (g := gb330) (o := .cells #[.int .i8 t326, .int .i8 t327, .int .i8 t328] 26 (0, 0)) (by (with_reducible repeat (first | refine blk_drewN ?_ _ | refine blk_drew ?_ | refine blk_alloc ?_ _)); exact BK330.out) hb); have n7_ := Aside0.mk (blk_below (g := gb335) (o := .cells #[.int .i8 t331, .int .i8 t332, .int .i8 t333] 26 (0, 0)) (by (with_reducible repeat (first | refine blk_drewN ?_ _ | refine blk_drew ?_ | refine blk_alloc ?_ _)); exact BK335.out) hb); have n8_ := Aside0.mk (below_step (by repeat (first | (with_reducible first | exact HB.out | apply below_alloc | apply pw_below_drewN | apply below_drew1 | refine below_set ?_ GE316.out | refine below_set ?_ GE324.out | refine below_set ?_ GE330.out | refine below_set ?_ GE335.out) | exact HB.out)) hb); clear HO350; clear HO354; clear HO358; clear BK316; clear BK324; clear BK330; clear BK335; clear HB; have HO350 := n0_; have HO354 := n1_; have HO358 := n2_; have HO362 := n3_; have BK316 := n4_; have BK324 := n5_; have BK330 := n6_; have BK335 := n7_; have HB := n8_; clear n0_ n1_ n2_ n3_ n4_ n5_ n6_ n7_ n8_; (try clear hb); (try clear hb2); (try clear hk); (try clear hi); (try clear ho0)) | (go_quiet (fail)))
                  (try simp only [Act.put, List.setIfInBounds_toArray, List.set_cons_zero, List.set_cons_succ])
                  go_cut [225] (fun v225 wc => ∃ (kq : Nat) (x225_98 : Bool), v225 = .bool x225_98 ∧ Aside0 (laws_FnSettings.j4 kq l0 l1 t317 (wrap64 (t346 - 30)) t351 x225_98 t313 t314 t315 = some r) ∧ Aside0 (kq ≤ kj57) ∧ Aside0 (Kd.R k26 26 wc w.heap.size (fun k_ => k_ ≠ gb316 ∧ k_ ≠ gb324 ∧ k_ ≠ gb330 ∧ k_ ≠ gb335) v353 t351) ∧ Aside0 (wc.heap[gb316]? = some (.cells #[.int .i8 t313, .int .i8 t314, .int .i8 t315] 26 (0, 0))) ∧ Aside0 (wc.heap[gb324]? = some (.cells #[.int .i8 t320, .int .i8 t321, .int .i8 t322] 26 (0, 0))) ∧ Aside0 (wc.heap[gb330]? = some (.cells #[.int .i8 t326, .int .i8 t327, .int .i8 t328] 26 (0, 0))) ∧ Aside0 (wc.heap[gb335]? = some (.cells #[.int .i8 t331, .int .i8 t332, .int .i8 t333] 26 (0, 0))) ∧ Aside0 (Below w.heap.size w wc))
                  case first =>
                    have H := HC99.out
                    clear HC99
                    by_cases c112 : t348 = t352
                    · rw [if_pos c112] at H
                      have c112b0 : (t348 == t352) = true := beq_iff_eq.mpr c112
                      have c112b1 : (t348 != t352) = false := bne_eq_false_iff_eq.mpr c112
                      clear c112
                      (first | rw [c112b0] | (simp only [i64_w, i32_w]; rw [c112b0]) | skip)
                      replace H := Option.bind_eq_some_iff.mp H
                      obtain ⟨t363, A1130, H⟩ := H
                      replace H : (if t363 = true then (if t356 = t360 then (if t356 = 0 then ((spec_SameSettings.f kj57 t355 t359).bind fun t364 => (if t364 = true then (if (t359.length : Int) = 0 then (none) else (if t348 = 0 then ((spec_SameSettings.f kj57 t351 t359).bind fun t365 => (laws_FnSettings.j4 kj57 l0 l1 t317 (wrap64 (t346 - 30)) t351 (!t365) t313 t314 t315)) else (laws_FnSettings.j4 kj57 l0 l1 t317 (wrap64 (t346 - 30)) t351 false t313 t314 t315))) else (none))) else (none)) else (none)) else (none)) = some r := H
                      have A113 := Aside0.mk A1130
                      clear A1130
                      by_cases c114 : t363 = true
                      · subst c114
                        have H1 : (if t356 = t360 then (if t356 = 0 then ((spec_SameSettings.f kj57 t355 t359).bind fun t364 => (if t364 = true then (if (t359.length : Int) = 0 then (none) else (if t348 = 0 then ((spec_SameSettings.f kj57 t351 t359).bind fun t365 => (laws_FnSettings.j4 kj57 l0 l1 t317 (wrap64 (t346 - 30)) t351 (!t365) t313 t314 t315)) else (laws_FnSettings.j4 kj57 l0 l1 t317 (wrap64 (t346 - 30)) t351 false t313 t314 t315))) else (none))) else (none)) else (none)) = some r := by rw [if_pos rfl] at H; exact H
                        clear H
                        have H := H1
                        clear H1
                        by_cases c115 : t356 = t360
                        · rw [if_pos c115] at H
                          have c115b0 : (t356 == t360) = true := beq_iff_eq.mpr c115
                          have c115b1 : (t356 != t360) = false := bne_eq_false_iff_eq.mpr c115
                          clear c115
                          by_cases c116 : t356 = 0
                          · rw [if_pos c116] at H
                            have c116b0 : (t356 == 0) = true := beq_iff_eq.mpr c116
                            have c116b1 : (t356 != 0) = false := bne_eq_false_iff_eq.mpr c116
                            clear c116
                            replace H := Option.bind_eq_some_iff.mp H
                            obtain ⟨t364, A1170, H⟩ := H
                            replace H : (if t364 = true then (if (t359.length : Int) = 0 then (none) else (if t348 = 0 then ((spec_SameSettings.f kj57 t351 t359).bind fun t365 => (laws_FnSettings.j4 kj57 l0 l1 t317 (wrap64 (t346 - 30)) t351 (!t365) t313 t314 t315)) else (laws_FnSettings.j4 kj57 l0 l1 t317 (wrap64 (t346 - 30)) t351 false t313 t314 t315))) else (none)) = some r := H
                            have A117 := Aside0.mk A1170
                            clear A1170
                            by_cases c118 : t364 = true
                            · subst c118
                              have H1 : (if (t359.length : Int) = 0 then (none) else (if t348 = 0 then ((spec_SameSettings.f kj57 t351 t359).bind fun t365 => (laws_FnSettings.j4 kj57 l0 l1 t317 (wrap64 (t346 - 30)) t351 (!t365) t313 t314 t315)) else (laws_FnSettings.j4 kj57 l0 l1 t317 (wrap64 (t346 - 30)) t351 false t313 t314 t315))) = some r := by rw [if_pos rfl] at H; exact H
                              clear H
                              have H := H1
                              clear H1
                              by_cases c119 : (t359.length : Int) = 0
                              · rw [if_pos c119] at H
                                exact absurd H (by simp)
                              · rw [if_neg c119] at H
                                have c119b0 : ((t359.length : Int) == 0) = false := beq_eq_false_iff_ne.mpr c119
                                have c119b1 : ((t359.length : Int) != 0) = true := bne_iff_ne.mpr c119
                                have c119b2 : ¬ (t359 = []) := fun h_ => c119 (by rw [h_]; rfl)
                                by_cases c120 : t348 = 0
                                · rw [if_pos c120] at H
                                  have c120b0 : (t348 == 0) = true := beq_iff_eq.mpr c120
                                  have c120b1 : (t348 != 0) = false := bne_eq_false_iff_eq.mpr c120
                                  clear c120
                                  replace H := Option.bind_eq_some_iff.mp H
                                  obtain ⟨t365, A1210, H⟩ := H
                                  replace H : (laws_FnSettings.j4 kj57 l0 l1 t317 (wrap64 (t346 - 30)) t351 (!t365) t313 t314 t315) = some r := H
                                  have A121 := Aside0.mk A1210
                                  clear A1210
                                  have H' := Aside0.mk H
                                  clear H
                                  obtain ⟨Ao122, co122, eo122⟩ := Kd.R_slice HO350.out
                                  subst eo122
                                  obtain ⟨Ao123, co123, eo123⟩ := Kd.R_slice HO354.out
                                  subst eo123
                                  obtain ⟨Ao124, co124, eo124⟩ := Kd.R_slice HO358.out
                                  subst eo124
                                  obtain ⟨Ao125, co125, eo125⟩ := Kd.R_slice HO362.out
                                  subst eo125
                                  go_wp2_with (first | (go_at_call 24; (with_reducible refine (spec_SameSettings.calls kj57 _ _ t347 _ _ t351 true _ ?side1 ?side2 ?side3 ?side4 A113.out).mono ?_); (case side1 => repeat (first | exact (Kd.R_reads' HO350.out).2.2 | (with_reducible refine Kd.C_alloc ?_ _) | (with_reducible refine Kd.C_drewN ?_ _) | (with_reducible refine Kd.C_drew ?_))); (case side2 => exact (Kd.R_reads' HO350.out).2.1); (case side3 => repeat (first | exact (Kd.R_reads' HO354.out).2.2 | (with_reducible refine Kd.C_alloc ?_ _) | (with_reducible refine Kd.C_drewN ?_ _) | (with_reducible refine Kd.C_drew ?_))); (case side4 => exact (Kd.R_reads' HO354.out).2.1); rintro e w' ⟨rfl, ⟨nd, rfl⟩⟩; (try first | exact ⟨rfl, _, World.drewN_drewN _ _ _⟩ | exact ⟨rfl, _, Eq.trans (World.drewN_drewN _ _ _) (congrArg (World.drewN _) (Nat.add_assoc _ _ _))⟩)) | (go_at_call 24; (with_reducible refine (spec_SameSettings.calls kj57 _ _ t355 _ _ t359 true _ ?side1 ?side2 ?side3 ?side4 A117.out).mono ?_); (case side1 => repeat (first | exact (Kd.R_reads' HO358.out).2.2 | (with_reducible refine Kd.C_alloc ?_ _) | (with_reducible refine Kd.C_drewN ?_ _) | (with_reducible refine Kd.C_drew ?_))); (case side2 => exact (Kd.R_reads' HO358.out).2.1); (case side3 => repeat (first | exact (Kd.R_reads' HO362.out).2.2 | (with_reducible refine Kd.C_alloc ?_ _) | (with_reducible refine Kd.C_drewN ?_ _) | (with_reducible refine Kd.C_drew ?_))); (case side4 => exact (Kd.R_reads' HO362.out).2.1); rintro e w' ⟨rfl, ⟨nd, rfl⟩⟩; (try first | exact ⟨rfl, _, World.drewN_drewN _ _ _⟩ | exact ⟨rfl, _, Eq.trans (World.drewN_drewN _ _ _) (congrArg (World.drewN _) (Nat.add_assoc _ _ _))⟩)) | (go_at_call 24; (with_reducible refine (spec_SameSettings.calls kj57 _ _ t351 _ _ t359 t365 _ ?side1 ?side2 ?side3 ?side4 A121.out).mono ?_); (case side1 => repeat (first | exact (Kd.R_reads' HO354.out).2.2 | (with_reducible refine Kd.C_alloc ?_ _) | (with_reducible refine Kd.C_drewN ?_ _) | (with_reducible refine Kd.C_drew ?_))); (case side2 => exact (Kd.R_reads' HO354.out).2.1); (case side3 => repeat (first | exact (Kd.R_reads' HO362.out).2.2 | (with_reducible refine Kd.C_alloc ?_ _) | (with_reducible refine Kd.C_drewN ?_ _) | (with_reducible refine Kd.C_drew ?_))); (case side4 => exact (Kd.R_reads' HO362.out).2.1); rintro e w' ⟨rfl, ⟨nd, rfl⟩⟩; (try first | exact ⟨rfl, _, World.drewN_drewN _ _ _⟩ | exact ⟨rfl, _, Eq.trans (World.drewN_drewN _ _ _) (congrArg (World.drewN _) (Nat.add_assoc _ _ _))⟩)) | (go_quiet (first | (go_at_call 24; (with_reducible refine (spec_SameSettings.calls kj57 _ _ t347 _ _ t351 true _ ?side1 ?side2 ?side3 ?side4 A113.out).mono ?_); (case side1 => repeat (first | exact (Kd.R_reads' HO350.out).2.2 | (with_reducible refine Kd.C_alloc ?_ _) | (with_reducible refine Kd.C_drewN ?_ _) | (with_reducible refine Kd.C_drew ?_))); (case side2 => exact (Kd.R_reads' HO350.out).2.1); (case side3 => repeat (first | exact (Kd.R_reads' HO354.out).2.2 | (with_reducible refine Kd.C_alloc ?_ _) | (with_reducible refine Kd.C_drewN ?_ _) | (with_reducible refine Kd.C_drew ?_))); (case side4 => exact (Kd.R_reads' HO354.out).2.1); rintro e w' ⟨rfl, ⟨nd, rfl⟩⟩; (try first | exact ⟨rfl, _, World.drewN_drewN _ _ _⟩ | exact ⟨rfl, _, Eq.trans (World.drewN_drewN _ _ _) (congrArg (World.drewN _) (Nat.add_assoc _ _ _))⟩)) | (go_at_call 24; (with_reducible refine (spec_SameSettings.calls kj57 _ _ t355 _ _ t359 true _ ?side1 ?side2 ?side3 ?side4 A117.out).mono ?_); (case side1 => repeat (first | exact (Kd.R_reads' HO358.out).2.2 | (with_reducible refine Kd.C_alloc ?_ _) | (with_reducible refine Kd.C_drewN ?_ _) | (with_reducible refine Kd.C_drew ?_))); (case side2 => exact (Kd.R_reads' HO358.out).2.1); (case side3 => repeat (first | exact (Kd.R_reads' HO362.out).2.2 | (with_reducible refine Kd.C_alloc ?_ _) | (with_reducible refine Kd.C_drewN ?_ _) | (with_reducible refine Kd.C_drew ?_))); (case side4 => exact (Kd.R_reads' HO362.out).2.1); rintro e w' ⟨rfl, ⟨nd, rfl⟩⟩; (try first | exact ⟨rfl, _, World.drewN_drewN _ _ _⟩ | exact ⟨rfl, _, Eq.trans (World.drewN_drewN _ _ _) (congrArg (World.drewN _) (Nat.add_assoc _ _ _))⟩)) | (go_at_call 24; (with_reducible refine (spec_SameSettings.calls kj57 _ _ t351 _ _ t359 t365 _ ?side1 ?side2 ?side3 ?side4 A121.out).mono ?_); (case side1 => repeat (first | exact (Kd.R_reads' HO354.out).2.2 | (with_reducible refine Kd.C_alloc ?_ _) | (with_reducible refine Kd.C_drewN ?_ _) | (with_reducible refine Kd.C_drew ?_))); (case side2 => exact (Kd.R_reads' HO354.out).2.1); (case side3 => repeat (first | exact (Kd.R_reads' HO362.out).2.2 | (with_reducible refine Kd.C_alloc ?_ _) | (with_reducible refine Kd.C_drewN ?_ _) | (with_reducible refine Kd.C_drew ?_))); (case side4 => exact (Kd.R_reads' HO362.out).2.1); rintro e w' ⟨rfl, ⟨nd, rfl⟩⟩; (try first | exact ⟨rfl, _, World.drewN_drewN _ _ _⟩ | exact ⟨rfl, _, Eq.trans (World.drewN_drewN _ _ _) (congrArg (World.drewN _) (Nat.add_assoc _ _ _))⟩)))))
                                  go_meet
                                  case rel => exact ⟨_, (!t365), (by first | rfl | (simp; done) | (simp [*]; done)), H', ⟨by have := HJ2.out; have := HJ14.out; have := HJ57.out; first | omega | exact Nat.le_refl _⟩, ⟨by (with_reducible repeat (first | apply Kd.R_alloc | apply Kd.R_drewN | apply Kd.R_drew)); exact Kd.R_mono HO354.out (fun _ hk => ⟨hk.1.1.1.1.1.2, ⟨hk.1.1.1.1.2, ⟨hk.1.1.1.2, hk.1.1.2⟩⟩⟩)⟩, ⟨by (with_reducible repeat (first | refine blk_drewN ?_ _ | refine blk_drew ?_ | refine blk_alloc ?_ _)); exact BK316.out⟩, ⟨by (with_reducible repeat (first | refine blk_drewN ?_ _ | refine blk_drew ?_ | refine blk_alloc ?_ _)); exact BK324.out⟩, ⟨by (with_reducible repeat (first | refine blk_drewN ?_ _ | refine blk_drew ?_ | refine blk_alloc ?_ _)); exact BK330.out⟩, ⟨by (with_reducible repeat (first | refine blk_drewN ?_ _ | refine blk_drew ?_ | refine blk_alloc ?_ _)); exact BK335.out⟩, ⟨by repeat (first | (with_reducible first | exact HB.out | apply below_alloc | apply pw_below_drewN | apply below_drew1 | refine below_set ?_ GE316.out | refine below_set ?_ GE324.out | refine below_set ?_ GE330.out | refine below_set ?_ GE335.out) | exact HB.out)⟩⟩
                                · rw [if_neg c120] at H
                                  have c120b0 : (t348 == 0) = false := beq_eq_false_iff_ne.mpr c120
                                  have c120b1 : (t348 != 0) = true := bne_iff_ne.mpr c120
                                  have H' := Aside0.mk H
                                  clear H
                                  obtain ⟨Ao126, co126, eo126⟩ := Kd.R_slice HO350.out
                                  subst eo126
                                  obtain ⟨Ao127, co127, eo127⟩ := Kd.R_slice HO354.out
                                  subst eo127
                                  obtain ⟨Ao128, co128, eo128⟩ := Kd.R_slice HO358.out
                                  subst eo128
                                  obtain ⟨Ao129, co129, eo129⟩ := Kd.R_slice HO362.out
                                  subst eo129
                                  go_wp2_with (first | (go_at_call 24; (with_reducible refine (spec_SameSettings.calls kj57 _ _ t347 _ _ t351 true _ ?side1 ?side2 ?side3 ?side4 A113.out).mono ?_); (case side1 => repeat (first | exact (Kd.R_reads' HO350.out).2.2 | (with_reducible refine Kd.C_alloc ?_ _) | (with_reducible refine Kd.C_drewN ?_ _) | (with_reducible refine Kd.C_drew ?_))); (case side2 => exact (Kd.R_reads' HO350.out).2.1); (case side3 => repeat (first | exact (Kd.R_reads' HO354.out).2.2 | (with_reducible refine Kd.C_alloc ?_ _) | (with_reducible refine Kd.C_drewN ?_ _) | (with_reducible refine Kd.C_drew ?_))); (case side4 => exact (Kd.R_reads' HO354.out).2.1); rintro e w' ⟨rfl, ⟨nd, rfl⟩⟩; (try first | exact ⟨rfl, _, World.drewN_drewN _ _ _⟩ | exact ⟨rfl, _, Eq.trans (World.drewN_drewN _ _ _) (congrArg (World.drewN _) (Nat.add_assoc _ _ _))⟩)) | (go_at_call 24; (with_reducible refine (spec_SameSettings.calls kj57 _ _ t355 _ _ t359 true _ ?side1 ?side2 ?side3 ?side4 A117.out).mono ?_); (case side1 => repeat (first | exact (Kd.R_reads' HO358.out).2.2 | (with_reducible refine Kd.C_alloc ?_ _) | (with_reducible refine Kd.C_drewN ?_ _) | (with_reducible refine Kd.C_drew ?_))); (case side2 => exact (Kd.R_reads' HO358.out).2.1); (case side3 => repeat (first | exact (Kd.R_reads' HO362.out).2.2 | (with_reducible refine Kd.C_alloc ?_ _) | (with_reducible refine Kd.C_drewN ?_ _) | (with_reducible refine Kd.C_drew ?_))); (case side4 => exact (Kd.R_reads' HO362.out).2.1); rintro e w' ⟨rfl, ⟨nd, rfl⟩⟩; (try first | exact ⟨rfl, _, World.drewN_drewN _ _ _⟩ | exact ⟨rfl, _, Eq.trans (World.drewN_drewN _ _ _) (congrArg (World.drewN _) (Nat.add_assoc _ _ _))⟩)) | (go_quiet (first | (go_at_call 24; (with_reducible refine (spec_SameSettings.calls kj57 _ _ t347 _ _ t351 true _ ?side1 ?side2 ?side3 ?side4 A113.out).mono ?_); (case side1 => repeat (first | exact (Kd.R_reads' HO350.out).2.2 | (with_reducible refine Kd.C_alloc ?_ _) | (with_reducible refine Kd.C_drewN ?_ _) | (with_reducible refine Kd.C_drew ?_))); (case side2 => exact (Kd.R_reads' HO350.out).2.1); (case side3 => repeat (first | exact (Kd.R_reads' HO354.out).2.2 | (with_reducible refine Kd.C_alloc ?_ _) | (with_reducible refine Kd.C_drewN ?_ _) | (with_reducible refine Kd.C_drew ?_))); (case side4 => exact (Kd.R_reads' HO354.out).2.1); rintro e w' ⟨rfl, ⟨nd, rfl⟩⟩; (try first | exact ⟨rfl, _, World.drewN_drewN _ _ _⟩ | exact ⟨rfl, _, Eq.trans (World.drewN_drewN _ _ _) (congrArg (World.drewN _) (Nat.add_assoc _ _ _))⟩)) | (go_at_call 24; (with_reducible refine (spec_SameSettings.calls kj57 _ _ t355 _ _ t359 true _ ?side1 ?side2 ?side3 ?side4 A117.out).mono ?_); (case side1 => repeat (first | exact (Kd.R_reads' HO358.out).2.2 | (with_reducible refine Kd.C_alloc ?_ _) | (with_reducible refine Kd.C_drewN ?_ _) | (with_reducible refine Kd.C_drew ?_))); (case side2 => exact (Kd.R_reads' HO358.out).2.1); (case side3 => repeat (first | exact (Kd.R_reads' HO362.out).2.2 | (with_reducible refine Kd.C_alloc ?_ _) | (with_reducible refine Kd.C_drewN ?_ _) | (with_reducible refine Kd.C_drew ?_))); (case side4 => exact (Kd.R_reads' HO362.out).2.1); rintro e w' ⟨rfl, ⟨nd, rfl⟩⟩; (try first | exact ⟨rfl, _, World.drewN_drewN _ _ _⟩ | exact ⟨rfl, _, Eq.trans (World.drewN_drewN _ _ _) (congrArg (World.drewN _) (Nat.add_assoc _ _ _))⟩)))))
                                  go_meet
                                  case rel => exact ⟨_, (false), (by first | rfl | (simp; done) | (simp [*]; done)), H', ⟨by have := HJ2.out; have := HJ14.out; have := HJ57.out; first | omega | exact Nat.le_refl _⟩, ⟨by (with_reducible repeat (first | apply Kd.R_alloc | apply Kd.R_drewN | apply Kd.R_drew)); exact Kd.R_mono HO354.out (fun _ hk => ⟨hk.1.1.1.1.1.2, ⟨hk.1.1.1.1.2, ⟨hk.1.1.1.2, hk.1.1.2⟩⟩⟩)⟩, ⟨by (with_reducible repeat (first | refine blk_drewN ?_ _ | refine blk_drew ?_ | refine blk_alloc ?_ _)); exact BK316.out⟩, ⟨by (with_reducible repeat (first | refine blk_drewN ?_ _ | refine blk_drew ?_ | refine blk_alloc ?_ _)); exact BK324.out⟩, ⟨by (with_reducible repeat (first | refine blk_drewN ?_ _ | refine blk_drew ?_ | refine blk_alloc ?_ _)); exact BK330.out⟩, ⟨by (with_reducible repeat (first | refine blk_drewN ?_ _ | refine blk_drew ?_ | refine blk_alloc ?_ _)); exact BK335.out⟩, ⟨by repeat (first | (with_reducible first | exact HB.out | apply below_alloc | apply pw_below_drewN | apply below_drew1 | refine below_set ?_ GE316.out | refine below_set ?_ GE324.out | refine below_set ?_ GE330.out | refine below_set ?_ GE335.out) | exact HB.out)⟩⟩
                            · replace c118 := Bool.eq_false_iff.mpr c118
                              subst c118
                              have H1 : (none) = some r := by rw [if_neg (show ¬ (false = true) by decide)] at H; exact H
                              clear H
                              have H := H1
                              clear H1
                              exact absurd H (by simp)
                          · rw [if_neg c116] at H
                            exact absurd H (by simp)
                        · rw [if_neg c115] at H
                          exact absurd H (by simp)
                      · replace c114 := Bool.eq_false_iff.mpr c114
                        subst c114
                        have H1 : (none) = some r := by rw [if_neg (show ¬ (false = true) by decide)] at H; exact H
                        clear H
                        have H := H1
                        clear H1
                        exact absurd H (by simp)
                    · rw [if_neg c112] at H
                      exact absurd H (by simp)
                  case rest => as_aux_lemma =>
                    clear HC99
                    try clear c1
                    try clear c2
                    try clear p2
                    try clear c3
                    try clear c4
                    try clear c5
                    try clear c6
                    try clear p6
                    try clear c7
                    try clear c8
                    try clear c9
                    try clear c10
                    try clear c11
                    try clear c12
                    try clear c24
                    try clear c30
                    try clear c31
                    try clear c36
                    try clear c37
                    try clear c38
                    try clear c40
                    try clear c40b0
                    try clear c40b1
                    try clear c41
                    try clear c41b0
                    try clear c41b1
                    try clear c42
                    try clear c42b0
                    try clear c44
                    try clear c45
                    try clear c45b0
                    try clear c45b1
                    try clear c46
                    try clear c47
                    try clear c48
                    try clear c50
                    try clear c51
                    try clear c54
                    try clear c57
                    try clear c59
                    try clear c59b0
                    try clear c59b1
                    try clear c64
                    try clear p64
                    try clear c65
                    try clear c66
                    try clear c72
                    try clear c73
                    try clear c74
                    try clear c75
                    try clear c78
                    try clear c78b0
                    try clear c78b1
                    try clear c79
                    try clear c79b0
                    try clear c79b1
                    try clear c80
                    try clear c80b0
                    try clear c80b1
                    try clear c81
                    try clear c81b0
                    try clear c81b1
                    try clear c82
                    try clear c82b0
                    try clear c82b1
                    try clear c83
                    try clear c84
                    try clear c85
                    try clear c86
                    try clear c88
                    try clear c89
                    try clear c90
                    try clear c92
                    try clear c93
                    try clear c93b0
                    try clear c93b1
                    try clear c101
                    try clear c102
                    try clear c103
                    try clear c112
                    try clear c112b0
                    try clear c112b1
                    try clear c114
                    try clear c115
                    try clear c115b0
                    try clear c115b1
                    try clear c116
                    try clear c116b0
                    try clear c116b1
                    try clear c118
                    try clear c119
                    try clear c119b0
                    try clear c119b1
                    try clear c119b2
                    try clear c120
                    try clear c120b0
                    try clear c120b1
                    try clear hcz104_0
                    try clear hcz104_1
                    try clear hcz104_2
                    try clear hcz106_0
                    try clear hcz106_1
                    try clear hcz106_2
                    try clear hcz108_0
                    try clear hcz108_1
                    try clear hcz108_2
                    try clear hcz110_0
                    try clear hcz110_1
                    try clear hcz110_2
                    try clear hcz18_0
                    try clear hcz18_1
                    try clear hcz18_2
                    try clear hcz20_0
                    try clear hcz20_1
                    try clear hcz20_2
                    try clear hcz25_0
                    try clear hcz25_1
                    try clear hcz25_2
                    try clear hcz27_0
                    try clear hcz27_1
                    try clear hcz27_2
                    try clear hcz32_0
                    try clear hcz32_1
                    try clear hcz32_2
                    try clear hcz33_0
                    try clear hcz33_1
                    try clear hcz33_2
                    try clear hcz39_0
                    try clear hcz39_1
                    try clear hcz39_2
                    try clear hcz49_0
                    try clear hcz49_1
                    try clear hcz49_2
                    try clear hcz52_0
                    try clear hcz52_1
                    try clear hcz52_2
                    try clear hcz55_0
                    try clear hcz55_1
                    try clear hcz55_2
                    try clear hcz56_0
                    try clear hcz56_1
                    try clear hcz56_2
                    try clear hcz67_0
                    try clear hcz67_1
                    try clear hcz67_2
                    try clear hcz69_0
                    try clear hcz69_1
                    try clear hcz69_2
                    try clear hcz76_0
                    try clear hcz76_1
                    try clear hcz76_2
                    try clear hcz87_0
                    try clear hcz87_1
                    try clear hcz87_2
                    try clear hcz91_0
                    try clear hcz91_1
                    try clear hcz91_2
                    try clear hfz104_0
                    try clear hfz104_1
                    try clear hfz104_2
                    try clear hfz106_0
                    try clear hfz106_1
                    try clear hfz106_2
                    try clear hfz108_0
                    try clear hfz108_1
                    try clear hfz108_2
                    try clear hfz110_0
                    try clear hfz110_1
                    try clear hfz110_2
                    try clear hfz18_0
                    try clear hfz18_1
                    try clear hfz18_2
                    try clear hfz20_0
                    try clear hfz20_1
                    try clear hfz20_2
                    try clear hfz25_0
                    try clear hfz25_1
                    try clear hfz25_2
                    try clear hfz27_0
                    try clear hfz27_1
                    try clear hfz27_2
                    try clear hfz32_0
                    try clear hfz32_1
                    try clear hfz32_2
                    try clear hfz33_0
                    try clear hfz33_1
                    try clear hfz33_2
                    try clear hfz39_0
                    try clear hfz39_1
                    try clear hfz39_2
                    try clear hfz49_0
                    try clear hfz49_1
                    try clear hfz49_2
                    try clear hfz52_0
                    try clear hfz52_1
                    try clear hfz52_2
                    try clear hfz55_0
                    try clear hfz55_1
                    try clear hfz55_2
                    try clear hfz56_0
                    try clear hfz56_1
                    try clear hfz56_2
                    try clear hfz67_0
                    try clear hfz67_1
                    try clear hfz67_2
                    try clear hfz69_0
                    try clear hfz69_1
                    try clear hfz69_2
                    try clear hfz76_0
                    try clear hfz76_1
                    try clear hfz76_2
                    try clear hfz87_0
                    try clear hfz87_1
                    try clear hfz87_2
                    try clear hfz91_0
                    try clear hfz91_1
                    try clear hfz91_2
                    try clear p2
                    try clear p6
                    try clear p64
                    obtain ⟨kq, x225_98, rfl, HA, HJ98, HO_24, BK316, BK324, BK330, BK335, HB⟩ := hcut
                    cases kq with
                    | zero => exact absurd HA.out (by simp [laws_FnSettings.j4])
                    | succ kj98 =>
                      have H := HA.out
                      clear HA
                      simp only [laws_FnSettings.j4] at H
                      by_cases c130 : x225_98 = true
                      · subst c130
                        have H1 : (none) = some r := by rw [if_pos rfl] at H; exact H
                        clear H
                        have H := H1
                        clear H1
                        exact absurd H (by simp)
                      · replace c130 := Bool.eq_false_iff.mpr c130
                        subst c130
                        have H1 : (laws_FnSettings.l0 kj98 l0 l1 t317 (wrap64 (t346 - 30)) t351 0 t313 t314 t315) = some r := by rw [if_neg (show ¬ (false = true) by decide)] at H; exact H
                        clear H
                        have H := H1
                        clear H1
                        have H' := Aside0.mk H
                        clear H
                        go_wp2_with (first | (go_quiet (fail)))
                        go_loopg [30] kj98 (fun kq v30 w' => ∃ (x30_5 : Int), v30 = .int .i64 x30_5 ∧ Aside0 (laws_FnSettings.l0 kq l0 l1 t317 (wrap64 (t346 - 30)) t351 x30_5 t313 t314 t315 = some r) ∧ Aside0 (kq ≤ kj98) ∧ Aside0 (Kd.R k26 26 w' w.heap.size (fun k_ => k_ ≠ gb316 ∧ k_ ≠ gb324 ∧ k_ ≠ gb330 ∧ k_ ≠ gb335) v353 t351) ∧ Aside0 (w'.heap[gb316]? = some (.cells #[.int .i8 t313, .int .i8 t314, .int .i8 t315] 26 (0, 0))) ∧ Aside0 (w'.heap[gb324]? = some (.cells #[.int .i8 t320, .int .i8 t321, .int .i8 t322] 26 (0, 0))) ∧ Aside0 (w'.heap[gb330]? = some (.cells #[.int .i8 t326, .int .i8 t327, .int .i8 t328] 26 (0, 0))) ∧ Aside0 (w'.heap[gb335]? = some (.cells #[.int .i8 t331, .int .i8 t332, .int .i8 t333] 26 (0, 0))) ∧ Aside0 (Below w.heap.size w w'))
                        case atStart => exact ⟨(0), (by first | rfl | (simp; done) | (simp [*]; done)), H', ⟨Nat.le_refl _⟩, ⟨by (with_reducible repeat (first | apply Kd.R_alloc | apply Kd.R_drewN | apply Kd.R_drew)); exact HO_24.out⟩, ⟨by (with_reducible repeat (first | refine blk_drewN ?_ _ | refine blk_drew ?_ | refine blk_alloc ?_ _)); exact BK316.out⟩, ⟨by (with_reducible repeat (first | refine blk_drewN ?_ _ | refine blk_drew ?_ | refine blk_alloc ?_ _)); exact BK324.out⟩, ⟨by (with_reducible repeat (first | refine blk_drewN ?_ _ | refine blk_drew ?_ | refine blk_alloc ?_ _)); exact BK330.out⟩, ⟨by (with_reducible repeat (first | refine blk_drewN ?_ _ | refine blk_drew ?_ | refine blk_alloc ?_ _)); exact BK335.out⟩, ⟨by repeat (first | (with_reducible first | exact HB.out | apply below_alloc | apply pw_below_drewN | apply below_drew1 | refine below_set ?_ GE316.out | refine below_set ?_ GE324.out | refine below_set ?_ GE330.out | refine below_set ?_ GE335.out) | exact HB.out)⟩⟩
                        case round =>
                          clear H'
                          try clear c1
                          try clear c2
                          try clear p2
                          try clear c3
                          try clear c4
                          try clear c5
                          try clear c6
                          try clear p6
                          try clear c7
                          try clear c8
                          try clear c9
                          try clear c10
                          try clear c11
                          try clear c12
                          try clear c13
                          try clear c24
                          try clear c30
                          try clear c31
                          try clear c36
                          try clear c37
                          try clear c38
                          try clear c40
                          try clear c40b0
                          try clear c40b1
                          try clear c41
                          try clear c41b0
                          try clear c41b1
                          try clear c42
                          try clear c42b0
                          try clear c44
                          try clear c45
                          try clear c45b0
                          try clear c45b1
                          try clear c46
                          try clear c47
                          try clear c48
                          try clear c50
                          try clear c51
                          try clear c54
                          try clear c57
                          try clear c59
                          try clear c59b0
                          try clear c59b1
                          try clear c64
                          try clear p64
                          try clear c65
                          try clear c66
                          try clear c72
                          try clear c73
                          try clear c74
                          try clear c75
                          try clear c78
                          try clear c78b0
                          try clear c78b1
                          try clear c79
                          try clear c79b0
                          try clear c79b1
                          try clear c80
                          try clear c80b0
                          try clear c80b1
                          try clear c81
                          try clear c81b0
                          try clear c81b1
                          try clear c82
                          try clear c82b0
                          try clear c82b1
                          try clear c83
                          try clear c84
                          try clear c85
                          try clear c86
                          try clear c88
                          try clear c89
                          try clear c90
                          try clear c92
                          try clear c93
                          try clear c93b0
                          try clear c93b1
                          try clear c101
                          try clear c102
                          try clear c103
                          try clear c112
                          try clear c112b0
                          try clear c112b1
                          try clear c114
                          try clear c115
                          try clear c115b0
                          try clear c115b1
                          try clear c116
                          try clear c116b0
                          try clear c116b1
                          try clear c118
                          try clear c119
                          try clear c119b0
                          try clear c119b1
                          try clear c119b2
                          try clear c120
                          try clear c120b0
                          try clear c120b1
                          try clear c130
                          try clear hcz104_0
                          try clear hcz104_1
                          try clear hcz104_2
                          try clear hcz106_0
                          try clear hcz106_1
                          try clear hcz106_2
                          try clear hcz108_0
                          try clear hcz108_1
                          try clear hcz108_2
                          try clear hcz110_0
                          try clear hcz110_1
                          try clear hcz110_2
                          try clear hcz18_0
                          try clear hcz18_1
                          try clear hcz18_2
                          try clear hcz20_0
                          try clear hcz20_1
                          try clear hcz20_2
                          try clear hcz25_0
                          try clear hcz25_1
                          try clear hcz25_2
                          try clear hcz27_0
                          try clear hcz27_1
                          try clear hcz27_2
                          try clear hcz32_0
                          try clear hcz32_1
                          try clear hcz32_2
                          try clear hcz33_0
                          try clear hcz33_1
                          try clear hcz33_2
                          try clear hcz39_0
                          try clear hcz39_1
                          try clear hcz39_2
                          try clear hcz49_0
                          try clear hcz49_1
                          try clear hcz49_2
                          try clear hcz52_0
                          try clear hcz52_1
                          try clear hcz52_2
                          try clear hcz55_0
                          try clear hcz55_1
                          try clear hcz55_2
                          try clear hcz56_0
                          try clear hcz56_1
                          try clear hcz56_2
                          try clear hcz67_0
                          try clear hcz67_1
                          try clear hcz67_2
                          try clear hcz69_0
                          try clear hcz69_1
                          try clear hcz69_2
                          try clear hcz76_0
                          try clear hcz76_1
                          try clear hcz76_2
                          try clear hcz87_0
                          try clear hcz87_1
                          try clear hcz87_2
                          try clear hcz91_0
                          try clear hcz91_1
                          try clear hcz91_2
                          try clear hfz104_0
                          try clear hfz104_1
                          try clear hfz104_2
                          try clear hfz106_0
                          try clear hfz106_1
                          try clear hfz106_2
                          try clear hfz108_0
                          try clear hfz108_1
                          try clear hfz108_2
                          try clear hfz110_0
                          try clear hfz110_1
                          try clear hfz110_2
                          try clear hfz18_0
                          try clear hfz18_1
                          try clear hfz18_2
                          try clear hfz20_0
                          try clear hfz20_1
                          try clear hfz20_2
                          try clear hfz25_0
                          try clear hfz25_1
                          try clear hfz25_2
                          try clear hfz27_0
                          try clear hfz27_1
                          try clear hfz27_2
                          try clear hfz32_0
                          try clear hfz32_1
                          try clear hfz32_2
                          try clear hfz33_0
                          try clear hfz33_1
                          try clear hfz33_2
                          try clear hfz39_0
                          try clear hfz39_1
                          try clear hfz39_2
                          try clear hfz49_0
                          try clear hfz49_1
                          try clear hfz49_2
                          try clear hfz52_0
                          try clear hfz52_1
                          try clear hfz52_2
                          try clear hfz55_0
                          try clear hfz55_1
                          try clear hfz55_2
                          try clear hfz56_0
                          try clear hfz56_1
                          try clear hfz56_2
                          try clear hfz67_0
                          try clear hfz67_1
                          try clear hfz67_2
                          try clear hfz69_0
                          try clear hfz69_1
                          try clear hfz69_2
                          try clear hfz76_0
                          try clear hfz76_1
                          try clear hfz76_2
                          try clear hfz87_0
                          try clear hfz87_1
                          try clear hfz87_2
                          try clear hfz91_0
                          try clear hfz91_1
                          try clear hfz91_2
                          try clear p2
                          try clear p6
                          try clear p64
                          obtain ⟨x30_5, rfl, HA, HK5, HO_24, BK316, BK324, BK330, BK335, HB⟩ := hrel
                          cases gk with
                          | zero => exact absurd HA.out (by simp [laws_FnSettings.l0])
                          | succ k5 =>
                            have H := HA.out
                            clear HA
                            simp only [laws_FnSettings.l0] at H
                            by_cases c131 : x30_5 < (t351.length : Int)
                            · rw [if_pos c131] at H
                              have c131b0 : decide (x30_5 < (t351.length : Int)) = true := decide_eq_true c131
                              clear c131
                              by_cases c132 : 0 ≤ x30_5
                              · rw [if_pos c132] at H
                                have c132b0 : decide (0 ≤ x30_5) = true := decide_eq_true c132
                                clear c132
                                replace H := Option.bind_eq_some_iff.mp H
                                obtain ⟨⟨t367, t368⟩, A1330, H⟩ := H
                                replace H : (if t368 = 0 then (if t367 = (wrap64 (t346 - 30)) then (if (Int.tmod ((rd_T26 t351 x30_5).f0) 3) = 0 then (if (Int.tmod ((rd_T26 t351 x30_5).f1) 3) = 0 then (if x30_5 > 0 then (if 0 ≤ (wrap64 (x30_5 - 1)) then (if (wrap64 (x30_5 - 1)) < (t351.length : Int) then (laws_FnSettings.j6 k5 l0 l1 t317 (wrap64 (t346 - 30)) t351 x30_5 (decide (((rd_T26 t351 x30_5).f0) ≤ ((rd_T26 t351 (wrap64 (x30_5 - 1))).f0))) t313 t314 t315) else (none)) else (none)) else (laws_FnSettings.j6 k5 l0 l1 t317 (wrap64 (t346 - 30)) t351 x30_5 false t313 t314 t315)) else (none)) else (none)) else (none)) else (none)) = some r := H
                                have A133 := Aside0.mk A1330
                                clear A1330
                                have HC134 := Aside0.mk H
                                clear H
                                obtain ⟨Ao135, co135, eo135⟩ := Kd.R_slice HO_24.out
                                subst eo135
                                have p366 : 0 ≤ (x30_5 : Int) := of_decide_eq_true (by first | (with_reducible assumption) | assumption)
                                have q366 : x30_5 < (t351.length : Int) := of_decide_eq_true (by first | (with_reducible assumption) | assumption)
                                obtain ⟨ad366, e366, hx366_0, hx366_1, hx366_2⟩ := at_T26 (Kd.R_reads' HO_24.out).2.2 x30_5 p366 q366
                                cases e366
                                replace p366 := eq_true p366
                                replace q366 := eq_true q366
                                go_upto_region 30 with (first | (go_at_call 12; (with_reducible refine (impl_ValueOf.calls ((rd_T26 t351 x30_5).f0) ((rd_T26 t351 x30_5).f1) ((rd_T26 t351 x30_5).f2) t367 t368 _ A133.out).mono ?_); rintro e w136 ⟨rfl, hb⟩; have n0_ := Aside0.mk (Kd.R_below (by (with_reducible repeat (first | apply Kd.R_alloc | apply Kd.R_drewN | apply Kd.R_drew)); exact HO_24.out) hb); have n1_ := Aside0.mk (blk_below (g := gb316) (o := .cells #[.int .i8 t313, .int .i8 t314, .int .i8 t315] 26 (0, 0)) (by (with_reducible repeat (first | refine blk_drewN ?_ _ | refine blk_drew ?_ | refine blk_alloc ?_ _)); exact BK316.out) hb); have n2_ := Aside0.mk (blk_below (g := gb324) (o := .cells #[.int .i8 t320, .int .i8 t321, .int .i8 t322] 26 (0, 0)) (by (with_reducible repeat (first | refine blk_drewN ?_ _ | refine blk_drew ?_ | refine blk_alloc ?_ _)); exact BK324.out) hb); have n3_ := Aside0.mk (blk_below (g := gb330) (o := .cells #[.int .i8 t326, .int .i8 t327, .int .i8 t328] 26 (0, 0)) (by (with_reducible repeat (first | refine blk_drewN ?_ _ | refine blk_drew ?_ | refine blk_alloc ?_ _)); exact BK330.out) hb); have n4_ := Aside0.mk (blk_below (g := gb335) (o := .cells #[.int .i8 t331, .int .i8 t332, .int .i8 t333] 26 (0, 0)) (by (with_reducible repeat (first | refine blk_drewN ?_ _ | refine blk_drew ?_ | refine blk_alloc ?_ _)); exact BK335.out) hb); have n5_ := Aside0.mk (below_step (by repeat (first | (with_reducible first | exact HB.out | apply below_alloc | apply pw_below_drewN | apply below_drew1 | refine below_set ?_ GE316.out | refine below_set ?_ GE324.out | refine below_set ?_ GE330.out | refine below_set ?_ GE335.out) | exact HB.out)) hb); clear HO_24; clear BK316; clear BK324; clear BK330; clear BK335; clear HB; have HO_24 := n0_; have BK316 := n1_; have BK324 := n2_; have BK330 := n3_; have BK335 := n4_; have HB := n5_; clear n0_ n1_ n2_ n3_ n4_ n5_; (try clear hb); (try clear hb2); (try clear hk); (try clear hi)) | (go_quiet (fail)))
                                (try simp only [Act.put, List.setIfInBounds_toArray, List.set_cons_zero, List.set_cons_succ])
                                go_cut [282] (fun v282 wc => ∃ (kq : Nat) (x282_133 : Bool), v282 = .bool x282_133 ∧ Aside0 (laws_FnSettings.j6 kq l0 l1 t317 (wrap64 (t346 - 30)) t351 x30_5 x282_133 t313 t314 t315 = some r) ∧ Aside0 (kq ≤ k5) ∧ Aside0 (Kd.R k26 26 wc w.heap.size (fun k_ => k_ ≠ gb316 ∧ k_ ≠ gb324 ∧ k_ ≠ gb330 ∧ k_ ≠ gb335) (.slice (some ad366) t351.length co135) t351) ∧ Aside0 (wc.heap[gb316]? = some (.cells #[.int .i8 t313, .int .i8 t314, .int .i8 t315] 26 (0, 0))) ∧ Aside0 (wc.heap[gb324]? = some (.cells #[.int .i8 t320, .int .i8 t321, .int .i8 t322] 26 (0, 0))) ∧ Aside0 (wc.heap[gb330]? = some (.cells #[.int .i8 t326, .int .i8 t327, .int .i8 t328] 26 (0, 0))) ∧ Aside0 (wc.heap[gb335]? = some (.cells #[.int .i8 t331, .int .i8 t332, .int .i8 t333] 26 (0, 0))) ∧ Aside0 (Below w.heap.size w wc))
                                case first =>
                                  have H := HC134.out
                                  clear HC134
                                  by_cases c137 : t368 = 0
                                  · rw [if_pos c137] at H
                                    have c137b0 : (t368 == 0) = true := beq_iff_eq.mpr c137
                                    have c137b1 : (t368 != 0) = false := bne_eq_false_iff_eq.mpr c137
                                    clear c137
                                    (first | rw [c137b0] | (simp only [i64_w, i32_w]; rw [c137b0]) | skip)
                                    by_cases c138 : t367 = (wrap64 (t346 - 30))
                                    · rw [if_pos c138] at H
                                      have c138b0 : (t367 == (wrap64 (t346 - 30))) = true := beq_iff_eq.mpr c138
                                      have c138b1 : (t367 != (wrap64 (t346 - 30))) = false := bne_eq_false_iff_eq.mpr c138
                                      clear c138
                                      by_cases c139 : (Int.tmod ((rd_T26 t351 x30_5).f0) 3) = 0
                                      · rw [if_pos c139] at H
                                        have c139b0 : ((Int.tmod ((rd_T26 t351 x30_5).f0) 3) == 0) = true := beq_iff_eq.mpr c139
                                        have c139b1 : ((Int.tmod ((rd_T26 t351 x30_5).f0) 3) != 0) = false := bne_eq_false_iff_eq.mpr c139
                                        clear c139
                                        by_cases c140 : (Int.tmod ((rd_T26 t351 x30_5).f1) 3) = 0
                                        · rw [if_pos c140] at H
                                          have c140b0 : ((Int.tmod ((rd_T26 t351 x30_5).f1) 3) == 0) = true := beq_iff_eq.mpr c140
                                          have c140b1 : ((Int.tmod ((rd_T26 t351 x30_5).f1) 3) != 0) = false := bne_eq_false_iff_eq.mpr c140
                                          clear c140
                                          by_cases c141 : x30_5 > 0
                                          · rw [if_pos c141] at H
                                            have c141b0 : decide (0 < x30_5) = true := decide_eq_true c141
                                            clear c141
                                            obtain ⟨ji142, hji142⟩ : ∃ j_ : Int, (wrap64 (x30_5 - 1)) = j_ := ⟨_, rfl⟩
                                            replace H : (if 0 ≤ (ji142) then (if (ji142) < (t351.length : Int) then (laws_FnSettings.j6 k5 l0 l1 t317 (wrap64 (t346 - 30)) t351 x30_5 (decide (((rd_T26 t351 x30_5).f0) ≤ ((rd_T26 t351 (ji142)).f0))) t313 t314 t315) else (none)) else (none)) = some r := by first | (rw [hji142] at H; exact H) | (simp only [hji142] at H ⊢; exact H)
                                            have hji142w : (IntKind.i64.wrap (x30_5 - 1)) = ji142 := (i64_w _).trans hji142
                                            by_cases c143 : 0 ≤ (ji142)
                                            · rw [if_pos c143] at H
                                              have c143b0 : decide (0 ≤ (ji142)) = true := decide_eq_true c143
                                              clear c143
                                              by_cases c144 : (ji142) < (t351.length : Int)
                                              · rw [if_pos c144] at H
                                                have c144b0 : decide ((ji142) < (t351.length : Int)) = true := decide_eq_true c144
                                                clear c144
                                                have H' := Aside0.mk H
                                                clear H
                                                have p369 : 0 ≤ (x30_5 : Int) := of_decide_eq_true (by first | (with_reducible assumption) | assumption)
                                                have q369 : x30_5 < (t351.length : Int) := of_decide_eq_true (by first | (with_reducible assumption) | assumption)
                                                obtain ⟨ad369, e369, hx369_0, hx369_1, hx369_2⟩ := at_T26 (Kd.R_reads' HO_24.out).2.2 x30_5 p369 q369
                                                obtain rfl : ad366 = ad369 := (by injection e369)
                                                replace p369 := eq_true p369
                                                replace q369 := eq_true q369
                                                have p370 : 0 ≤ (x30_5 : Int) := of_decide_eq_true (by first | (with_reducible assumption) | assumption)
                                                have q370 : x30_5 < (t351.length : Int) := of_decide_eq_true (by first | (with_reducible assumption) | assumption)
                                                obtain ⟨ad370, e370, hx370_0, hx370_1, hx370_2⟩ := at_T26 (Kd.R_reads' HO_24.out).2.2 x30_5 p370 q370
                                                obtain rfl : ad366 = ad370 := (by injection e370)
                                                replace p370 := eq_true p370
                                                replace q370 := eq_true q370
                                                have p371 : 0 ≤ (x30_5 : Int) := of_decide_eq_true (by first | (with_reducible assumption) | assumption)
                                                have q371 : x30_5 < (t351.length : Int) := of_decide_eq_true (by first | (with_reducible assumption) | assumption)
                                                obtain ⟨ad371, e371, hx371_0, hx371_1, hx371_2⟩ := at_T26 (Kd.R_reads' HO_24.out).2.2 x30_5 p371 q371
                                                obtain rfl : ad366 = ad371 := (by injection e371)
                                                replace p371 := eq_true p371
                                                replace q371 := eq_true q371
                                                have p372 : 0 ≤ ((ji142) : Int) := of_decide_eq_true (by first | (with_reducible assumption) | assumption)
                                                have q372 : (ji142) < (t351.length : Int) := of_decide_eq_true (by first | (with_reducible assumption) | assumption)
                                                obtain ⟨ad372, e372, hx372_0, hx372_1, hx372_2⟩ := at_T26 (Kd.R_reads' HO_24.out).2.2 (ji142) p372 q372
                                                obtain rfl : ad366 = ad372 := (by injection e372)
                                                replace p372 := eq_true p372
                                                replace q372 := eq_true q372
                                                go_wp2_with (first | (go_quiet (fail)))
                                                go_meet
                                                case rel => exact ⟨_, (decide (((rd_T26 t351 x30_5).f0) ≤ ((rd_T26 t351 (ji142)).f0))), (by first | rfl | (simp; done) | (simp only [← hji142] <;> (first | rfl | simp)) | (simp [*]; done)), H', ⟨by have := HJ2.out; have := HJ14.out; have := HJ57.out; have := HJ98.out; have := HK5.out; first | omega | exact Nat.le_refl _⟩, ⟨by (with_reducible repeat (first | apply Kd.R_alloc | apply Kd.R_drewN | apply Kd.R_drew)); exact HO_24.out⟩, ⟨by (with_reducible repeat (first | refine blk_drewN ?_ _ | refine blk_drew ?_ | refine blk_alloc ?_ _)); exact BK316.out⟩, ⟨by (with_reducible repeat (first | refine blk_drewN ?_ _ | refine blk_drew ?_ | refine blk_alloc ?_ _)); exact BK324.out⟩, ⟨by (with_reducible repeat (first | refine blk_drewN ?_ _ | refine blk_drew ?_ | refine blk_alloc ?_ _)); exact BK330.out⟩, ⟨by (with_reducible repeat (first | refine blk_drewN ?_ _ | refine blk_drew ?_ | refine blk_alloc ?_ _)); exact BK335.out⟩, ⟨by repeat (first | (with_reducible first | exact HB.out | apply below_alloc | apply pw_below_drewN | apply below_drew1 | refine below_set ?_ GE316.out | refine below_set ?_ GE324.out | refine below_set ?_ GE330.out | refine below_set ?_ GE335.out) | exact HB.out)⟩⟩
                                              · rw [if_neg c144] at H
                                                exact absurd H (by simp)
                                            · rw [if_neg c143] at H
                                              exact absurd H (by simp)
                                          · rw [if_neg c141] at H
                                            have c141b0 : decide (0 < x30_5) = false := decide_eq_false c141
                                            clear c141
                                            have H' := Aside0.mk H
                                            clear H
                                            have p369 : 0 ≤ (x30_5 : Int) := of_decide_eq_true (by first | (with_reducible assumption) | assumption)
                                            have q369 : x30_5 < (t351.length : Int) := of_decide_eq_true (by first | (with_reducible assumption) | assumption)
                                            obtain ⟨ad369, e369, hx369_0, hx369_1, hx369_2⟩ := at_T26 (Kd.R_reads' HO_24.out).2.2 x30_5 p369 q369
                                            obtain rfl : ad366 = ad369 := (by injection e369)
                                            replace p369 := eq_true p369
                                            replace q369 := eq_true q369
                                            have p370 : 0 ≤ (x30_5 : Int) := of_decide_eq_true (by first | (with_reducible assumption) | assumption)
                                            have q370 : x30_5 < (t351.length : Int) := of_decide_eq_true (by first | (with_reducible assumption) | assumption)
                                            obtain ⟨ad370, e370, hx370_0, hx370_1, hx370_2⟩ := at_T26 (Kd.R_reads' HO_24.out).2.2 x30_5 p370 q370
                                            obtain rfl : ad366 = ad370 := (by injection e370)
                                            replace p370 := eq_true p370
                                            replace q370 := eq_true q370
                                            go_wp2_with (first | (go_quiet (fail)))
                                            go_meet
                                            case rel => exact ⟨_, (false), (by first | rfl | (simp; done) | (simp [*]; done)), H', ⟨by have := HJ2.out; have := HJ14.out; have := HJ57.out; have := HJ98.out; have := HK5.out; first | omega | exact Nat.le_refl _⟩, ⟨by (with_reducible repeat (first | apply Kd.R_alloc | apply Kd.R_drewN | apply Kd.R_drew)); exact HO_24.out⟩, ⟨by (with_reducible repeat (first | refine blk_drewN ?_ _ | refine blk_drew ?_ | refine blk_alloc ?_ _)); exact BK316.out⟩, ⟨by (with_reducible repeat (first | refine blk_drewN ?_ _ | refine blk_drew ?_ | refine blk_alloc ?_ _)); exact BK324.out⟩, ⟨by (with_reducible repeat (first | refine blk_drewN ?_ _ | refine blk_drew ?_ | refine blk_alloc ?_ _)); exact BK330.out⟩, ⟨by (with_reducible repeat (first | refine blk_drewN ?_ _ | refine blk_drew ?_ | refine blk_alloc ?_ _)); exact BK335.out⟩, ⟨by repeat (first | (with_reducible first | exact HB.out | apply below_alloc | apply pw_below_drewN | apply below_drew1 | refine below_set ?_ GE316.out | refine below_set ?_ GE324.out | refine below_set ?_ GE330.out | refine below_set ?_ GE335.out) | exact HB.out)⟩⟩
                                        · rw [if_neg c140] at H
                                          exact absurd H (by simp)
                                      · rw [if_neg c139] at H
                                        exact absurd H (by simp)
                                    · rw [if_neg c138] at H
                                      exact absurd H (by simp)
                                  · rw [if_neg c137] at H
                                    exact absurd H (by simp)
                                case rest => as_aux_lemma =>
                                  clear HC134
                                  try clear c1
                                  try clear c2
                                  try clear p2
                                  try clear c3
                                  try clear p3
                                  try clear q3
                                  try clear hx3
                                  try clear c4
                                  try clear c5
                                  try clear c6
                                  try clear p6
                                  try clear c7
                                  try clear c8
                                  try clear c9
                                  try clear c10
                                  try clear c11
                                  try clear c12
                                  try clear c13
                                  try clear c14
                                  try clear c24
                                  try clear c30
                                  try clear c31
                                  try clear c36
                                  try clear p36
                                  try clear q36
                                  try clear hx36
                                  try clear c37
                                  try clear p37
                                  try clear q37
                                  try clear hx37
                                  try clear c38
                                  try clear c40
                                  try clear c40b0
                                  try clear c40b1
                                  try clear c41
                                  try clear c41b0
                                  try clear c41b1
                                  try clear c42
                                  try clear c42b0
                                  try clear c44
                                  try clear c45
                                  try clear c45b0
                                  try clear c45b1
                                  try clear c46
                                  try clear c47
                                  try clear c48
                                  try clear c50
                                  try clear c51
                                  try clear c54
                                  try clear c57
                                  try clear c59
                                  try clear c59b0
                                  try clear c59b1
                                  try clear c64
                                  try clear p64
                                  try clear c65
                                  try clear c66
                                  try clear c72
                                  try clear c73
                                  try clear c74
                                  try clear c75
                                  try clear c78
                                  try clear c78b0
                                  try clear c78b1
                                  try clear c79
                                  try clear c79b0
                                  try clear c79b1
                                  try clear c80
                                  try clear c80b0
                                  try clear c80b1
                                  try clear c81
                                  try clear c81b0
                                  try clear c81b1
                                  try clear c82
                                  try clear c82b0
                                  try clear c82b1
                                  try clear c83
                                  try clear c84
                                  try clear c85
                                  try clear c86
                                  try clear c88
                                  try clear c89
                                  try clear c90
                                  try clear c92
                                  try clear c93
                                  try clear c93b0
                                  try clear c93b1
                                  try clear c101
                                  try clear c102
                                  try clear c103
                                  try clear c112
                                  try clear c112b0
                                  try clear c112b1
                                  try clear c114
                                  try clear c115
                                  try clear c115b0
                                  try clear c115b1
                                  try clear c116
                                  try clear c116b0
                                  try clear c116b1
                                  try clear c118
                                  try clear c119
                                  try clear c119b0
                                  try clear c119b1
                                  try clear c119b2
                                  try clear c120
                                  try clear c120b0
                                  try clear c120b1
                                  try clear c130
                                  try clear c131
                                  try clear c131b0
                                  try clear c132
                                  try clear c132b0
                                  try clear c137
                                  try clear c137b0
                                  try clear c137b1
                                  try clear c138
                                  try clear c138b0
                                  try clear c138b1
                                  try clear c139
                                  try clear c139b0
                                  try clear c139b1
                                  try clear c140
                                  try clear c140b0
                                  try clear c140b1
                                  try clear c141
                                  try clear c141b0
                                  try clear c143
                                  try clear c143b0
                                  try clear c144
                                  try clear c144b0
                                  try clear hcz104_0
                                  try clear hcz104_1
                                  try clear hcz104_2
                                  try clear hcz106_0
                                  try clear hcz106_1
                                  try clear hcz106_2
                                  try clear hcz108_0
                                  try clear hcz108_1
                                  try clear hcz108_2
                                  try clear hcz110_0
                                  try clear hcz110_1
                                  try clear hcz110_2
                                  try clear hcz18_0
                                  try clear hcz18_1
                                  try clear hcz18_2
                                  try clear hcz20_0
                                  try clear hcz20_1
                                  try clear hcz20_2
                                  try clear hcz25_0
                                  try clear hcz25_1
                                  try clear hcz25_2
                                  try clear hcz27_0
                                  try clear hcz27_1
                                  try clear hcz27_2
                                  try clear hcz32_0
                                  try clear hcz32_1
                                  try clear hcz32_2
                                  try clear hcz33_0
                                  try clear hcz33_1
                                  try clear hcz33_2
                                  try clear hcz39_0
                                  try clear hcz39_1
                                  try clear hcz39_2
                                  try clear hcz49_0
                                  try clear hcz49_1
                                  try clear hcz49_2
                                  try clear hcz52_0
                                  try clear hcz52_1
                                  try clear hcz52_2
                                  try clear hcz55_0
                                  try clear hcz55_1
                                  try clear hcz55_2
                                  try clear hcz56_0
                                  try clear hcz56_1
                                  try clear hcz56_2
                                  try clear hcz67_0
                                  try clear hcz67_1
                                  try clear hcz67_2
                                  try clear hcz69_0
                                  try clear hcz69_1
                                  try clear hcz69_2
                                  try clear hcz76_0
                                  try clear hcz76_1
                                  try clear hcz76_2
                                  try clear hcz87_0
                                  try clear hcz87_1
                                  try clear hcz87_2
                                  try clear hcz91_0
                                  try clear hcz91_1
                                  try clear hcz91_2
                                  try clear hfz104_0
                                  try clear hfz104_1
                                  try clear hfz104_2
                                  try clear hfz106_0
                                  try clear hfz106_1
                                  try clear hfz106_2
                                  try clear hfz108_0
                                  try clear hfz108_1
                                  try clear hfz108_2
                                  try clear hfz110_0
                                  try clear hfz110_1
                                  try clear hfz110_2
                                  try clear hfz18_0
                                  try clear hfz18_1
                                  try clear hfz18_2
                                  try clear hfz20_0
                                  try clear hfz20_1
                                  try clear hfz20_2
                                  try clear hfz25_0
                                  try clear hfz25_1
                                  try clear hfz25_2
                                  try clear hfz27_0
                                  try clear hfz27_1
                                  try clear hfz27_2
                                  try clear hfz32_0
                                  try clear hfz32_1
                                  try clear hfz32_2
                                  try clear hfz33_0
                                  try clear hfz33_1
                                  try clear hfz33_2
                                  try clear hfz39_0
                                  try clear hfz39_1
                                  try clear hfz39_2
                                  try clear hfz49_0
                                  try clear hfz49_1
                                  try clear hfz49_2
                                  try clear hfz52_0
                                  try clear hfz52_1
                                  try clear hfz52_2
                                  try clear hfz55_0
                                  try clear hfz55_1
                                  try clear hfz55_2
                                  try clear hfz56_0
                                  try clear hfz56_1
                                  try clear hfz56_2
                                  try clear hfz67_0
                                  try clear hfz67_1
                                  try clear hfz67_2
                                  try clear hfz69_0
                                  try clear hfz69_1
                                  try clear hfz69_2
                                  try clear hfz76_0
                                  try clear hfz76_1
                                  try clear hfz76_2
                                  try clear hfz87_0
                                  try clear hfz87_1
                                  try clear hfz87_2
                                  try clear hfz91_0
                                  try clear hfz91_1
                                  try clear hfz91_2
                                  try clear hx366_0
                                  try clear hx366_1
                                  try clear hx366_2
                                  try clear hx369_0
                                  try clear hx369_1
                                  try clear hx369_2
                                  try clear hx370_0
                                  try clear hx370_1
                                  try clear hx370_2
                                  try clear hx371_0
                                  try clear hx371_1
                                  try clear hx371_2
                                  try clear hx372_0
                                  try clear hx372_1
                                  try clear hx372_2
                                  try clear p2
                                  try clear p366
                                  try clear p369
                                  try clear p370
                                  try clear p371
                                  try clear p372
                                  try clear p6
                                  try clear p64
                                  try clear q366
                                  try clear q369
                                  try clear q370
                                  try clear q371
                                  try clear q372
                                  obtain ⟨kq, x282_133, rfl, HA, HJ133, HO_24, BK316, BK324, BK330, BK335, HB⟩ := hcut
                                  cases kq with
                                  | zero => exact absurd HA.out (by simp [laws_FnSettings.j6])
                                  | succ kj133 =>
                                    have H := HA.out
                                    clear HA
                                    simp only [laws_FnSettings.j6] at H
                                    by_cases c145 : x282_133 = true
                                    · subst c145
                                      have H1 : (none) = some r := by rw [if_pos rfl] at H; exact H
                                      clear H
                                      have H := H1
                                      clear H1
                                      exact absurd H (by simp)
                                    · replace c145 := Bool.eq_false_iff.mpr c145
                                      subst c145
                                      have H1 : (laws_FnSettings.l0 kj133 l0 l1 t317 (wrap64 (t346 - 30)) t351 (wrap64 (x30_5 + 1)) t313 t314 t315) = some r := by rw [if_neg (show ¬ (false = true) by decide)] at H; exact H
                                      clear H
                                      have H := H1
                                      clear H1
                                      have H' := Aside0.mk H
                                      clear H
                                      go_wp2_with (first | (go_quiet (fail)))
                                      go_roundg kj133
                                      case measure => have := HJ2.out; have := HJ14.out; have := HJ57.out; have := HJ98.out; have := HK5.out; have := HJ133.out; omega
                                      case rel => exact ⟨(wrap64 (x30_5 + 1)), (by first | rfl | (simp; done) | (simp [*]; done)), H', ⟨by have := HJ2.out; have := HJ14.out; have := HJ57.out; have := HJ98.out; have := HK5.out; have := HJ133.out; omega⟩, ⟨by (with_reducible repeat (first | apply Kd.R_alloc | apply Kd.R_drewN | apply Kd.R_drew)); exact HO_24.out⟩, ⟨by (with_reducible repeat (first | refine blk_drewN ?_ _ | refine blk_drew ?_ | refine blk_alloc ?_ _)); exact BK316.out⟩, ⟨by (with_reducible repeat (first | refine blk_drewN ?_ _ | refine blk_drew ?_ | refine blk_alloc ?_ _)); exact BK324.out⟩, ⟨by (with_reducible repeat (first | refine blk_drewN ?_ _ | refine blk_drew ?_ | refine blk_alloc ?_ _)); exact BK330.out⟩, ⟨by (with_reducible repeat (first | refine blk_drewN ?_ _ | refine blk_drew ?_ | refine blk_alloc ?_ _)); exact BK335.out⟩, ⟨by repeat (first | (with_reducible first | exact HB.out | apply below_alloc | apply pw_below_drewN | apply below_drew1 | refine below_set ?_ GE316.out | refine below_set ?_ GE324.out | refine below_set ?_ GE330.out | refine below_set ?_ GE335.out) | exact HB.out)⟩⟩
                              · rw [if_neg c132] at H
                                exact absurd H (by simp)
                            · rw [if_neg c131] at H
                              have c131b0 : decide (x30_5 < (t351.length : Int)) = false := decide_eq_false c131
                              clear c131
                              replace H := Option.bind_eq_some_iff.mp H
                              obtain ⟨t373, A1460, H⟩ := H
                              replace H : ((spec_P6Pick.f l0 4).bind fun t374 => ((impl_BracketOf.f k5 t313 t314 t315 t373 (wrap64 (1 + t374))).bind fun bt375 => ((spec_BracketOf.f k5 t313 t314 t315 t373 (wrap64 (1 + t374))).bind fun bt379 => (if bt375.2 = bt379.2 then ((spec_SameSettings.f k5 bt375.1 bt379.1).bind fun t383 => (laws_FnSettings.j7 k5 t317 t373 (wrap64 (1 + t374)) bt375.2 bt379.1 (!t383))) else (none))))) = some r := H
                              have A146 := Aside0.mk A1460
                              clear A1460
                              replace H := Option.bind_eq_some_iff.mp H
                              obtain ⟨t374, A1470, H⟩ := H
                              replace H : ((impl_BracketOf.f k5 t313 t314 t315 t373 (wrap64 (1 + t374))).bind fun bt375 => ((spec_BracketOf.f k5 t313 t314 t315 t373 (wrap64 (1 + t374))).bind fun bt379 => (if bt375.2 = bt379.2 then ((spec_SameSettings.f k5 bt375.1 bt379.1).bind fun t383 => (laws_FnSettings.j7 k5 t317 t373 (wrap64 (1 + t374)) bt375.2 bt379.1 (!t383))) else (none)))) = some r := H
                              have A147 := Aside0.mk A1470
                              clear A1470
                              replace H := Option.bind_eq_some_iff.mp H
                              obtain ⟨⟨t375, t378⟩, A1480, H⟩ := H
                              replace H : ((spec_BracketOf.f k5 t313 t314 t315 t373 (wrap64 (1 + t374))).bind fun bt379 => (if t378 = bt379.2 then ((spec_SameSettings.f k5 t375 bt379.1).bind fun t383 => (laws_FnSettings.j7 k5 t317 t373 (wrap64 (1 + t374)) t378 bt379.1 (!t383))) else (none))) = some r := H
                              have A148 := Aside0.mk A1480
                              clear A1480
                              replace H := Option.bind_eq_some_iff.mp H
                              obtain ⟨⟨t379, t382⟩, A1490, H⟩ := H
                              replace H : (if t378 = t382 then ((spec_SameSettings.f k5 t375 t379).bind fun t383 => (laws_FnSettings.j7 k5 t317 t373 (wrap64 (1 + t374)) t378 t379 (!t383))) else (none)) = some r := H
                              have A149 := Aside0.mk A1490
                              clear A1490
                              have HC150 := Aside0.mk H
                              clear H
                              obtain ⟨Ao151, co151, eo151⟩ := Kd.R_slice HO_24.out
                              subst eo151
                              go_upto_region 36 with (first | (go_at_call 15; (with_reducible refine (spec_P6Pick.calls _ _ l1 4 t373 _ ?side1 ?side2 A146.out).mono ?_); (case side1 => repeat (first | exact (Kd.C_below HR1.out HB.out) | (with_reducible refine Kd.C_alloc ?_ _) | (with_reducible refine Kd.C_drewN ?_ _) | (with_reducible refine Kd.C_drew ?_))); (case side2 => exact HC1.out); rintro e w152 ⟨rfl, hb⟩; have n0_ := Aside0.mk (Kd.R_below (by (with_reducible repeat (first | apply Kd.R_alloc | apply Kd.R_drewN | apply Kd.R_drew)); exact HO_24.out) hb); have n1_ := Aside0.mk (blk_below (g := gb316) (o := .cells #[.int .i8 t313, .int .i8 t314, .int .i8 t315] 26 (0, 0)) (by (with_reducible repeat (first | refine blk_drewN ?_ _ | refine blk_drew ?_ | refine blk_alloc ?_ _)); exact BK316.out) hb); have n2_ := Aside0.mk (blk_below (g := gb324) (o := .cells #[.int .i8 t320, .int .i8 t321, .int .i8 t322] 26 (0, 0)) (by (with_reducible repeat (first | refine blk_drewN ?_ _ | refine blk_drew ?_ | refine blk_alloc ?_ _)); exact BK324.out) hb); have n3_ := Aside0.mk (blk_below (g := gb330) (o := .cells #[.int .i8 t326, .int .i8 t327, .int .i8 t328] 26 (0, 0)) (by (with_reducible repeat (first | refine blk_drewN ?_ _ | refine blk_drew ?_ | refine blk_alloc ?_ _)); exact BK330.out) hb); have n4_ := Aside0.mk (blk_below (g := gb335) (o := .cells #[.int .i8 t331, .int .i8 t332, .int .i8 t333] 26 (0, 0)) (by (with_reducible repeat (first | refine blk_drewN ?_ _ | refine blk_drew ?_ | refine blk_alloc ?_ _)); exact BK335.out) hb); have n5_ := Aside0.mk (below_step (by repeat (first | (with_reducible first | exact HB.out | apply below_alloc | apply pw_below_drewN | apply below_drew1 | refine below_set ?_ GE316.out | refine below_set ?_ GE324.out | refine below_set ?_ GE330.out | refine below_set ?_ GE335.out) | exact HB.out)) hb); clear HO_24; clear BK316; clear BK324; clear BK330; clear BK335; clear HB; have HO_24 := n0_; have BK316 := n1_; have BK324 := n2_; have BK330 := n3_; have BK335 := n4_; have HB := n5_; clear n0_ n1_ n2_ n3_ n4_ n5_; (try clear hb); (try clear hb2); (try clear hk); (try clear hi)) | (go_at_call 15; (with_reducible refine (spec_P6Pick.calls _ _ l0 4 t374 _ ?side1 ?side2 A147.out).mono ?_); (case side1 => repeat (first | exact (Kd.C_below HR0.out HB.out) | (with_reducible refine Kd.C_alloc ?_ _) | (with_reducible refine Kd.C_drewN ?_ _) | (with_reducible refine Kd.C_drew ?_))); (case side2 => exact HC0.out); rintro e w153 ⟨rfl, hb⟩; have n0_ := Aside0.mk (Kd.R_below (by (with_reducible repeat (first | apply Kd.R_alloc | apply Kd.R_drewN | apply Kd.R_drew)); exact HO_24.out) hb); have n1_ := Aside0.mk (blk_below (g := gb316) (o := .cells #[.int .i8 t313, .int .i8 t314, .int .i8 t315] 26 (0, 0)) (by (with_reducible repeat (first | refine blk_drewN ?_ _ | refine blk_drew ?_ | refine blk_alloc ?_ _)); exact BK316.out) hb); have n2_ := Aside0.mk (blk_below (g := gb324) (o := .cells #[.int .i8 t320, .int .i8 t321, .int .i8 t322] 26 (0, 0)) (by (with_reducible repeat (first | refine blk_drewN ?_ _ | refine blk_drew ?_ | refine blk_alloc ?_ _)); exact BK324.out) hb); have n3_ := Aside0.mk (blk_below (g := gb330) (o := .cells #[.int .i8 t326, .int .i8 t327, .int .i8 t328] 26 (0, 0)) (by (with_reducible repeat (first | refine blk_drewN ?_ _ | refine blk_drew ?_ | refine blk_alloc ?_ _)); exact BK330.out) hb); have n4_ := Aside0.mk (blk_below (g := gb335) (o := .cells #[.int .i8 t331, .int .i8 t332, .int .i8 t333] 26 (0, 0)) (by (with_reducible repeat (first | refine blk_drewN ?_ _ | refine blk_drew ?_ | refine blk_alloc ?_ _)); exact BK335.out) hb); have n5_ := Aside0.mk (below_step (by repeat (first | (with_reducible first | exact HB.out | apply below_alloc | apply pw_below_drewN | apply below_drew1 | refine below_set ?_ GE316.out | refine below_set ?_ GE324.out | refine below_set ?_ GE330.out | refine below_set ?_ GE335.out) | exact HB.out)) hb); clear HO_24; clear BK316; clear BK324; clear BK330; clear BK335; clear HB; have HO_24 := n0_; have BK316 := n1_; have BK324 := n2_; have BK330 := n3_; have BK335 := n4_; have HB := n5_; clear n0_ n1_ n2_ n3_ n4_ n5_; (try clear hb); (try clear hb2); (try clear hk); (try clear hi); have hnb154 := NB316_324.out; have hnc154 := NB324_316.out; have hnb155 := NB316_330.out; have hnc155 := NB330_316.out; have hnb156 := NB316_335.out; have hnc156 := NB335_316.out; have hcz157_0 : w153.cell? ⟨gb316, 0, none⟩ = some (.int .i8 t313) := (blk_cell BK316.out 0).trans rfl; have hcz157_1 : w153.cell? ⟨gb316, 1, none⟩ = some (.int .i8 t314) := (blk_cell BK316.out 1).trans rfl; have hcz157_2 : w153.cell? ⟨gb316, 2, none⟩ = some (.int .i8 t315) := (blk_cell BK316.out 2).trans rfl; have hfz157_0 := blk_frozen BK316.out 0; have hfz157_1 := blk_frozen BK316.out 1; have hfz157_2 := blk_frozen BK316.out 2) | (go_at_call 25; (with_reducible refine (impl_BracketOf.calls k5 t313 t314 t315 t373 (wrap64 (1 + t374)) t375 t378 _ A148.out).mono ?_); rintro e w158 ⟨v376, rfl, ho0, hb⟩; have n0_ := Aside0.mk (Kd.R_elder' (by (with_reducible repeat (first | apply Kd.R_alloc | apply Kd.R_drewN | apply Kd.R_drew)); exact HO_24.out) (Kd.R_base ho0) hb); have n1_ := Aside0.mk (Kd.R_lower (Kd.R_newB (Kd.R_newB (Kd.R_newB (Kd.R_newB (Kd.R_new' ho0 (Kd.R_lt (by (with_reducible repeat (first | apply Kd.R_alloc | apply Kd.R_drewN | apply Kd.R_drew)); exact HO_24.out))) (g := gb316) (o := .cells #[.int .i8 t313, .int .i8 t314, .int .i8 t315] 26 (0, 0)) (by (with_reducible repeat (first | refine blk_drewN ?_ _ | refine blk_drew ?_ | refine blk_alloc ?_ _)); exact BK316.out)) (g := gb324) (o := .cells #[.int .i8 t320, .int .i8 t321, .int .i8 t322] 26 (0, 0)) (by (with_reducible repeat (first | refine blk_drewN ?_ _ | refine blk_drew ?_ | refine blk_alloc ?_ _)); exact BK324.out)) (g := gb330) (o := .cells #[.int .i8 t326, .int .i8 t327, .int .i8 t328] 26 (0, 0)) (by (with_reducible repeat (first | refine blk_drewN ?_ _ | refine blk_drew ?_ | refine blk_alloc ?_ _)); exact BK330.out)) (g := gb335) (o := .cells #[.int .i8 t331, .int .i8 t332, .int .i8 t333] 26 (0, 0)) (by (with_reducible repeat (first | refine blk_drewN ?_ _ | refine blk_drew ?_ | refine blk_alloc ?_ _)); exact BK335.out)) (below_size (by repeat (first | (with_reducible first | exact HB.out | apply below_alloc | apply pw_below_drewN | apply below_drew1 | refine below_set ?_ GE316.out | refine below_set ?_ GE324.out | refine below_set ?_ GE330.out | refine below_set ?_ GE335.out) | exact HB.out)))); have n2_ := Aside0.mk (blk_below (g := gb316) (o := .cells #[.int .i8 t313, .int .i8 t314, .int .i8 t315] 26 (0, 0)) (by (with_reducible repeat (first | refine blk_drewN ?_ _ | refine blk_drew ?_ | refine blk_alloc ?_ _)); exact BK316.out) hb); have n3_ := Aside0.mk (blk_below (g := gb324) (o := .cells #[.int .i8 t320, .int .i8 t321, .int .i8 t322] 26 (0, 0)) (by (with_reducible repeat (first | refine blk_drewN ?_ _ | refine blk_drew ?_ | refine blk_alloc ?_ _)); exact BK324.out) hb); have n4_ := Aside0.mk (blk_below (g := gb330) (o := .cells #[.int .i8 t326, .int .i8 t327, .int .i8 t328] 26 (0, 0)) (by (with_reducible repeat (first | refine blk_drewN ?_ _ | refine blk_drew ?_ | refine blk_alloc ?_ _)); exact BK330.out) hb); have n5_ := Aside0.mk (blk_below (g := gb335) (o := .cells #[.int .i8 t331, .int .i8 t332, .int .i8 t333] 26 (0, 0)) (by (with_reducible repeat (first | refine blk_drewN ?_ _ | refine blk_drew ?_ | refine blk_alloc ?_ _)); exact BK335.out) hb); have n6_ := Aside0.mk (below_step (by repeat (first | (with_reducible first | exact HB.out | apply below_alloc | apply pw_below_drewN | apply below_drew1 | refine below_set ?_ GE316.out | refine below_set ?_ GE324.out | refine below_set ?_ GE330.out | refine below_set ?_ GE335.out) | exact HB.out)) hb); clear HO_24; clear BK316; clear BK324; clear BK330; clear BK335; clear HB; have HO_24 := n0_; have HO377 := n1_; have BK316 := n2_; have BK324 := n3_; have BK330 := n4_; have BK335 := n5_; have HB := n6_; clear n0_ n1_ n2_ n3_ n4_ n5_ n6_; (try clear hb); (try clear hb2); (try clear hk); (try clear hi); (try clear ho0); have hcz159_0 : w158.cell? ⟨gb316, 0, none⟩ = some (.int .i8 t313) := (blk_cell BK316.out 0).trans rfl; have hcz159_1 : w158.cell? ⟨gb316, 1, none⟩ = some (.int .i8 t314) := (blk_cell BK316.out 1).trans rfl; have hcz159_2 : w158.cell? ⟨gb316, 2, none⟩ = some (.int .i8 t315) := (blk_cell BK316.out 2).trans rfl; have hfz159_0 := blk_frozen BK316.out 0; have hfz159_1 := blk_frozen BK316.out 1; have hfz159_2 := blk_frozen BK316.out 2) | (go_at_call 26; (with_reducible refine (spec_BracketOf.calls k5 t313 t314 t315 t373 (wrap64 (1 + t374)) t379 t382 _ A149.out).mono ?_); rintro e w160 ⟨v380, rfl, ho0, hb⟩; have n0_ := Aside0.mk (Kd.R_elder' (by (with_reducible repeat (first | apply Kd.R_alloc | apply Kd.R_drewN | apply Kd.R_drew)); exact HO_24.out) (Kd.R_base ho0) hb); have n1_ := Aside0.mk (Kd.R_elder' (by (with_reducible repeat (first | apply Kd.R_alloc | apply Kd.R_drewN | apply Kd.R_drew)); exact HO377.out) (Kd.R_base ho0) hb); have n2_ := Aside0.mk (Kd.R_lower (Kd.R_newB (Kd.R_newB (Kd.R_newB (Kd.R_newB (Kd.R_new' (Kd.R_new' ho0 (Kd.R_lt (by (with_reducible repeat (first | apply Kd.R_alloc | apply Kd.R_drewN | apply Kd.R_drew)); exact HO_24.out))) (Kd.R_lt (by (with_reducible repeat (first | apply Kd.R_alloc | apply Kd.R_drewN | apply Kd.R_drew)); exact HO377.out))) (g := gb316) (o := .cells #[.int .i8 t313, .int .i8 t314, .int .i8 t315] 26 (0, 0)) (by (with_reducible repeat (first | refine blk_drewN ?_ _ | refine blk_drew ?_ | refine blk_alloc ?_ _)); exact BK316.out)) (g := gb324) (o := .cells #[.int .i8 t320, .int .i8 t321, .int .i8 t322] 26 (0, 0)) (by (with_reducible repeat (first | refine blk_drewN ?_ _ | refine blk_drew ?_ | refine blk_alloc ?_ _)); exact BK324.out)) (g := gb330) (o := .cells #[.int .i8 t326, .int .i8 t327, .int .i8 t328] 26 (0, 0)) (by (with_reducible repeat (first | refine blk_drewN ?_ _ | refine blk_drew ?_ | refine blk_alloc ?_ _)); exact BK330.out)) (g := gb335) (o := .cells #[.int .i8 t331, .int .i8 t332, .int .i8 t333] 26 (0, 0)) (by (with_reducible repeat (first | refine blk_drewN ?_ _ | refine blk_drew ?_ | refine blk_alloc ?_ _)); exact BK335.out)) (below_size (by repeat (first | (with_reducible first | exact HB.out | apply below_alloc | apply pw_below_drewN | apply below_drew1 | refine below_set ?_ GE316.out | refine below_set ?_ GE324.out | refine below_set ?_ GE330.out | refine below_set ?_ GE335.out) | exact HB.out)))); have n3_ := Aside0.mk (blk_below (g := gb316) (o := .cells #[.int .i8 t313, .int .i8 t314, .int .i8 t315] 26 (0, 0)) (by (with_reducible repeat (first | refine blk_drewN ?_ _ | refine blk_drew ?_ | refine blk_alloc ?_ _)); exact BK316.out) hb); have n4_ := Aside0.mk (blk_below (g := gb324) (o := .cells #[.int .i8 t320, .int .i8 t321, .int .i8 t322] 26 (0, 0)) (by (with_reducible repeat (first | refine blk_drewN ?_ _ | refine blk_drew ?_ | refine blk_alloc ?_ _)); exact BK324.out) hb); have n5_ := Aside0.mk (blk_below (g := gb330) (o := .cells #[.int .i8 t326, .int .i8 t327, .int .i8 t328] 26 (0, 0)) (by (with_reducible repeat (first | refine blk_drewN ?_ _ | refine blk_drew ?_ | refine blk_alloc ?_ _)); exact BK330.out) hb); have n6_ := Aside0.mk (blk_below (g := gb335) (o := .cells #[.int .i8 t331, .int .i8 t332, .int .i8 t333] 26 (0, 0)) (by (with_reducible repeat (first | refine blk_drewN ?_ _ | refine blk_drew ?_ | refine blk_alloc ?_ _)); exact BK335.out) hb); have n7_ := Aside0.mk (below_step (by repeat (first | (with_reducible first | exact HB.out | apply below_alloc | apply pw_below_drewN | apply below_drew1 | refine below_set ?_ GE316.out | refine below_set ?_ GE324.out | refine below_set ?_ GE330.out | refine below_set ?_ GE335.out) | exact HB.out)) hb); clear HO_24; clear HO377; clear BK316; clear BK324; clear BK330; clear BK335; clear HB; have HO_24 := n0_; have HO377 := n1_; have HO381 := n2_; have BK316 := n3_; have BK324 := n4_; have BK330 := n5_; have BK335 := n6_; have HB := n7_; clear n0_ n1_ n2_ n3_ n4_ n5_ n6_ n7_; (try clear hb); (try clear hb2); (try clear hk); (try clear hi); (try clear ho0)) | (go_quiet (fail)))
                              (try simp only [Act.put, List.setIfInBounds_toArray, List.set_cons_zero, List.set_cons_succ])
                              go_cut [310] (fun v310 wc => ∃ (kq : Nat) (x310_149 : Bool), v310 = .bool x310_149 ∧ Aside0 (laws_FnSettings.j7 kq t317 t373 (wrap64 (1 + t374)) t378 t379 x310_149 = some r) ∧ Aside0 (kq ≤ k5) ∧ Aside0 (Kd.R k26 26 wc w.heap.size (fun k_ => k_ ≠ gb316 ∧ k_ ≠ gb324 ∧ k_ ≠ gb330 ∧ k_ ≠ gb335) v380 t379) ∧ Aside0 (wc.heap[gb316]? = some (.cells #[.int .i8 t313, .int .i8 t314, .int .i8 t315] 26 (0, 0))) ∧ Aside0 (wc.heap[gb324]? = some (.cells #[.int .i8 t320, .int .i8 t321, .int .i8 t322] 26 (0, 0))) ∧ Aside0 (wc.heap[gb330]? = some (.cells #[.int .i8 t326, .int .i8 t327, .int .i8 t328] 26 (0, 0))) ∧ Aside0 (wc.heap[gb335]? = some (.cells #[.int .i8 t331, .int .i8 t332, .int .i8 t333] 26 (0, 0))) ∧ Aside0 (Below w.heap.size w wc))
                              case first =>
                                have H := HC150.out
                                clear HC150
                                by_cases c161 : t378 = t382
                                · rw [if_pos c161] at H
                                  have c161b0 : (t378 == t382) = true := beq_iff_eq.mpr c161
                                  have c161b1 : (t378 != t382) = false := bne_eq_false_iff_eq.mpr c161
                                  clear c161
                                  (first | rw [c161b0] | (simp only [i64_w, i32_w]; rw [c161b0]) | skip)
                                  replace H := Option.bind_eq_some_iff.mp H
                                  obtain ⟨t383, A1620, H⟩ := H
                                  replace H : (laws_FnSettings.j7 k5 t317 t373 (wrap64 (1 + t374)) t378 t379 (!t383)) = some r := H
                                  have A162 := Aside0.mk A1620
                                  clear A1620
                                  have H' := Aside0.mk H
                                  clear H
                                  obtain ⟨Ao163, co163, eo163⟩ := Kd.R_slice HO377.out
                                  subst eo163
                                  obtain ⟨Ao164, co164, eo164⟩ := Kd.R_slice HO381.out
                                  subst eo164
                                  go_wp2_with (first | (go_at_call 24; (with_reducible refine (spec_SameSettings.calls k5 _ _ t375 _ _ t379 t383 _ ?side1 ?side2 ?side3 ?side4 A162.out).mono ?_); (case side1 => repeat (first | exact (Kd.R_reads' HO377.out).2.2 | (with_reducible refine Kd.C_alloc ?_ _) | (with_reducible refine Kd.C_drewN ?_ _) | (with_reducible refine Kd.C_drew ?_))); (case side2 => exact (Kd.R_reads' HO377.out).2.1); (case side3 => repeat (first | exact (Kd.R_reads' HO381.out).2.2 | (with_reducible refine Kd.C_alloc ?_ _) | (with_reducible refine Kd.C_drewN ?_ _) | (with_reducible refine Kd.C_drew ?_))); (case side4 => exact (Kd.R_reads' HO381.out).2.1); rintro e w' ⟨rfl, ⟨nd, rfl⟩⟩; (try first | exact ⟨rfl, _, World.drewN_drewN _ _ _⟩ | exact ⟨rfl, _, Eq.trans (World.drewN_drewN _ _ _) (congrArg (World.drewN _) (Nat.add_assoc _ _ _))⟩)) | (go_quiet (first | (go_at_call 24; (with_reducible refine (spec_SameSettings.calls k5 _ _ t375 _ _ t379 t383 _ ?side1 ?side2 ?side3 ?side4 A162.out).mono ?_); (case side1 => repeat (first | exact (Kd.R_reads' HO377.out).2.2 | (with_reducible refine Kd.C_alloc ?_ _) | (with_reducible refine Kd.C_drewN ?_ _) | (with_reducible refine Kd.C_drew ?_))); (case side2 => exact (Kd.R_reads' HO377.out).2.1); (case side3 => repeat (first | exact (Kd.R_reads' HO381.out).2.2 | (with_reducible refine Kd.C_alloc ?_ _) | (with_reducible refine Kd.C_drewN ?_ _) | (with_reducible refine Kd.C_drew ?_))); (case side4 => exact (Kd.R_reads' HO381.out).2.1); rintro e w' ⟨rfl, ⟨nd, rfl⟩⟩; (try first | exact ⟨rfl, _, World.drewN_drewN _ _ _⟩ | exact ⟨rfl, _, Eq.trans (World.drewN_drewN _ _ _) (congrArg (World.drewN _) (Nat.add_assoc _ _ _))⟩)))))
                                  go_meet
                                  case rel => exact ⟨_, (!t383), (by first | rfl | (simp; done) | (simp [*]; done)), H', ⟨by have := HJ2.out; have := HJ14.out; have := HJ57.out; have := HJ98.out; have := HK5.out; first | omega | exact Nat.le_refl _⟩, ⟨by (with_reducible repeat (first | apply Kd.R_alloc | apply Kd.R_drewN | apply Kd.R_drew)); exact Kd.R_mono HO381.out (fun _ hk => ⟨hk.1.1.1.2, ⟨hk.1.1.2, ⟨hk.1.2, hk.2⟩⟩⟩)⟩, ⟨by (with_reducible repeat (first | refine blk_drewN ?_ _ | refine blk_drew ?_ | refine blk_alloc ?_ _)); exact BK316.out⟩, ⟨by (with_reducible repeat (first | refine blk_drewN ?_ _ | refine blk_drew ?_ | refine blk_alloc ?_ _)); exact BK324.out⟩, ⟨by (with_reducible repeat (first | refine blk_drewN ?_ _ | refine blk_drew ?_ | refine blk_alloc ?_ _)); exact BK330.out⟩, ⟨by (with_reducible repeat (first | refine blk_drewN ?_ _ | refine blk_drew ?_ | refine blk_alloc ?_ _)); exact BK335.out⟩, ⟨by repeat (first | (with_reducible first | exact HB.out | apply below_alloc | apply pw_below_drewN | apply below_drew1 | refine below_set ?_ GE316.out | refine below_set ?_ GE324.out | refine below_set ?_ GE330.out | refine below_set ?_ GE335.out) | exact HB.out)⟩⟩
                                · rw [if_neg c161] at H
                                  exact absurd H (by simp)
                              case rest => as_aux_lemma =>
                                clear HC150
                                try clear c1
                                try clear c2
                                try clear p2
                                try clear c3
                                try clear p3
                                try clear q3
                                try clear hx3
                                try clear c4
                                try clear c5
                                try clear c6
                                try clear p6
                                try clear c7
                                try clear c8
                                try clear c9
                                try clear c10
                                try clear c11
                                try clear c12
                                try clear c13
                                try clear c14
                                try clear c15
                                try clear c16
                                try clear c24
                                try clear c30
                                try clear c31
                                try clear c36
                                try clear p36
                                try clear q36
                                try clear hx36
                                try clear c37
                                try clear p37
                                try clear q37
                                try clear hx37
                                try clear c38
                                try clear c40
                                try clear c40b0
                                try clear c40b1
                                try clear c41
                                try clear c41b0
                                try clear c41b1
                                try clear c42
                                try clear c42b0
                                try clear c44
                                try clear c45
                                try clear c45b0
                                try clear c45b1
                                try clear c46
                                try clear c47
                                try clear c48
                                try clear c50
                                try clear c51
                                try clear c54
                                try clear c57
                                try clear c59
                                try clear c59b0
                                try clear c59b1
                                try clear c64
                                try clear p64
                                try clear c65
                                try clear c66
                                try clear c72
                                try clear c73
                                try clear c74
                                try clear c75
                                try clear c78
                                try clear c78b0
                                try clear c78b1
                                try clear c79
                                try clear c79b0
                                try clear c79b1
                                try clear c80
                                try clear c80b0
                                try clear c80b1
                                try clear c81
                                try clear c81b0
                                try clear c81b1
                                try clear c82
                                try clear c82b0
                                try clear c82b1
                                try clear c83
                                try clear c84
                                try clear c85
                                try clear c86
                                try clear c88
                                try clear c89
                                try clear c90
                                try clear c92
                                try clear c93
                                try clear c93b0
                                try clear c93b1
                                try clear c101
                                try clear c102
                                try clear c103
                                try clear c112
                                try clear c112b0
                                try clear c112b1
                                try clear c114
                                try clear c115
                                try clear c115b0
                                try clear c115b1
                                try clear c116
                                try clear c116b0
                                try clear c116b1
                                try clear c118
                                try clear c119
                                try clear c119b0
                                try clear c119b1
                                try clear c119b2
                                try clear c120
                                try clear c120b0
                                try clear c120b1
                                try clear c130
                                try clear c131
                                try clear c131b0
                                try clear c132
                                try clear c132b0
                                try clear c137
                                try clear c137b0
                                try clear c137b1
                                try clear c138
                                try clear c138b0
                                try clear c138b1
                                try clear c139
                                try clear c139b0
                                try clear c139b1
                                try clear c140
                                try clear c140b0
                                try clear c140b1
                                try clear c141
                                try clear c141b0
                                try clear c143
                                try clear c143b0
                                try clear c144
                                try clear c144b0
                                try clear c145
                                try clear c154
                                try clear c155
                                try clear c156
                                try clear c161
                                try clear c161b0
                                try clear c161b1
                                try clear hcz104_0
                                try clear hcz104_1
                                try clear hcz104_2
                                try clear hcz106_0
                                try clear hcz106_1
                                try clear hcz106_2
                                try clear hcz108_0
                                try clear hcz108_1
                                try clear hcz108_2
                                try clear hcz110_0
                                try clear hcz110_1
                                try clear hcz110_2
                                try clear hcz157_0
                                try clear hcz157_1
                                try clear hcz157_2
                                try clear hcz159_0
                                try clear hcz159_1
                                try clear hcz159_2
                                try clear hcz18_0
                                try clear hcz18_1
                                try clear hcz18_2
                                try clear hcz20_0
                                try clear hcz20_1
                                try clear hcz20_2
                                try clear hcz25_0
                                try clear hcz25_1
                                try clear hcz25_2
                                try clear hcz27_0
                                try clear hcz27_1
                                try clear hcz27_2
                                try clear hcz32_0
                                try clear hcz32_1
                                try clear hcz32_2
                                try clear hcz33_0
                                try clear hcz33_1
                                try clear hcz33_2
                                try clear hcz39_0
                                try clear hcz39_1
                                try clear hcz39_2
                                try clear hcz49_0
                                try clear hcz49_1
                                try clear hcz49_2
                                try clear hcz52_0
                                try clear hcz52_1
                                try clear hcz52_2
                                try clear hcz55_0
                                try clear hcz55_1
                                try clear hcz55_2
                                try clear hcz56_0
                                try clear hcz56_1
                                try clear hcz56_2
                                try clear hcz67_0
                                try clear hcz67_1
                                try clear hcz67_2
                                try clear hcz69_0
                                try clear hcz69_1
                                try clear hcz69_2
                                try clear hcz76_0
                                try clear hcz76_1
                                try clear hcz76_2
                                try clear hcz87_0
                                try clear hcz87_1
                                try clear hcz87_2
                                try clear hcz91_0
                                try clear hcz91_1
                                try clear hcz91_2
                                try clear hfz104_0
                                try clear hfz104_1
                                try clear hfz104_2
                                try clear hfz106_0
                                try clear hfz106_1
                                try clear hfz106_2
                                try clear hfz108_0
                                try clear hfz108_1
                                try clear hfz108_2
                                try clear hfz110_0
                                try clear hfz110_1
                                try clear hfz110_2
                                try clear hfz157_0
                                try clear hfz157_1
                                try clear hfz157_2
                                try clear hfz159_0
                                try clear hfz159_1
                                try clear hfz159_2
                                try clear hfz18_0
                                try clear hfz18_1
                                try clear hfz18_2
                                try clear hfz20_0
                                try clear hfz20_1
                                try clear hfz20_2
                                try clear hfz25_0
                                try clear hfz25_1
                                try clear hfz25_2
                                try clear hfz27_0
                                try clear hfz27_1
                                try clear hfz27_2
                                try clear hfz32_0
                                try clear hfz32_1
                                try clear hfz32_2
                                try clear hfz33_0
                                try clear hfz33_1
                                try clear hfz33_2
                                try clear hfz39_0
                                try clear hfz39_1
                                try clear hfz39_2
                                try clear hfz49_0
                                try clear hfz49_1
                                try clear hfz49_2
                                try clear hfz52_0
                                try clear hfz52_1
                                try clear hfz52_2
                                try clear hfz55_0
                                try clear hfz55_1
                                try clear hfz55_2
                                try clear hfz56_0
                                try clear hfz56_1
                                try clear hfz56_2
                                try clear hfz67_0
                                try clear hfz67_1
                                try clear hfz67_2
                                try clear hfz69_0
                                try clear hfz69_1
                                try clear hfz69_2
                                try clear hfz76_0
                                try clear hfz76_1
                                try clear hfz76_2
                                try clear hfz87_0
                                try clear hfz87_1
                                try clear hfz87_2
                                try clear hfz91_0
                                try clear hfz91_1
                                try clear hfz91_2
                                try clear hx366_0
                                try clear hx366_1
                                try clear hx366_2
                                try clear hx369_0
                                try clear hx369_1
                                try clear hx369_2
                                try clear hx370_0
                                try clear hx370_1
                                try clear hx370_2
                                try clear hx371_0
                                try clear hx371_1
                                try clear hx371_2
                                try clear hx372_0
                                try clear hx372_1
                                try clear hx372_2
                                try clear p2
                                try clear p3
                                try clear p36
                                try clear p366
                                try clear p369
                                try clear p37
                                try clear p370
                                try clear p371
                                try clear p372
                                try clear p6
                                try clear p64
                                try clear q3
                                try clear q36
                                try clear q366
                                try clear q369
                                try clear q37
                                try clear q370
                                try clear q371
                                try clear q372
                                obtain ⟨kq, x310_149, rfl, HA, HJ149, HO_37, BK316, BK324, BK330, BK335, HB⟩ := hcut
                                cases kq with
                                | zero => exact absurd HA.out (by simp [laws_FnSettings.j7])
                                | succ kj149 =>
                                  have H := HA.out
                                  clear HA
                                  simp only [laws_FnSettings.j7] at H
                                  by_cases c165 : x310_149 = true
                                  · subst c165
                                    have H1 : (none) = some r := by rw [if_pos rfl] at H; exact H
                                    clear H
                                    have H := H1
                                    clear H1
                                    exact absurd H (by simp)
                                  · replace c165 := Bool.eq_false_iff.mpr c165
                                    subst c165
                                    have H1 : (if t378 = 0 then (laws_FnSettings.l1 kj149 t317 t373 (wrap64 (1 + t374)) t379 0) else (some (t378 == 6))) = some r := by rw [if_neg (show ¬ (false = true) by decide)] at H; exact H
                                    clear H
                                    have H := H1
                                    clear H1
                                    by_cases c166 : t378 = 0
                                    · rw [if_pos c166] at H
                                      have c166b0 : (t378 == 0) = true := beq_iff_eq.mpr c166
                                      have c166b1 : (t378 != 0) = false := bne_eq_false_iff_eq.mpr c166
                                      clear c166
                                      have H' := Aside0.mk H
                                      clear H
                                      go_wp2_with (first | (go_quiet (fail)))
                                      go_loopg [39] kj149 (fun kq v39 w' => ∃ (x39_7 : Int), v39 = .int .i64 x39_7 ∧ Aside0 (laws_FnSettings.l1 kq t317 t373 (wrap64 (1 + t374)) t379 x39_7 = some r) ∧ Aside0 (kq ≤ kj149) ∧ Aside0 (Kd.R k26 26 w' w.heap.size (fun k_ => k_ ≠ gb316 ∧ k_ ≠ gb324 ∧ k_ ≠ gb330 ∧ k_ ≠ gb335) v380 t379) ∧ Aside0 (w'.heap[gb316]? = some (.cells #[.int .i8 t313, .int .i8 t314, .int .i8 t315] 26 (0, 0))) ∧ Aside0 (w'.heap[gb324]? = some (.cells #[.int .i8 t320, .int .i8 t321, .int .i8 t322] 26 (0, 0))) ∧ Aside0 (w'.heap[gb330]? = some (.cells #[.int .i8 t326, .int .i8 t327, .int .i8 t328] 26 (0, 0))) ∧ Aside0 (w'.heap[gb335]? = some (.cells #[.int .i8 t331, .int .i8 t332, .int .i8 t333] 26 (0, 0))) ∧ Aside0 (Below w.heap.size w w'))
                                      case atStart => exact ⟨(0), (by first | rfl | (simp; done) | (simp [*]; done)), H', ⟨Nat.le_refl _⟩, ⟨by (with_reducible repeat (first | apply Kd.R_alloc | apply Kd.R_drewN | apply Kd.R_drew)); exact HO_37.out⟩, ⟨by (with_reducible repeat (first | refine blk_drewN ?_ _ | refine blk_drew ?_ | refine blk_alloc ?_ _)); exact BK316.out⟩, ⟨by (with_reducible repeat (first | refine blk_drewN ?_ _ | refine blk_drew ?_ | refine blk_alloc ?_ _)); exact BK324.out⟩, ⟨by (with_reducible repeat (first | refine blk_drewN ?_ _ | refine blk_drew ?_ | refine blk_alloc ?_ _)); exact BK330.out⟩, ⟨by (with_reducible repeat (first | refine blk_drewN ?_ _ | refine blk_drew ?_ | refine blk_alloc ?_ _)); exact BK335.out⟩, ⟨by repeat (first | (with_reducible first | exact HB.out | apply below_alloc | apply pw_below_drewN | apply below_drew1 | refine below_set ?_ GE316.out | refine below_set ?_ GE324.out | refine below_set ?_ GE330.out | refine below_set ?_ GE335.out) | exact HB.out)⟩⟩
                                      case round =>
                                        clear H'
                                        try clear c1
                                        try clear c2
                                        try clear p2
                                        try clear c3
                                        try clear p3
                                        try clear q3
                                        try clear hx3
                                        try clear c4
                                        try clear c5
                                        try clear c6
                                        try clear p6
                                        try clear c7
                                        try clear c8
                                        try clear c9
                                        try clear c10
                                        try clear c11
                                        try clear c12
                                        try clear c13
                                        try clear c14
                                        try clear c15
                                        try clear c16
                                        try clear c24
                                        try clear c30
                                        try clear c31
                                        try clear c36
                                        try clear p36
                                        try clear q36
                                        try clear hx36
                                        try clear c37
                                        try clear p37
                                        try clear q37
                                        try clear hx37
                                        try clear c38
                                        try clear c40
                                        try clear c40b0
                                        try clear c40b1
                                        try clear c41
                                        try clear c41b0
                                        try clear c41b1
                                        try clear c42
                                        try clear c42b0
                                        try clear c44
                                        try clear c45
                                        try clear c45b0
                                        try clear c45b1
                                        try clear c46
                                        try clear c47
                                        try clear c48
                                        try clear c50
                                        try clear c51
                                        try clear c54
                                        try clear c57
                                        try clear c59
                                        try clear c59b0
                                        try clear c59b1
                                        try clear c64
                                        try clear p64
                                        try clear c65
                                        try clear c66
                                        try clear c72
                                        try clear c73
                                        try clear c74
                                        try clear c75
                                        try clear c78
                                        try clear c78b0
                                        try clear c78b1
                                        try clear c79
                                        try clear c79b0
                                        try clear c79b1
                                        try clear c80
                                        try clear c80b0
                                        try clear c80b1
                                        try clear c81
                                        try clear c81b0
                                        try clear c81b1
                                        try clear c82
                                        try clear c82b0
                                        try clear c82b1
                                        try clear c83
                                        try clear c84
                                        try clear c85
                                        try clear c86
                                        try clear c88
                                        try clear c89
                                        try clear c90
                                        try clear c92
                                        try clear c93
                                        try clear c93b0
                                        try clear c93b1
                                        try clear c101
                                        try clear c102
                                        try clear c103
                                        try clear c112
                                        try clear c112b0
                                        try clear c112b1
                                        try clear c114
                                        try clear c115
                                        try clear c115b0
                                        try clear c115b1
                                        try clear c116
                                        try clear c116b0
                                        try clear c116b1
                                        try clear c118
                                        try clear c119
                                        try clear c119b0
                                        try clear c119b1
                                        try clear c119b2
                                        try clear c120
                                        try clear c120b0
                                        try clear c120b1
                                        try clear c130
                                        try clear c131
                                        try clear c131b0
                                        try clear c132
                                        try clear c132b0
                                        try clear c137
                                        try clear c137b0
                                        try clear c137b1
                                        try clear c138
                                        try clear c138b0
                                        try clear c138b1
                                        try clear c139
                                        try clear c139b0
                                        try clear c139b1
                                        try clear c140
                                        try clear c140b0
                                        try clear c140b1
                                        try clear c141
                                        try clear c141b0
                                        try clear c143
                                        try clear c143b0
                                        try clear c144
                                        try clear c144b0
                                        try clear c145
                                        try clear c154
                                        try clear c155
                                        try clear c156
                                        try clear c161
                                        try clear c161b0
                                        try clear c161b1
                                        try clear c165
                                        try clear c166
                                        try clear c166b0
                                        try clear c166b1
                                        try clear hcz104_0
                                        try clear hcz104_1
                                        try clear hcz104_2
                                        try clear hcz106_0
                                        try clear hcz106_1
                                        try clear hcz106_2
                                        try clear hcz108_0
                                        try clear hcz108_1
                                        try clear hcz108_2
                                        try clear hcz110_0
                                        try clear hcz110_1
                                        try clear hcz110_2
                                        try clear hcz157_0
                                        try clear hcz157_1
                                        try clear hcz157_2
                                        try clear hcz159_0
                                        try clear hcz159_1
                                        try clear hcz159_2
                                        try clear hcz18_0
                                        try clear hcz18_1
                                        try clear hcz18_2
                                        try clear hcz20_0
                                        try clear hcz20_1
                                        try clear hcz20_2
                                        try clear hcz25_0
                                        try clear hcz25_1
                                        try clear hcz25_2
                                        try clear hcz27_0
                                        try clear hcz27_1
                                        try clear hcz27_2
                                        try clear hcz32_0
                                        try clear hcz32_1
                                        try clear hcz32_2
                                        try clear hcz33_0
                                        try clear hcz33_1
                                        try clear hcz33_2
                                        try clear hcz39_0
                                        try clear hcz39_1
                                        try clear hcz39_2
                                        try clear hcz49_0
                                        try clear hcz49_1
                                        try clear hcz49_2
                                        try clear hcz52_0
                                        try clear hcz52_1
                                        try clear hcz52_2
                                        try clear hcz55_0
                                        try clear hcz55_1
                                        try clear hcz55_2
                                        try clear hcz56_0
                                        try clear hcz56_1
                                        try clear hcz56_2
                                        try clear hcz67_0
                                        try clear hcz67_1
                                        try clear hcz67_2
                                        try clear hcz69_0
                                        try clear hcz69_1
                                        try clear hcz69_2
                                        try clear hcz76_0
                                        try clear hcz76_1
                                        try clear hcz76_2
                                        try clear hcz87_0
                                        try clear hcz87_1
                                        try clear hcz87_2
                                        try clear hcz91_0
                                        try clear hcz91_1
                                        try clear hcz91_2
                                        try clear hfz104_0
                                        try clear hfz104_1
                                        try clear hfz104_2
                                        try clear hfz106_0
                                        try clear hfz106_1
                                        try clear hfz106_2
                                        try clear hfz108_0
                                        try clear hfz108_1
                                        try clear hfz108_2
                                        try clear hfz110_0
                                        try clear hfz110_1
                                        try clear hfz110_2
                                        try clear hfz157_0
                                        try clear hfz157_1
                                        try clear hfz157_2
                                        try clear hfz159_0
                                        try clear hfz159_1
                                        try clear hfz159_2
                                        try clear hfz18_0
                                        try clear hfz18_1
                                        try clear hfz18_2
                                        try clear hfz20_0
                                        try clear hfz20_1
                                        try clear hfz20_2
                                        try clear hfz25_0
                                        try clear hfz25_1
                                        try clear hfz25_2
                                        try clear hfz27_0
                                        try clear hfz27_1
                                        try clear hfz27_2
                                        try clear hfz32_0
                                        try clear hfz32_1
                                        try clear hfz32_2
                                        try clear hfz33_0
                                        try clear hfz33_1
                                        try clear hfz33_2
                                        try clear hfz39_0
                                        try clear hfz39_1
                                        try clear hfz39_2
                                        try clear hfz49_0
                                        try clear hfz49_1
                                        try clear hfz49_2
                                        try clear hfz52_0
                                        try clear hfz52_1
                                        try clear hfz52_2
                                        try clear hfz55_0
                                        try clear hfz55_1
                                        try clear hfz55_2
                                        try clear hfz56_0
                                        try clear hfz56_1
                                        try clear hfz56_2
                                        try clear hfz67_0
                                        try clear hfz67_1
                                        try clear hfz67_2
                                        try clear hfz69_0
                                        try clear hfz69_1
                                        try clear hfz69_2
                                        try clear hfz76_0
                                        try clear hfz76_1
                                        try clear hfz76_2
                                        try clear hfz87_0
                                        try clear hfz87_1
                                        try clear hfz87_2
                                        try clear hfz91_0
                                        try clear hfz91_1
                                        try clear hfz91_2
                                        try clear hx366_0
                                        try clear hx366_1
                                        try clear hx366_2
                                        try clear hx369_0
                                        try clear hx369_1
                                        try clear hx369_2
                                        try clear hx370_0
                                        try clear hx370_1
                                        try clear hx370_2
                                        try clear hx371_0
                                        try clear hx371_1
                                        try clear hx371_2
                                        try clear hx372_0
                                        try clear hx372_1
                                        try clear hx372_2
                                        try clear p2
                                        try clear p3
                                        try clear p36
                                        try clear p366
                                        try clear p369
                                        try clear p37
                                        try clear p370
                                        try clear p371
                                        try clear p372
                                        try clear p6
                                        try clear p64
                                        try clear q3
                                        try clear q36
                                        try clear q366
                                        try clear q369
                                        try clear q37
                                        try clear q370
                                        try clear q371
                                        try clear q372
                                        obtain ⟨x39_7, rfl, HA, HK7, HO_37, BK316, BK324, BK330, BK335, HB⟩ := hrel
                                        cases gk with
                                        | zero => exact absurd HA.out (by simp [laws_FnSettings.l1])
                                        | succ k7 =>
                                          have H := HA.out
                                          clear HA
                                          simp only [laws_FnSettings.l1] at H
                                          by_cases c167 : x39_7 < (t379.length : Int)
                                          · rw [if_pos c167] at H
                                            have c167b0 : decide (x39_7 < (t379.length : Int)) = true := decide_eq_true c167
                                            clear c167
                                            by_cases c168 : 0 ≤ x39_7
                                            · rw [if_pos c168] at H
                                              have c168b0 : decide (0 ≤ x39_7) = true := decide_eq_true c168
                                              clear c168
                                              replace H := Option.bind_eq_some_iff.mp H
                                              obtain ⟨⟨t385, t386⟩, A1690, H⟩ := H
                                              replace H : (if t386 = 0 then (if t385 = (wrap64 (t317 + (wrap64 ((wrap64 (x39_7 - t373)) * (wrap64 (1 + t374)))))) then (laws_FnSettings.l1 k7 t317 t373 (wrap64 (1 + t374)) t379 (wrap64 (x39_7 + 1))) else (none)) else (none)) = some r := H
                                              have A169 := Aside0.mk A1690
                                              clear A1690
                                              by_cases c170 : t386 = 0
                                              · rw [if_pos c170] at H
                                                have c170b0 : (t386 == 0) = true := beq_iff_eq.mpr c170
                                                have c170b1 : (t386 != 0) = false := bne_eq_false_iff_eq.mpr c170
                                                clear c170
                                                by_cases c171 : t385 = (wrap64 (t317 + (wrap64 ((wrap64 (x39_7 - t373)) * (wrap64 (1 + t374))))))
                                                · rw [if_pos c171] at H
                                                  have c171b0 : (t385 == (wrap64 (t317 + (wrap64 ((wrap64 (x39_7 - t373)) * (wrap64 (1 + t374))))))) = true := beq_iff_eq.mpr c171
                                                  have c171b1 : (t385 != (wrap64 (t317 + (wrap64 ((wrap64 (x39_7 - t373)) * (wrap64 (1 + t374))))))) = false := bne_eq_false_iff_eq.mpr c171
                                                  clear c171
                                                  have H' := Aside0.mk H
                                                  clear H
                                                  obtain ⟨Ao172, co172, eo172⟩ := Kd.R_slice HO_37.out
                                                  subst eo172
                                                  have p384 : 0 ≤ (x39_7 : Int) := of_decide_eq_true (by first | (with_reducible assumption) | assumption)
                                                  have q384 : x39_7 < (t379.length : Int) := of_decide_eq_true (by first | (with_reducible assumption) | assumption)
                                                  obtain ⟨ad384, e384, hx384_0, hx384_1, hx384_2⟩ := at_T26 (Kd.R_reads' HO_37.out).2.2 x39_7 p384 q384
                                                  cases e384
                                                  replace p384 := eq_true p384
                                                  replace q384 := eq_true q384
                                                  go_wp2_with (first | (go_at_call 12; (with_reducible refine (impl_ValueOf.calls ((rd_T26 t379 x39_7).f0) ((rd_T26 t379 x39_7).f1) ((rd_T26 t379 x39_7).f2) t385 t386 _ A169.out).mono ?_); rintro e w173 ⟨rfl, hb⟩; have n0_ := Aside0.mk (Kd.R_below (by (with_reducible repeat (first | apply Kd.R_alloc | apply Kd.R_drewN | apply Kd.R_drew)); exact HO_37.out) hb); have n1_ := Aside0.mk (blk_below (g := gb316) (o := .cells #[.int .i8 t313, .int .i8 t314, .int .i8 t315] 26 (0, 0)) (by (with_reducible repeat (first | refine blk_drewN ?_ _ | refine blk_drew ?_ | refine blk_alloc ?_ _)); exact BK316.out) hb); have n2_ := Aside0.mk (blk_below (g := gb324) (o := .cells #[.int .i8 t320, .int .i8 t321, .int .i8 t322] 26 (0, 0)) (by (with_reducible repeat (first | refine blk_drewN ?_ _ | refine blk_drew ?_ | refine blk_alloc ?_ _)); exact BK324.out) hb); have n3_ := Aside0.mk (blk_below (g := gb330) (o := .cells #[.int .i8 t326, .int .i8 t327, .int .i8 t328] 26 (0, 0)) (by (with_reducible repeat (first | refine blk_drewN ?_ _ | refine blk_drew ?_ | refine blk_alloc ?_ _)); exact BK330.out) hb); have n4_ := Aside0.mk (blk_below (g := gb335) (o := .cells #[.int .i8 t331, .int .i8 t332, .int .i8 t333] 26 (0, 0)) (by (with_reducible repeat (first | refine blk_drewN ?_ _ | refine blk_drew ?_ | refine blk_alloc ?_ _)); exact BK335.out) hb); have n5_ := Aside0.mk (below_step (by repeat (first | (with_reducible first | exact HB.out | apply below_alloc | apply pw_below_drewN | apply below_drew1 | refine below_set ?_ GE316.out | refine below_set ?_ GE324.out | refine below_set ?_ GE330.out | refine below_set ?_ GE335.out) | exact HB.out)) hb); clear HO_37; clear BK316; clear BK324; clear BK330; clear BK335; clear HB; have HO_37 := n0_; have BK316 := n1_; have BK324 := n2_; have BK330 := n3_; have BK335 := n4_; have HB := n5_; clear n0_ n1_ n2_ n3_ n4_ n5_; (try clear hb); (try clear hb2); (try clear hk); (try clear hi)) | (go_quiet (fail)))
                                                  go_roundg k7
                                                  case measure => have := HJ2.out; have := HJ14.out; have := HJ57.out; have := HJ98.out; have := HK5.out; have := HJ149.out; have := HK7.out; omega
                                                  case rel => exact ⟨(wrap64 (x39_7 + 1)), (by first | rfl | (simp; done) | (simp [*]; done)), H', ⟨by have := HJ2.out; have := HJ14.out; have := HJ57.out; have := HJ98.out; have := HK5.out; have := HJ149.out; have := HK7.out; omega⟩, ⟨by (with_reducible repeat (first | apply Kd.R_alloc | apply Kd.R_drewN | apply Kd.R_drew)); exact HO_37.out⟩, ⟨by (with_reducible repeat (first | refine blk_drewN ?_ _ | refine blk_drew ?_ | refine blk_alloc ?_ _)); exact BK316.out⟩, ⟨by (with_reducible repeat (first | refine blk_drewN ?_ _ | refine blk_drew ?_ | refine blk_alloc ?_ _)); exact BK324.out⟩, ⟨by (with_reducible repeat (first | refine blk_drewN ?_ _ | refine blk_drew ?_ | refine blk_alloc ?_ _)); exact BK330.out⟩, ⟨by (with_reducible repeat (first | refine blk_drewN ?_ _ | refine blk_drew ?_ | refine blk_alloc ?_ _)); exact BK335.out⟩, ⟨by repeat (first | (with_reducible first | exact HB.out | apply below_alloc | apply pw_below_drewN | apply below_drew1 | refine below_set ?_ GE316.out | refine below_set ?_ GE324.out | refine below_set ?_ GE330.out | refine below_set ?_ GE335.out) | exact HB.out)⟩⟩
                                                · rw [if_neg c171] at H
                                                  exact absurd H (by simp)
                                              · rw [if_neg c170] at H
                                                exact absurd H (by simp)
                                            · rw [if_neg c168] at H
                                              exact absurd H (by simp)
                                          · rw [if_neg c167] at H
                                            have c167b0 : decide (x39_7 < (t379.length : Int)) = false := decide_eq_false c167
                                            clear c167
                                            obtain rfl := Option.some.inj H
                                            obtain ⟨Ao174, co174, eo174⟩ := Kd.R_slice HO_37.out
                                            subst eo174
                                            go_wp2_with (first | (go_quiet (fail)))
                                            go_ret
                                            exact ⟨by first | rfl | (simp [errW_none, errW_some] <;> rfl) | (simp [*, errW_none, errW_some] <;> rfl), by repeat (first | (with_reducible first | exact HB.out | apply below_alloc | apply pw_below_drewN | apply below_drew1 | refine below_set ?_ GE316.out | refine below_set ?_ GE324.out | refine below_set ?_ GE330.out | refine below_set ?_ GE335.out) | exact HB.out)⟩
                                    · rw [if_neg c166] at H
                                      have c166b0 : (t378 == 0) = false := beq_eq_false_iff_ne.mpr c166
                                      have c166b1 : (t378 != 0) = true := bne_iff_ne.mpr c166
                                      obtain rfl := Option.some.inj H
                                      go_wp2_with (first | (go_quiet (fail)))
                                      go_ret
                                      exact ⟨by first | rfl | (simp [errW_none, errW_some] <;> rfl) | (simp [*, errW_none, errW_some] <;> rfl), by repeat (first | (with_reducible first | exact HB.out | apply below_alloc | apply pw_below_drewN | apply below_drew1 | refine below_set ?_ GE316.out | refine below_set ?_ GE324.out | refine below_set ?_ GE330.out | refine below_set ?_ GE335.out) | exact HB.out)⟩

/-- THE ONE PURE STATEMENT of laws_FnSettings: yours. -/
def laws_FnSettings.Pure : Prop := ∀ (l0 : List Int) (l1 : List Int), l0.length ≤ maxLen → l0.length * 1 ≤ 140737488351232 → (∀ x ∈ l0, (Lit.int .u8 x).wf = true) → l1.length ≤ maxLen → l1.length * 1 ≤ 140737488351232 → (∀ x ∈ l1, (Lit.int .u8 x).wf = true) → ∃ k, laws_FnSettings.f k l0 l1 = some true
theorem laws_FnSettings.walk (P : laws_FnSettings.Pure) (a0 : Option Addr) (len0 cap0 : Nat) (z0 : List Int) (a1 : Option Addr) (len1 cap1 : Nat) (z1 : List Int) (w : World) (w0 : (a0 = none ∧ len0 = 0 ∧ cap0 = 0 ∧ z0 = []) ∨ ∃ x, a0 = some x ∧ len0 ≤ cap0 ∧ cap0 ≤ maxLen ∧ z0.length = cap0 ∧ (∀ i, i < z0.length → w.cell? (x.add i) = some (.int .u8 (z0.getD i 0))) ∧ ∀ n ∈ z0, (Lit.int .u8 n).wf = true) (y0 : len0 * 1 ≤ 140737488351232) (w1 : (a1 = none ∧ len1 = 0 ∧ cap1 = 0 ∧ z1 = []) ∨ ∃ x, a1 = some x ∧ len1 ≤ cap1 ∧ cap1 ≤ maxLen ∧ z1.length = cap1 ∧ (∀ i, i < z1.length → w.cell? (x.add i) = some (.int .u8 (z1.getD i 0))) ∧ ∀ n ∈ z1, (Lit.int .u8 n).wf = true) (y1 : len1 * 1 ≤ 140737488351232) (hg_ : GlobW w) :
    Calls Tryd.prog 3 #[.slice a0 len0 cap0, .slice a1 len1 cap1] w fun e w' => e = .returned (.bool true) ∧ Below w.heap.size w w' := by
  obtain ⟨l0, rfl, hr0, hm0, hw0, hc0⟩ := ReadsInt.ofRowC w0
  obtain ⟨l1, rfl, hr1, hm1, hw1, hc1⟩ := ReadsInt.ofRowC w1
  obtain ⟨k, h⟩ := P l0 l1 hm0 y0 hw0 hm1 y1 hw1
  refine (laws_FnSettings.calls k _ _ l0 _ _ l1 true w (Kd.C_of_reads (d := (0 : Int)) (h1 := fun _ => rfl) hr0) hc0 (Kd.C_of_reads (d := (0 : Int)) (h1 := fun _ => rfl) hr1) hc1 h hg_).mono ?_
  rintro e w' ⟨rfl, hd⟩
  exact ⟨rfl, hd⟩

end Go.Proofs.YtfhbjjkkhjijmaaDoor.PFnSettings
