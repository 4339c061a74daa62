/- Proves what functions that a law reaches come to, one contract each; no conditions beyond those that each names. Printed by a program of this session (xprint) out of the translation. -/
import Derived.Test.YtclneihcbnbmbaaPFnLongx0
import Derived.Test.YtclneihcbnbmbaaPFnLongx1
import Derived.Test.YtclneihcbnbmbaaPFnLongx3
import Derived.Test.YtclneihcbnbmbaaPFnLongx4
import Derived.Test.YtclneihcbnbmbaaPFnLongx5
import Derived.Test.YtclneihcbnbmbaaPFnLongx6
import Derived.Test.YtclneihcbnbmbaaPFnLongx7
namespace Go.Proofs.Ytclneihcbnbmbaa.PFnLong
open Go.RowKit Go.Proofs.YtclneihcbnbmbaaW.PrintWords Go.Proofs.YtclneihcbnbmbaaW.PrintLast Go.Proofs.YtclneihcbnbmbaaW.PrintMore
attribute [local go_sem] max2_int min2_int max_two min_two max_three min_three max_four min_four   -- for this text's walks alone
set_option linter.unusedVariables false
set_option linter.unusedSimpArgs false

attribute [local go_sem high] eqA41
/-! ### laws_FnLong: function 11 -/
mutual
def laws_FnLong.j0 : Nat → List Int → List Int → Bool → Option (Bool)
  | 0, _, _, _ => none
  | k + 1, x0, x1, x40 => if x40 = true then (some true) else ((spec_P6Table.f k x0).bind fun t256 => ((spec_P6Setting.f x1).bind fun bt259 => ((impl_ExtraFor.f k t256 (wrap64 (bt259.1))).bind fun bt263 => ((spec_ExtraFor.f k t256 (wrap64 (bt259.1))).bind fun bt265 => ((impl_CorrectedFor.f k t256 bt259.1 bt259.2.1 bt259.2.2).bind fun bt267 => ((spec_CorrectedFor.f k t256 bt259.1 bt259.2.1 bt259.2.2).bind fun bt272 => (if bt263.2 = bt265.2 then (if bt263.2 = 0 then (if bt263.1 = bt265.1 then (if bt265.1 < 0 then (none) else (if bt267.2.2.2 = bt272.2.2.2 then (if (!(bt267.1 == bt272.1) || (!(bt267.2.1 == bt272.2.1) || (!(bt267.2.2.1 == bt272.2.2.1)))) = true then (none) else ((impl_ValidTable.f k t256).bind fun t277 => (laws_FnLong.j1 k x1 t256 bt265.1 bt267.2.2.2 (!t277) bt259.1 bt259.2.1 bt259.2.2 bt272.1 bt272.2.1 bt272.2.2.1))) else (none))) else (none)) else (none)) else (none))))))))
def laws_FnLong.j1 : Nat → List Int → List (S68) → Int → Int → Bool → Int → Int → Int → Int → Int → Int → Option (Bool)
  | 0, _, _, _, _, _, _, _, _, _, _, _ => none
  | k + 1, x1, x5, x9, x12, x103, x263000, x263001, x263002, x277000, x277001, x277002 => if x103 = true then (none) else (if x12 = 0 then ((impl_MeteredFor.f k x5 (wrap64 (x277000))).bind fun bt278 => (if bt278.2 = 0 then (if (wrap64 (x277000)) = (wrap64 ((wrap64 (x263000)) + x9)) then (if x277001 = x263001 then ((spec_HasNumber.f k bt278.1 (wrap64 (x263000))).bind fun t282 => (laws_FnLong.j2 k x1 x5 x9 bt278.1 (!t282) x263000 x263001 x263002 x277000 x277001 x277002)) else (none)) else (none)) else (none))) else (if x12 = 6 then (if (wrap64 ((wrap64 (x263000)) + x9)) ≤ 45 then (none) else (laws_FnLong.j4 k x1 x5 x9 x263000 x263001 x263002)) else (none)))
def laws_FnLong.j4 : Nat → List Int → List (S68) → Int → Int → Int → Int → Option (Bool)
  | 0, _, _, _, _, _, _ => none
  | k + 1, x1, x5, x9, x263000, x263001, x263002 => if x263000 > 0 then ((impl_ExtraFor.f k x5 (wrap64 ((wrap64 (x263000)) - 1))).bind fun bt287 => (if bt287.2 = 0 then (if bt287.1 > x9 then (none) else (laws_FnLong.j5 k x1 x263000 x263001 x263002)) else (none))) else (laws_FnLong.j5 k x1 x263000 x263001 x263002)
def laws_FnLong.j5 : Nat → List Int → Int → Int → Int → Option (Bool)
  | 0, _, _, _, _ => none
  | k + 1, x1, x263000, x263001, x263002 => (spec_P6Pick.f x1 60).bind fun t289 => ((impl_FactorThirds.f k (wrap64 (1 + t289))).bind fun bt290 => ((spec_FactorThirds.f k (wrap64 (1 + t289))).bind fun bt292 => ((impl_TimeOf.f bt292.1).bind fun bt294 => (if bt290.2 = bt292.2 then (if bt290.2 = 0 then (if bt290.1 = bt292.1 then (if bt294.2 = 0 then (laws_FnLong.j6 k (wrap64 (1 + t289)) bt292.1 (decide (bt294.1 < (wrap64 (1000 * (wrap64 (1 + t289)))))) x263000 x263001 x263002) else (none)) else (none)) else (none)) else (none)))))
def laws_FnLong.j6 : Nat → Int → Int → Bool → Int → Int → Int → Option (Bool)
  | 0, _, _, _, _, _, _ => none
  | k + 1, x22, x25, x239, x263000, x263001, x263002 => if x239 = true then (none) else (if x25 > 0 then ((impl_TimeOf.f (wrap64 (x25 - 1))).bind fun bt296 => (if bt296.2 = 0 then (if bt296.1 ≥ (wrap64 (1000 * x22)) then (none) else (laws_FnLong.j7 k x22 x25 x263000 x263001 x263002)) else (none))) else (laws_FnLong.j7 k x22 x25 x263000 x263001 x263002))
def laws_FnLong.j7 : Nat → Int → Int → Int → Int → Int → Option (Bool)
  | 0, _, _, _, _, _ => none
  | k + 1, x22, x25, x263000, x263001, x263002 => (impl_WithFilters.f k x263000 x263001 x263002 (([x22, x22] : List Int))).bind fun bt301 => ((spec_MoreLight.f x263000 x263001 x263002 (wrap64 (2 * x25))).bind fun bt306 => (if bt301.2.2.2 = bt306.2.2.2 then (some (bt301.1 == bt306.1 && (bt301.2.1 == bt306.2.1 && (bt301.2.2.1 == bt306.2.2.1)))) else (none)))
def laws_FnLong.j2 : Nat → List Int → List (S68) → Int → List Int → Bool → Int → Int → Int → Int → Int → Int → Option (Bool)
  | 0, _, _, _, _, _, _, _, _, _, _, _ => none
  | k + 1, x1, x5, x9, x15, x141, x263000, x263001, x263002, x277000, x277001, x277002 => if x141 = true then (none) else (laws_FnLong.l0 k x1 x5 x9 x15 0 x263000 x263001 x263002 x277000 x277001 x277002)
def laws_FnLong.l0 : Nat → List Int → List (S68) → Int → List Int → Int → Int → Int → Int → Int → Int → Int → Option (Bool)
  | 0, _, _, _, _, _, _, _, _, _, _, _ => none
  | k + 1, x1, x5, x9, x15, x17, x263000, x263001, x263002, x277000, x277001, x277002 => if x17 < (x15.length : Int) then (if 0 ≤ x17 then ((spec_ExtraFor.f k x5 (rd x15 x17)).bind fun bt284 => (if bt284.2 = 0 then (if (wrap64 ((rd x15 x17) + bt284.1)) = (wrap64 (x277000)) then (laws_FnLong.l0 k x1 x5 x9 x15 (wrap64 (x17 + 1)) x263000 x263001 x263002 x277000 x277001 x277002) else (none)) else (none))) else (none)) else (laws_FnLong.j4 k x1 x5 x9 x263000 x263001 x263002)
end
def laws_FnLong.f (k : Nat) (l0 : List Int) (l1 : List Int) : Option (Bool) := (laws_f6big.f l0).bind fun t254 => (if t254 = true then (laws_FnLong.j0 k l0 l1 true) else ((laws_f6big.f l1).bind fun t255 => (laws_FnLong.j0 k l0 l1 t255)))
theorem laws_FnLong.mono_l : ∀ k, (∀ y0 y1 y2, LeO (laws_FnLong.j0 k y0 y1 y2) (laws_FnLong.j0 (k + 1) y0 y1 y2)) ∧ (∀ y0 y1 y2 y3 y4 y5 y6 y7 y8 y9 y10, LeO (laws_FnLong.j1 k y0 y1 y2 y3 y4 y5 y6 y7 y8 y9 y10) (laws_FnLong.j1 (k + 1) y0 y1 y2 y3 y4 y5 y6 y7 y8 y9 y10)) ∧ (∀ y0 y1 y2 y3 y4 y5, LeO (laws_FnLong.j4 k y0 y1 y2 y3 y4 y5) (laws_FnLong.j4 (k + 1) y0 y1 y2 y3 y4 y5)) ∧ (∀ y0 y1 y2 y3, LeO (laws_FnLong.j5 k y0 y1 y2 y3) (laws_FnLong.j5 (k + 1) y0 y1 y2 y3)) ∧ (∀ y0 y1 y2 y3 y4 y5, LeO (laws_FnLong.j6 k y0 y1 y2 y3 y4 y5) (laws_FnLong.j6 (k + 1) y0 y1 y2 y3 y4 y5)) ∧ (∀ y0 y1 y2 y3 y4, LeO (laws_FnLong.j7 k y0 y1 y2 y3 y4) (laws_FnLong.j7 (k + 1) y0 y1 y2 y3 y4)) ∧ (∀ y0 y1 y2 y3 y4 y5 y6 y7 y8 y9 y10, LeO (laws_FnLong.j2 k y0 y1 y2 y3 y4 y5 y6 y7 y8 y9 y10) (laws_FnLong.j2 (k + 1) y0 y1 y2 y3 y4 y5 y6 y7 y8 y9 y10)) ∧ (∀ y0 y1 y2 y3 y4 y5 y6 y7 y8 y9 y10, LeO (laws_FnLong.l0 k y0 y1 y2 y3 y4 y5 y6 y7 y8 y9 y10) (laws_FnLong.l0 (k + 1) y0 y1 y2 y3 y4 y5 y6 y7 y8 y9 y10))
  | 0 => ⟨fun _ _ _ r h => by simp [laws_FnLong.j0] at h, fun _ _ _ _ _ _ _ _ _ _ _ r h => by simp [laws_FnLong.j1] at h, fun _ _ _ _ _ _ r h => by simp [laws_FnLong.j4] at h, fun _ _ _ _ r h => by simp [laws_FnLong.j5] at h, fun _ _ _ _ _ _ r h => by simp [laws_FnLong.j6] at h, fun _ _ _ _ _ r h => by simp [laws_FnLong.j7] at h, fun _ _ _ _ _ _ _ _ _ _ _ r h => by simp [laws_FnLong.j2] at h, fun _ _ _ _ _ _ _ _ _ _ _ r h => by simp [laws_FnLong.l0] at h⟩
  | k + 1 => by
    obtain ⟨ih0, ih1, ih2, ih3, ih4, ih5, ih6, ih7⟩ := laws_FnLong.mono_l k
    refine ⟨?_, ?_, ?_, ?_, ?_, ?_, ?_, ?_⟩
    · intro y0 y1 y2
      unfold laws_FnLong.j0
      repeat' first
      | (with_reducible exact ih0 _ _ _)
      | (with_reducible exact ih1 _ _ _ _ _ _ _ _ _ _ _)
      | (with_reducible exact ih2 _ _ _ _ _ _)
      | (with_reducible exact ih3 _ _ _ _)
      | (with_reducible exact ih4 _ _ _ _ _ _)
      | (with_reducible exact ih5 _ _ _ _ _)
      | (with_reducible exact ih6 _ _ _ _ _ _ _ _ _ _ _)
      | (with_reducible exact ih7 _ _ _ _ _ _ _ _ _ _ _)
      | (with_reducible exact impl_CorrectedFor.mono _ _ _ _ _)
      | (with_reducible exact impl_ExtraFor.mono _ _ _)
      | (with_reducible exact impl_FactorThirds.mono _ _)
      | (with_reducible exact impl_MeteredFor.mono _ _ _)
      | (with_reducible exact impl_ValidTable.mono _ _)
      | (with_reducible exact impl_WithFilters.mono _ _ _ _ _)
      | (with_reducible exact spec_CorrectedFor.mono _ _ _ _ _)
      | (with_reducible exact spec_ExtraFor.mono _ _ _)
      | (with_reducible exact spec_FactorThirds.mono _ _)
      | (with_reducible exact spec_HasNumber.mono _ _ _)
      | (with_reducible exact spec_P6Table.mono _ _)
      | (with_reducible exact LeO.refl _)
      | (with_reducible exact LeO.none _)
      | (with_reducible refine LeO.ite ?_ ?_)
      | (with_reducible refine LeO.bind ?_ (fun _ => ?_))
      | exact ih0 _ _ _
      | exact ih1 _ _ _ _ _ _ _ _ _ _ _
      | exact ih2 _ _ _ _ _ _
      | exact ih3 _ _ _ _
      | exact ih4 _ _ _ _ _ _
      | exact ih5 _ _ _ _ _
      | exact ih6 _ _ _ _ _ _ _ _ _ _ _
      | exact ih7 _ _ _ _ _ _ _ _ _ _ _
      | exact impl_CorrectedFor.mono _ _ _ _ _
      | exact impl_ExtraFor.mono _ _ _
      | exact impl_FactorThirds.mono _ _
      | exact impl_MeteredFor.mono _ _ _
      | exact impl_ValidTable.mono _ _
      | exact impl_WithFilters.mono _ _ _ _ _
      | exact spec_CorrectedFor.mono _ _ _ _ _
      | exact spec_ExtraFor.mono _ _ _
      | exact spec_FactorThirds.mono _ _
      | exact spec_HasNumber.mono _ _ _
      | exact spec_P6Table.mono _ _
      | exact LeO.none _
      | refine LeO.ite ?_ ?_
      | refine LeO.bind ?_ (fun _ => ?_)
    · intro y0 y1 y2 y3 y4 y5 y6 y7 y8 y9 y10
      unfold laws_FnLong.j1
      repeat' first
      | (with_reducible exact ih0 _ _ _)
      | (with_reducible exact ih1 _ _ _ _ _ _ _ _ _ _ _)
      | (with_reducible exact ih2 _ _ _ _ _ _)
      | (with_reducible exact ih3 _ _ _ _)
      | (with_reducible exact ih4 _ _ _ _ _ _)
      | (with_reducible exact ih5 _ _ _ _ _)
      | (with_reducible exact ih6 _ _ _ _ _ _ _ _ _ _ _)
      | (with_reducible exact ih7 _ _ _ _ _ _ _ _ _ _ _)
      | (with_reducible exact impl_CorrectedFor.mono _ _ _ _ _)
      | (with_reducible exact impl_ExtraFor.mono _ _ _)
      | (with_reducible exact impl_FactorThirds.mono _ _)
      | (with_reducible exact impl_MeteredFor.mono _ _ _)
      | (with_reducible exact impl_ValidTable.mono _ _)
      | (with_reducible exact impl_WithFilters.mono _ _ _ _ _)
      | (with_reducible exact spec_CorrectedFor.mono _ _ _ _ _)
      | (with_reducible exact spec_ExtraFor.mono _ _ _)
      | (with_reducible exact spec_FactorThirds.mono _ _)
      | (with_reducible exact spec_HasNumber.mono _ _ _)
      | (with_reducible exact spec_P6Table.mono _ _)
      | (with_reducible exact LeO.refl _)
      | (with_reducible exact LeO.none _)
      | (with_reducible refine LeO.ite ?_ ?_)
      | (with_reducible refine LeO.bind ?_ (fun _ => ?_))
      | exact ih0 _ _ _
      | exact ih1 _ _ _ _ _ _ _ _ _ _ _
      | exact ih2 _ _ _ _ _ _
      | exact ih3 _ _ _ _
      | exact ih4 _ _ _ _ _ _
      | exact ih5 _ _ _ _ _
      | exact ih6 _ _ _ _ _ _ _ _ _ _ _
      | exact ih7 _ _ _ _ _ _ _ _ _ _ _
      | exact impl_CorrectedFor.mono _ _ _ _ _
      | exact impl_ExtraFor.mono _ _ _
      | exact impl_FactorThirds.mono _ _
      | exact impl_MeteredFor.mono _ _ _
      | exact impl_ValidTable.mono _ _
      | exact impl_WithFilters.mono _ _ _ _ _
      | exact spec_CorrectedFor.mono _ _ _ _ _
      | exact spec_ExtraFor.mono _ _ _
      | exact spec_FactorThirds.mono _ _
      | exact spec_HasNumber.mono _ _ _
      | exact spec_P6Table.mono _ _
      | exact LeO.none _
      | refine LeO.ite ?_ ?_
      | refine LeO.bind ?_ (fun _ => ?_)
    · intro y0 y1 y2 y3 y4 y5
      unfold laws_FnLong.j4
      repeat' first
      | (with_reducible exact ih0 _ _ _)
      | (with_reducible exact ih1 _ _ _ _ _ _ _ _ _ _ _)
      | (with_reducible exact ih2 _ _ _ _ _ _)
      | (with_reducible exact ih3 _ _ _ _)
      | (with_reducible exact ih4 _ _ _ _ _ _)
      | (with_reducible exact ih5 _ _ _ _ _)
      | (with_reducible exact ih6 _ _ _ _ _ _ _ _ _ _ _)
      | (with_reducible exact ih7 _ _ _ _ _ _ _ _ _ _ _)
      | (with_reducible exact impl_CorrectedFor.mono _ _ _ _ _)
      | (with_reducible exact impl_ExtraFor.mono _ _ _)
      | (with_reducible exact impl_FactorThirds.mono _ _)
      | (with_reducible exact impl_MeteredFor.mono _ _ _)
      | (with_reducible exact impl_ValidTable.mono _ _)
      | (with_reducible exact impl_WithFilters.mono _ _ _ _ _)
      | (with_reducible exact spec_CorrectedFor.mono _ _ _ _ _)
      | (with_reducible exact spec_ExtraFor.mono _ _ _)
      | (with_reducible exact spec_FactorThirds.mono _ _)
      | (with_reducible exact spec_HasNumber.mono _ _ _)
      | (with_reducible exact spec_P6Table.mono _ _)
      | (with_reducible exact LeO.refl _)
      | (with_reducible exact LeO.none _)
      | (with_reducible refine LeO.ite ?_ ?_)
      | (with_reducible refine LeO.bind ?_ (fun _ => ?_))
      | exact ih0 _ _ _
      | exact ih1 _ _ _ _ _ _ _ _ _ _ _
      | exact ih2 _ _ _ _ _ _
      | exact ih3 _ _ _ _
      | exact ih4 _ _ _ _ _ _
      | exact ih5 _ _ _ _ _
      | exact ih6 _ _ _ _ _ _ _ _ _ _ _
      | exact ih7 _ _ _ _ _ _ _ _ _ _ _
      | exact impl_CorrectedFor.mono _ _ _ _ _
      | exact impl_ExtraFor.mono _ _ _
      | exact impl_FactorThirds.mono _ _
      | exact impl_MeteredFor.mono _ _ _
      | exact impl_ValidTable.mono _ _
      | exact impl_WithFilters.mono _ _ _ _ _
      | exact spec_CorrectedFor.mono _ _ _ _ _
      | exact spec_ExtraFor.mono _ _ _
      | exact spec_FactorThirds.mono _ _
      | exact spec_HasNumber.mono _ _ _
      | exact spec_P6Table.mono _ _
      | exact LeO.none _
      | refine LeO.ite ?_ ?_
      | refine LeO.bind ?_ (fun _ => ?_)
    · intro y0 y1 y2 y3
      unfold laws_FnLong.j5
      repeat' first
      | (with_reducible exact ih0 _ _ _)
      | (with_reducible exact ih1 _ _ _ _ _ _ _ _ _ _ _)
      | (with_reducible exact ih2 _ _ _ _ _ _)
      | (with_reducible exact ih3 _ _ _ _)
      | (with_reducible exact ih4 _ _ _ _ _ _)
      | (with_reducible exact ih5 _ _ _ _ _)
      | (with_reducible exact ih6 _ _ _ _ _ _ _ _ _ _ _)
      | (with_reducible exact ih7 _ _ _ _ _ _ _ _ _ _ _)
      | (with_reducible exact impl_CorrectedFor.mono _ _ _ _ _)
      | (with_reducible exact impl_ExtraFor.mono _ _ _)
      | (with_reducible exact impl_FactorThirds.mono _ _)
      | (with_reducible exact impl_MeteredFor.mono _ _ _)
      | (with_reducible exact impl_ValidTable.mono _ _)
      | (with_reducible exact impl_WithFilters.mono _ _ _ _ _)
      | (with_reducible exact spec_CorrectedFor.mono _ _ _ _ _)
      | (with_reducible exact spec_ExtraFor.mono _ _ _)
      | (with_reducible exact spec_FactorThirds.mono _ _)
      | (with_reducible exact spec_HasNumber.mono _ _ _)
      | (with_reducible exact spec_P6Table.mono _ _)
      | (with_reducible exact LeO.refl _)
      | (with_reducible exact LeO.none _)
      | (with_reducible refine LeO.ite ?_ ?_)
      | (with_reducible refine LeO.bind ?_ (fun _ => ?_))
      | exact ih0 _ _ _
      | exact ih1 _ _ _ _ _ _ _ _ _ _ _
      | exact ih2 _ _ _ _ _ _
      | exact ih3 _ _ _ _
      | exact ih4 _ _ _ _ _ _
      | exact ih5 _ _ _ _ _
      | exact ih6 _ _ _ _ _ _ _ _ _ _ _
      | exact ih7 _ _ _ _ _ _ _ _ _ _ _
      | exact impl_CorrectedFor.mono _ _ _ _ _
      | exact impl_ExtraFor.mono _ _ _
      | exact impl_FactorThirds.mono _ _
      | exact impl_MeteredFor.mono _ _ _
      | exact impl_ValidTable.mono _ _
      | exact impl_WithFilters.mono _ _ _ _ _
      | exact spec_CorrectedFor.mono _ _ _ _ _
      | exact spec_ExtraFor.mono _ _ _
      | exact spec_FactorThirds.mono _ _
      | exact spec_HasNumber.mono _ _ _
      | exact spec_P6Table.mono _ _
      | exact LeO.none _
      | refine LeO.ite ?_ ?_
      | refine LeO.bind ?_ (fun _ => ?_)
    · intro y0 y1 y2 y3 y4 y5
      unfold laws_FnLong.j6
      repeat' first
      | (with_reducible exact ih0 _ _ _)
      | (with_reducible exact ih1 _ _ _ _ _ _ _ _ _ _ _)
      | (with_reducible exact ih2 _ _ _ _ _ _)
      | (with_reducible exact ih3 _ _ _ _)
      | (with_reducible exact ih4 _ _ _ _ _ _)
      | (with_reducible exact ih5 _ _ _ _ _)
      | (with_reducible exact ih6 _ _ _ _ _ _ _ _ _ _ _)
      | (with_reducible exact ih7 _ _ _ _ _ _ _ _ _ _ _)
      | (with_reducible exact impl_CorrectedFor.mono _ _ _ _ _)
      | (with_reducible exact impl_ExtraFor.mono _ _ _)
      | (with_reducible exact impl_FactorThirds.mono _ _)
      | (with_reducible exact impl_MeteredFor.mono _ _ _)
      | (with_reducible exact impl_ValidTable.mono _ _)
      | (with_reducible exact impl_WithFilters.mono _ _ _ _ _)
      | (with_reducible exact spec_CorrectedFor.mono _ _ _ _ _)
      | (with_reducible exact spec_ExtraFor.mono _ _ _)
      | (with_reducible exact spec_FactorThirds.mono _ _)
      | (with_reducible exact spec_HasNumber.mono _ _ _)
      | (with_reducible exact spec_P6Table.mono _ _)
      | (with_reducible exact LeO.refl _)
      | (with_reducible exact LeO.none _)
      | (with_reducible refine LeO.ite ?_ ?_)
      | (with_reducible refine LeO.bind ?_ (fun _ => ?_))
      | exact ih0 _ _ _
      | exact ih1 _ _ _ _ _ _ _ _ _ _ _
      | exact ih2 _ _ _ _ _ _
      | exact ih3 _ _ _ _
      | exact ih4 _ _ _ _ _ _
      | exact ih5 _ _ _ _ _
      | exact ih6 _ _ _ _ _ _ _ _ _ _ _
      | exact ih7 _ _ _ _ _ _ _ _ _ _ _
      | exact impl_CorrectedFor.mono _ _ _ _ _
      | exact impl_ExtraFor.mono _ _ _
      | exact impl_FactorThirds.mono _ _
      | exact impl_MeteredFor.mono _ _ _
      | exact impl_ValidTable.mono _ _
      | exact impl_WithFilters.mono _ _ _ _ _
      | exact spec_CorrectedFor.mono _ _ _ _ _
      | exact spec_ExtraFor.mono _ _ _
      | exact spec_FactorThirds.mono _ _
      | exact spec_HasNumber.mono _ _ _
      | exact spec_P6Table.mono _ _
      | exact LeO.none _
      | refine LeO.ite ?_ ?_
      | refine LeO.bind ?_ (fun _ => ?_)
    · intro y0 y1 y2 y3 y4
      unfold laws_FnLong.j7
      repeat' first
      | (with_reducible exact ih0 _ _ _)
      | (with_reducible exact ih1 _ _ _ _ _ _ _ _ _ _ _)
      | (with_reducible exact ih2 _ _ _ _ _ _)
      | (with_reducible exact ih3 _ _ _ _)
      | (with_reducible exact ih4 _ _ _ _ _ _)
      | (with_reducible exact ih5 _ _ _ _ _)
      | (with_reducible exact ih6 _ _ _ _ _ _ _ _ _ _ _)
      | (with_reducible exact ih7 _ _ _ _ _ _ _ _ _ _ _)
      | (with_reducible exact impl_CorrectedFor.mono _ _ _ _ _)
      | (with_reducible exact impl_ExtraFor.mono _ _ _)
      | (with_reducible exact impl_FactorThirds.mono _ _)
      | (with_reducible exact impl_MeteredFor.mono _ _ _)
      | (with_reducible exact impl_ValidTable.mono _ _)
      | (with_reducible exact impl_WithFilters.mono _ _ _ _ _)
      | (with_reducible exact spec_CorrectedFor.mono _ _ _ _ _)
      | (with_reducible exact spec_ExtraFor.mono _ _ _)
      | (with_reducible exact spec_FactorThirds.mono _ _)
      | (with_reducible exact spec_HasNumber.mono _ _ _)
      | (with_reducible exact spec_P6Table.mono _ _)
      | (with_reducible exact LeO.refl _)
      | (with_reducible exact LeO.none _)
      | (with_reducible refine LeO.ite ?_ ?_)
      | (with_reducible refine LeO.bind ?_ (fun _ => ?_))
      | exact ih0 _ _ _
      | exact ih1 _ _ _ _ _ _ _ _ _ _ _
      | exact ih2 _ _ _ _ _ _
      | exact ih3 _ _ _ _
      | exact ih4 _ _ _ _ _ _
      | exact ih5 _ _ _ _ _
      | exact ih6 _ _ _ _ _ _ _ _ _ _ _
      | exact ih7 _ _ _ _ _ _ _ _ _ _ _
      | exact impl_CorrectedFor.mono _ _ _ _ _
      | exact impl_ExtraFor.mono _ _ _
      | exact impl_FactorThirds.mono _ _
      | exact impl_MeteredFor.mono _ _ _
      | exact impl_ValidTable.mono _ _
      | exact impl_WithFilters.mono _ _ _ _ _
      | exact spec_CorrectedFor.mono _ _ _ _ _
      | exact spec_ExtraFor.mono _ _ _
      | exact spec_FactorThirds.mono _ _
      | exact spec_HasNumber.mono _ _ _
      | exact spec_P6Table.mono _ _
      | exact LeO.none _
      | refine LeO.ite ?_ ?_
      | refine LeO.bind ?_ (fun _ => ?_)
    · intro y0 y1 y2 y3 y4 y5 y6 y7 y8 y9 y10
      unfold laws_FnLong.j2
      repeat' first
      | (with_reducible exact ih0 _ _ _)
      | (with_reducible exact ih1 _ _ _ _ _ _ _ _ _ _ _)
      | (with_reducible exact ih2 _ _ _ _ _ _)
      | (with_reducible exact ih3 _ _ _ _)
      | (with_reducible exact ih4 _ _ _ _ _ _)
      | (with_reducible exact ih5 _ _ _ _ _)
      | (with_reducible exact ih6 _ _ _ _ _ _ _ _ _ _ _)
      | (with_reducible exact ih7 _ _ _ _ _ _ _ _ _ _ _)
      | (with_reducible exact impl_CorrectedFor.mono _ _ _ _ _)
      | (with_reducible exact impl_ExtraFor.mono _ _ _)
      | (with_reducible exact impl_FactorThirds.mono _ _)
      | (with_reducible exact impl_MeteredFor.mono _ _ _)
      | (with_reducible exact impl_ValidTable.mono _ _)
      | (with_reducible exact impl_WithFilters.mono _ _ _ _ _)
      | (with_reducible exact spec_CorrectedFor.mono _ _ _ _ _)
      | (with_reducible exact spec_ExtraFor.mono _ _ _)
      | (with_reducible exact spec_FactorThirds.mono _ _)
      | (with_reducible exact spec_HasNumber.mono _ _ _)
      | (with_reducible exact spec_P6Table.mono _ _)
      | (with_reducible exact LeO.refl _)
      | (with_reducible exact LeO.none _)
      | (with_reducible refine LeO.ite ?_ ?_)
      | (with_reducible refine LeO.bind ?_ (fun _ => ?_))
      | exact ih0 _ _ _
      | exact ih1 _ _ _ _ _ _ _ _ _ _ _
      | exact ih2 _ _ _ _ _ _
      | exact ih3 _ _ _ _
      | exact ih4 _ _ _ _ _ _
      | exact ih5 _ _ _ _ _
      | exact ih6 _ _ _ _ _ _ _ _ _ _ _
      | exact ih7 _ _ _ _ _ _ _ _ _ _ _
      | exact impl_CorrectedFor.mono _ _ _ _ _
      | exact impl_ExtraFor.mono _ _ _
      | exact impl_FactorThirds.mono _ _
      | exact impl_MeteredFor.mono _ _ _
      | exact impl_ValidTable.mono _ _
      | exact impl_WithFilters.mono _ _ _ _ _
      | exact spec_CorrectedFor.mono _ _ _ _ _
      | exact spec_ExtraFor.mono _ _ _
      | exact spec_FactorThirds.mono _ _
      | exact spec_HasNumber.mono _ _ _
      | exact spec_P6Table.mono _ _
      | exact LeO.none _
      | refine LeO.ite ?_ ?_
      | refine LeO.bind ?_ (fun _ => ?_)
    · intro y0 y1 y2 y3 y4 y5 y6 y7 y8 y9 y10
      unfold laws_FnLong.l0
      repeat' first
      | (with_reducible exact ih0 _ _ _)
      | (with_reducible exact ih1 _ _ _ _ _ _ _ _ _ _ _)
      | (with_reducible exact ih2 _ _ _ _ _ _)
      | (with_reducible exact ih3 _ _ _ _)
      | (with_reducible exact ih4 _ _ _ _ _ _)
      | (with_reducible exact ih5 _ _ _ _ _)
      | (with_reducible exact ih6 _ _ _ _ _ _ _ _ _ _ _)
      | (with_reducible exact ih7 _ _ _ _ _ _ _ _ _ _ _)
      | (with_reducible exact impl_CorrectedFor.mono _ _ _ _ _)
      | (with_reducible exact impl_ExtraFor.mono _ _ _)
      | (with_reducible exact impl_FactorThirds.mono _ _)
      | (with_reducible exact impl_MeteredFor.mono _ _ _)
      | (with_reducible exact impl_ValidTable.mono _ _)
      | (with_reducible exact impl_WithFilters.mono _ _ _ _ _)
      | (with_reducible exact spec_CorrectedFor.mono _ _ _ _ _)
      | (with_reducible exact spec_ExtraFor.mono _ _ _)
      | (with_reducible exact spec_FactorThirds.mono _ _)
      | (with_reducible exact spec_HasNumber.mono _ _ _)
      | (with_reducible exact spec_P6Table.mono _ _)
      | (with_reducible exact LeO.refl _)
      | (with_reducible exact LeO.none _)
      | (with_reducible refine LeO.ite ?_ ?_)
      | (with_reducible refine LeO.bind ?_ (fun _ => ?_))
      | exact ih0 _ _ _
      | exact ih1 _ _ _ _ _ _ _ _ _ _ _
      | exact ih2 _ _ _ _ _ _
      | exact ih3 _ _ _ _
      | exact ih4 _ _ _ _ _ _
      | exact ih5 _ _ _ _ _
      | exact ih6 _ _ _ _ _ _ _ _ _ _ _
      | exact ih7 _ _ _ _ _ _ _ _ _ _ _
      | exact impl_CorrectedFor.mono _ _ _ _ _
      | exact impl_ExtraFor.mono _ _ _
      | exact impl_FactorThirds.mono _ _
      | exact impl_MeteredFor.mono _ _ _
      | exact impl_ValidTable.mono _ _
      | exact impl_WithFilters.mono _ _ _ _ _
      | exact spec_CorrectedFor.mono _ _ _ _ _
      | exact spec_ExtraFor.mono _ _ _
      | exact spec_FactorThirds.mono _ _
      | exact spec_HasNumber.mono _ _ _
      | exact spec_P6Table.mono _ _
      | exact LeO.none _
      | refine LeO.ite ?_ ?_
      | refine LeO.bind ?_ (fun _ => ?_)
theorem laws_FnLong.mono : ∀ a0 a1 k, LeO (laws_FnLong.f k a0 a1) (laws_FnLong.f (k + 1) a0 a1) := by
  intro a0 a1 k
  obtain ⟨ih0, ih1, ih2, ih3, ih4, ih5, ih6, ih7⟩ := laws_FnLong.mono_l k
  unfold laws_FnLong.f
  repeat' first
      | (with_reducible exact ih0 _ _ _)
      | (with_reducible exact ih1 _ _ _ _ _ _ _ _ _ _ _)
      | (with_reducible exact ih2 _ _ _ _ _ _)
      | (with_reducible exact ih3 _ _ _ _)
      | (with_reducible exact ih4 _ _ _ _ _ _)
      | (with_reducible exact ih5 _ _ _ _ _)
      | (with_reducible exact ih6 _ _ _ _ _ _ _ _ _ _ _)
      | (with_reducible exact ih7 _ _ _ _ _ _ _ _ _ _ _)
      | (with_reducible exact impl_CorrectedFor.mono _ _ _ _ _)
      | (with_reducible exact impl_ExtraFor.mono _ _ _)
      | (with_reducible exact impl_FactorThirds.mono _ _)
      | (with_reducible exact impl_MeteredFor.mono _ _ _)
      | (with_reducible exact impl_ValidTable.mono _ _)
      | (with_reducible exact impl_WithFilters.mono _ _ _ _ _)
      | (with_reducible exact spec_CorrectedFor.mono _ _ _ _ _)
      | (with_reducible exact spec_ExtraFor.mono _ _ _)
      | (with_reducible exact spec_FactorThirds.mono _ _)
      | (with_reducible exact spec_HasNumber.mono _ _ _)
      | (with_reducible exact spec_P6Table.mono _ _)
      | (with_reducible exact LeO.refl _)
      | (with_reducible exact LeO.none _)
      | (with_reducible refine LeO.ite ?_ ?_)
      | (with_reducible refine LeO.bind ?_ (fun _ => ?_))
      | exact ih0 _ _ _
      | exact ih1 _ _ _ _ _ _ _ _ _ _ _
      | exact ih2 _ _ _ _ _ _
      | exact ih3 _ _ _ _
      | exact ih4 _ _ _ _ _ _
      | exact ih5 _ _ _ _ _
      | exact ih6 _ _ _ _ _ _ _ _ _ _ _
      | exact ih7 _ _ _ _ _ _ _ _ _ _ _
      | exact impl_CorrectedFor.mono _ _ _ _ _
      | exact impl_ExtraFor.mono _ _ _
      | exact impl_FactorThirds.mono _ _
      | exact impl_MeteredFor.mono _ _ _
      | exact impl_ValidTable.mono _ _
      | exact impl_WithFilters.mono _ _ _ _ _
      | exact spec_CorrectedFor.mono _ _ _ _ _
      | exact spec_ExtraFor.mono _ _ _
      | exact spec_FactorThirds.mono _ _
      | exact spec_HasNumber.mono _ _ _
      | exact spec_P6Table.mono _ _
      | exact LeO.none _
      | refine LeO.ite ?_ ?_
      | refine LeO.bind ?_ (fun _ => ?_)
set_option maxHeartbeats 8000000 in
set_option maxRecDepth 100000 in
theorem laws_FnLong.calls (k : Nat) (A0 : Option Addr) (c0 : Nat) (l0 : List Int) (A1 : Option Addr) (c1 : Nat) (l1 : List Int) (r : Bool) (w : World) (hr0 : Kd.C (Kd.int .u8) w A0 l0.length l0) (hc0 : l0.length ≤ c0) (hr1 : Kd.C (Kd.int .u8) w A1 l1.length l1) (hc1 : l1.length ≤ c1) (h : laws_FnLong.f k l0 l1 = some r) :
    Calls Try.prog 11 #[.slice A0 l0.length c0, .slice A1 l1.length c1] w fun e w' => e = .returned (.bool r) ∧ Below w.heap.size w w' := by
  have hu41 := Try.underlying41
  have HR0 := Aside0.mk hr0
  have HC0 := Aside0.mk hc0
  clear hr0 hc0
  have HR1 := Aside0.mk hr1
  have HC1 := Aside0.mk hc1
  clear hr1 hc1
  have HB := Aside0.mk (Below.refl w.heap.size w)
  have H : ((laws_f6big.f l0).bind fun t254 => (if t254 = true then (laws_FnLong.j0 k l0 l1 true) else ((laws_f6big.f l1).bind fun t255 => (laws_FnLong.j0 k l0 l1 t255)))) = some r := h
  clear h
  have HC3 := Aside0.mk H
  clear H
  go_enter Try.func11, Try.ntmps11
  go_upto_region 1 with (fail)
  repeat (go_quiet (fail); go_upto_region 1 with (fail))
  go_cut [40] (fun v40 wc => ∃ (kq : Nat) (x40_2 : Bool), v40 = .bool x40_2 ∧ Aside0 (laws_FnLong.j0 kq l0 l1 x40_2 = some r) ∧ Aside0 (kq ≤ k) ∧ Aside0 (Below w.heap.size w wc))
  case first =>
    have H := HC3.out
    clear HC3
    replace H := Option.bind_eq_some_iff.mp H
    obtain ⟨t254, A40, H⟩ := H
    replace H : (if t254 = true then (laws_FnLong.j0 k l0 l1 true) else ((laws_f6big.f l1).bind fun t255 => (laws_FnLong.j0 k l0 l1 t255))) = some r := H
    have A4 := Aside0.mk A40
    clear A40
    by_cases c5 : t254 = true
    · subst c5
      have H1 : (laws_FnLong.j0 k l0 l1 true) = some r := by rw [if_pos rfl] at H; exact H
      clear H
      have H := H1
      clear H1
      have H' := Aside0.mk H
      clear H
      go_wp2_with (first | (go_at_call 41; (with_reducible refine (laws_f6big.calls _ _ l0 true _ ?side1 ?side2 A4.out).mono ?_); (case side1 => repeat (first | exact (Kd.C_below HR0.out HB.out) | (with_reducible refine Kd.C_alloc ?_ _) | (with_reducible refine Kd.C_drewN ?_ _) | (with_reducible refine Kd.C_drew ?_))); (case side2 => exact HC0.out); rintro e w' ⟨rfl, ⟨nd, rfl⟩⟩; (try first | exact ⟨rfl, _, World.drewN_drewN _ _ _⟩ | exact ⟨rfl, _, Eq.trans (World.drewN_drewN _ _ _) (congrArg (World.drewN _) (Nat.add_assoc _ _ _))⟩)))
      repeat (go_quiet (first | (go_at_call 41; (with_reducible refine (laws_f6big.calls _ _ l0 true _ ?side1 ?side2 A4.out).mono ?_); (case side1 => repeat (first | exact (Kd.C_below HR0.out HB.out) | (with_reducible refine Kd.C_alloc ?_ _) | (with_reducible refine Kd.C_drewN ?_ _) | (with_reducible refine Kd.C_drew ?_))); (case side2 => exact HC0.out); rintro e w' ⟨rfl, ⟨nd, rfl⟩⟩; (try first | exact ⟨rfl, _, World.drewN_drewN _ _ _⟩ | exact ⟨rfl, _, Eq.trans (World.drewN_drewN _ _ _) (congrArg (World.drewN _) (Nat.add_assoc _ _ _))⟩))); try go_wp2_with (first | (go_at_call 41; (with_reducible refine (laws_f6big.calls _ _ l0 true _ ?side1 ?side2 A4.out).mono ?_); (case side1 => repeat (first | exact (Kd.C_below HR0.out HB.out) | (with_reducible refine Kd.C_alloc ?_ _) | (with_reducible refine Kd.C_drewN ?_ _) | (with_reducible refine Kd.C_drew ?_))); (case side2 => exact HC0.out); rintro e w' ⟨rfl, ⟨nd, rfl⟩⟩; (try first | exact ⟨rfl, _, World.drewN_drewN _ _ _⟩ | exact ⟨rfl, _, Eq.trans (World.drewN_drewN _ _ _) (congrArg (World.drewN _) (Nat.add_assoc _ _ _))⟩))))
      go_meet
      case rel => exact ⟨_, (true), (by first | rfl | (simp; done) | (simp [*]; done)), H', ⟨by first | omega | exact Nat.le_refl _⟩, ⟨by repeat (first | (with_reducible first | exact HB.out | apply below_alloc | apply pw_below_drewN | apply below_drew1) | exact HB.out)⟩⟩
    · replace c5 := Bool.eq_false_iff.mpr c5
      subst c5
      have H1 : ((laws_f6big.f l1).bind fun t255 => (laws_FnLong.j0 k l0 l1 t255)) = some r := by rw [if_neg (show ¬ (false = true) by decide)] at H; exact H
      clear H
      have H := H1
      clear H1
      replace H := Option.bind_eq_some_iff.mp H
      obtain ⟨t255, A60, H⟩ := H
      replace H : (laws_FnLong.j0 k l0 l1 t255) = some r := H
      have A6 := Aside0.mk A60
      clear A60
      have H' := Aside0.mk H
      clear H
      go_wp2_with (first | (go_at_call 41; (with_reducible refine (laws_f6big.calls _ _ l0 false _ ?side1 ?side2 A4.out).mono ?_); (case side1 => repeat (first | exact (Kd.C_below HR0.out HB.out) | (with_reducible refine Kd.C_alloc ?_ _) | (with_reducible refine Kd.C_drewN ?_ _) | (with_reducible refine Kd.C_drew ?_))); (case side2 => exact HC0.out); rintro e w' ⟨rfl, ⟨nd, rfl⟩⟩; (try first | exact ⟨rfl, _, World.drewN_drewN _ _ _⟩ | exact ⟨rfl, _, Eq.trans (World.drewN_drewN _ _ _) (congrArg (World.drewN _) (Nat.add_assoc _ _ _))⟩)) | (go_at_call 41; (with_reducible refine (laws_f6big.calls _ _ l1 t255 _ ?side1 ?side2 A6.out).mono ?_); (case side1 => repeat (first | exact (Kd.C_below HR1.out (by repeat (first | (with_reducible first | exact HB.out | apply below_alloc | apply pw_below_drewN | apply below_drew1) | exact HB.out))) | (with_reducible refine Kd.C_alloc ?_ _) | (with_reducible refine Kd.C_drewN ?_ _) | (with_reducible refine Kd.C_drew ?_))); (case side2 => exact HC1.out); rintro e w' ⟨rfl, ⟨nd, rfl⟩⟩; (try first | exact ⟨rfl, _, World.drewN_drewN _ _ _⟩ | exact ⟨rfl, _, Eq.trans (World.drewN_drewN _ _ _) (congrArg (World.drewN _) (Nat.add_assoc _ _ _))⟩)))
      repeat (go_quiet (first | (go_at_call 41; (with_reducible refine (laws_f6big.calls _ _ l0 false _ ?side1 ?side2 A4.out).mono ?_); (case side1 => repeat (first | exact (Kd.C_below HR0.out HB.out) | (with_reducible refine Kd.C_alloc ?_ _) | (with_reducible refine Kd.C_drewN ?_ _) | (with_reducible refine Kd.C_drew ?_))); (case side2 => exact HC0.out); rintro e w' ⟨rfl, ⟨nd, rfl⟩⟩; (try first | exact ⟨rfl, _, World.drewN_drewN _ _ _⟩ | exact ⟨rfl, _, Eq.trans (World.drewN_drewN _ _ _) (congrArg (World.drewN _) (Nat.add_assoc _ _ _))⟩)) | (go_at_call 41; (with_reducible refine (laws_f6big.calls _ _ l1 t255 _ ?side1 ?side2 A6.out).mono ?_); (case side1 => repeat (first | exact (Kd.C_below HR1.out (by repeat (first | (with_reducible first | exact HB.out | apply below_alloc | apply pw_below_drewN | apply below_drew1) | exact HB.out))) | (with_reducible refine Kd.C_alloc ?_ _) | (with_reducible refine Kd.C_drewN ?_ _) | (with_reducible refine Kd.C_drew ?_))); (case side2 => exact HC1.out); rintro e w' ⟨rfl, ⟨nd, rfl⟩⟩; (try first | exact ⟨rfl, _, World.drewN_drewN _ _ _⟩ | exact ⟨rfl, _, Eq.trans (World.drewN_drewN _ _ _) (congrArg (World.drewN _) (Nat.add_assoc _ _ _))⟩))); try go_wp2_with (first | (go_at_call 41; (with_reducible refine (laws_f6big.calls _ _ l0 false _ ?side1 ?side2 A4.out).mono ?_); (case side1 => repeat (first | exact (Kd.C_below HR0.out HB.out) | (with_reducible refine Kd.C_alloc ?_ _) | (with_reducible refine Kd.C_drewN ?_ _) | (with_reducible refine Kd.C_drew ?_))); (case side2 => exact HC0.out); rintro e w' ⟨rfl, ⟨nd, rfl⟩⟩; (try first | exact ⟨rfl, _, World.drewN_drewN _ _ _⟩ | exact ⟨rfl, _, Eq.trans (World.drewN_drewN _ _ _) (congrArg (World.drewN _) (Nat.add_assoc _ _ _))⟩)) | (go_at_call 41; (with_reducible refine (laws_f6big.calls _ _ l1 t255 _ ?side1 ?side2 A6.out).mono ?_); (case side1 => repeat (first | exact (Kd.C_below HR1.out (by repeat (first | (with_reducible first | exact HB.out | apply below_alloc | apply pw_below_drewN | apply below_drew1) | exact HB.out))) | (with_reducible refine Kd.C_alloc ?_ _) | (with_reducible refine Kd.C_drewN ?_ _) | (with_reducible refine Kd.C_drew ?_))); (case side2 => exact HC1.out); rintro e w' ⟨rfl, ⟨nd, rfl⟩⟩; (try first | exact ⟨rfl, _, World.drewN_drewN _ _ _⟩ | exact ⟨rfl, _, Eq.trans (World.drewN_drewN _ _ _) (congrArg (World.drewN _) (Nat.add_assoc _ _ _))⟩))))
      go_meet
      case rel => exact ⟨_, (t255), (by first | rfl | (simp; done) | (simp [*]; done)), H', ⟨by first | omega | exact Nat.le_refl _⟩, ⟨by repeat (first | (with_reducible first | exact HB.out | apply below_alloc | apply pw_below_drewN | apply below_drew1) | exact HB.out)⟩⟩
  case rest => as_aux_lemma =>
    clear HC3
    try clear c1
    try clear p2
    try clear c5
    obtain ⟨kq, x40_2, rfl, HA, HJ2, HB⟩ := hcut
    cases kq with
    | zero => exact absurd HA.out (by simp [laws_FnLong.j0])
    | succ kj2 =>
      have H := HA.out
      clear HA
      simp only [laws_FnLong.j0] at H
      by_cases c7 : x40_2 = true
      · subst c7
        have H1 : (some true) = some r := by rw [if_pos rfl] at H; exact H
        clear H
        have H := H1
        clear H1
        obtain rfl := Option.some.inj H
        go_wp2
        repeat (go_quiet (fail); try go_wp2)
        go_ret
        exact ⟨by first | rfl | (simp [errW_none, errW_some] <;> rfl) | (simp [*, errW_none, errW_some] <;> rfl), by repeat (first | (with_reducible first | exact HB.out | apply below_alloc | apply pw_below_drewN | apply below_drew1) | exact HB.out)⟩
      · replace c7 := Bool.eq_false_iff.mpr c7
        subst c7
        have H1 : ((spec_P6Table.f kj2 l0).bind fun t256 => ((spec_P6Setting.f l1).bind fun bt259 => ((impl_ExtraFor.f kj2 t256 (wrap64 (bt259.1))).bind fun bt263 => ((spec_ExtraFor.f kj2 t256 (wrap64 (bt259.1))).bind fun bt265 => ((impl_CorrectedFor.f kj2 t256 bt259.1 bt259.2.1 bt259.2.2).bind fun bt267 => ((spec_CorrectedFor.f kj2 t256 bt259.1 bt259.2.1 bt259.2.2).bind fun bt272 => (if bt263.2 = bt265.2 then (if bt263.2 = 0 then (if bt263.1 = bt265.1 then (if bt265.1 < 0 then (none) else (if bt267.2.2.2 = bt272.2.2.2 then (if (!(bt267.1 == bt272.1) || (!(bt267.2.1 == bt272.2.1) || (!(bt267.2.2.1 == bt272.2.2.1)))) = true then (none) else ((impl_ValidTable.f kj2 t256).bind fun t277 => (laws_FnLong.j1 kj2 l1 t256 bt265.1 bt267.2.2.2 (!t277) bt259.1 bt259.2.1 bt259.2.2 bt272.1 bt272.2.1 bt272.2.2.1))) else (none))) else (none)) else (none)) else (none)))))))) = some r := by rw [if_neg (show ¬ (false = true) by decide)] at H; exact H
        clear H
        have H := H1
        clear H1
        replace H := Option.bind_eq_some_iff.mp H
        obtain ⟨t256, A80, H⟩ := H
        replace H : ((spec_P6Setting.f l1).bind fun bt259 => ((impl_ExtraFor.f kj2 t256 (wrap64 (bt259.1))).bind fun bt263 => ((spec_ExtraFor.f kj2 t256 (wrap64 (bt259.1))).bind fun bt265 => ((impl_CorrectedFor.f kj2 t256 bt259.1 bt259.2.1 bt259.2.2).bind fun bt267 => ((spec_CorrectedFor.f kj2 t256 bt259.1 bt259.2.1 bt259.2.2).bind fun bt272 => (if bt263.2 = bt265.2 then (if bt263.2 = 0 then (if bt263.1 = bt265.1 then (if bt265.1 < 0 then (none) else (if bt267.2.2.2 = bt272.2.2.2 then (if (!(bt267.1 == bt272.1) || (!(bt267.2.1 == bt272.2.1) || (!(bt267.2.2.1 == bt272.2.2.1)))) = true then (none) else ((impl_ValidTable.f kj2 t256).bind fun t277 => (laws_FnLong.j1 kj2 l1 t256 bt265.1 bt267.2.2.2 (!t277) bt259.1 bt259.2.1 bt259.2.2 bt272.1 bt272.2.1 bt272.2.2.1))) else (none))) else (none)) else (none)) else (none))))))) = some r := H
        have A8 := Aside0.mk A80
        clear A80
        replace H := Option.bind_eq_some_iff.mp H
        obtain ⟨⟨t259, t260, t261⟩, A90, H⟩ := H
        replace H : ((impl_ExtraFor.f kj2 t256 (wrap64 (t259))).bind fun bt263 => ((spec_ExtraFor.f kj2 t256 (wrap64 (t259))).bind fun bt265 => ((impl_CorrectedFor.f kj2 t256 t259 t260 t261).bind fun bt267 => ((spec_CorrectedFor.f kj2 t256 t259 t260 t261).bind fun bt272 => (if bt263.2 = bt265.2 then (if bt263.2 = 0 then (if bt263.1 = bt265.1 then (if bt265.1 < 0 then (none) else (if bt267.2.2.2 = bt272.2.2.2 then (if (!(bt267.1 == bt272.1) || (!(bt267.2.1 == bt272.2.1) || (!(bt267.2.2.1 == bt272.2.2.1)))) = true then (none) else ((impl_ValidTable.f kj2 t256).bind fun t277 => (laws_FnLong.j1 kj2 l1 t256 bt265.1 bt267.2.2.2 (!t277) t259 t260 t261 bt272.1 bt272.2.1 bt272.2.2.1))) else (none))) else (none)) else (none)) else (none)))))) = some r := H
        have A9 := Aside0.mk A90
        clear A90
        replace H := Option.bind_eq_some_iff.mp H
        obtain ⟨⟨t263, t264⟩, A100, H⟩ := H
        replace H : ((spec_ExtraFor.f kj2 t256 (wrap64 (t259))).bind fun bt265 => ((impl_CorrectedFor.f kj2 t256 t259 t260 t261).bind fun bt267 => ((spec_CorrectedFor.f kj2 t256 t259 t260 t261).bind fun bt272 => (if t264 = bt265.2 then (if t264 = 0 then (if t263 = bt265.1 then (if bt265.1 < 0 then (none) else (if bt267.2.2.2 = bt272.2.2.2 then (if (!(bt267.1 == bt272.1) || (!(bt267.2.1 == bt272.2.1) || (!(bt267.2.2.1 == bt272.2.2.1)))) = true then (none) else ((impl_ValidTable.f kj2 t256).bind fun t277 => (laws_FnLong.j1 kj2 l1 t256 bt265.1 bt267.2.2.2 (!t277) t259 t260 t261 bt272.1 bt272.2.1 bt272.2.2.1))) else (none))) else (none)) else (none)) else (none))))) = some r := H
        have A10 := Aside0.mk A100
        clear A100
        replace H := Option.bind_eq_some_iff.mp H
        obtain ⟨⟨t265, t266⟩, A110, H⟩ := H
        replace H : ((impl_CorrectedFor.f kj2 t256 t259 t260 t261).bind fun bt267 => ((spec_CorrectedFor.f kj2 t256 t259 t260 t261).bind fun bt272 => (if t264 = t266 then (if t264 = 0 then (if t263 = t265 then (if t265 < 0 then (none) else (if bt267.2.2.2 = bt272.2.2.2 then (if (!(bt267.1 == bt272.1) || (!(bt267.2.1 == bt272.2.1) || (!(bt267.2.2.1 == bt272.2.2.1)))) = true then (none) else ((impl_ValidTable.f kj2 t256).bind fun t277 => (laws_FnLong.j1 kj2 l1 t256 t265 bt267.2.2.2 (!t277) t259 t260 t261 bt272.1 bt272.2.1 bt272.2.2.1))) else (none))) else (none)) else (none)) else (none)))) = some r := H
        have A11 := Aside0.mk A110
        clear A110
        replace H := Option.bind_eq_some_iff.mp H
        obtain ⟨⟨t267, t268, t269, t270⟩, A120, H⟩ := H
        replace H : ((spec_CorrectedFor.f kj2 t256 t259 t260 t261).bind fun bt272 => (if t264 = t266 then (if t264 = 0 then (if t263 = t265 then (if t265 < 0 then (none) else (if t270 = bt272.2.2.2 then (if (!(t267 == bt272.1) || (!(t268 == bt272.2.1) || (!(t269 == bt272.2.2.1)))) = true then (none) else ((impl_ValidTable.f kj2 t256).bind fun t277 => (laws_FnLong.j1 kj2 l1 t256 t265 t270 (!t277) t259 t260 t261 bt272.1 bt272.2.1 bt272.2.2.1))) else (none))) else (none)) else (none)) else (none))) = some r := H
        have A12 := Aside0.mk A120
        clear A120
        replace H := Option.bind_eq_some_iff.mp H
        obtain ⟨⟨t272, t273, t274, t275⟩, A130, H⟩ := H
        replace H : (if t264 = t266 then (if t264 = 0 then (if t263 = t265 then (if t265 < 0 then (none) else (if t270 = t275 then (if (!(t267 == t272) || (!(t268 == t273) || (!(t269 == t274)))) = true then (none) else ((impl_ValidTable.f kj2 t256).bind fun t277 => (laws_FnLong.j1 kj2 l1 t256 t265 t270 (!t277) t259 t260 t261 t272 t273 t274))) else (none))) else (none)) else (none)) else (none)) = some r := H
        have A13 := Aside0.mk A130
        clear A130
        have HC14 := Aside0.mk H
        clear H
        go_upto_region 9 with (first | (go_at_call 42; (with_reducible refine (spec_P6Table.calls kj2 _ _ l0 t256 _ ?side1 ?side2 A8.out).mono ?_); (case side1 => repeat (first | exact (Kd.C_below HR0.out HB.out) | (with_reducible refine Kd.C_alloc ?_ _) | (with_reducible refine Kd.C_drewN ?_ _) | (with_reducible refine Kd.C_drew ?_))); (case side2 => exact HC0.out); rintro e w15 ⟨v257, rfl, ho0, hb⟩; have n0_ := Aside0.mk (Kd.R_lower ho0 (below_size (by repeat (first | (with_reducible first | exact HB.out | apply below_alloc | apply pw_below_drewN | apply below_drew1) | exact HB.out)))); have n1_ := Aside0.mk (below_step (by repeat (first | (with_reducible first | exact HB.out | apply below_alloc | apply pw_below_drewN | apply below_drew1) | exact HB.out)) hb); clear HB; have HO258 := n0_; have HB := n1_; clear n0_ n1_; (try clear hb); (try clear hb2); (try clear hk); (try clear hi); (try clear ho0)) | (go_at_call 43; (with_reducible refine (spec_P6Setting.calls _ _ l1 t259 t260 t261 _ ?side1 ?side2 A9.out).mono ?_); (case side1 => repeat (first | exact (Kd.C_below HR1.out HB.out) | (with_reducible refine Kd.C_alloc ?_ _) | (with_reducible refine Kd.C_drewN ?_ _) | (with_reducible refine Kd.C_drew ?_))); (case side2 => exact HC1.out); rintro e w16 ⟨rfl, hb⟩; have n0_ := Aside0.mk (Kd.R_below (by (with_reducible repeat (first | apply Kd.R_alloc | apply Kd.R_drewN | apply Kd.R_drew)); exact HO258.out) hb); have n1_ := Aside0.mk (below_step (by repeat (first | (with_reducible first | exact HB.out | apply below_alloc | apply pw_below_drewN | apply below_drew1) | exact HB.out)) hb); clear HO258; clear HB; have HO258 := n0_; have HB := n1_; clear n0_ n1_; (try clear hb); (try clear hb2); (try clear hk); (try clear hi)) | ((with_reducible refine gate_dst (N := 6) rfl ?_); refine box_event ?hg (N := 6) ?hd (cs := #[.int .i8 0, .int .i8 0, .int .i8 0]) (t := 41) ?hr ?_; (case hd => rfl); (case hg => rfl); (case hr => first | (go_simp; done) | (go_simp; rfl)); intro gb262 hg w17 hbox hb; have n0_ := Aside0.mk (Kd.R_below (by (with_reducible repeat (first | apply Kd.R_alloc | apply Kd.R_drewN | apply Kd.R_drew)); exact HO258.out) hb); have n1_ := Aside0.mk (below_step (by repeat (first | (with_reducible first | exact HB.out | apply below_alloc | apply pw_below_drewN | apply below_drew1) | exact HB.out)) hb); have n2_ := Aside0.mk (hbox); have n3_ := Aside0.mk ((by rw [hg]; exact (below_size (by repeat (first | (with_reducible first | exact HB.out | apply below_alloc | apply pw_below_drewN | apply below_drew1) | exact HB.out))) : w.heap.size ≤ gb262)); have n4_ := Aside0.mk ((by rw [hg]; exact (below_size (by repeat (first | (with_reducible first | exact HB.out | apply below_alloc | apply pw_below_drewN | apply below_drew1) | exact HB.out))) : w.heap.size ≤ gb262)); clear HO258; clear HB; have HO258 := n0_; have HB := n1_; have BK262 := n2_; have GW262 := n3_; have GE262 := n4_; clear n0_ n1_ n2_ n3_ n4_; clear hb hbox hg; have hcz18_0 : w17.cell? ⟨gb262, 0, none⟩ = some (.int .i8 0) := (blk_cell BK262.out 0).trans rfl; have hcz18_1 : w17.cell? ⟨gb262, 1, none⟩ = some (.int .i8 0) := (blk_cell BK262.out 1).trans rfl; have hcz18_2 : w17.cell? ⟨gb262, 2, none⟩ = some (.int .i8 0) := (blk_cell BK262.out 2).trans rfl; have hfz18_0 := blk_frozen BK262.out 0; have hfz18_1 := blk_frozen BK262.out 1; have hfz18_2 := blk_frozen BK262.out 2; obtain ⟨Ao19, co19, eo19⟩ := Kd.R_slice HO258.out; subst eo19) | (go_at_call 23; (with_reducible refine (impl_ExtraFor.calls kj2 _ _ t256 (wrap64 (t259)) t263 t264 _ ?side1 ?side2 A10.out).mono ?_); (case side1 => refine (Kd.R_reads' (e := 68) (base := w.heap.size) (ok := fun k_ => True) (n := t256.length) (c := co19) ?_).2.2; exact (by (with_reducible repeat (first | apply Kd.R_alloc | apply Kd.R_drewN | apply Kd.R_drew)); exact (Kd.R_mono (Kd.R_far (p := ⟨gb262, 2, none⟩) (Kd.R_far (p := ⟨gb262, 1, none⟩) (Kd.R_far (p := ⟨gb262, 0, none⟩) (Kd.R_types HO258.out BK262.out (by decide)) (fun _ hk => hk.2) (.int .i8 t259)) (fun _ hk => hk.2) (.int .i8 t260)) (fun _ hk => hk.2) (.int .i8 t261)) (fun _ h_ => h_.1)))); (case side2 => exact (Kd.R_reads' HO258.out).2.1); rintro e w20 ⟨rfl, hb⟩; have n0_ := Aside0.mk (Kd.R_below (by (with_reducible repeat (first | apply Kd.R_alloc | apply Kd.R_drewN | apply Kd.R_drew)); exact (Kd.R_mono (Kd.R_far (p := ⟨gb262, 2, none⟩) (Kd.R_far (p := ⟨gb262, 1, none⟩) (Kd.R_far (p := ⟨gb262, 0, none⟩) (Kd.R_types HO258.out BK262.out (by decide)) (fun _ hk => hk.2) (.int .i8 t259)) (fun _ hk => hk.2) (.int .i8 t260)) (fun _ hk => hk.2) (.int .i8 t261)) (fun _ h_ => h_.1))) hb); have n1_ := Aside0.mk (blk_below (g := gb262) (o := .cells #[.int .i8 t259, .int .i8 t260, .int .i8 t261] 41 (0, 0)) (by (with_reducible repeat (first | refine blk_drewN ?_ _ | refine blk_drew ?_ | refine blk_alloc ?_ _)); refine blk_put (cs := #[.int .i8 t259, .int .i8 t260, .int .i8 0]) ?_ 2 _ rfl; (with_reducible repeat (first | refine blk_drewN ?_ _ | refine blk_drew ?_ | refine blk_alloc ?_ _)); refine blk_put (cs := #[.int .i8 t259, .int .i8 0, .int .i8 0]) ?_ 1 _ rfl; (with_reducible repeat (first | refine blk_drewN ?_ _ | refine blk_drew ?_ | refine blk_alloc ?_ _)); refine blk_put (cs := #[.int .i8 0, .int .i8 0, .int .i8 0]) ?_ 0 _ rfl; (with_reducible repeat (first | refine blk_drewN ?_ _ | refine blk_drew ?_ | refine blk_alloc ?_ _)); exact BK262.out) hb); have n2_ := Aside0.mk (below_step (by repeat (first | (with_reducible first | exact HB.out | apply below_alloc | apply pw_below_drewN | apply below_drew1 | refine below_set ?_ GE262.out) | exact HB.out)) hb); clear HO258; clear BK262; clear HB; have HO258 := n0_; have BK262 := n1_; have HB := n2_; clear n0_ n1_ n2_; (try clear hb); (try clear hb2); (try clear hk); (try clear hi); have hcz21_0 : w20.cell? ⟨gb262, 0, none⟩ = some (.int .i8 t259) := (blk_cell BK262.out 0).trans rfl; have hcz21_1 : w20.cell? ⟨gb262, 1, none⟩ = some (.int .i8 t260) := (blk_cell BK262.out 1).trans rfl; have hcz21_2 : w20.cell? ⟨gb262, 2, none⟩ = some (.int .i8 t261) := (blk_cell BK262.out 2).trans rfl; have hfz21_0 := blk_frozen BK262.out 0; have hfz21_1 := blk_frozen BK262.out 1; have hfz21_2 := blk_frozen BK262.out 2) | (go_at_call 22; (with_reducible refine (spec_ExtraFor.calls kj2 _ _ t256 (wrap64 (t259)) t265 t266 _ ?side1 ?side2 A11.out).mono ?_); (case side1 => repeat (first | exact (Kd.R_reads' HO258.out).2.2 | (with_reducible refine Kd.C_alloc ?_ _) | (with_reducible refine Kd.C_drewN ?_ _) | (with_reducible refine Kd.C_drew ?_))); (case side2 => exact (Kd.R_reads' HO258.out).2.1); rintro e w' ⟨rfl, ⟨nd, rfl⟩⟩; (try first | exact ⟨rfl, _, World.drewN_drewN _ _ _⟩ | exact ⟨rfl, _, Eq.trans (World.drewN_drewN _ _ _) (congrArg (World.drewN _) (Nat.add_assoc _ _ _))⟩)) | (go_at_call 28; (with_reducible refine (impl_CorrectedFor.calls kj2 _ _ t256 t259 t260 t261 t267 t268 t269 t270 _ ?side1 ?side2 A12.out).mono ?_); (case side1 => repeat (first | exact (Kd.R_reads' HO258.out).2.2 | (with_reducible refine Kd.C_alloc ?_ _) | (with_reducible refine Kd.C_drewN ?_ _) | (with_reducible refine Kd.C_drew ?_))); (case side2 => exact (Kd.R_reads' HO258.out).2.1); rintro e w22 ⟨rfl, hb⟩; have n0_ := Aside0.mk (Kd.R_below (by (with_reducible repeat (first | apply Kd.R_alloc | apply Kd.R_drewN | apply Kd.R_drew)); exact HO258.out) hb); have n1_ := Aside0.mk (blk_below (g := gb262) (o := .cells #[.int .i8 t259, .int .i8 t260, .int .i8 t261] 41 (0, 0)) (by (with_reducible repeat (first | refine blk_drewN ?_ _ | refine blk_drew ?_ | refine blk_alloc ?_ _)); exact BK262.out) hb); have n2_ := Aside0.mk (below_step (by repeat (first | (with_reducible first | exact HB.out | apply below_alloc | apply pw_below_drewN | apply below_drew1 | refine below_set ?_ GE262.out) | exact HB.out)) hb); clear HO258; clear BK262; clear HB; have HO258 := n0_; have BK262 := n1_; have HB := n2_; clear n0_ n1_ n2_; (try clear hb); (try clear hb2); (try clear hk); (try clear hi)) | ((with_reducible refine gate_dst (N := 11) rfl ?_); refine box_event ?hg (N := 11) ?hd (cs := #[.int .i8 0, .int .i8 0, .int .i8 0]) (t := 41) ?hr ?_; (case hd => rfl); (case hg => rfl); (case hr => first | (go_simp; done) | (go_simp; rfl)); intro gb271 hg w23 hbox hb; have n0_ := Aside0.mk (Kd.R_below (by (with_reducible repeat (first | apply Kd.R_alloc | apply Kd.R_drewN | apply Kd.R_drew)); exact HO258.out) hb); have n1_ := Aside0.mk (blk_below (g := gb262) (o := .cells #[.int .i8 t259, .int .i8 t260, .int .i8 t261] 41 (0, 0)) (by (with_reducible repeat (first | refine blk_drewN ?_ _ | refine blk_drew ?_ | refine blk_alloc ?_ _)); exact BK262.out) hb); have n2_ := Aside0.mk (below_step (by repeat (first | (with_reducible first | exact HB.out | apply below_alloc | apply pw_below_drewN | apply below_drew1 | refine below_set ?_ GE262.out) | exact HB.out)) hb); have n3_ := Aside0.mk (hbox); have n4_ := Aside0.mk ((by rw [hg]; exact (below_size (by repeat (first | (with_reducible first | exact HB.out | apply below_alloc | apply pw_below_drewN | apply below_drew1 | refine below_set ?_ GE262.out) | exact HB.out))) : w.heap.size ≤ gb271)); have n5_ := Aside0.mk ((by rw [hg]; exact (below_size (by repeat (first | (with_reducible first | exact HB.out | apply below_alloc | apply pw_below_drewN | apply below_drew1 | refine below_set ?_ GE262.out) | exact HB.out))) : w.heap.size ≤ gb271)); have n6_ := Aside0.mk ((by rw [hg]; exact Nat.ne_of_lt (blk_lt (g := gb262) (o := .cells #[.int .i8 t259, .int .i8 t260, .int .i8 t261] 41 (0, 0)) (by (with_reducible repeat (first | refine blk_drewN ?_ _ | refine blk_drew ?_ | refine blk_alloc ?_ _)); exact BK262.out)) : gb262 ≠ gb271)); have n7_ := Aside0.mk ((by rw [hg]; exact Nat.ne_of_gt (blk_lt (g := gb262) (o := .cells #[.int .i8 t259, .int .i8 t260, .int .i8 t261] 41 (0, 0)) (by (with_reducible repeat (first | refine blk_drewN ?_ _ | refine blk_drew ?_ | refine blk_alloc ?_ _)); exact BK262.out)) : gb271 ≠ gb262)); clear HO258; clear BK262; clear HB; have HO258 := n0_; have BK262 := n1_; have HB := n2_; have BK271 := n3_; have GW271 := n4_; have GE271 := n5_; have NB262_271 := n6_; have NB271_262 := n7_; clear n0_ n1_ n2_ n3_ n4_ n5_ n6_ n7_; clear hb hbox hg; have hnb24 := NB271_262.out; have hnc24 := NB262_271.out; have hcz25_0 : w23.cell? ⟨gb271, 0, none⟩ = some (.int .i8 0) := (blk_cell BK271.out 0).trans rfl; have hcz25_1 : w23.cell? ⟨gb271, 1, none⟩ = some (.int .i8 0) := (blk_cell BK271.out 1).trans rfl; have hcz25_2 : w23.cell? ⟨gb271, 2, none⟩ = some (.int .i8 0) := (blk_cell BK271.out 2).trans rfl; have hfz25_0 := blk_frozen BK271.out 0; have hfz25_1 := blk_frozen BK271.out 1; have hfz25_2 := blk_frozen BK271.out 2; have hcz26_0 : w23.cell? ⟨gb262, 0, none⟩ = some (.int .i8 t259) := (blk_cell BK262.out 0).trans rfl; have hcz26_1 : w23.cell? ⟨gb262, 1, none⟩ = some (.int .i8 t260) := (blk_cell BK262.out 1).trans rfl; have hcz26_2 : w23.cell? ⟨gb262, 2, none⟩ = some (.int .i8 t261) := (blk_cell BK262.out 2).trans rfl; have hfz26_0 := blk_frozen BK262.out 0; have hfz26_1 := blk_frozen BK262.out 1; have hfz26_2 := blk_frozen BK262.out 2) | (go_at_call 26; (with_reducible refine (spec_CorrectedFor.calls kj2 _ _ t256 t259 t260 t261 t272 t273 t274 t275 _ ?side1 ?side2 A13.out).mono ?_); (case side1 => refine (Kd.R_reads' (e := 68) (base := w.heap.size) (ok := fun k_ => True) (n := t256.length) (c := co19) ?_).2.2; exact (by (with_reducible repeat (first | apply Kd.R_alloc | apply Kd.R_drewN | apply Kd.R_drew)); exact (Kd.R_mono (Kd.R_far (p := ⟨gb271, 2, none⟩) (Kd.R_far (p := ⟨gb271, 1, none⟩) (Kd.R_far (p := ⟨gb271, 0, none⟩) (Kd.R_types HO258.out BK271.out (by decide)) (fun _ hk => hk.2) (.int .i8 t267)) (fun _ hk => hk.2) (.int .i8 t268)) (fun _ hk => hk.2) (.int .i8 t269)) (fun _ h_ => h_.1)))); (case side2 => exact (Kd.R_reads' HO258.out).2.1); rintro e w27 ⟨rfl, hb⟩; have n0_ := Aside0.mk (Kd.R_below (by (with_reducible repeat (first | apply Kd.R_alloc | apply Kd.R_drewN | apply Kd.R_drew)); exact (Kd.R_mono (Kd.R_far (p := ⟨gb271, 2, none⟩) (Kd.R_far (p := ⟨gb271, 1, none⟩) (Kd.R_far (p := ⟨gb271, 0, none⟩) (Kd.R_types HO258.out BK271.out (by decide)) (fun _ hk => hk.2) (.int .i8 t267)) (fun _ hk => hk.2) (.int .i8 t268)) (fun _ hk => hk.2) (.int .i8 t269)) (fun _ h_ => h_.1))) hb); have n1_ := Aside0.mk (blk_below (g := gb262) (o := .cells #[.int .i8 t259, .int .i8 t260, .int .i8 t261] 41 (0, 0)) (by (with_reducible repeat (first | refine blk_drewN ?_ _ | refine blk_drew ?_ | refine blk_alloc ?_ _)); refine blk_far ?_ NB262_271.out _; (with_reducible repeat (first | refine blk_drewN ?_ _ | refine blk_drew ?_ | refine blk_alloc ?_ _)); refine blk_far ?_ NB262_271.out _; (with_reducible repeat (first | refine blk_drewN ?_ _ | refine blk_drew ?_ | refine blk_alloc ?_ _)); refine blk_far ?_ NB262_271.out _; (with_reducible repeat (first | refine blk_drewN ?_ _ | refine blk_drew ?_ | refine blk_alloc ?_ _)); exact BK262.out) hb); have n2_ := Aside0.mk (blk_below (g := gb271) (o := .cells #[.int .i8 t267, .int .i8 t268, .int .i8 t269] 41 (0, 0)) (by (with_reducible repeat (first | refine blk_drewN ?_ _ | refine blk_drew ?_ | refine blk_alloc ?_ _)); refine blk_put (cs := #[.int .i8 t267, .int .i8 t268, .int .i8 0]) ?_ 2 _ rfl; (with_reducible repeat (first | refine blk_drewN ?_ _ | refine blk_drew ?_ | refine blk_alloc ?_ _)); refine blk_put (cs := #[.int .i8 t267, .int .i8 0, .int .i8 0]) ?_ 1 _ rfl; (with_reducible repeat (first | refine blk_drewN ?_ _ | refine blk_drew ?_ | refine blk_alloc ?_ _)); refine blk_put (cs := #[.int .i8 0, .int .i8 0, .int .i8 0]) ?_ 0 _ rfl; (with_reducible repeat (first | refine blk_drewN ?_ _ | refine blk_drew ?_ | refine blk_alloc ?_ _)); exact BK271.out) hb); have n3_ := Aside0.mk (below_step (by repeat (first | (with_reducible first | exact HB.out | apply below_alloc | apply pw_below_drewN | apply below_drew1 | refine below_set ?_ GE262.out | refine below_set ?_ GE271.out) | exact HB.out)) hb); clear HO258; clear BK262; clear BK271; clear HB; have HO258 := n0_; have BK262 := n1_; have BK271 := n2_; have HB := n3_; clear n0_ n1_ n2_ n3_; (try clear hb); (try clear hb2); (try clear hk); (try clear hi)) | ((with_reducible refine gate_dst (N := 13) rfl ?_); refine box_event ?hg (N := 13) ?hd (cs := #[.int .i8 0, .int .i8 0, .int .i8 0]) (t := 41) ?hr ?_; (case hd => rfl); (case hg => rfl); (case hr => first | (go_simp; done) | (go_simp; rfl)); intro gb276 hg w28 hbox hb; have n0_ := Aside0.mk (Kd.R_below (by (with_reducible repeat (first | apply Kd.R_alloc | apply Kd.R_drewN | apply Kd.R_drew)); exact HO258.out) hb); have n1_ := Aside0.mk (blk_below (g := gb262) (o := .cells #[.int .i8 t259, .int .i8 t260, .int .i8 t261] 41 (0, 0)) (by (with_reducible repeat (first | refine blk_drewN ?_ _ | refine blk_drew ?_ | refine blk_alloc ?_ _)); exact BK262.out) hb); have n2_ := Aside0.mk (blk_below (g := gb271) (o := .cells #[.int .i8 t267, .int .i8 t268, .int .i8 t269] 41 (0, 0)) (by (with_reducible repeat (first | refine blk_drewN ?_ _ | refine blk_drew ?_ | refine blk_alloc ?_ _)); exact BK271.out) hb); have n3_ := Aside0.mk (below_step (by repeat (first | (with_reducible first | exact HB.out | apply below_alloc | apply pw_below_drewN | apply below_drew1 | refine below_set ?_ GE262.out | refine below_set ?_ GE271.out) | exact HB.out)) hb); have n4_ := Aside0.mk (hbox); have n5_ := Aside0.mk ((by rw [hg]; exact (below_size (by repeat (first | (with_reducible first | exact HB.out | apply below_alloc | apply pw_below_drewN | apply below_drew1 | refine below_set ?_ GE262.out | refine below_set ?_ GE271.out) | exact HB.out))) : w.heap.size ≤ gb276)); have n6_ := Aside0.mk ((by rw [hg]; exact (below_size (by repeat (first | (with_reducible first | exact HB.out | apply below_alloc | apply pw_below_drewN | apply below_drew1 | refine below_set ?_ GE262.out | refine below_set ?_ GE271.out) | exact HB.out))) : w.heap.size ≤ gb276)); have n7_ := Aside0.mk ((by rw [hg]; exact Nat.ne_of_lt (blk_lt (g := gb262) (o := .cells #[.int .i8 t259, .int .i8 t260, .int .i8 t261] 41 (0, 0)) (by (with_reducible repeat (first | refine blk_drewN ?_ _ | refine blk_drew ?_ | refine blk_alloc ?_ _)); exact BK262.out)) : gb262 ≠ gb276)); have n8_ := Aside0.mk ((by rw [hg]; exact Nat.ne_of_gt (blk_lt (g := gb262) (o := .cells #[.int .i8 t259, .int .i8 t260, .int .i8 t261] 41 (0, 0)) (by (with_reducible repeat (first | refine blk_drewN ?_ _ | refine blk_drew ?_ | refine blk_alloc ?_ _)); exact BK262.out)) : gb276 ≠ gb262)); have n9_ := Aside0.mk ((by rw [hg]; exact Nat.ne_of_lt (blk_lt (g := gb271) (o := .cells #[.int .i8 t267, .int .i8 t268, .int .i8 t269] 41 (0, 0)) (by (with_reducible repeat (first | refine blk_drewN ?_ _ | refine blk_drew ?_ | refine blk_alloc ?_ _)); exact BK271.out)) : gb271 ≠ gb276)); have n10_ := Aside0.mk ((by rw [hg]; exact Nat.ne_of_gt (blk_lt (g := gb271) (o := .cells #[.int .i8 t267, .int .i8 t268, .int .i8 t269] 41 (0, 0)) (by (with_reducible repeat (first | refine blk_drewN ?_ _ | refine blk_drew ?_ | refine blk_alloc ?_ _)); exact BK271.out)) : gb276 ≠ gb271)); clear HO258; clear BK262; clear BK271; clear HB; have HO258 := n0_; have BK262 := n1_; have BK271 := n2_; have HB := n3_; have BK276 := n4_; have GW276 := n5_; have GE276 := n6_; have NB262_276 := n7_; have NB276_262 := n8_; have NB271_276 := n9_; have NB276_271 := n10_; clear n0_ n1_ n2_ n3_ n4_ n5_ n6_ n7_ n8_ n9_ n10_; clear hb hbox hg; have hnb29 := NB276_262.out; have hnc29 := NB262_276.out; have hnb30 := NB276_271.out; have hnc30 := NB271_276.out; have hcz31_0 : w28.cell? ⟨gb276, 0, none⟩ = some (.int .i8 0) := (blk_cell BK276.out 0).trans rfl; have hcz31_1 : w28.cell? ⟨gb276, 1, none⟩ = some (.int .i8 0) := (blk_cell BK276.out 1).trans rfl; have hcz31_2 : w28.cell? ⟨gb276, 2, none⟩ = some (.int .i8 0) := (blk_cell BK276.out 2).trans rfl; have hfz31_0 := blk_frozen BK276.out 0; have hfz31_1 := blk_frozen BK276.out 1; have hfz31_2 := blk_frozen BK276.out 2))
        repeat (go_quiet (first | (go_at_call 42; (with_reducible refine (spec_P6Table.calls kj2 _ _ l0 t256 _ ?side1 ?side2 A8.out).mono ?_); (case side1 => repeat (first | exact (Kd.C_below HR0.out HB.out) | (with_reducible refine Kd.C_alloc ?_ _) | (with_reducible refine Kd.C_drewN ?_ _) | (with_reducible refine Kd.C_drew ?_))); (case side2 => exact HC0.out); rintro e w15 ⟨v257, rfl, ho0, hb⟩; have n0_ := Aside0.mk (Kd.R_lower ho0 (below_size (by repeat (first | (with_reducible first | exact HB.out | apply below_alloc | apply pw_below_drewN | apply below_drew1) | exact HB.out)))); have n1_ := Aside0.mk (below_step (by repeat (first | (with_reducible first | exact HB.out | apply below_alloc | apply pw_below_drewN | apply below_drew1) | exact HB.out)) hb); clear HB; have HO258 := n0_; have HB := n1_; clear n0_ n1_; (try clear hb); (try clear hb2); (try clear hk); (try clear hi); (try clear ho0)) | (go_at_call 43; (with_reducible refine (spec_P6Setting.calls _ _ l1 t259 t260 t261 _ ?side1 ?side2 A9.out).mono ?_); (case side1 => repeat (first | exact (Kd.C_below HR1.out HB.out) | (with_reducible refine Kd.C_alloc ?_ _) | (with_reducible refine Kd.C_drewN ?_ _) | (with_reducible refine Kd.C_drew ?_))); (case side2 => exact HC1.out); rintro e w16 ⟨rfl, hb⟩; have n0_ := Aside0.mk (Kd.R_below (by (with_reducible repeat (first | apply Kd.R_alloc | apply Kd.R_drewN | apply Kd.R_drew)); exact HO258.out) hb); have n1_ := Aside0.mk (below_step (by repeat (first | (with_reducible first | exact HB.out | apply below_alloc | apply pw_below_drewN | apply below_drew1) | exact HB.out)) hb); clear HO258; clear HB; have HO258 := n0_; have HB := n1_; clear n0_ n1_; (try clear hb); (try clear hb2); (try clear hk); (try clear hi)) | ((with_reducible refine gate_dst (N := 6) rfl ?_); refine box_event ?hg (N := 6) ?hd (cs := #[.int .i8 0, .int .i8 0, .int .i8 0]) (t := 41) ?hr ?_; (case hd => rfl); (case hg => rfl); (case hr => first | (go_simp; done) | (go_simp; rfl)); intro gb262 hg w17 hbox hb; have n0_ := Aside0.mk (Kd.R_below (by (with_reducible repeat (first | apply Kd.R_alloc | apply Kd.R_drewN | apply Kd.R_drew)); exact HO258.out) hb); have n1_ := Aside0.mk (below_step (by repeat (first | (with_reducible first | exact HB.out | apply below_alloc | apply pw_below_drewN | apply below_drew1) | exact HB.out)) hb); have n2_ := Aside0.mk (hbox); have n3_ := Aside0.mk ((by rw [hg]; exact (below_size (by repeat (first | (with_reducible first | exact HB.out | apply below_alloc | apply pw_below_drewN | apply below_drew1) | exact HB.out))) : w.heap.size ≤ gb262)); have n4_ := Aside0.mk ((by rw [hg]; exact (below_size (by repeat (first | (with_reducible first | exact HB.out | apply below_alloc | apply pw_below_drewN | apply below_drew1) | exact HB.out))) : w.heap.size ≤ gb262)); clear HO258; clear HB; have HO258 := n0_; have HB := n1_; have BK262 := n2_; have GW262 := n3_; have GE262 := n4_; clear n0_ n1_ n2_ n3_ n4_; clear hb hbox hg; have hcz18_0 : w17.cell? ⟨gb262, 0, none⟩ = some (.int .i8 0) := (blk_cell BK262.out 0).trans rfl; have hcz18_1 : w17.cell? ⟨gb262, 1, none⟩ = some (.int .i8 0) := (blk_cell BK262.out 1).trans rfl; have hcz18_2 : w17.cell? ⟨gb262, 2, none⟩ = some (.int .i8 0) := (blk_cell BK262.out 2).trans rfl; have hfz18_0 := blk_frozen BK262.out 0; have hfz18_1 := blk_frozen BK262.out 1; have hfz18_2 := blk_frozen BK262.out 2; obtain ⟨Ao19, co19, eo19⟩ := Kd.R_slice HO258.out; subst eo19) | (go_at_call 23; (with_reducible refine (impl_ExtraFor.calls kj2 _ _ t256 (wrap64 (t259)) t263 t264 _ ?side1 ?side2 A10.out).mono ?_); (case side1 => refine (Kd.R_reads' (e := 68) (base := w.heap.size) (ok := fun k_ => True) (n := t256.length) (c := co19) ?_).2.2; exact (by (with_reducible repeat (first | apply Kd.R_alloc | apply Kd.R_drewN | apply Kd.R_drew)); exact (Kd.R_mono (Kd.R_far (p := ⟨gb262, 2, none⟩) (Kd.R_far (p := ⟨gb262, 1, none⟩) (Kd.R_far (p := ⟨gb262, 0, none⟩) (Kd.R_types HO258.out BK262.out (by decide)) (fun _ hk => hk.2) (.int .i8 t259)) (fun _ hk => hk.2) (.int .i8 t260)) (fun _ hk => hk.2) (.int .i8 t261)) (fun _ h_ => h_.1)))); (case side2 => exact (Kd.R_reads' HO258.out).2.1); rintro e w20 ⟨rfl, hb⟩; have n0_ := Aside0.mk (Kd.R_below (by (with_reducible repeat (first | apply Kd.R_alloc | apply Kd.R_drewN | apply Kd.R_drew)); exact (Kd.R_mono (Kd.R_far (p := ⟨gb262, 2, none⟩) (Kd.R_far (p := ⟨gb262, 1, none⟩) (Kd.R_far (p := ⟨gb262, 0, none⟩) (Kd.R_types HO258.out BK262.out (by decide)) (fun _ hk => hk.2) (.int .i8 t259)) (fun _ hk => hk.2) (.int .i8 t260)) (fun _ hk => hk.2) (.int .i8 t261)) (fun _ h_ => h_.1))) hb); have n1_ := Aside0.mk (blk_below (g := gb262) (o := .cells #[.int .i8 t259, .int .i8 t260, .int .i8 t261] 41 (0, 0)) (by (with_reducible repeat (first | refine blk_drewN ?_ _ | refine blk_drew ?_ | refine blk_alloc ?_ _)); refine blk_put (cs := #[.int .i8 t259, .int .i8 t260, .int .i8 0]) ?_ 2 _ rfl; (with_reducible repeat (first | refine blk_drewN ?_ _ | refine blk_drew ?_ | refine blk_alloc ?_ _)); refine blk_put (cs := #[.int .i8 t259, .int .i8 0, .int .i8 0]) ?_ 1 _ rfl; (with_reducible repeat (first | refine blk_drewN ?_ _ | refine blk_drew ?_ | refine blk_alloc ?_ _)); refine blk_put (cs := #[.int .i8 0, .int .i8 0, .int .i8 0]) ?_ 0 _ rfl; (with_reducible repeat (first | refine blk_drewN ?_ _ | refine blk_drew ?_ | refine blk_alloc ?_ _)); exact BK262.out) hb); have n2_ := Aside0.mk (below_step (by repeat (first | (with_reducible first | exact HB.out | apply below_alloc | apply pw_below_drewN | apply below_drew1 | refine below_set ?_ GE262.out) | exact HB.out)) hb); clear HO258; clear BK262; clear HB; have HO258 := n0_; have BK262 := n1_; have HB := n2_; clear n0_ n1_ n2_; (try clear hb); (try clear hb2); (try clear hk); (try clear hi); have hcz21_0 : w20.cell? ⟨gb262, 0, none⟩ = some (.int .i8 t259) := (blk_cell BK262.out 0).trans rfl; have hcz21_1 : w20.cell? ⟨gb262, 1, none⟩ = some (.int .i8 t260) := (blk_cell BK262.out 1).trans rfl; have hcz21_2 : w20.cell? ⟨gb262, 2, none⟩ = some (.int .i8 t261) := (blk_cell BK262.out 2).trans rfl; have hfz21_0 := blk_frozen BK262.out 0; have hfz21_1 := blk_frozen BK262.out 1; have hfz21_2 := blk_frozen BK262.out 2) | (go_at_call 22; (with_reducible refine (spec_ExtraFor.calls kj2 _ _ t256 (wrap64 (t259)) t265 t266 _ ?side1 ?side2 A11.out).mono ?_); (case side1 => repeat (first | exact (Kd.R_reads' HO258.out).2.2 | (with_reducible refine Kd.C_alloc ?_ _) | (with_reducible refine Kd.C_drewN ?_ _) | (with_reducible refine Kd.C_drew ?_))); (case side2 => exact (Kd.R_reads' HO258.out).2.1); rintro e w' ⟨rfl, ⟨nd, rfl⟩⟩; (try first | exact ⟨rfl, _, World.drewN_drewN _ _ _⟩ | exact ⟨rfl, _, Eq.trans (World.drewN_drewN _ _ _) (congrArg (World.drewN _) (Nat.add_assoc _ _ _))⟩)) | (go_at_call 28; (with_reducible refine (impl_CorrectedFor.calls kj2 _ _ t256 t259 t260 t261 t267 t268 t269 t270 _ ?side1 ?side2 A12.out).mono ?_); (case side1 => repeat (first | exact (Kd.R_reads' HO258.out).2.2 | (with_reducible refine Kd.C_alloc ?_ _) | (with_reducible refine Kd.C_drewN ?_ _) | (with_reducible refine Kd.C_drew ?_))); (case side2 => exact (Kd.R_reads' HO258.out).2.1); rintro e w22 ⟨rfl, hb⟩; have n0_ := Aside0.mk (Kd.R_below (by (with_reducible repeat (first | apply Kd.R_alloc | apply Kd.R_drewN | apply Kd.R_drew)); exact HO258.out) hb); have n1_ := Aside0.mk (blk_below (g := gb262) (o := .cells #[.int .i8 t259, .int .i8 t260, .int .i8 t261] 41 (0, 0)) (by (with_reducible repeat (first | refine blk_drewN ?_ _ | refine blk_drew ?_ | refine blk_alloc ?_ _)); exact BK262.out) hb); have n2_ := Aside0.mk (below_step (by repeat (first | (with_reducible first | exact HB.out | apply below_alloc | apply pw_below_drewN | apply below_drew1 | refine below_set ?_ GE262.out) | exact HB.out)) hb); clear HO258; clear BK262; clear HB; have HO258 := n0_; have BK262 := n1_; have HB := n2_; clear n0_ n1_ n2_; (try clear hb); (try clear hb2); (try clear hk); (try clear hi)) | ((with_reducible refine gate_dst (N := 11) rfl ?_); refine box_event ?hg (N := 11) ?hd (cs := #[.int .i8 0, .int .i8 0, .int .i8 0]) (t := 41) ?hr ?_; (case hd => rfl); (case hg => rfl); (case hr => first | (go_simp; done) | (go_simp; rfl)); intro gb271 hg w23 hbox hb; have n0_ := Aside0.mk (Kd.R_below (by (with_reducible repeat (first | apply Kd.R_alloc | apply Kd.R_drewN | apply Kd.R_drew)); exact HO258.out) hb); have n1_ := Aside0.mk (blk_below (g := gb262) (o := .cells #[.int .i8 t259, .int .i8 t260, .int .i8 t261] 41 (0, 0)) (by (with_reducible repeat (first | refine blk_drewN ?_ _ | refine blk_drew ?_ | refine blk_alloc ?_ _)); exact BK262.out) hb); have n2_ := Aside0.mk (below_step (by repeat (first | (with_reducible first | exact HB.out | apply below_alloc | apply pw_below_drewN | apply below_drew1 | refine below_set ?_ GE262.out) | exact HB.out)) hb); have n3_ := Aside0.mk (hbox); have n4_ := Aside0.mk ((by rw [hg]; exact (below_size (by repeat (first | (with_reducible first | exact HB.out | apply below_alloc | apply pw_below_drewN | apply below_drew1 | refine below_set ?_ GE262.out) | exact HB.out))) : w.heap.size ≤ gb271)); have n5_ := Aside0.mk ((by rw [hg]; exact (below_size (by repeat (first | (with_reducible first | exact HB.out | apply below_alloc | apply pw_below_drewN | apply below_drew1 | refine below_set ?_ GE262.out) | exact HB.out))) : w.heap.size ≤ gb271)); have n6_ := Aside0.mk ((by rw [hg]; exact Nat.ne_of_lt (blk_lt (g := gb262) (o := .cells #[.int .i8 t259, .int .i8 t260, .int .i8 t261] 41 (0, 0)) (by (with_reducible repeat (first | refine blk_drewN ?_ _ | refine blk_drew ?_ | refine blk_alloc ?_ _)); exact BK262.out)) : gb262 ≠ gb271)); have n7_ := Aside0.mk ((by rw [hg]; exact Nat.ne_of_gt (blk_lt (g := gb262) (o := .cells #[.int .i8 t259, .int .i8 t260, .int .i8 t261] 41 (0, 0)) (by (with_reducible repeat (first | refine blk_drewN ?_ _ | refine blk_drew ?_ | refine blk_alloc ?_ _)); exact BK262.out)) : gb271 ≠ gb262)); clear HO258; clear BK262; clear HB; have HO258 := n0_; have BK262 := n1_; have HB := n2_; have BK271 := n3_; have GW271 := n4_; have GE271 := n5_; have NB262_271 := n6_; have NB271_262 := n7_; clear n0_ n1_ n2_ n3_ n4_ n5_ n6_ n7_; clear hb hbox hg; have hnb24 := NB271_262.out; have hnc24 := NB262_271.out; have hcz25_0 : w23.cell? ⟨gb271, 0, none⟩ = some (.int .i8 0) := (blk_cell BK271.out 0).trans rfl; have hcz25_1 : w23.cell? ⟨gb271, 1, none⟩ = some (.int .i8 0) := (blk_cell BK271.out 1).trans rfl; have hcz25_2 : w23.cell? ⟨gb271, 2, none⟩ = some (.int .i8 0) := (blk_cell BK271.out 2).trans rfl; have hfz25_0 := blk_frozen BK271.out 0; have hfz25_1 := blk_frozen BK271.out 1; have hfz25_2 := blk_frozen BK271.out 2; have hcz26_0 : w23.cell? ⟨gb262, 0, none⟩ = some (.int .i8 t259) := (blk_cell BK262.out 0).trans rfl; have hcz26_1 : w23.cell? ⟨gb262, 1, none⟩ = some (.int .i8 t260) := (blk_cell BK262.out 1).trans rfl; have hcz26_2 : w23.cell? ⟨gb262, 2, none⟩ = some (.int .i8 t261) := (blk_cell BK262.out 2).trans rfl; have hfz26_0 := blk_frozen BK262.out 0; have hfz26_1 := blk_frozen BK262.out 1; have hfz26_2 := blk_frozen BK262.out 2) | (go_at_call 26; (with_reducible refine (spec_CorrectedFor.calls kj2 _ _ t256 t259 t260 t261 t272 t273 t274 t275 _ ?side1 ?side2 A13.out).mono ?_); (case side1 => refine (Kd.R_reads' (e := 68) (base := w.heap.size) (ok := fun k_ => True) (n := t256.length) (c := co19) ?_).2.2; exact (by (with_reducible repeat (first | apply Kd.R_alloc | apply Kd.R_drewN | apply Kd.R_drew)); exact (Kd.R_mono (Kd.R_far (p := ⟨gb271, 2, none⟩) (Kd.R_far (p := ⟨gb271, 1, none⟩) (Kd.R_far (p := ⟨gb271, 0, none⟩) (Kd.R_types HO258.out BK271.out (by decide)) (fun _ hk => hk.2) (.int .i8 t267)) (fun _ hk => hk.2) (.int .i8 t268)) (fun _ hk => hk.2) (.int .i8 t269)) (fun _ h_ => h_.1)))); (case side2 => exact (Kd.R_reads' HO258.out).2.1); rintro e w27 ⟨rfl, hb⟩; have n0_ := Aside0.mk (Kd.R_below (by (with_reducible repeat (first | apply Kd.R_alloc | apply Kd.R_drewN | apply Kd.R_drew)); exact (Kd.R_mono (Kd.R_far (p := ⟨gb271, 2, none⟩) (Kd.R_far (p := ⟨gb271, 1, none⟩) (Kd.R_far (p := ⟨gb271, 0, none⟩) (Kd.R_types HO258.out BK271.out (by decide)) (fun _ hk => hk.2) (.int .i8 t267)) (fun _ hk => hk.2) (.int .i8 t268)) (fun _ hk => hk.2) (.int .i8 t269)) (fun _ h_ => h_.1))) hb); have n1_ := Aside0.mk (blk_below (g := gb262) (o := .cells #[.int .i8 t259, .int .i8 t260, .int .i8 t261] 41 (0, 0)) (by (with_reducible repeat (first | refine blk_drewN ?_ _ | refine blk_drew ?_ | refine blk_alloc ?_ _)); refine blk_far ?_ NB262_271.out _; (with_reducible repeat (first | refine blk_drewN ?_ _ | refine blk_drew ?_ | refine blk_alloc ?_ _)); refine blk_far ?_ NB262_271.out _; (with_reducible repeat (first | refine blk_drewN ?_ _ | refine blk_drew ?_ | refine blk_alloc ?_ _)); refine blk_far ?_ NB262_271.out _; (with_reducible repeat (first | refine blk_drewN ?_ _ | refine blk_drew ?_ | refine blk_alloc ?_ _)); exact BK262.out) hb); have n2_ := Aside0.mk (blk_below (g := gb271) (o := .cells #[.int .i8 t267, .int .i8 t268, .int .i8 t269] 41 (0, 0)) (by (with_reducible repeat (first | refine blk_drewN ?_ _ | refine blk_drew ?_ | refine blk_alloc ?_ _)); refine blk_put (cs := #[.int .i8 t267, .int .i8 t268, .int .i8 0]) ?_ 2 _ rfl; (with_reducible repeat (first | refine blk_drewN ?_ _ | refine blk_drew ?_ | refine blk_alloc ?_ _)); refine blk_put (cs := #[.int .i8 t267, .int .i8 0, .int .i8 0]) ?_ 1 _ rfl; (with_reducible repeat (first | refine blk_drewN ?_ _ | refine blk_drew ?_ | refine blk_alloc ?_ _)); refine blk_put (cs := #[.int .i8 0, .int .i8 0, .int .i8 0]) ?_ 0 _ rfl; (with_reducible repeat (first | refine blk_drewN ?_ _ | refine blk_drew ?_ | refine blk_alloc ?_ _)); exact BK271.out) hb); have n3_ := Aside0.mk (below_step (by repeat (first | (with_reducible first | exact HB.out | apply below_alloc | apply pw_below_drewN | apply below_drew1 | refine below_set ?_ GE262.out | refine below_set ?_ GE271.out) | exact HB.out)) hb); clear HO258; clear BK262; clear BK271; clear HB; have HO258 := n0_; have BK262 := n1_; have BK271 := n2_; have HB := n3_; clear n0_ n1_ n2_ n3_; (try clear hb); (try clear hb2); (try clear hk); (try clear hi)) | ((with_reducible refine gate_dst (N := 13) rfl ?_); refine box_event ?hg (N := 13) ?hd (cs := #[.int .i8 0, .int .i8 0, .int .i8 0]) (t := 41) ?hr ?_; (case hd => rfl); (case hg => rfl); (case hr => first | (go_simp; done) | (go_simp; rfl)); intro gb276 hg w28 hbox hb; have n0_ := Aside0.mk (Kd.R_below (by (with_reducible repeat (first | apply Kd.R_alloc | apply Kd.R_drewN | apply Kd.R_drew)); exact HO258.out) hb); have n1_ := Aside0.mk (blk_below (g := gb262) (o := .cells #[.int .i8 t259, .int .i8 t260, .int .i8 t261] 41 (0, 0)) (by (with_reducible repeat (first | refine blk_drewN ?_ _ | refine blk_drew ?_ | refine blk_alloc ?_ _)); exact BK262.out) hb); have n2_ := Aside0.mk (blk_below (g := gb271) (o := .cells #[.int .i8 t267, .int .i8 t268, .int .i8 t269] 41 (0, 0)) (by (with_reducible repeat (first | refine blk_drewN ?_ _ | refine blk_drew ?_ | refine blk_alloc ?_ _)); exact BK271.out) hb); have n3_ := Aside0.mk (below_step (by repeat (first | (with_reducible first | exact HB.out | apply below_alloc | apply pw_below_drewN | apply below_drew1 | refine below_set ?_ GE262.out | refine below_set ?_ GE271.out) | exact HB.out)) hb); have n4_ := Aside0.mk (hbox); have n5_ := Aside0.mk ((by rw [hg]; exact (below_size (by repeat (first | (with_reducible first | exact HB.out | apply below_alloc | apply pw_below_drewN | apply below_drew1 | refine below_set ?_ GE262.out | refine below_set ?_ GE271.out) | exact HB.out))) : w.heap.size ≤ gb276)); have n6_ := Aside0.mk ((by rw [hg]; exact (below_size (by repeat (first | (with_reducible first | exact HB.out | apply below_alloc | apply pw_below_drewN | apply below_drew1 | refine below_set ?_ GE262.out | refine below_set ?_ GE271.out) | exact HB.out))) : w.heap.size ≤ gb276)); have n7_ := Aside0.mk ((by rw [hg]; exact Nat.ne_of_lt (blk_lt (g := gb262) (o := .cells #[.int .i8 t259, .int .i8 t260, .int .i8 t261] 41 (0, 0)) (by (with_reducible repeat (first | refine blk_drewN ?_ _ | refine blk_drew ?_ | refine blk_alloc ?_ _)); exact BK262.out)) : gb262 ≠ gb276)); have n8_ := Aside0.mk ((by rw [hg]; exact Nat.ne_of_gt (blk_lt (g := gb262) (o := .cells #[.int .i8 t259, .int .i8 t260, .int .i8 t261] 41 (0, 0)) (by (with_reducible repeat (first | refine blk_drewN ?_ _ | refine blk_drew ?_ | refine blk_alloc ?_ _)); exact BK262.out)) : gb276 ≠ gb262)); have n9_ := Aside0.mk ((by rw [hg]; exact Nat.ne_of_lt (blk_lt (g := gb271) (o := .cells #[.int .i8 t267, .int .i8 t268, .int .i8 t269] 41 (0, 0)) (by (with_reducible repeat (first | refine blk_drewN ?_ _ | refine blk_drew ?_ | refine blk_alloc ?_ _)); exact BK271.out)) : gb271 ≠ gb276)); have n10_ := Aside0.mk ((by rw [hg]; exact Nat.ne_of_gt (blk_lt (g := gb271) (o := .cells #[.int .i8 t267, .int .i8 t268, .int .i8 t269] 41 (0, 0)) (by (with_reducible repeat (first | refine blk_drewN ?_ _ | refine blk_drew ?_ | refine blk_alloc ?_ _)); exact BK271.out)) : gb276 ≠ gb271)); clear HO258; clear BK262; clear BK271; clear HB; have HO258 := n0_; have BK262 := n1_; have BK271 := n2_; have HB := n3_; have BK276 := n4_; have GW276 := n5_; have GE276 := n6_; have NB262_276 := n7_; have NB276_262 := n8_; have NB271_276 := n9_; have NB276_271 := n10_; clear n0_ n1_ n2_ n3_ n4_ n5_ n6_ n7_ n8_ n9_ n10_; clear hb hbox hg; have hnb29 := NB276_262.out; have hnc29 := NB262_276.out; have hnb30 := NB276_271.out; have hnc30 := NB271_276.out; have hcz31_0 : w28.cell? ⟨gb276, 0, none⟩ = some (.int .i8 0) := (blk_cell BK276.out 0).trans rfl; have hcz31_1 : w28.cell? ⟨gb276, 1, none⟩ = some (.int .i8 0) := (blk_cell BK276.out 1).trans rfl; have hcz31_2 : w28.cell? ⟨gb276, 2, none⟩ = some (.int .i8 0) := (blk_cell BK276.out 2).trans rfl; have hfz31_0 := blk_frozen BK276.out 0; have hfz31_1 := blk_frozen BK276.out 1; have hfz31_2 := blk_frozen BK276.out 2)); go_upto_region 9 with (first | (go_at_call 42; (with_reducible refine (spec_P6Table.calls kj2 _ _ l0 t256 _ ?side1 ?side2 A8.out).mono ?_); (case side1 => repeat (first | exact (Kd.C_below HR0.out HB.out) | (with_reducible refine Kd.C_alloc ?_ _) | (with_reducible refine Kd.C_drewN ?_ _) | (with_reducible refine Kd.C_drew ?_))); (case side2 => exact HC0.out); rintro e w15 ⟨v257, rfl, ho0, hb⟩; have n0_ := Aside0.mk (Kd.R_lower ho0 (below_size (by repeat (first | (with_reducible first | exact HB.out | apply below_alloc | apply pw_below_drewN | apply below_drew1) | exact HB.out)))); have n1_ := Aside0.mk (below_step (by repeat (first | (with_reducible first | exact HB.out | apply below_alloc | apply pw_below_drewN | apply below_drew1) | exact HB.out)) hb); clear HB; have HO258 := n0_; have HB := n1_; clear n0_ n1_; (try clear hb); (try clear hb2); (try clear hk); (try clear hi); (try clear ho0)) | (go_at_call 43; (with_reducible refine (spec_P6Setting.calls _ _ l1 t259 t260 t261 _ ?side1 ?side2 A9.out).mono ?_); (case side1 => repeat (first | exact (Kd.C_below HR1.out HB.out) | (with_reducible refine Kd.C_alloc ?_ _) | (with_reducible refine Kd.C_drewN ?_ _) | (with_reducible refine Kd.C_drew ?_))); (case side2 => exact HC1.out); rintro e w16 ⟨rfl, hb⟩; have n0_ := Aside0.mk (Kd.R_below (by (with_reducible repeat (first | apply Kd.R_alloc | apply Kd.R_drewN | apply Kd.R_drew)); exact HO258.out) hb); have n1_ := Aside0.mk (below_step (by repeat (first | (with_reducible first | exact HB.out | apply below_alloc | apply pw_below_drewN | apply below_drew1) | exact HB.out)) hb); clear HO258; clear HB; have HO258 := n0_; have HB := n1_; clear n0_ n1_; (try clear hb); (try clear hb2); (try clear hk); (try clear hi)) | ((with_reducible refine gate_dst (N := 6) rfl ?_); refine box_event ?hg (N := 6) ?hd (cs := #[.int .i8 0, .int .i8 0, .int .i8 0]) (t := 41) ?hr ?_; (case hd => rfl); (case hg => rfl); (case hr => first | (go_simp; done) | (go_simp; rfl)); intro gb262 hg w17 hbox hb; have n0_ := Aside0.mk (Kd.R_below (by (with_reducible repeat (first | apply Kd.R_alloc | apply Kd.R_drewN | apply Kd.R_drew)); exact HO258.out) hb); have n1_ := Aside0.mk (below_step (by repeat (first | (with_reducible first | exact HB.out | apply below_alloc | apply pw_below_drewN | apply below_drew1) | exact HB.out)) hb); have n2_ := Aside0.mk (hbox); have n3_ := Aside0.mk ((by rw [hg]; exact (below_size (by repeat (first | (with_reducible first | exact HB.out | apply below_alloc | apply pw_below_drewN | apply below_drew1) | exact HB.out))) : w.heap.size ≤ gb262)); have n4_ := Aside0.mk ((by rw [hg]; exact (below_size (by repeat (first | (with_reducible first | exact HB.out | apply below_alloc | apply pw_below_drewN | apply below_drew1) | exact HB.out))) : w.heap.size ≤ gb262)); clear HO258; clear HB; have HO258 := n0_; have HB := n1_; have BK262 := n2_; have GW262 := n3_; have GE262 := n4_; clear n0_ n1_ n2_ n3_ n4_; clear hb hbox hg; have hcz18_0 : w17.cell? ⟨gb262, 0, none⟩ = some (.int .i8 0) := (blk_cell BK262.out 0).trans rfl; have hcz18_1 : w17.cell? ⟨gb262, 1, none⟩ = some (.int .i8 0) := (blk_cell BK262.out 1).trans rfl; have hcz18_2 : w17.cell? ⟨gb262, 2, none⟩ = some (.int .i8 0) := (blk_cell BK262.out 2).trans rfl; have hfz18_0 := blk_frozen BK262.out 0; have hfz18_1 := blk_frozen BK262.out 1; have hfz18_2 := blk_frozen BK262.out 2; obtain ⟨Ao19, co19, eo19⟩ := Kd.R_slice HO258.out; subst eo19) | (go_at_call 23; (with_reducible refine (impl_ExtraFor.calls kj2 _ _ t256 (wrap64 (t259)) t263 t264 _ ?side1 ?side2 A10.out).mono ?_); (case side1 => refine (Kd.R_reads' (e := 68) (base := w.heap.size) (ok := fun k_ => True) (n := t256.length) (c := co19) ?_).2.2; exact (by (with_reducible repeat (first | apply Kd.R_alloc | apply Kd.R_drewN | apply Kd.R_drew)); exact (Kd.R_mono (Kd.R_far (p := ⟨gb262, 2, none⟩) (Kd.R_far (p := ⟨gb262, 1, none⟩) (Kd.R_far (p := ⟨gb262, 0, none⟩) (Kd.R_types HO258.out BK262.out (by decide)) (fun _ hk => hk.2) (.int .i8 t259)) (fun _ hk => hk.2) (.int .i8 t260)) (fun _ hk => hk.2) (.int .i8 t261)) (fun _ h_ => h_.1)))); (case side2 => exact (Kd.R_reads' HO258.out).2.1); rintro e w20 ⟨rfl, hb⟩; have n0_ := Aside0.mk (Kd.R_below (by (with_reducible repeat (first | apply Kd.R_alloc | apply Kd.R_drewN | apply Kd.R_drew)); exact (Kd.R_mono (Kd.R_far (p := ⟨gb262, 2, none⟩) (Kd.R_far (p := ⟨gb262, 1, none⟩) (Kd.R_far (p := ⟨gb262, 0, none⟩) (Kd.R_types HO258.out BK262.out (by decide)) (fun _ hk => hk.2) (.int .i8 t259)) (fun _ hk => hk.2) (.int .i8 t260)) (fun _ hk => hk.2) (.int .i8 t261)) (fun _ h_ => h_.1))) hb); have n1_ := Aside0.mk (blk_below (g := gb262) (o := .cells #[.int .i8 t259, .int .i8 t260, .int .i8 t261] 41 (0, 0)) (by (with_reducible repeat (first | refine blk_drewN ?_ _ | refine blk_drew ?_ | refine blk_alloc ?_ _)); refine blk_put (cs := #[.int .i8 t259, .int .i8 t260, .int .i8 0]) ?_ 2 _ rfl; (with_reducible repeat (first | refine blk_drewN ?_ _ | refine blk_drew ?_ | refine blk_alloc ?_ _)); refine blk_put (cs := #[.int .i8 t259, .int .i8 0, .int .i8 0]) ?_ 1 _ rfl; (with_reducible repeat (first | refine blk_drewN ?_ _ | refine blk_drew ?_ | refine blk_alloc ?_ _)); refine blk_put (cs := #[.int .i8 0, .int .i8 0, .int .i8 0]) ?_ 0 _ rfl; (with_reducible repeat (first | refine blk_drewN ?_ _ | refine blk_drew ?_ | refine blk_alloc ?_ _)); exact BK262.out) hb); have n2_ := Aside0.mk (below_step (by repeat (first | (with_reducible first | exact HB.out | apply below_alloc | apply pw_below_drewN | apply below_drew1 | refine below_set ?_ GE262.out) | exact HB.out)) hb); clear HO258; clear BK262; clear HB; have HO258 := n0_; have BK262 := n1_; have HB := n2_; clear n0_ n1_ n2_; (try clear hb); (try clear hb2); (try clear hk); (try clear hi); have hcz21_0 : w20.cell? ⟨gb262, 0, none⟩ = some (.int .i8 t259) := (blk_cell BK262.out 0).trans rfl; have hcz21_1 : w20.cell? ⟨gb262, 1, none⟩ = some (.int .i8 t260) := (blk_cell BK262.out 1).trans rfl; have hcz21_2 : w20.cell? ⟨gb262, 2, none⟩ = some (.int .i8 t261) := (blk_cell BK262.out 2).trans rfl; have hfz21_0 := blk_frozen BK262.out 0; have hfz21_1 := blk_frozen BK262.out 1; have hfz21_2 := blk_frozen BK262.out 2) | (go_at_call 22; (with_reducible refine (spec_ExtraFor.calls kj2 _ _ t256 (wrap64 (t259)) t265 t266 _ ?side1 ?side2 A11.out).mono ?_); (case side1 => repeat (first | exact (Kd.R_reads' HO258.out).2.2 | (with_reducible refine Kd.C_alloc ?_ _) | (with_reducible refine Kd.C_drewN ?_ _) | (with_reducible refine Kd.C_drew ?_))); (case side2 => exact (Kd.R_reads' HO258.out).2.1); rintro e w' ⟨rfl, ⟨nd, rfl⟩⟩; (try first | exact ⟨rfl, _, World.drewN_drewN _ _ _⟩ | exact ⟨rfl, _, Eq.trans (World.drewN_drewN _ _ _) (congrArg (World.drewN _) (Nat.add_assoc _ _ _))⟩)) | (go_at_call 28; (with_reducible refine (impl_CorrectedFor.calls kj2 _ _ t256 t259 t260 t261 t267 t268 t269 t270 _ ?side1 ?side2 A12.out).mono ?_); (case side1 => repeat (first | exact (Kd.R_reads' HO258.out).2.2 | (with_reducible refine Kd.C_alloc ?_ _) | (with_reducible refine Kd.C_drewN ?_ _) | (with_reducible refine Kd.C_drew ?_))); (case side2 => exact (Kd.R_reads' HO258.out).2.1); rintro e w22 ⟨rfl, hb⟩; have n0_ := Aside0.mk (Kd.R_below (by (with_reducible repeat (first | apply Kd.R_alloc | apply Kd.R_drewN | apply Kd.R_drew)); exact HO258.out) hb); have n1_ := Aside0.mk (blk_below (g := gb262) (o := .cells #[.int .i8 t259, .int .i8 t260, .int .i8 t261] 41 (0, 0)) (by (with_reducible repeat (first | refine blk_drewN ?_ _ | refine blk_drew ?_ | refine blk_alloc ?_ _)); exact BK262.out) hb); have n2_ := Aside0.mk (below_step (by repeat (first | (with_reducible first | exact HB.out | apply below_alloc | apply pw_below_drewN | apply below_drew1 | refine below_set ?_ GE262.out) | exact HB.out)) hb); clear HO258; clear BK262; clear HB; have HO258 := n0_; have BK262 := n1_; have HB := n2_; clear n0_ n1_ n2_; (try clear hb); (try clear hb2); (try clear hk); (try clear hi)) | ((with_reducible refine gate_dst (N := 11) rfl ?_); refine box_event ?hg (N := 11) ?hd (cs := #[.int .i8 0, .int .i8 0, .int .i8 0]) (t := 41) ?hr ?_; (case hd => rfl); (case hg => rfl); (case hr => first | (go_simp; done) | (go_simp; rfl)); intro gb271 hg w23 hbox hb; have n0_ := Aside0.mk (Kd.R_below (by (with_reducible repeat (first | apply Kd.R_alloc | apply Kd.R_drewN | apply Kd.R_drew)); exact HO258.out) hb); have n1_ := Aside0.mk (blk_below (g := gb262) (o := .cells #[.int .i8 t259, .int .i8 t260, .int .i8 t261] 41 (0, 0)) (by (with_reducible repeat (first | refine blk_drewN ?_ _ | refine blk_drew ?_ | refine blk_alloc ?_ _)); exact BK262.out) hb); have n2_ := Aside0.mk (below_step (by repeat (first | (with_reducible first | exact HB.out | apply below_alloc | apply pw_below_drewN | apply below_drew1 | refine below_set ?_ GE262.out) | exact HB.out)) hb); have n3_ := Aside0.mk (hbox); have n4_ := Aside0.mk ((by rw [hg]; exact (below_size (by repeat (first | (with_reducible first | exact HB.out | apply below_alloc | apply pw_below_drewN | apply below_drew1 | refine below_set ?_ GE262.out) | exact HB.out))) : w.heap.size ≤ gb271)); have n5_ := Aside0.mk ((by rw [hg]; exact (below_size (by repeat (first | (with_reducible first | exact HB.out | apply below_alloc | apply pw_below_drewN | apply below_drew1 | refine below_set ?_ GE262.out) | exact HB.out))) : w.heap.size ≤ gb271)); have n6_ := Aside0.mk ((by rw [hg]; exact Nat.ne_of_lt (blk_lt (g := gb262) (o := .cells #[.int .i8 t259, .int .i8 t260, .int .i8 t261] 41 (0, 0)) (by (with_reducible repeat (first | refine blk_drewN ?_ _ | refine blk_drew ?_ | refine blk_alloc ?_ _)); exact BK262.out)) : gb262 ≠ gb271)); have n7_ := Aside0.mk ((by rw [hg]; exact Nat.ne_of_gt (blk_lt (g := gb262) (o := .cells #[.int .i8 t259, .int .i8 t260, .int .i8 t261] 41 (0, 0)) (by (with_reducible repeat (first | refine blk_drewN ?_ _ | refine blk_drew ?_ | refine blk_alloc ?_ _)); exact BK262.out)) : gb271 ≠ gb262)); clear HO258; clear BK262; clear HB; have HO258 := n0_; have BK262 := n1_; have HB := n2_; have BK271 := n3_; have GW271 := n4_; have GE271 := n5_; have NB262_271 := n6_; have NB271_262 := n7_; clear n0_ n1_ n2_ n3_ n4_ n5_ n6_ n7_; clear hb hbox hg; have hnb24 := NB271_262.out; have hnc24 := NB262_271.out; have hcz25_0 : w23.cell? ⟨gb271, 0, none⟩ = some (.int .i8 0) := (blk_cell BK271.out 0).trans rfl; have hcz25_1 : w23.cell? ⟨gb271, 1, none⟩ = some (.int .i8 0) := (blk_cell BK271.out 1).trans rfl; have hcz25_2 : w23.cell? ⟨gb271, 2, none⟩ = some (.int .i8 0) := (blk_cell BK271.out 2).trans rfl; have hfz25_0 := blk_frozen BK271.out 0; have hfz25_1 := blk_frozen BK271.out 1; have hfz25_2 := blk_frozen BK271.out 2; have hcz26_0 : w23.cell? ⟨gb262, 0, none⟩ = some (.int .i8 t259) := (blk_cell BK262.out 0).trans rfl; have hcz26_1 : w23.cell? ⟨gb262, 1, none⟩ = some (.int .i8 t260) := (blk_cell BK262.out 1).trans rfl; have hcz26_2 : w23.cell? ⟨gb262, 2, none⟩ = some (.int .i8 t261) := (blk_cell BK262.out 2).trans rfl; have hfz26_0 := blk_frozen BK262.out 0; have hfz26_1 := blk_frozen BK262.out 1; have hfz26_2 := blk_frozen BK262.out 2) | (go_at_call 26; (with_reducible refine (spec_CorrectedFor.calls kj2 _ _ t256 t259 t260 t261 t272 t273 t274 t275 _ ?side1 ?side2 A13.out).mono ?_); (case side1 => refine (Kd.R_reads' (e := 68) (base := w.heap.size) (ok := fun k_ => True) (n := t256.length) (c := co19) ?_).2.2; exact (by (with_reducible repeat (first | apply Kd.R_alloc | apply Kd.R_drewN | apply Kd.R_drew)); exact (Kd.R_mono (Kd.R_far (p := ⟨gb271, 2, none⟩) (Kd.R_far (p := ⟨gb271, 1, none⟩) (Kd.R_far (p := ⟨gb271, 0, none⟩) (Kd.R_types HO258.out BK271.out (by decide)) (fun _ hk => hk.2) (.int .i8 t267)) (fun _ hk => hk.2) (.int .i8 t268)) (fun _ hk => hk.2) (.int .i8 t269)) (fun _ h_ => h_.1)))); (case side2 => exact (Kd.R_reads' HO258.out).2.1); rintro e w27 ⟨rfl, hb⟩; have n0_ := Aside0.mk (Kd.R_below (by (with_reducible repeat (first | apply Kd.R_alloc | apply Kd.R_drewN | apply Kd.R_drew)); exact (Kd.R_mono (Kd.R_far (p := ⟨gb271, 2, none⟩) (Kd.R_far (p := ⟨gb271, 1, none⟩) (Kd.R_far (p := ⟨gb271, 0, none⟩) (Kd.R_types HO258.out BK271.out (by decide)) (fun _ hk => hk.2) (.int .i8 t267)) (fun _ hk => hk.2) (.int .i8 t268)) (fun _ hk => hk.2) (.int .i8 t269)) (fun _ h_ => h_.1))) hb); have n1_ := Aside0.mk (blk_below (g := gb262) (o := .cells #[.int .i8 t259, .int .i8 t260, .int .i8 t261] 41 (0, 0)) (by (with_reducible repeat (first | refine blk_drewN ?_ _ | refine blk_drew ?_ | refine blk_alloc ?_ _)); refine blk_far ?_ NB262_271.out _; (with_reducible repeat (first | refine blk_drewN ?_ _ | refine blk_drew ?_ | refine blk_alloc ?_ _)); refine blk_far ?_ NB262_271.out _; (with_reducible repeat (first | refine blk_drewN ?_ _ | refine blk_drew ?_ | refine blk_alloc ?_ _)); refine blk_far ?_ NB262_271.out _; (with_reducible repeat (first | refine blk_drewN ?_ _ | refine blk_drew ?_ | refine blk_alloc ?_ _)); exact BK262.out) hb); have n2_ := Aside0.mk (blk_below (g := gb271) (o := .cells #[.int .i8 t267, .int .i8 t268, .int .i8 t269] 41 (0, 0)) (by (with_reducible repeat (first | refine blk_drewN ?_ _ | refine blk_drew ?_ | refine blk_alloc ?_ _)); refine blk_put (cs := #[.int .i8 t267, .int .i8 t268, .int .i8 0]) ?_ 2 _ rfl; (with_reducible repeat (first | refine blk_drewN ?_ _ | refine blk_drew ?_ | refine blk_alloc ?_ _)); refine blk_put (cs := #[.int .i8 t267, .int .i8 0, .int .i8 0]) ?_ 1 _ rfl; (with_reducible repeat (first | refine blk_drewN ?_ _ | refine blk_drew ?_ | refine blk_alloc ?_ _)); refine blk_put (cs := #[.int .i8 0, .int .i8 0, .int .i8 0]) ?_ 0 _ rfl; (with_reducible repeat (first | refine blk_drewN ?_ _ | refine blk_drew ?_ | refine blk_alloc ?_ _)); exact BK271.out) hb); have n3_ := Aside0.mk (below_step (by repeat (first | (with_reducible first | exact HB.out | apply below_alloc | apply pw_below_drewN | apply below_drew1 | refine below_set ?_ GE262.out | refine below_set ?_ GE271.out) | exact HB.out)) hb); clear HO258; clear BK262; clear BK271; clear HB; have HO258 := n0_; have BK262 := n1_; have BK271 := n2_; have HB := n3_; clear n0_ n1_ n2_ n3_; (try clear hb); (try clear hb2); (try clear hk); (try clear hi)) | ((with_reducible refine gate_dst (N := 13) rfl ?_); refine box_event ?hg (N := 13) ?hd (cs := #[.int .i8 0, .int .i8 0, .int .i8 0]) (t := 41) ?hr ?_; (case hd => rfl); (case hg => rfl); (case hr => first | (go_simp; done) | (go_simp; rfl)); intro gb276 hg w28 hbox hb; have n0_ := Aside0.mk (Kd.R_below (by (with_reducible repeat (first | apply Kd.R_alloc | apply Kd.R_drewN | apply Kd.R_drew)); exact HO258.out) hb); have n1_ := Aside0.mk (blk_below (g := gb262) (o := .cells #[.int .i8 t259, .int .i8 t260, .int .i8 t261] 41 (0, 0)) (by (with_reducible repeat (first | refine blk_drewN ?_ _ | refine blk_drew ?_ | refine blk_alloc ?_ _)); exact BK262.out) hb); have n2_ := Aside0.mk (blk_below (g := gb271) (o := .cells #[.int .i8 t267, .int .i8 t268, .int .i8 t269] 41 (0, 0)) (by (with_reducible repeat (first | refine blk_drewN ?_ _ | refine blk_drew ?_ | refine blk_alloc ?_ _)); exact BK271.out) hb); have n3_ := Aside0.mk (below_step (by repeat (first | (with_reducible first | exact HB.out | apply below_alloc | apply pw_below_drewN | apply below_drew1 | refine below_set ?_ GE262.out | refine below_set ?_ GE271.out) | exact HB.out)) hb); have n4_ := Aside0.mk (hbox); have n5_ := Aside0.mk ((by rw [hg]; exact (below_size (by repeat (first | (with_reducible first | exact HB.out | apply below_alloc | apply pw_below_drewN | apply below_drew1 | refine below_set ?_ GE262.out | refine below_set ?_ GE271.out) | exact HB.out))) : w.heap.size ≤ gb276)); have n6_ := Aside0.mk ((by rw [hg]; exact (below_size (by repeat (first | (with_reducible first | exact HB.out | apply below_alloc | apply pw_below_drewN | apply below_drew1 | refine below_set ?_ GE262.out | refine below_set ?_ GE271.out) | exact HB.out))) : w.heap.size ≤ gb276)); have n7_ := Aside0.mk ((by rw [hg]; exact Nat.ne_of_lt (blk_lt (g := gb262) (o := .cells #[.int .i8 t259, .int .i8 t260, .int .i8 t261] 41 (0, 0)) (by (with_reducible repeat (first | refine blk_drewN ?_ _ | refine blk_drew ?_ | refine blk_alloc ?_ _)); exact BK262.out)) : gb262 ≠ gb276)); have n8_ := Aside0.mk ((by rw [hg]; exact Nat.ne_of_gt (blk_lt (g := gb262) (o := .cells #[.int .i8 t259, .int .i8 t260, .int .i8 t261] 41 (0, 0)) (by (with_reducible repeat (first | refine blk_drewN ?_ _ | refine blk_drew ?_ | refine blk_alloc ?_ _)); exact BK262.out)) : gb276 ≠ gb262)); have n9_ := Aside0.mk ((by rw [hg]; exact Nat.ne_of_lt (blk_lt (g := gb271) (o := .cells #[.int .i8 t267, .int .i8 t268, .int .i8 t269] 41 (0, 0)) (by (with_reducible repeat (first | refine blk_drewN ?_ _ | refine blk_drew ?_ | refine blk_alloc ?_ _)); exact BK271.out)) : gb271 ≠ gb276)); have n10_ := Aside0.mk ((by rw [hg]; exact Nat.ne_of_gt (blk_lt (g := gb271) (o := .cells #[.int .i8 t267, .int .i8 t268, .int .i8 t269] 41 (0, 0)) (by (with_reducible repeat (first | refine blk_drewN ?_ _ | refine blk_drew ?_ | refine blk_alloc ?_ _)); exact BK271.out)) : gb276 ≠ gb271)); clear HO258; clear BK262; clear BK271; clear HB; have HO258 := n0_; have BK262 := n1_; have BK271 := n2_; have HB := n3_; have BK276 := n4_; have GW276 := n5_; have GE276 := n6_; have NB262_276 := n7_; have NB276_262 := n8_; have NB271_276 := n9_; have NB276_271 := n10_; clear n0_ n1_ n2_ n3_ n4_ n5_ n6_ n7_ n8_ n9_ n10_; clear hb hbox hg; have hnb29 := NB276_262.out; have hnc29 := NB262_276.out; have hnb30 := NB276_271.out; have hnc30 := NB271_276.out; have hcz31_0 : w28.cell? ⟨gb276, 0, none⟩ = some (.int .i8 0) := (blk_cell BK276.out 0).trans rfl; have hcz31_1 : w28.cell? ⟨gb276, 1, none⟩ = some (.int .i8 0) := (blk_cell BK276.out 1).trans rfl; have hcz31_2 : w28.cell? ⟨gb276, 2, none⟩ = some (.int .i8 0) := (blk_cell BK276.out 2).trans rfl; have hfz31_0 := blk_frozen BK276.out 0; have hfz31_1 := blk_frozen BK276.out 1; have hfz31_2 := blk_frozen BK276.out 2)))
        (try simp only [Act.put, List.setIfInBounds_toArray, List.set_cons_zero, List.set_cons_succ])
        go_cut [103] (fun v103 wc => ∃ (kq : Nat) (x103_13 : Bool), v103 = .bool x103_13 ∧ Aside0 (laws_FnLong.j1 kq l1 t256 t265 t270 x103_13 t259 t260 t261 t272 t273 t274 = some r) ∧ Aside0 (kq ≤ kj2) ∧ Aside0 (Kd.R k68 68 wc w.heap.size (fun _ => True) (.slice Ao19 t256.length co19) t256) ∧ Aside0 (wc.heap[gb262]? = some (.cells #[.int .i8 t259, .int .i8 t260, .int .i8 t261] 41 (0, 0))) ∧ Aside0 (wc.heap[gb271]? = some (.cells #[.int .i8 t267, .int .i8 t268, .int .i8 t269] 41 (0, 0))) ∧ Aside0 (wc.heap[gb276]? = some (.cells #[.int .i8 t272, .int .i8 t273, .int .i8 t274] 41 (0, 0))) ∧ Aside0 (Below w.heap.size w wc))
        case first =>
          have H := HC14.out
          clear HC14
          by_cases c32 : t264 = t266
          · rw [if_pos c32] at H
            have c32b0 : (t264 == t266) = true := beq_iff_eq.mpr c32
            have c32b1 : (t264 != t266) = false := bne_eq_false_iff_eq.mpr c32
            clear c32
            (first | rw [c32b0] | (simp only [i64_w, i32_w]; rw [c32b0]) | skip)
            by_cases c33 : t264 = 0
            · rw [if_pos c33] at H
              have c33b0 : (t264 == 0) = true := beq_iff_eq.mpr c33
              have c33b1 : (t264 != 0) = false := bne_eq_false_iff_eq.mpr c33
              clear c33
              by_cases c34 : t263 = t265
              · rw [if_pos c34] at H
                have c34b0 : (t263 == t265) = true := beq_iff_eq.mpr c34
                have c34b1 : (t263 != t265) = false := bne_eq_false_iff_eq.mpr c34
                clear c34
                by_cases c35 : t265 < 0
                · rw [if_pos c35] at H
                  exact absurd H (by simp)
                · rw [if_neg c35] at H
                  have c35b0 : decide (t265 < 0) = false := decide_eq_false c35
                  clear c35
                  by_cases c36 : t270 = t275
                  · rw [if_pos c36] at H
                    have c36b0 : (t270 == t275) = true := beq_iff_eq.mpr c36
                    have c36b1 : (t270 != t275) = false := bne_eq_false_iff_eq.mpr c36
                    clear c36
                    by_cases c37 : (!(t267 == t272) || (!(t268 == t273) || (!(t269 == t274)))) = true
                    · rw [if_pos c37] at H
                      exact absurd H (by simp)
                    · rw [if_neg c37] at H
                      have c37b0 : (!(t267 == t272) || (!(t268 == t273) || (!(t269 == t274)))) = false := by simpa using c37
                      clear c37
                      replace H := Option.bind_eq_some_iff.mp H
                      obtain ⟨t277, A380, H⟩ := H
                      replace H : (laws_FnLong.j1 kj2 l1 t256 t265 t270 (!t277) t259 t260 t261 t272 t273 t274) = some r := H
                      have A38 := Aside0.mk A380
                      clear A380
                      have H' := Aside0.mk H
                      clear H
                      have hnb39 := NB271_262.out
                      have hnc39 := NB262_271.out
                      have hnb40 := NB271_276.out
                      have hnc40 := NB276_271.out
                      have hcz41_0 : w28.cell? ⟨gb271, 0, none⟩ = some (.int .i8 t267) := (blk_cell BK271.out 0).trans rfl
                      have hcz41_1 : w28.cell? ⟨gb271, 1, none⟩ = some (.int .i8 t268) := (blk_cell BK271.out 1).trans rfl
                      have hcz41_2 : w28.cell? ⟨gb271, 2, none⟩ = some (.int .i8 t269) := (blk_cell BK271.out 2).trans rfl
                      have hfz41_0 := blk_frozen BK271.out 0
                      have hfz41_1 := blk_frozen BK271.out 1
                      have hfz41_2 := blk_frozen BK271.out 2
                      have hnb42 := NB276_262.out
                      have hnc42 := NB262_276.out
                      have hcz43_0 : w28.cell? ⟨gb276, 0, none⟩ = some (.int .i8 0) := (blk_cell BK276.out 0).trans rfl
                      have hcz43_1 : w28.cell? ⟨gb276, 1, none⟩ = some (.int .i8 0) := (blk_cell BK276.out 1).trans rfl
                      have hcz43_2 : w28.cell? ⟨gb276, 2, none⟩ = some (.int .i8 0) := (blk_cell BK276.out 2).trans rfl
                      have hfz43_0 := blk_frozen BK276.out 0
                      have hfz43_1 := blk_frozen BK276.out 1
                      have hfz43_2 := blk_frozen BK276.out 2
                      go_wp2_with (first | (go_at_call 15; (with_reducible refine (impl_ValidTable.calls kj2 _ _ t256 t277 _ ?side1 ?side2 A38.out).mono ?_); (case side1 => refine (Kd.R_reads' (e := 68) (base := w.heap.size) (ok := fun k_ => True) (n := t256.length) (c := co19) ?_).2.2; exact (by (with_reducible repeat (first | apply Kd.R_alloc | apply Kd.R_drewN | apply Kd.R_drew)); exact (Kd.R_mono (Kd.R_far (p := ⟨gb276, 2, none⟩) (Kd.R_far (p := ⟨gb276, 1, none⟩) (Kd.R_far (p := ⟨gb276, 0, none⟩) (Kd.R_types HO258.out BK276.out (by decide)) (fun _ hk => hk.2) (.int .i8 t272)) (fun _ hk => hk.2) (.int .i8 t273)) (fun _ hk => hk.2) (.int .i8 t274)) (fun _ h_ => h_.1)))); (case side2 => exact (Kd.R_reads' HO258.out).2.1); rintro e w44 ⟨rfl, hb⟩; have n0_ := Aside0.mk (Kd.R_below (by (with_reducible repeat (first | apply Kd.R_alloc | apply Kd.R_drewN | apply Kd.R_drew)); exact (Kd.R_mono (Kd.R_far (p := ⟨gb276, 2, none⟩) (Kd.R_far (p := ⟨gb276, 1, none⟩) (Kd.R_far (p := ⟨gb276, 0, none⟩) (Kd.R_types HO258.out BK276.out (by decide)) (fun _ hk => hk.2) (.int .i8 t272)) (fun _ hk => hk.2) (.int .i8 t273)) (fun _ hk => hk.2) (.int .i8 t274)) (fun _ h_ => h_.1))) hb); have n1_ := Aside0.mk (blk_below (g := gb262) (o := .cells #[.int .i8 t259, .int .i8 t260, .int .i8 t261] 41 (0, 0)) (by (with_reducible repeat (first | refine blk_drewN ?_ _ | refine blk_drew ?_ | refine blk_alloc ?_ _)); refine blk_far ?_ NB262_276.out _; (with_reducible repeat (first | refine blk_drewN ?_ _ | refine blk_drew ?_ | refine blk_alloc ?_ _)); refine blk_far ?_ NB262_276.out _; (with_reducible repeat (first | refine blk_drewN ?_ _ | refine blk_drew ?_ | refine blk_alloc ?_ _)); refine blk_far ?_ NB262_276.out _; (with_reducible repeat (first | refine blk_drewN ?_ _ | refine blk_drew ?_ | refine blk_alloc ?_ _)); exact BK262.out) hb); have n2_ := Aside0.mk (blk_below (g := gb271) (o := .cells #[.int .i8 t267, .int .i8 t268, .int .i8 t269] 41 (0, 0)) (by (with_reducible repeat (first | refine blk_drewN ?_ _ | refine blk_drew ?_ | refine blk_alloc ?_ _)); refine blk_far ?_ NB271_276.out _; (with_reducible repeat (first | refine blk_drewN ?_ _ | refine blk_drew ?_ | refine blk_alloc ?_ _)); refine blk_far ?_ NB271_276.out _; (with_reducible repeat (first | refine blk_drewN ?_ _ | refine blk_drew ?_ | refine blk_alloc ?_ _)); refine blk_far ?_ NB271_276.out _; (with_reducible repeat (first | refine blk_drewN ?_ _ | refine blk_drew ?_ | refine blk_alloc ?_ _)); exact BK271.out) hb); have n3_ := Aside0.mk (blk_below (g := gb276) (o := .cells #[.int .i8 t272, .int .i8 t273, .int .i8 t274] 41 (0, 0)) (by (with_reducible repeat (first | refine blk_drewN ?_ _ | refine blk_drew ?_ | refine blk_alloc ?_ _)); refine blk_put (cs := #[.int .i8 t272, .int .i8 t273, .int .i8 0]) ?_ 2 _ rfl; (with_reducible repeat (first | refine blk_drewN ?_ _ | refine blk_drew ?_ | refine blk_alloc ?_ _)); refine blk_put (cs := #[.int .i8 t272, .int .i8 0, .int .i8 0]) ?_ 1 _ rfl; (with_reducible repeat (first | refine blk_drewN ?_ _ | refine blk_drew ?_ | refine blk_alloc ?_ _)); refine blk_put (cs := #[.int .i8 0, .int .i8 0, .int .i8 0]) ?_ 0 _ rfl; (with_reducible repeat (first | refine blk_drewN ?_ _ | refine blk_drew ?_ | refine blk_alloc ?_ _)); exact BK276.out) hb); have n4_ := Aside0.mk (below_step (by repeat (first | (with_reducible first | exact HB.out | apply below_alloc | apply pw_below_drewN | apply below_drew1 | refine below_set ?_ GE262.out | refine below_set ?_ GE271.out | refine below_set ?_ GE276.out) | exact HB.out)) hb); clear HO258; clear BK262; clear BK271; clear BK276; clear HB; have HO258 := n0_; have BK262 := n1_; have BK271 := n2_; have BK276 := n3_; have HB := n4_; clear n0_ n1_ n2_ n3_ n4_; (try clear hb); (try clear hb2); (try clear hk); (try clear hi)))
                      repeat (go_quiet (first | (go_at_call 15; (with_reducible refine (impl_ValidTable.calls kj2 _ _ t256 t277 _ ?side1 ?side2 A38.out).mono ?_); (case side1 => refine (Kd.R_reads' (e := 68) (base := w.heap.size) (ok := fun k_ => True) (n := t256.length) (c := co19) ?_).2.2; exact (by (with_reducible repeat (first | apply Kd.R_alloc | apply Kd.R_drewN | apply Kd.R_drew)); exact (Kd.R_mono (Kd.R_far (p := ⟨gb276, 2, none⟩) (Kd.R_far (p := ⟨gb276, 1, none⟩) (Kd.R_far (p := ⟨gb276, 0, none⟩) (Kd.R_types HO258.out BK276.out (by decide)) (fun _ hk => hk.2) (.int .i8 t272)) (fun _ hk => hk.2) (.int .i8 t273)) (fun _ hk => hk.2) (.int .i8 t274)) (fun _ h_ => h_.1)))); (case side2 => exact (Kd.R_reads' HO258.out).2.1); rintro e w44 ⟨rfl, hb⟩; have n0_ := Aside0.mk (Kd.R_below (by (with_reducible repeat (first | apply Kd.R_alloc | apply Kd.R_drewN | apply Kd.R_drew)); exact (Kd.R_mono (Kd.R_far (p := ⟨gb276, 2, none⟩) (Kd.R_far (p := ⟨gb276, 1, none⟩) (Kd.R_far (p := ⟨gb276, 0, none⟩) (Kd.R_types HO258.out BK276.out (by decide)) (fun _ hk => hk.2) (.int .i8 t272)) (fun _ hk => hk.2) (.int .i8 t273)) (fun _ hk => hk.2) (.int .i8 t274)) (fun _ h_ => h_.1))) hb); have n1_ := Aside0.mk (blk_below (g := gb262) (o := .cells #[.int .i8 t259, .int .i8 t260, .int .i8 t261] 41 (0, 0)) (by (with_reducible repeat (first | refine blk_drewN ?_ _ | refine blk_drew ?_ | refine blk_alloc ?_ _)); refine blk_far ?_ NB262_276.out _; (with_reducible repeat (first | refine blk_drewN ?_ _ | refine blk_drew ?_ | refine blk_alloc ?_ _)); refine blk_far ?_ NB262_276.out _; (with_reducible repeat (first | refine blk_drewN ?_ _ | refine blk_drew ?_ | refine blk_alloc ?_ _)); refine blk_far ?_ NB262_276.out _; (with_reducible repeat (first | refine blk_drewN ?_ _ | refine blk_drew ?_ | refine blk_alloc ?_ _)); exact BK262.out) hb); have n2_ := Aside0.mk (blk_below (g := gb271) (o := .cells #[.int .i8 t267, .int .i8 t268, .int .i8 t269] 41 (0, 0)) (by (with_reducible repeat (first | refine blk_drewN ?_ _ | refine blk_drew ?_ | refine blk_alloc ?_ _)); refine blk_far ?_ NB271_276.out _; (with_reducible repeat (first | refine blk_drewN ?_ _ | refine blk_drew ?_ | refine blk_alloc ?_ _)); refine blk_far ?_ NB271_276.out _; (with_reducible repeat (first | refine blk_drewN ?_ _ | refine blk_drew ?_ | refine blk_alloc ?_ _)); refine blk_far ?_ NB271_276.out _; (with_reducible repeat (first | refine blk_drewN ?_ _ | refine blk_drew ?_ | refine blk_alloc ?_ _)); exact BK271.out) hb); have n3_ := Aside0.mk (blk_below (g := gb276) (o := .cells #[.int .i8 t272, .int .i8 t273, .int .i8 t274] 41 (0, 0)) (by (with_reducible repeat (first | refine blk_drewN ?_ _ | refine blk_drew ?_ | refine blk_alloc ?_ _)); refine blk_put (cs := #[.int .i8 t272, .int .i8 t273, .int .i8 0]) ?_ 2 _ rfl; (with_reducible repeat (first | refine blk_drewN ?_ _ | refine blk_drew ?_ | refine blk_alloc ?_ _)); refine blk_put (cs := #[.int .i8 t272, .int .i8 0, .int .i8 0]) ?_ 1 _ rfl; (with_reducible repeat (first | refine blk_drewN ?_ _ | refine blk_drew ?_ | refine blk_alloc ?_ _)); refine blk_put (cs := #[.int .i8 0, .int .i8 0, .int .i8 0]) ?_ 0 _ rfl; (with_reducible repeat (first | refine blk_drewN ?_ _ | refine blk_drew ?_ | refine blk_alloc ?_ _)); exact BK276.out) hb); have n4_ := Aside0.mk (below_step (by repeat (first | (with_reducible first | exact HB.out | apply below_alloc | apply pw_below_drewN | apply below_drew1 | refine below_set ?_ GE262.out | refine below_set ?_ GE271.out | refine below_set ?_ GE276.out) | exact HB.out)) hb); clear HO258; clear BK262; clear BK271; clear BK276; clear HB; have HO258 := n0_; have BK262 := n1_; have BK271 := n2_; have BK276 := n3_; have HB := n4_; clear n0_ n1_ n2_ n3_ n4_; (try clear hb); (try clear hb2); (try clear hk); (try clear hi))); try go_wp2_with (first | (go_at_call 15; (with_reducible refine (impl_ValidTable.calls kj2 _ _ t256 t277 _ ?side1 ?side2 A38.out).mono ?_); (case side1 => refine (Kd.R_reads' (e := 68) (base := w.heap.size) (ok := fun k_ => True) (n := t256.length) (c := co19) ?_).2.2; exact (by (with_reducible repeat (first | apply Kd.R_alloc | apply Kd.R_drewN | apply Kd.R_drew)); exact (Kd.R_mono (Kd.R_far (p := ⟨gb276, 2, none⟩) (Kd.R_far (p := ⟨gb276, 1, none⟩) (Kd.R_far (p := ⟨gb276, 0, none⟩) (Kd.R_types HO258.out BK276.out (by decide)) (fun _ hk => hk.2) (.int .i8 t272)) (fun _ hk => hk.2) (.int .i8 t273)) (fun _ hk => hk.2) (.int .i8 t274)) (fun _ h_ => h_.1)))); (case side2 => exact (Kd.R_reads' HO258.out).2.1); rintro e w44 ⟨rfl, hb⟩; have n0_ := Aside0.mk (Kd.R_below (by (with_reducible repeat (first | apply Kd.R_alloc | apply Kd.R_drewN | apply Kd.R_drew)); exact (Kd.R_mono (Kd.R_far (p := ⟨gb276, 2, none⟩) (Kd.R_far (p := ⟨gb276, 1, none⟩) (Kd.R_far (p := ⟨gb276, 0, none⟩) (Kd.R_types HO258.out BK276.out (by decide)) (fun _ hk => hk.2) (.int .i8 t272)) (fun _ hk => hk.2) (.int .i8 t273)) (fun _ hk => hk.2) (.int .i8 t274)) (fun _ h_ => h_.1))) hb); have n1_ := Aside0.mk (blk_below (g := gb262) (o := .cells #[.int .i8 t259, .int .i8 t260, .int .i8 t261] 41 (0, 0)) (by (with_reducible repeat (first | refine blk_drewN ?_ _ | refine blk_drew ?_ | refine blk_alloc ?_ _)); refine blk_far ?_ NB262_276.out _; (with_reducible repeat (first | refine blk_drewN ?_ _ | refine blk_drew ?_ | refine blk_alloc ?_ _)); refine blk_far ?_ NB262_276.out _; (with_reducible repeat (first | refine blk_drewN ?_ _ | refine blk_drew ?_ | refine blk_alloc ?_ _)); refine blk_far ?_ NB262_276.out _; (with_reducible repeat (first | refine blk_drewN ?_ _ | refine blk_drew ?_ | refine blk_alloc ?_ _)); exact BK262.out) hb); have n2_ := Aside0.mk (blk_below (g := gb271) (o := .cells #[.int .i8 t267, .int .i8 t268, .int .i8 t269] 41 (0, 0)) (by (with_reducible repeat (first | refine blk_drewN ?_ _ | refine blk_drew ?_ | refine blk_alloc ?_ _)); refine blk_far ?_ NB271_276.out _; (with_reducible repeat (first | refine blk_drewN ?_ _ | refine blk_drew ?_ | refine blk_alloc ?_ _)); refine blk_far ?_ NB271_276.out _; (with_reducible repeat (first | refine blk_drewN ?_ _ | refine blk_drew ?_ | refine blk_alloc ?_ _)); refine blk_far ?_ NB271_276.out _; (with_reducible repeat (first | refine blk_drewN ?_ _ | refine blk_drew ?_ | refine blk_alloc ?_ _)); exact BK271.out) hb); have n3_ := Aside0.mk (blk_below (g := gb276) (o := .cells #[.int .i8 t272, .int .i8 t273, .int .i8 t274] 41 (0, 0)) (by (with_reducible repeat (first | refine blk_drewN ?_ _ | refine blk_drew ?_ | refine blk_alloc ?_ _)); refine blk_put (cs := #[.int .i8 t272, .int .i8 t273, .int .i8 0]) ?_ 2 _ rfl; (with_reducible repeat (first | refine blk_drewN ?_ _ | refine blk_drew ?_ | refine blk_alloc ?_ _)); refine blk_put (cs := #[.int .i8 t272, .int .i8 0, .int .i8 0]) ?_ 1 _ rfl; (with_reducible repeat (first | refine blk_drewN ?_ _ | refine blk_drew ?_ | refine blk_alloc ?_ _)); refine blk_put (cs := #[.int .i8 0, .int .i8 0, .int .i8 0]) ?_ 0 _ rfl; (with_reducible repeat (first | refine blk_drewN ?_ _ | refine blk_drew ?_ | refine blk_alloc ?_ _)); exact BK276.out) hb); have n4_ := Aside0.mk (below_step (by repeat (first | (with_reducible first | exact HB.out | apply below_alloc | apply pw_below_drewN | apply below_drew1 | refine below_set ?_ GE262.out | refine below_set ?_ GE271.out | refine below_set ?_ GE276.out) | exact HB.out)) hb); clear HO258; clear BK262; clear BK271; clear BK276; clear HB; have HO258 := n0_; have BK262 := n1_; have BK271 := n2_; have BK276 := n3_; have HB := n4_; clear n0_ n1_ n2_ n3_ n4_; (try clear hb); (try clear hb2); (try clear hk); (try clear hi))))
                      go_meet
                      case rel => exact ⟨_, (!t277), (by first | rfl | (simp; done) | (simp [*]; done)), H', ⟨by have := HJ2.out; first | omega | exact Nat.le_refl _⟩, ⟨by (with_reducible repeat (first | apply Kd.R_alloc | apply Kd.R_drewN | apply Kd.R_drew)); exact HO258.out⟩, ⟨by (with_reducible repeat (first | refine blk_drewN ?_ _ | refine blk_drew ?_ | refine blk_alloc ?_ _)); exact BK262.out⟩, ⟨by (with_reducible repeat (first | refine blk_drewN ?_ _ | refine blk_drew ?_ | refine blk_alloc ?_ _)); exact BK271.out⟩, ⟨by (with_reducible repeat (first | refine blk_drewN ?_ _ | refine blk_drew ?_ | refine blk_alloc ?_ _)); exact BK276.out⟩, ⟨by repeat (first | (with_reducible first | exact HB.out | apply below_alloc | apply pw_below_drewN | apply below_drew1 | refine below_set ?_ GE262.out | refine below_set ?_ GE271.out | refine below_set ?_ GE276.out) | exact HB.out)⟩⟩
                  · rw [if_neg c36] at H
                    exact absurd H (by simp)
              · rw [if_neg c34] at H
                exact absurd H (by simp)
            · rw [if_neg c33] at H
              exact absurd H (by simp)
          · rw [if_neg c32] at H
            exact absurd H (by simp)
        case rest => as_aux_lemma =>
          clear HC14
          try clear c1
          try clear c2
          try clear p2
          try clear c3
          try clear c4
          try clear c5
          try clear p6
          try clear c7
          try clear c11
          try clear c24
          try clear c29
          try clear c30
          try clear c32
          try clear c32b0
          try clear c32b1
          try clear c33
          try clear c33b0
          try clear c33b1
          try clear c34
          try clear c34b0
          try clear c34b1
          try clear c35
          try clear c35b0
          try clear c36
          try clear c36b0
          try clear c36b1
          try clear c37
          try clear c37b0
          try clear c39
          try clear c40
          try clear c42
          try clear hcz18_0
          try clear hcz18_1
          try clear hcz18_2
          try clear hcz21_0
          try clear hcz21_1
          try clear hcz21_2
          try clear hcz25_0
          try clear hcz25_1
          try clear hcz25_2
          try clear hcz26_0
          try clear hcz26_1
          try clear hcz26_2
          try clear hcz31_0
          try clear hcz31_1
          try clear hcz31_2
          try clear hcz41_0
          try clear hcz41_1
          try clear hcz41_2
          try clear hcz43_0
          try clear hcz43_1
          try clear hcz43_2
          try clear hfz18_0
          try clear hfz18_1
          try clear hfz18_2
          try clear hfz21_0
          try clear hfz21_1
          try clear hfz21_2
          try clear hfz25_0
          try clear hfz25_1
          try clear hfz25_2
          try clear hfz26_0
          try clear hfz26_1
          try clear hfz26_2
          try clear hfz31_0
          try clear hfz31_1
          try clear hfz31_2
          try clear hfz41_0
          try clear hfz41_1
          try clear hfz41_2
          try clear hfz43_0
          try clear hfz43_1
          try clear hfz43_2
          try clear p2
          obtain ⟨kq, x103_13, rfl, HA, HJ13, HO_5, BK262, BK271, BK276, HB⟩ := hcut
          cases kq with
          | zero => exact absurd HA.out (by simp [laws_FnLong.j1])
          | succ kj13 =>
            have H := HA.out
            clear HA
            simp only [laws_FnLong.j1] at H
            by_cases c45 : x103_13 = true
            · subst c45
              have H1 : (none) = some r := by rw [if_pos rfl] at H; exact H
              clear H
              have H := H1
              clear H1
              exact absurd H (by simp)
            · replace c45 := Bool.eq_false_iff.mpr c45
              subst c45
              have H1 : (if t270 = 0 then ((impl_MeteredFor.f kj13 t256 (wrap64 (t272))).bind fun bt278 => (if bt278.2 = 0 then (if (wrap64 (t272)) = (wrap64 ((wrap64 (t259)) + t265)) then (if t273 = t260 then ((spec_HasNumber.f kj13 bt278.1 (wrap64 (t259))).bind fun t282 => (laws_FnLong.j2 kj13 l1 t256 t265 bt278.1 (!t282) t259 t260 t261 t272 t273 t274)) else (none)) else (none)) else (none))) else (if t270 = 6 then (if (wrap64 ((wrap64 (t259)) + t265)) ≤ 45 then (none) else (laws_FnLong.j4 kj13 l1 t256 t265 t259 t260 t261)) else (none))) = some r := by rw [if_neg (show ¬ (false = true) by decide)] at H; exact H
              clear H
              have H := H1
              clear H1
              have HC46 := Aside0.mk H
              clear H
              go_upto_if 105 with (fail)
              repeat (go_quiet (fail); go_upto_if 105 with (fail))
              go_cut [] (fun wc => ∃ (kq : Nat), Aside0 (laws_FnLong.j4 kq l1 t256 t265 t259 t260 t261 = some r) ∧ Aside0 (kq ≤ kj13) ∧ Aside0 (Kd.R k68 68 wc w.heap.size (fun _ => True) (.slice Ao19 t256.length co19) t256) ∧ Aside0 (wc.heap[gb262]? = some (.cells #[.int .i8 t259, .int .i8 t260, .int .i8 t261] 41 (0, 0))) ∧ Aside0 (wc.heap[gb271]? = some (.cells #[.int .i8 t267, .int .i8 t268, .int .i8 t269] 41 (0, 0))) ∧ Aside0 (wc.heap[gb276]? = some (.cells #[.int .i8 t272, .int .i8 t273, .int .i8 t274] 41 (0, 0))) ∧ Aside0 (Below w.heap.size w wc))
              case first =>
                have H := HC46.out
                clear HC46
                by_cases c47 : t270 = 0
                · rw [if_pos c47] at H
                  have c47b0 : (t270 == 0) = true := beq_iff_eq.mpr c47
                  have c47b1 : (t270 != 0) = false := bne_eq_false_iff_eq.mpr c47
                  clear c47
                  (first | rw [c47b0] | (simp only [i64_w, i32_w]; rw [c47b0]) | skip)
                  replace H := Option.bind_eq_some_iff.mp H
                  obtain ⟨⟨t278, t279⟩, A480, H⟩ := H
                  replace H : (if t279 = 0 then (if (wrap64 (t272)) = (wrap64 ((wrap64 (t259)) + t265)) then (if t273 = t260 then ((spec_HasNumber.f kj13 t278 (wrap64 (t259))).bind fun t282 => (laws_FnLong.j2 kj13 l1 t256 t265 t278 (!t282) t259 t260 t261 t272 t273 t274)) else (none)) else (none)) else (none)) = some r := H
                  have A48 := Aside0.mk A480
                  clear A480
                  have HC49 := Aside0.mk H
                  clear H
                  have hnb50 := NB276_262.out
                  have hnc50 := NB262_276.out
                  have hnb51 := NB276_271.out
                  have hnc51 := NB271_276.out
                  have hcz52_0 : wc.cell? ⟨gb276, 0, none⟩ = some (.int .i8 t272) := (blk_cell BK276.out 0).trans rfl
                  have hcz52_1 : wc.cell? ⟨gb276, 1, none⟩ = some (.int .i8 t273) := (blk_cell BK276.out 1).trans rfl
                  have hcz52_2 : wc.cell? ⟨gb276, 2, none⟩ = some (.int .i8 t274) := (blk_cell BK276.out 2).trans rfl
                  have hfz52_0 := blk_frozen BK276.out 0
                  have hfz52_1 := blk_frozen BK276.out 1
                  have hfz52_2 := blk_frozen BK276.out 2
                  go_upto_region 13 with (first | (go_at_call 37; (with_reducible refine (impl_MeteredFor.calls kj13 _ _ t256 (wrap64 (t272)) t278 t279 _ ?side1 ?side2 A48.out).mono ?_); (case side1 => repeat (first | exact (Kd.R_reads' HO_5.out).2.2 | (with_reducible refine Kd.C_alloc ?_ _) | (with_reducible refine Kd.C_drewN ?_ _) | (with_reducible refine Kd.C_drew ?_))); (case side2 => exact (Kd.R_reads' HO_5.out).2.1); rintro e w53 ⟨v280, rfl, ho0, hb⟩; have n0_ := Aside0.mk (Kd.R_below (by (with_reducible repeat (first | apply Kd.R_alloc | apply Kd.R_drewN | apply Kd.R_drew)); exact HO_5.out) hb); have n1_ := Aside0.mk (Kd.R_lower ho0 (below_size (by repeat (first | (with_reducible first | exact HB.out | apply below_alloc | apply pw_below_drewN | apply below_drew1 | refine below_set ?_ GE262.out | refine below_set ?_ GE271.out | refine below_set ?_ GE276.out) | exact HB.out)))); have n2_ := Aside0.mk (blk_below (g := gb262) (o := .cells #[.int .i8 t259, .int .i8 t260, .int .i8 t261] 41 (0, 0)) (by (with_reducible repeat (first | refine blk_drewN ?_ _ | refine blk_drew ?_ | refine blk_alloc ?_ _)); exact BK262.out) hb); have n3_ := Aside0.mk (blk_below (g := gb271) (o := .cells #[.int .i8 t267, .int .i8 t268, .int .i8 t269] 41 (0, 0)) (by (with_reducible repeat (first | refine blk_drewN ?_ _ | refine blk_drew ?_ | refine blk_alloc ?_ _)); exact BK271.out) hb); have n4_ := Aside0.mk (blk_below (g := gb276) (o := .cells #[.int .i8 t272, .int .i8 t273, .int .i8 t274] 41 (0, 0)) (by (with_reducible repeat (first | refine blk_drewN ?_ _ | refine blk_drew ?_ | refine blk_alloc ?_ _)); exact BK276.out) hb); have n5_ := Aside0.mk (below_step (by repeat (first | (with_reducible first | exact HB.out | apply below_alloc | apply pw_below_drewN | apply below_drew1 | refine below_set ?_ GE262.out | refine below_set ?_ GE271.out | refine below_set ?_ GE276.out) | exact HB.out)) hb); clear HO_5; clear BK262; clear BK271; clear BK276; clear HB; have HO_5 := n0_; have HO281 := n1_; have BK262 := n2_; have BK271 := n3_; have BK276 := n4_; have HB := n5_; clear n0_ n1_ n2_ n3_ n4_ n5_; (try clear hb); (try clear hb2); (try clear hk); (try clear hi); (try clear ho0)))
                  repeat (go_quiet (first | (go_at_call 37; (with_reducible refine (impl_MeteredFor.calls kj13 _ _ t256 (wrap64 (t272)) t278 t279 _ ?side1 ?side2 A48.out).mono ?_); (case side1 => repeat (first | exact (Kd.R_reads' HO_5.out).2.2 | (with_reducible refine Kd.C_alloc ?_ _) | (with_reducible refine Kd.C_drewN ?_ _) | (with_reducible refine Kd.C_drew ?_))); (case side2 => exact (Kd.R_reads' HO_5.out).2.1); rintro e w53 ⟨v280, rfl, ho0, hb⟩; have n0_ := Aside0.mk (Kd.R_below (by (with_reducible repeat (first | apply Kd.R_alloc | apply Kd.R_drewN | apply Kd.R_drew)); exact HO_5.out) hb); have n1_ := Aside0.mk (Kd.R_lower ho0 (below_size (by repeat (first | (with_reducible first | exact HB.out | apply below_alloc | apply pw_below_drewN | apply below_drew1 | refine below_set ?_ GE262.out | refine below_set ?_ GE271.out | refine below_set ?_ GE276.out) | exact HB.out)))); have n2_ := Aside0.mk (blk_below (g := gb262) (o := .cells #[.int .i8 t259, .int .i8 t260, .int .i8 t261] 41 (0, 0)) (by (with_reducible repeat (first | refine blk_drewN ?_ _ | refine blk_drew ?_ | refine blk_alloc ?_ _)); exact BK262.out) hb); have n3_ := Aside0.mk (blk_below (g := gb271) (o := .cells #[.int .i8 t267, .int .i8 t268, .int .i8 t269] 41 (0, 0)) (by (with_reducible repeat (first | refine blk_drewN ?_ _ | refine blk_drew ?_ | refine blk_alloc ?_ _)); exact BK271.out) hb); have n4_ := Aside0.mk (blk_below (g := gb276) (o := .cells #[.int .i8 t272, .int .i8 t273, .int .i8 t274] 41 (0, 0)) (by (with_reducible repeat (first | refine blk_drewN ?_ _ | refine blk_drew ?_ | refine blk_alloc ?_ _)); exact BK276.out) hb); have n5_ := Aside0.mk (below_step (by repeat (first | (with_reducible first | exact HB.out | apply below_alloc | apply pw_below_drewN | apply below_drew1 | refine below_set ?_ GE262.out | refine below_set ?_ GE271.out | refine below_set ?_ GE276.out) | exact HB.out)) hb); clear HO_5; clear BK262; clear BK271; clear BK276; clear HB; have HO_5 := n0_; have HO281 := n1_; have BK262 := n2_; have BK271 := n3_; have BK276 := n4_; have HB := n5_; clear n0_ n1_ n2_ n3_ n4_ n5_; (try clear hb); (try clear hb2); (try clear hk); (try clear hi); (try clear ho0))); go_upto_region 13 with (first | (go_at_call 37; (with_reducible refine (impl_MeteredFor.calls kj13 _ _ t256 (wrap64 (t272)) t278 t279 _ ?side1 ?side2 A48.out).mono ?_); (case side1 => repeat (first | exact (Kd.R_reads' HO_5.out).2.2 | (with_reducible refine Kd.C_alloc ?_ _) | (with_reducible refine Kd.C_drewN ?_ _) | (with_reducible refine Kd.C_drew ?_))); (case side2 => exact (Kd.R_reads' HO_5.out).2.1); rintro e w53 ⟨v280, rfl, ho0, hb⟩; have n0_ := Aside0.mk (Kd.R_below (by (with_reducible repeat (first | apply Kd.R_alloc | apply Kd.R_drewN | apply Kd.R_drew)); exact HO_5.out) hb); have n1_ := Aside0.mk (Kd.R_lower ho0 (below_size (by repeat (first | (with_reducible first | exact HB.out | apply below_alloc | apply pw_below_drewN | apply below_drew1 | refine below_set ?_ GE262.out | refine below_set ?_ GE271.out | refine below_set ?_ GE276.out) | exact HB.out)))); have n2_ := Aside0.mk (blk_below (g := gb262) (o := .cells #[.int .i8 t259, .int .i8 t260, .int .i8 t261] 41 (0, 0)) (by (with_reducible repeat (first | refine blk_drewN ?_ _ | refine blk_drew ?_ | refine blk_alloc ?_ _)); exact BK262.out) hb); have n3_ := Aside0.mk (blk_below (g := gb271) (o := .cells #[.int .i8 t267, .int .i8 t268, .int .i8 t269] 41 (0, 0)) (by (with_reducible repeat (first | refine blk_drewN ?_ _ | refine blk_drew ?_ | refine blk_alloc ?_ _)); exact BK271.out) hb); have n4_ := Aside0.mk (blk_below (g := gb276) (o := .cells #[.int .i8 t272, .int .i8 t273, .int .i8 t274] 41 (0, 0)) (by (with_reducible repeat (first | refine blk_drewN ?_ _ | refine blk_drew ?_ | refine blk_alloc ?_ _)); exact BK276.out) hb); have n5_ := Aside0.mk (below_step (by repeat (first | (with_reducible first | exact HB.out | apply below_alloc | apply pw_below_drewN | apply below_drew1 | refine below_set ?_ GE262.out | refine below_set ?_ GE271.out | refine below_set ?_ GE276.out) | exact HB.out)) hb); clear HO_5; clear BK262; clear BK271; clear BK276; clear HB; have HO_5 := n0_; have HO281 := n1_; have BK262 := n2_; have BK271 := n3_; have BK276 := n4_; have HB := n5_; clear n0_ n1_ n2_ n3_ n4_ n5_; (try clear hb); (try clear hb2); (try clear hk); (try clear hi); (try clear ho0))))
                  (try simp only [Act.put, List.setIfInBounds_toArray, List.set_cons_zero, List.set_cons_succ])
                  go_cut [141] (fun v141 wc => ∃ (kq : Nat) (x141_48 : Bool), v141 = .bool x141_48 ∧ Aside0 (laws_FnLong.j2 kq l1 t256 t265 t278 x141_48 t259 t260 t261 t272 t273 t274 = some r) ∧ Aside0 (kq ≤ kj13) ∧ Aside0 (Kd.R k68 68 wc w.heap.size (fun _ => True) (.slice Ao19 t256.length co19) t256) ∧ Aside0 (Kd.R (Kd.int .i64) 2 wc w.heap.size (fun _ => True) v280 t278) ∧ Aside0 (wc.heap[gb262]? = some (.cells #[.int .i8 t259, .int .i8 t260, .int .i8 t261] 41 (0, 0))) ∧ Aside0 (wc.heap[gb271]? = some (.cells #[.int .i8 t267, .int .i8 t268, .int .i8 t269] 41 (0, 0))) ∧ Aside0 (wc.heap[gb276]? = some (.cells #[.int .i8 t272, .int .i8 t273, .int .i8 t274] 41 (0, 0))) ∧ Aside0 (Below w.heap.size w wc))
                  case first =>
                    have H := HC49.out
                    clear HC49
                    by_cases c54 : t279 = 0
                    · rw [if_pos c54] at H
                      have c54b0 : (t279 == 0) = true := beq_iff_eq.mpr c54
                      have c54b1 : (t279 != 0) = false := bne_eq_false_iff_eq.mpr c54
                      clear c54
                      (first | rw [c54b0] | (simp only [i64_w, i32_w]; rw [c54b0]) | skip)
                      by_cases c55 : (wrap64 (t272)) = (wrap64 ((wrap64 (t259)) + t265))
                      · rw [if_pos c55] at H
                        have c55b0 : ((wrap64 (t272)) == (wrap64 ((wrap64 (t259)) + t265))) = true := beq_iff_eq.mpr c55
                        have c55b1 : ((wrap64 (t272)) != (wrap64 ((wrap64 (t259)) + t265))) = false := bne_eq_false_iff_eq.mpr c55
                        clear c55
                        by_cases c56 : t273 = t260
                        · rw [if_pos c56] at H
                          have c56b0 : (t273 == t260) = true := beq_iff_eq.mpr c56
                          have c56b1 : (t273 != t260) = false := bne_eq_false_iff_eq.mpr c56
                          clear c56
                          replace H := Option.bind_eq_some_iff.mp H
                          obtain ⟨t282, A570, H⟩ := H
                          replace H : (laws_FnLong.j2 kj13 l1 t256 t265 t278 (!t282) t259 t260 t261 t272 t273 t274) = some r := H
                          have A57 := Aside0.mk A570
                          clear A570
                          have H' := Aside0.mk H
                          clear H
                          have hnb58 := NB276_262.out
                          have hnc58 := NB262_276.out
                          have hnb59 := NB276_271.out
                          have hnc59 := NB271_276.out
                          have hcz60_0 : w53.cell? ⟨gb276, 0, none⟩ = some (.int .i8 t272) := (blk_cell BK276.out 0).trans rfl
                          have hcz60_1 : w53.cell? ⟨gb276, 1, none⟩ = some (.int .i8 t273) := (blk_cell BK276.out 1).trans rfl
                          have hcz60_2 : w53.cell? ⟨gb276, 2, none⟩ = some (.int .i8 t274) := (blk_cell BK276.out 2).trans rfl
                          have hfz60_0 := blk_frozen BK276.out 0
                          have hfz60_1 := blk_frozen BK276.out 1
                          have hfz60_2 := blk_frozen BK276.out 2
                          have hnb61 := NB262_271.out
                          have hnc61 := NB271_262.out
                          have hcz62_0 : w53.cell? ⟨gb262, 0, none⟩ = some (.int .i8 t259) := (blk_cell BK262.out 0).trans rfl
                          have hcz62_1 : w53.cell? ⟨gb262, 1, none⟩ = some (.int .i8 t260) := (blk_cell BK262.out 1).trans rfl
                          have hcz62_2 : w53.cell? ⟨gb262, 2, none⟩ = some (.int .i8 t261) := (blk_cell BK262.out 2).trans rfl
                          have hfz62_0 := blk_frozen BK262.out 0
                          have hfz62_1 := blk_frozen BK262.out 1
                          have hfz62_2 := blk_frozen BK262.out 2
                          obtain ⟨Ao63, co63, eo63⟩ := Kd.R_slice HO281.out
                          subst eo63
                          go_wp2_with (first | (go_at_call 44; (with_reducible refine (spec_HasNumber.calls kj13 _ _ t278 (wrap64 (t259)) t282 _ ?side1 ?side2 A57.out).mono ?_); (case side1 => repeat (first | exact (Kd.R_reads' HO281.out).2.2 | (with_reducible refine Kd.C_alloc ?_ _) | (with_reducible refine Kd.C_drewN ?_ _) | (with_reducible refine Kd.C_drew ?_))); (case side2 => exact (Kd.R_reads' HO281.out).2.1); rintro e w' ⟨rfl, ⟨nd, rfl⟩⟩; (try first | exact ⟨rfl, _, World.drewN_drewN _ _ _⟩ | exact ⟨rfl, _, Eq.trans (World.drewN_drewN _ _ _) (congrArg (World.drewN _) (Nat.add_assoc _ _ _))⟩)))
                          repeat (go_quiet (first | (go_at_call 44; (with_reducible refine (spec_HasNumber.calls kj13 _ _ t278 (wrap64 (t259)) t282 _ ?side1 ?side2 A57.out).mono ?_); (case side1 => repeat (first | exact (Kd.R_reads' HO281.out).2.2 | (with_reducible refine Kd.C_alloc ?_ _) | (with_reducible refine Kd.C_drewN ?_ _) | (with_reducible refine Kd.C_drew ?_))); (case side2 => exact (Kd.R_reads' HO281.out).2.1); rintro e w' ⟨rfl, ⟨nd, rfl⟩⟩; (try first | exact ⟨rfl, _, World.drewN_drewN _ _ _⟩ | exact ⟨rfl, _, Eq.trans (World.drewN_drewN _ _ _) (congrArg (World.drewN _) (Nat.add_assoc _ _ _))⟩))); try go_wp2_with (first | (go_at_call 44; (with_reducible refine (spec_HasNumber.calls kj13 _ _ t278 (wrap64 (t259)) t282 _ ?side1 ?side2 A57.out).mono ?_); (case side1 => repeat (first | exact (Kd.R_reads' HO281.out).2.2 | (with_reducible refine Kd.C_alloc ?_ _) | (with_reducible refine Kd.C_drewN ?_ _) | (with_reducible refine Kd.C_drew ?_))); (case side2 => exact (Kd.R_reads' HO281.out).2.1); rintro e w' ⟨rfl, ⟨nd, rfl⟩⟩; (try first | exact ⟨rfl, _, World.drewN_drewN _ _ _⟩ | exact ⟨rfl, _, Eq.trans (World.drewN_drewN _ _ _) (congrArg (World.drewN _) (Nat.add_assoc _ _ _))⟩))))
                          go_meet
                          case rel => exact ⟨_, (!t282), (by first | rfl | (simp; done) | (simp [*]; done)), H', ⟨by have := HJ2.out; have := HJ13.out; first | omega | exact Nat.le_refl _⟩, ⟨by (with_reducible repeat (first | apply Kd.R_alloc | apply Kd.R_drewN | apply Kd.R_drew)); exact HO_5.out⟩, ⟨by (with_reducible repeat (first | apply Kd.R_alloc | apply Kd.R_drewN | apply Kd.R_drew)); exact HO281.out⟩, ⟨by (with_reducible repeat (first | refine blk_drewN ?_ _ | refine blk_drew ?_ | refine blk_alloc ?_ _)); exact BK262.out⟩, ⟨by (with_reducible repeat (first | refine blk_drewN ?_ _ | refine blk_drew ?_ | refine blk_alloc ?_ _)); exact BK271.out⟩, ⟨by (with_reducible repeat (first | refine blk_drewN ?_ _ | refine blk_drew ?_ | refine blk_alloc ?_ _)); exact BK276.out⟩, ⟨by repeat (first | (with_reducible first | exact HB.out | apply below_alloc | apply pw_below_drewN | apply below_drew1 | refine below_set ?_ GE262.out | refine below_set ?_ GE271.out | refine below_set ?_ GE276.out) | exact HB.out)⟩⟩
                        · rw [if_neg c56] at H
                          exact absurd H (by simp)
                      · rw [if_neg c55] at H
                        exact absurd H (by simp)
                    · rw [if_neg c54] at H
                      exact absurd H (by simp)
                  case rest => as_aux_lemma =>
                    clear HC49
                    try clear c1
                    try clear c2
                    try clear p2
                    try clear c3
                    try clear c4
                    try clear c5
                    try clear c6
                    try clear p6
                    try clear c7
                    try clear c11
                    try clear c24
                    try clear c29
                    try clear c30
                    try clear c32
                    try clear c32b0
                    try clear c32b1
                    try clear c33
                    try clear c33b0
                    try clear c33b1
                    try clear c34
                    try clear c34b0
                    try clear c34b1
                    try clear c35
                    try clear c35b0
                    try clear c36
                    try clear c36b0
                    try clear c36b1
                    try clear c37
                    try clear c37b0
                    try clear c39
                    try clear c40
                    try clear c42
                    try clear c45
                    try clear c47
                    try clear c47b0
                    try clear c47b1
                    try clear c50
                    try clear c51
                    try clear c54
                    try clear c54b0
                    try clear c54b1
                    try clear c55
                    try clear c55b0
                    try clear c55b1
                    try clear c56
                    try clear c56b0
                    try clear c56b1
                    try clear c58
                    try clear c59
                    try clear c61
                    try clear hcz18_0
                    try clear hcz18_1
                    try clear hcz18_2
                    try clear hcz21_0
                    try clear hcz21_1
                    try clear hcz21_2
                    try clear hcz25_0
                    try clear hcz25_1
                    try clear hcz25_2
                    try clear hcz26_0
                    try clear hcz26_1
                    try clear hcz26_2
                    try clear hcz31_0
                    try clear hcz31_1
                    try clear hcz31_2
                    try clear hcz41_0
                    try clear hcz41_1
                    try clear hcz41_2
                    try clear hcz43_0
                    try clear hcz43_1
                    try clear hcz43_2
                    try clear hcz52_0
                    try clear hcz52_1
                    try clear hcz52_2
                    try clear hcz60_0
                    try clear hcz60_1
                    try clear hcz60_2
                    try clear hcz62_0
                    try clear hcz62_1
                    try clear hcz62_2
                    try clear hfz18_0
                    try clear hfz18_1
                    try clear hfz18_2
                    try clear hfz21_0
                    try clear hfz21_1
                    try clear hfz21_2
                    try clear hfz25_0
                    try clear hfz25_1
                    try clear hfz25_2
                    try clear hfz26_0
                    try clear hfz26_1
                    try clear hfz26_2
                    try clear hfz31_0
                    try clear hfz31_1
                    try clear hfz31_2
                    try clear hfz41_0
                    try clear hfz41_1
                    try clear hfz41_2
                    try clear hfz43_0
                    try clear hfz43_1
                    try clear hfz43_2
                    try clear hfz52_0
                    try clear hfz52_1
                    try clear hfz52_2
                    try clear hfz60_0
                    try clear hfz60_1
                    try clear hfz60_2
                    try clear hfz62_0
                    try clear hfz62_1
                    try clear hfz62_2
                    try clear p2
                    try clear p6
                    obtain ⟨kq, x141_48, rfl, HA, HJ48, HO_5, HO_15, BK262, BK271, BK276, HB⟩ := hcut
                    cases kq with
                    | zero => exact absurd HA.out (by simp [laws_FnLong.j2])
                    | succ kj48 =>
                      have H := HA.out
                      clear HA
                      simp only [laws_FnLong.j2] at H
                      by_cases c64 : x141_48 = true
                      · subst c64
                        have H1 : (none) = some r := by rw [if_pos rfl] at H; exact H
                        clear H
                        have H := H1
                        clear H1
                        exact absurd H (by simp)
                      · replace c64 := Bool.eq_false_iff.mpr c64
                        subst c64
                        have H1 : (laws_FnLong.l0 kj48 l1 t256 t265 t278 0 t259 t260 t261 t272 t273 t274) = some r := by rw [if_neg (show ¬ (false = true) by decide)] at H; exact H
                        clear H
                        have H := H1
                        clear H1
                        have H' := Aside0.mk H
                        clear H
                        go_wp2
                        repeat (go_quiet (fail); try go_wp2)
                        go_loopg [17] kj48 (fun kq v17 w' => ∃ (x17_4 : Int), v17 = .int .i64 x17_4 ∧ Aside0 (laws_FnLong.l0 kq l1 t256 t265 t278 x17_4 t259 t260 t261 t272 t273 t274 = some r) ∧ Aside0 (kq ≤ kj48) ∧ Aside0 (Kd.R k68 68 w' w.heap.size (fun _ => True) (.slice Ao19 t256.length co19) t256) ∧ Aside0 (Kd.R (Kd.int .i64) 2 w' w.heap.size (fun _ => True) v280 t278) ∧ Aside0 (w'.heap[gb262]? = some (.cells #[.int .i8 t259, .int .i8 t260, .int .i8 t261] 41 (0, 0))) ∧ Aside0 (w'.heap[gb271]? = some (.cells #[.int .i8 t267, .int .i8 t268, .int .i8 t269] 41 (0, 0))) ∧ Aside0 (w'.heap[gb276]? = some (.cells #[.int .i8 t272, .int .i8 t273, .int .i8 t274] 41 (0, 0))) ∧ Aside0 (Below w.heap.size w w'))
                        case atStart => exact ⟨(0), (by first | rfl | (simp; done) | (simp [*]; done)), H', ⟨Nat.le_refl _⟩, ⟨by (with_reducible repeat (first | apply Kd.R_alloc | apply Kd.R_drewN | apply Kd.R_drew)); exact HO_5.out⟩, ⟨by (with_reducible repeat (first | apply Kd.R_alloc | apply Kd.R_drewN | apply Kd.R_drew)); exact HO_15.out⟩, ⟨by (with_reducible repeat (first | refine blk_drewN ?_ _ | refine blk_drew ?_ | refine blk_alloc ?_ _)); exact BK262.out⟩, ⟨by (with_reducible repeat (first | refine blk_drewN ?_ _ | refine blk_drew ?_ | refine blk_alloc ?_ _)); exact BK271.out⟩, ⟨by (with_reducible repeat (first | refine blk_drewN ?_ _ | refine blk_drew ?_ | refine blk_alloc ?_ _)); exact BK276.out⟩, ⟨by repeat (first | (with_reducible first | exact HB.out | apply below_alloc | apply pw_below_drewN | apply below_drew1 | refine below_set ?_ GE262.out | refine below_set ?_ GE271.out | refine below_set ?_ GE276.out) | exact HB.out)⟩⟩
                        case round =>
                          clear H'
                          try clear c1
                          try clear c2
                          try clear p2
                          try clear c3
                          try clear c4
                          try clear c5
                          try clear c6
                          try clear p6
                          try clear c7
                          try clear c11
                          try clear c24
                          try clear c29
                          try clear c30
                          try clear c32
                          try clear c32b0
                          try clear c32b1
                          try clear c33
                          try clear c33b0
                          try clear c33b1
                          try clear c34
                          try clear c34b0
                          try clear c34b1
                          try clear c35
                          try clear c35b0
                          try clear c36
                          try clear c36b0
                          try clear c36b1
                          try clear c37
                          try clear c37b0
                          try clear c39
                          try clear c40
                          try clear c42
                          try clear c45
                          try clear c47
                          try clear c47b0
                          try clear c47b1
                          try clear c50
                          try clear c51
                          try clear c54
                          try clear c54b0
                          try clear c54b1
                          try clear c55
                          try clear c55b0
                          try clear c55b1
                          try clear c56
                          try clear c56b0
                          try clear c56b1
                          try clear c58
                          try clear c59
                          try clear c61
                          try clear c64
                          try clear p64
                          try clear hcz18_0
                          try clear hcz18_1
                          try clear hcz18_2
                          try clear hcz21_0
                          try clear hcz21_1
                          try clear hcz21_2
                          try clear hcz25_0
                          try clear hcz25_1
                          try clear hcz25_2
                          try clear hcz26_0
                          try clear hcz26_1
                          try clear hcz26_2
                          try clear hcz31_0
                          try clear hcz31_1
                          try clear hcz31_2
                          try clear hcz41_0
                          try clear hcz41_1
                          try clear hcz41_2
                          try clear hcz43_0
                          try clear hcz43_1
                          try clear hcz43_2
                          try clear hcz52_0
                          try clear hcz52_1
                          try clear hcz52_2
                          try clear hcz60_0
                          try clear hcz60_1
                          try clear hcz60_2
                          try clear hcz62_0
                          try clear hcz62_1
                          try clear hcz62_2
                          try clear hfz18_0
                          try clear hfz18_1
                          try clear hfz18_2
                          try clear hfz21_0
                          try clear hfz21_1
                          try clear hfz21_2
                          try clear hfz25_0
                          try clear hfz25_1
                          try clear hfz25_2
                          try clear hfz26_0
                          try clear hfz26_1
                          try clear hfz26_2
                          try clear hfz31_0
                          try clear hfz31_1
                          try clear hfz31_2
                          try clear hfz41_0
                          try clear hfz41_1
                          try clear hfz41_2
                          try clear hfz43_0
                          try clear hfz43_1
                          try clear hfz43_2
                          try clear hfz52_0
                          try clear hfz52_1
                          try clear hfz52_2
                          try clear hfz60_0
                          try clear hfz60_1
                          try clear hfz60_2
                          try clear hfz62_0
                          try clear hfz62_1
                          try clear hfz62_2
                          try clear p2
                          try clear p6
                          obtain ⟨x17_4, rfl, HA, HK4, HO_5, HO_15, BK262, BK271, BK276, HB⟩ := hrel
                          cases gk with
                          | zero => exact absurd HA.out (by simp [laws_FnLong.l0])
                          | succ k4 =>
                            have H := HA.out
                            clear HA
                            simp only [laws_FnLong.l0] at H
                            by_cases c65 : x17_4 < (t278.length : Int)
                            · rw [if_pos c65] at H
                              have c65b0 : decide (x17_4 < (t278.length : Int)) = true := decide_eq_true c65
                              clear c65
                              by_cases c66 : 0 ≤ x17_4
                              · rw [if_pos c66] at H
                                have c66b0 : decide (0 ≤ x17_4) = true := decide_eq_true c66
                                clear c66
                                replace H := Option.bind_eq_some_iff.mp H
                                obtain ⟨⟨t284, t285⟩, A670, H⟩ := H
                                replace H : (if t285 = 0 then (if (wrap64 ((rd t278 x17_4) + t284)) = (wrap64 (t272)) then (laws_FnLong.l0 k4 l1 t256 t265 t278 (wrap64 (x17_4 + 1)) t259 t260 t261 t272 t273 t274) else (none)) else (none)) = some r := H
                                have A67 := Aside0.mk A670
                                clear A670
                                by_cases c68 : t285 = 0
                                · rw [if_pos c68] at H
                                  have c68b0 : (t285 == 0) = true := beq_iff_eq.mpr c68
                                  have c68b1 : (t285 != 0) = false := bne_eq_false_iff_eq.mpr c68
                                  clear c68
                                  by_cases c69 : (wrap64 ((rd t278 x17_4) + t284)) = (wrap64 (t272))
                                  · rw [if_pos c69] at H
                                    have c69b0 : ((wrap64 ((rd t278 x17_4) + t284)) == (wrap64 (t272))) = true := beq_iff_eq.mpr c69
                                    have c69b1 : ((wrap64 ((rd t278 x17_4) + t284)) != (wrap64 (t272))) = false := bne_eq_false_iff_eq.mpr c69
                                    clear c69
                                    have H' := Aside0.mk H
                                    clear H
                                    obtain ⟨Ao70, co70, eo70⟩ := Kd.R_slice HO_15.out
                                    subst eo70
                                    have p283 : 0 ≤ (x17_4 : Int) := of_decide_eq_true (by first | (with_reducible assumption) | assumption)
                                    have q283 : x17_4 < (t278.length : Int) := of_decide_eq_true (by first | (with_reducible assumption) | assumption)
                                    obtain ⟨ad283, e283, hx283_0⟩ := Kd.at_int (Kd.R_reads' HO_15.out).2.2 x17_4 p283 q283
                                    cases e283
                                    replace p283 := eq_true p283
                                    replace q283 := eq_true q283
                                    have p286 : 0 ≤ (x17_4 : Int) := of_decide_eq_true (by first | (with_reducible assumption) | assumption)
                                    have q286 : x17_4 < (t278.length : Int) := of_decide_eq_true (by first | (with_reducible assumption) | assumption)
                                    obtain ⟨ad286, e286, hx286_0⟩ := Kd.at_int (Kd.R_reads' HO_15.out).2.2 x17_4 p286 q286
                                    obtain rfl : ad283 = ad286 := (by injection e286)
                                    replace p286 := eq_true p286
                                    replace q286 := eq_true q286
                                    have hnb71 := NB276_262.out
                                    have hnc71 := NB262_276.out
                                    have hnb72 := NB276_271.out
                                    have hnc72 := NB271_276.out
                                    have hcz73_0 : wr.cell? ⟨gb276, 0, none⟩ = some (.int .i8 t272) := (blk_cell BK276.out 0).trans rfl
                                    have hcz73_1 : wr.cell? ⟨gb276, 1, none⟩ = some (.int .i8 t273) := (blk_cell BK276.out 1).trans rfl
                                    have hcz73_2 : wr.cell? ⟨gb276, 2, none⟩ = some (.int .i8 t274) := (blk_cell BK276.out 2).trans rfl
                                    have hfz73_0 := blk_frozen BK276.out 0
                                    have hfz73_1 := blk_frozen BK276.out 1
                                    have hfz73_2 := blk_frozen BK276.out 2
                                    go_wp2_with (first | (go_at_call 22; (with_reducible refine (spec_ExtraFor.calls k4 _ _ t256 (rd t278 x17_4) t284 t285 _ ?side1 ?side2 A67.out).mono ?_); (case side1 => repeat (first | exact (Kd.R_reads' HO_5.out).2.2 | (with_reducible refine Kd.C_alloc ?_ _) | (with_reducible refine Kd.C_drewN ?_ _) | (with_reducible refine Kd.C_drew ?_))); (case side2 => exact (Kd.R_reads' HO_5.out).2.1); rintro e w' ⟨rfl, ⟨nd, rfl⟩⟩; (try first | exact ⟨rfl, _, World.drewN_drewN _ _ _⟩ | exact ⟨rfl, _, Eq.trans (World.drewN_drewN _ _ _) (congrArg (World.drewN _) (Nat.add_assoc _ _ _))⟩)))
                                    repeat (go_quiet (first | (go_at_call 22; (with_reducible refine (spec_ExtraFor.calls k4 _ _ t256 (rd t278 x17_4) t284 t285 _ ?side1 ?side2 A67.out).mono ?_); (case side1 => repeat (first | exact (Kd.R_reads' HO_5.out).2.2 | (with_reducible refine Kd.C_alloc ?_ _) | (with_reducible refine Kd.C_drewN ?_ _) | (with_reducible refine Kd.C_drew ?_))); (case side2 => exact (Kd.R_reads' HO_5.out).2.1); rintro e w' ⟨rfl, ⟨nd, rfl⟩⟩; (try first | exact ⟨rfl, _, World.drewN_drewN _ _ _⟩ | exact ⟨rfl, _, Eq.trans (World.drewN_drewN _ _ _) (congrArg (World.drewN _) (Nat.add_assoc _ _ _))⟩))); try go_wp2_with (first | (go_at_call 22; (with_reducible refine (spec_ExtraFor.calls k4 _ _ t256 (rd t278 x17_4) t284 t285 _ ?side1 ?side2 A67.out).mono ?_); (case side1 => repeat (first | exact (Kd.R_reads' HO_5.out).2.2 | (with_reducible refine Kd.C_alloc ?_ _) | (with_reducible refine Kd.C_drewN ?_ _) | (with_reducible refine Kd.C_drew ?_))); (case side2 => exact (Kd.R_reads' HO_5.out).2.1); rintro e w' ⟨rfl, ⟨nd, rfl⟩⟩; (try first | exact ⟨rfl, _, World.drewN_drewN _ _ _⟩ | exact ⟨rfl, _, Eq.trans (World.drewN_drewN _ _ _) (congrArg (World.drewN _) (Nat.add_assoc _ _ _))⟩))))
                                    go_roundg k4
                                    case measure => have := HJ2.out; have := HJ13.out; have := HJ48.out; have := HK4.out; omega
                                    case rel => exact ⟨(wrap64 (x17_4 + 1)), (by first | rfl | (simp; done) | (simp [*]; done)), H', ⟨by have := HJ2.out; have := HJ13.out; have := HJ48.out; have := HK4.out; omega⟩, ⟨by (with_reducible repeat (first | apply Kd.R_alloc | apply Kd.R_drewN | apply Kd.R_drew)); exact HO_5.out⟩, ⟨by (with_reducible repeat (first | apply Kd.R_alloc | apply Kd.R_drewN | apply Kd.R_drew)); exact HO_15.out⟩, ⟨by (with_reducible repeat (first | refine blk_drewN ?_ _ | refine blk_drew ?_ | refine blk_alloc ?_ _)); exact BK262.out⟩, ⟨by (with_reducible repeat (first | refine blk_drewN ?_ _ | refine blk_drew ?_ | refine blk_alloc ?_ _)); exact BK271.out⟩, ⟨by (with_reducible repeat (first | refine blk_drewN ?_ _ | refine blk_drew ?_ | refine blk_alloc ?_ _)); exact BK276.out⟩, ⟨by repeat (first | (with_reducible first | exact HB.out | apply below_alloc | apply pw_below_drewN | apply below_drew1 | refine below_set ?_ GE262.out | refine below_set ?_ GE271.out | refine below_set ?_ GE276.out) | exact HB.out)⟩⟩
                                  · rw [if_neg c69] at H
                                    exact absurd H (by simp)
                                · rw [if_neg c68] at H
                                  exact absurd H (by simp)
                              · rw [if_neg c66] at H
                                exact absurd H (by simp)
                            · rw [if_neg c65] at H
                              have c65b0 : decide (x17_4 < (t278.length : Int)) = false := decide_eq_false c65
                              clear c65
                              have H' := Aside0.mk H
                              clear H
                              obtain ⟨Ao74, co74, eo74⟩ := Kd.R_slice HO_15.out
                              subst eo74
                              go_wp2
                              repeat (go_quiet (fail); try go_wp2)
                              go_meet
                              case rel => exact ⟨_, H', ⟨by have := HJ2.out; have := HJ13.out; have := HJ48.out; have := HK4.out; first | omega | exact Nat.le_refl _⟩, ⟨by (with_reducible repeat (first | apply Kd.R_alloc | apply Kd.R_drewN | apply Kd.R_drew)); exact HO_5.out⟩, ⟨by (with_reducible repeat (first | refine blk_drewN ?_ _ | refine blk_drew ?_ | refine blk_alloc ?_ _)); exact BK262.out⟩, ⟨by (with_reducible repeat (first | refine blk_drewN ?_ _ | refine blk_drew ?_ | refine blk_alloc ?_ _)); exact BK271.out⟩, ⟨by (with_reducible repeat (first | refine blk_drewN ?_ _ | refine blk_drew ?_ | refine blk_alloc ?_ _)); exact BK276.out⟩, ⟨by repeat (first | (with_reducible first | exact HB.out | apply below_alloc | apply pw_below_drewN | apply below_drew1 | refine below_set ?_ GE262.out | refine below_set ?_ GE271.out | refine below_set ?_ GE276.out) | exact HB.out)⟩⟩
                · rw [if_neg c47] at H
                  have c47b0 : (t270 == 0) = false := beq_eq_false_iff_ne.mpr c47
                  have c47b1 : (t270 != 0) = true := bne_iff_ne.mpr c47
                  (first | rw [c47b0] | (simp only [i64_w, i32_w]; rw [c47b0]) | skip)
                  by_cases c75 : t270 = 6
                  · rw [if_pos c75] at H
                    have c75b0 : (t270 == 6) = true := beq_iff_eq.mpr c75
                    have c75b1 : (t270 != 6) = false := bne_eq_false_iff_eq.mpr c75
                    clear c75
                    by_cases c76 : (wrap64 ((wrap64 (t259)) + t265)) ≤ 45
                    · rw [if_pos c76] at H
                      exact absurd H (by simp)
                    · rw [if_neg c76] at H
                      have c76b0 : decide ((wrap64 ((wrap64 (t259)) + t265)) ≤ 45) = false := decide_eq_false c76
                      clear c76
                      have H' := Aside0.mk H
                      clear H
                      have hnb77 := NB262_271.out
                      have hnc77 := NB271_262.out
                      have hnb78 := NB262_276.out
                      have hnc78 := NB276_262.out
                      have hcz79_0 : wc.cell? ⟨gb262, 0, none⟩ = some (.int .i8 t259) := (blk_cell BK262.out 0).trans rfl
                      have hcz79_1 : wc.cell? ⟨gb262, 1, none⟩ = some (.int .i8 t260) := (blk_cell BK262.out 1).trans rfl
                      have hcz79_2 : wc.cell? ⟨gb262, 2, none⟩ = some (.int .i8 t261) := (blk_cell BK262.out 2).trans rfl
                      have hfz79_0 := blk_frozen BK262.out 0
                      have hfz79_1 := blk_frozen BK262.out 1
                      have hfz79_2 := blk_frozen BK262.out 2
                      go_wp2
                      repeat (go_quiet (fail); try go_wp2)
                      go_meet
                      case rel => exact ⟨_, H', ⟨by have := HJ2.out; have := HJ13.out; first | omega | exact Nat.le_refl _⟩, ⟨by (with_reducible repeat (first | apply Kd.R_alloc | apply Kd.R_drewN | apply Kd.R_drew)); exact HO_5.out⟩, ⟨by (with_reducible repeat (first | refine blk_drewN ?_ _ | refine blk_drew ?_ | refine blk_alloc ?_ _)); exact BK262.out⟩, ⟨by (with_reducible repeat (first | refine blk_drewN ?_ _ | refine blk_drew ?_ | refine blk_alloc ?_ _)); exact BK271.out⟩, ⟨by (with_reducible repeat (first | refine blk_drewN ?_ _ | refine blk_drew ?_ | refine blk_alloc ?_ _)); exact BK276.out⟩, ⟨by repeat (first | (with_reducible first | exact HB.out | apply below_alloc | apply pw_below_drewN | apply below_drew1 | refine below_set ?_ GE262.out | refine below_set ?_ GE271.out | refine below_set ?_ GE276.out) | exact HB.out)⟩⟩
                  · rw [if_neg c75] at H
                    exact absurd H (by simp)
              case rest => as_aux_lemma =>
                clear HC46
                try clear c1
                try clear c2
                try clear p2
                try clear q2
                try clear hx2
                try clear c3
                try clear c4
                try clear c5
                try clear c6
                try clear p6
                try clear c7
                try clear c11
                try clear c24
                try clear p28
                try clear q28
                try clear hx28
                try clear c29
                try clear c30
                try clear c32
                try clear c32b0
                try clear c32b1
                try clear c33
                try clear c33b0
                try clear c33b1
                try clear c34
                try clear c34b0
                try clear c34b1
                try clear c35
                try clear c35b0
                try clear c36
                try clear c36b0
                try clear c36b1
                try clear c37
                try clear c37b0
                try clear c39
                try clear c40
                try clear c42
                try clear c45
                try clear c47
                try clear c47b0
                try clear c47b1
                try clear c50
                try clear c51
                try clear c54
                try clear c54b0
                try clear c54b1
                try clear c55
                try clear c55b0
                try clear c55b1
                try clear c56
                try clear c56b0
                try clear c56b1
                try clear c58
                try clear c59
                try clear c61
                try clear c64
                try clear p64
                try clear c65
                try clear c65b0
                try clear c66
                try clear c66b0
                try clear c68
                try clear c68b0
                try clear c68b1
                try clear c69
                try clear c69b0
                try clear c69b1
                try clear c71
                try clear c72
                try clear c75
                try clear c75b0
                try clear c75b1
                try clear c76
                try clear c76b0
                try clear c77
                try clear c78
                try clear hcz18_0
                try clear hcz18_1
                try clear hcz18_2
                try clear hcz21_0
                try clear hcz21_1
                try clear hcz21_2
                try clear hcz25_0
                try clear hcz25_1
                try clear hcz25_2
                try clear hcz26_0
                try clear hcz26_1
                try clear hcz26_2
                try clear hcz31_0
                try clear hcz31_1
                try clear hcz31_2
                try clear hcz41_0
                try clear hcz41_1
                try clear hcz41_2
                try clear hcz43_0
                try clear hcz43_1
                try clear hcz43_2
                try clear hcz52_0
                try clear hcz52_1
                try clear hcz52_2
                try clear hcz60_0
                try clear hcz60_1
                try clear hcz60_2
                try clear hcz62_0
                try clear hcz62_1
                try clear hcz62_2
                try clear hcz73_0
                try clear hcz73_1
                try clear hcz73_2
                try clear hcz79_0
                try clear hcz79_1
                try clear hcz79_2
                try clear hfz18_0
                try clear hfz18_1
                try clear hfz18_2
                try clear hfz21_0
                try clear hfz21_1
                try clear hfz21_2
                try clear hfz25_0
                try clear hfz25_1
                try clear hfz25_2
                try clear hfz26_0
                try clear hfz26_1
                try clear hfz26_2
                try clear hfz31_0
                try clear hfz31_1
                try clear hfz31_2
                try clear hfz41_0
                try clear hfz41_1
                try clear hfz41_2
                try clear hfz43_0
                try clear hfz43_1
                try clear hfz43_2
                try clear hfz52_0
                try clear hfz52_1
                try clear hfz52_2
                try clear hfz60_0
                try clear hfz60_1
                try clear hfz60_2
                try clear hfz62_0
                try clear hfz62_1
                try clear hfz62_2
                try clear hfz73_0
                try clear hfz73_1
                try clear hfz73_2
                try clear hfz79_0
                try clear hfz79_1
                try clear hfz79_2
                try clear hx283_0
                try clear hx286_0
                try clear p2
                try clear p283
                try clear p286
                try clear p6
                try clear p64
                try clear q283
                try clear q286
                obtain ⟨kq, HA, HJ45, HO_5, BK262, BK271, BK276, HB⟩ := hcut
                cases kq with
                | zero => exact absurd HA.out (by simp [laws_FnLong.j4])
                | succ kj45 =>
                  have H := HA.out
                  clear HA
                  simp only [laws_FnLong.j4] at H
                  have HC80 := Aside0.mk H
                  clear H
                  have hnb81 := NB262_271.out
                  have hnc81 := NB271_262.out
                  have hnb82 := NB262_276.out
                  have hnc82 := NB276_262.out
                  have hcz83_0 : wc.cell? ⟨gb262, 0, none⟩ = some (.int .i8 t259) := (blk_cell BK262.out 0).trans rfl
                  have hcz83_1 : wc.cell? ⟨gb262, 1, none⟩ = some (.int .i8 t260) := (blk_cell BK262.out 1).trans rfl
                  have hcz83_2 : wc.cell? ⟨gb262, 2, none⟩ = some (.int .i8 t261) := (blk_cell BK262.out 2).trans rfl
                  have hfz83_0 := blk_frozen BK262.out 0
                  have hfz83_1 := blk_frozen BK262.out 1
                  have hfz83_2 := blk_frozen BK262.out 2
                  go_upto_if 183 with (fail)
                  repeat (go_quiet (fail); go_upto_if 183 with (fail))
                  go_cut [] (fun wc => ∃ (kq : Nat), Aside0 (laws_FnLong.j5 kq l1 t259 t260 t261 = some r) ∧ Aside0 (kq ≤ kj45) ∧ Aside0 (wc.heap[gb262]? = some (.cells #[.int .i8 t259, .int .i8 t260, .int .i8 t261] 41 (0, 0))) ∧ Aside0 (wc.heap[gb271]? = some (.cells #[.int .i8 t267, .int .i8 t268, .int .i8 t269] 41 (0, 0))) ∧ Aside0 (wc.heap[gb276]? = some (.cells #[.int .i8 t272, .int .i8 t273, .int .i8 t274] 41 (0, 0))) ∧ Aside0 (Below w.heap.size w wc))
                  case first =>
                    have H := HC80.out
                    clear HC80
                    by_cases c84 : t259 > 0
                    · rw [if_pos c84] at H
                      have c84b0 : decide (0 < t259) = true := decide_eq_true c84
                      clear c84
                      (first | rw [c84b0] | (simp only [i64_w, i32_w]; rw [c84b0]) | skip)
                      replace H := Option.bind_eq_some_iff.mp H
                      obtain ⟨⟨t287, t288⟩, A850, H⟩ := H
                      replace H : (if t288 = 0 then (if t287 > t265 then (none) else (laws_FnLong.j5 kj45 l1 t259 t260 t261)) else (none)) = some r := H
                      have A85 := Aside0.mk A850
                      clear A850
                      by_cases c86 : t288 = 0
                      · rw [if_pos c86] at H
                        have c86b0 : (t288 == 0) = true := beq_iff_eq.mpr c86
                        have c86b1 : (t288 != 0) = false := bne_eq_false_iff_eq.mpr c86
                        clear c86
                        by_cases c87 : t287 > t265
                        · rw [if_pos c87] at H
                          exact absurd H (by simp)
                        · rw [if_neg c87] at H
                          have c87b0 : decide (t265 < t287) = false := decide_eq_false c87
                          clear c87
                          have H' := Aside0.mk H
                          clear H
                          have hnb88 := NB262_271.out
                          have hnc88 := NB271_262.out
                          have hnb89 := NB262_276.out
                          have hnc89 := NB276_262.out
                          have hcz90_0 : wc.cell? ⟨gb262, 0, none⟩ = some (.int .i8 t259) := (blk_cell BK262.out 0).trans rfl
                          have hcz90_1 : wc.cell? ⟨gb262, 1, none⟩ = some (.int .i8 t260) := (blk_cell BK262.out 1).trans rfl
                          have hcz90_2 : wc.cell? ⟨gb262, 2, none⟩ = some (.int .i8 t261) := (blk_cell BK262.out 2).trans rfl
                          have hfz90_0 := blk_frozen BK262.out 0
                          have hfz90_1 := blk_frozen BK262.out 1
                          have hfz90_2 := blk_frozen BK262.out 2
                          go_wp2_with (first | (go_at_call 23; (with_reducible refine (impl_ExtraFor.calls kj45 _ _ t256 (wrap64 ((wrap64 (t259)) - 1)) t287 t288 _ ?side1 ?side2 A85.out).mono ?_); (case side1 => repeat (first | exact (Kd.R_reads' HO_5.out).2.2 | (with_reducible refine Kd.C_alloc ?_ _) | (with_reducible refine Kd.C_drewN ?_ _) | (with_reducible refine Kd.C_drew ?_))); (case side2 => exact (Kd.R_reads' HO_5.out).2.1); rintro e w91 ⟨rfl, hb⟩; have n0_ := Aside0.mk (Kd.R_below (by (with_reducible repeat (first | apply Kd.R_alloc | apply Kd.R_drewN | apply Kd.R_drew)); exact HO_5.out) hb); have n1_ := Aside0.mk (blk_below (g := gb262) (o := .cells #[.int .i8 t259, .int .i8 t260, .int .i8 t261] 41 (0, 0)) (by (with_reducible repeat (first | refine blk_drewN ?_ _ | refine blk_drew ?_ | refine blk_alloc ?_ _)); exact BK262.out) hb); have n2_ := Aside0.mk (blk_below (g := gb271) (o := .cells #[.int .i8 t267, .int .i8 t268, .int .i8 t269] 41 (0, 0)) (by (with_reducible repeat (first | refine blk_drewN ?_ _ | refine blk_drew ?_ | refine blk_alloc ?_ _)); exact BK271.out) hb); have n3_ := Aside0.mk (blk_below (g := gb276) (o := .cells #[.int .i8 t272, .int .i8 t273, .int .i8 t274] 41 (0, 0)) (by (with_reducible repeat (first | refine blk_drewN ?_ _ | refine blk_drew ?_ | refine blk_alloc ?_ _)); exact BK276.out) hb); have n4_ := Aside0.mk (below_step (by repeat (first | (with_reducible first | exact HB.out | apply below_alloc | apply pw_below_drewN | apply below_drew1 | refine below_set ?_ GE262.out | refine below_set ?_ GE271.out | refine below_set ?_ GE276.out) | exact HB.out)) hb); clear HO_5; clear BK262; clear BK271; clear BK276; clear HB; have HO_5 := n0_; have BK262 := n1_; have BK271 := n2_; have BK276 := n3_; have HB := n4_; clear n0_ n1_ n2_ n3_ n4_; (try clear hb); (try clear hb2); (try clear hk); (try clear hi)))
                          repeat (go_quiet (first | (go_at_call 23; (with_reducible refine (impl_ExtraFor.calls kj45 _ _ t256 (wrap64 ((wrap64 (t259)) - 1)) t287 t288 _ ?side1 ?side2 A85.out).mono ?_); (case side1 => repeat (first | exact (Kd.R_reads' HO_5.out).2.2 | (with_reducible refine Kd.C_alloc ?_ _) | (with_reducible refine Kd.C_drewN ?_ _) | (with_reducible refine Kd.C_drew ?_))); (case side2 => exact (Kd.R_reads' HO_5.out).2.1); rintro e w91 ⟨rfl, hb⟩; have n0_ := Aside0.mk (Kd.R_below (by (with_reducible repeat (first | apply Kd.R_alloc | apply Kd.R_drewN | apply Kd.R_drew)); exact HO_5.out) hb); have n1_ := Aside0.mk (blk_below (g := gb262) (o := .cells #[.int .i8 t259, .int .i8 t260, .int .i8 t261] 41 (0, 0)) (by (with_reducible repeat (first | refine blk_drewN ?_ _ | refine blk_drew ?_ | refine blk_alloc ?_ _)); exact BK262.out) hb); have n2_ := Aside0.mk (blk_below (g := gb271) (o := .cells #[.int .i8 t267, .int .i8 t268, .int .i8 t269] 41 (0, 0)) (by (with_reducible repeat (first | refine blk_drewN ?_ _ | refine blk_drew ?_ | refine blk_alloc ?_ _)); exact BK271.out) hb); have n3_ := Aside0.mk (blk_below (g := gb276) (o := .cells #[.int .i8 t272, .int .i8 t273, .int .i8 t274] 41 (0, 0)) (by (with_reducible repeat (first | refine blk_drewN ?_ _ | refine blk_drew ?_ | refine blk_alloc ?_ _)); exact BK276.out) hb); have n4_ := Aside0.mk (below_step (by repeat (first | (with_reducible first | exact HB.out | apply below_alloc | apply pw_below_drewN | apply below_drew1 | refine below_set ?_ GE262.out | refine below_set ?_ GE271.out | refine below_set ?_ GE276.out) | exact HB.out)) hb); clear HO_5; clear BK262; clear BK271; clear BK276; clear HB; have HO_5 := n0_; have BK262 := n1_; have BK271 := n2_; have BK276 := n3_; have HB := n4_; clear n0_ n1_ n2_ n3_ n4_; (try clear hb); (try clear hb2); (try clear hk); (try clear hi))); try go_wp2_with (first | (go_at_call 23; (with_reducible refine (impl_ExtraFor.calls kj45 _ _ t256 (wrap64 ((wrap64 (t259)) - 1)) t287 t288 _ ?side1 ?side2 A85.out).mono ?_); (case side1 => repeat (first | exact (Kd.R_reads' HO_5.out).2.2 | (with_reducible refine Kd.C_alloc ?_ _) | (with_reducible refine Kd.C_drewN ?_ _) | (with_reducible refine Kd.C_drew ?_))); (case side2 => exact (Kd.R_reads' HO_5.out).2.1); rintro e w91 ⟨rfl, hb⟩; have n0_ := Aside0.mk (Kd.R_below (by (with_reducible repeat (first | apply Kd.R_alloc | apply Kd.R_drewN | apply Kd.R_drew)); exact HO_5.out) hb); have n1_ := Aside0.mk (blk_below (g := gb262) (o := .cells #[.int .i8 t259, .int .i8 t260, .int .i8 t261] 41 (0, 0)) (by (with_reducible repeat (first | refine blk_drewN ?_ _ | refine blk_drew ?_ | refine blk_alloc ?_ _)); exact BK262.out) hb); have n2_ := Aside0.mk (blk_below (g := gb271) (o := .cells #[.int .i8 t267, .int .i8 t268, .int .i8 t269] 41 (0, 0)) (by (with_reducible repeat (first | refine blk_drewN ?_ _ | refine blk_drew ?_ | refine blk_alloc ?_ _)); exact BK271.out) hb); have n3_ := Aside0.mk (blk_below (g := gb276) (o := .cells #[.int .i8 t272, .int .i8 t273, .int .i8 t274] 41 (0, 0)) (by (with_reducible repeat (first | refine blk_drewN ?_ _ | refine blk_drew ?_ | refine blk_alloc ?_ _)); exact BK276.out) hb); have n4_ := Aside0.mk (below_step (by repeat (first | (with_reducible first | exact HB.out | apply below_alloc | apply pw_below_drewN | apply below_drew1 | refine below_set ?_ GE262.out | refine below_set ?_ GE271.out | refine below_set ?_ GE276.out) | exact HB.out)) hb); clear HO_5; clear BK262; clear BK271; clear BK276; clear HB; have HO_5 := n0_; have BK262 := n1_; have BK271 := n2_; have BK276 := n3_; have HB := n4_; clear n0_ n1_ n2_ n3_ n4_; (try clear hb); (try clear hb2); (try clear hk); (try clear hi))))
                          go_meet
                          case rel => exact ⟨_, H', ⟨by have := HJ2.out; have := HJ13.out; have := HJ45.out; first | omega | exact Nat.le_refl _⟩, ⟨by (with_reducible repeat (first | refine blk_drewN ?_ _ | refine blk_drew ?_ | refine blk_alloc ?_ _)); exact BK262.out⟩, ⟨by (with_reducible repeat (first | refine blk_drewN ?_ _ | refine blk_drew ?_ | refine blk_alloc ?_ _)); exact BK271.out⟩, ⟨by (with_reducible repeat (first | refine blk_drewN ?_ _ | refine blk_drew ?_ | refine blk_alloc ?_ _)); exact BK276.out⟩, ⟨by repeat (first | (with_reducible first | exact HB.out | apply below_alloc | apply pw_below_drewN | apply below_drew1 | refine below_set ?_ GE262.out | refine below_set ?_ GE271.out | refine below_set ?_ GE276.out) | exact HB.out)⟩⟩
                      · rw [if_neg c86] at H
                        exact absurd H (by simp)
                    · rw [if_neg c84] at H
                      have c84b0 : decide (0 < t259) = false := decide_eq_false c84
                      clear c84
                      (first | rw [c84b0] | (simp only [i64_w, i32_w]; rw [c84b0]) | skip)
                      have H' := Aside0.mk H
                      clear H
                      go_wp2
                      repeat (go_quiet (fail); try go_wp2)
                      go_meet
                      case rel => exact ⟨_, H', ⟨by have := HJ2.out; have := HJ13.out; have := HJ45.out; first | omega | exact Nat.le_refl _⟩, ⟨by (with_reducible repeat (first | refine blk_drewN ?_ _ | refine blk_drew ?_ | refine blk_alloc ?_ _)); exact BK262.out⟩, ⟨by (with_reducible repeat (first | refine blk_drewN ?_ _ | refine blk_drew ?_ | refine blk_alloc ?_ _)); exact BK271.out⟩, ⟨by (with_reducible repeat (first | refine blk_drewN ?_ _ | refine blk_drew ?_ | refine blk_alloc ?_ _)); exact BK276.out⟩, ⟨by repeat (first | (with_reducible first | exact HB.out | apply below_alloc | apply pw_below_drewN | apply below_drew1 | refine below_set ?_ GE262.out | refine below_set ?_ GE271.out | refine below_set ?_ GE276.out) | exact HB.out)⟩⟩
                  case rest => as_aux_lemma =>
                    clear HC80
                    try clear c1
                    try clear c2
                    try clear p2
                    try clear q2
                    try clear hx2
                    try clear c3
                    try clear c4
                    try clear c5
                    try clear c6
                    try clear p6
                    try clear c7
                    try clear c8
                    try clear c11
                    try clear c24
                    try clear p28
                    try clear q28
                    try clear hx28
                    try clear c29
                    try clear c30
                    try clear c32
                    try clear c32b0
                    try clear c32b1
                    try clear c33
                    try clear c33b0
                    try clear c33b1
                    try clear c34
                    try clear c34b0
                    try clear c34b1
                    try clear c35
                    try clear c35b0
                    try clear c36
                    try clear c36b0
                    try clear c36b1
                    try clear c37
                    try clear c37b0
                    try clear c39
                    try clear c40
                    try clear c42
                    try clear c45
                    try clear c47
                    try clear c47b0
                    try clear c47b1
                    try clear c50
                    try clear c51
                    try clear c54
                    try clear c54b0
                    try clear c54b1
                    try clear c55
                    try clear c55b0
                    try clear c55b1
                    try clear c56
                    try clear c56b0
                    try clear c56b1
                    try clear c58
                    try clear c59
                    try clear c61
                    try clear c64
                    try clear p64
                    try clear c65
                    try clear c65b0
                    try clear c66
                    try clear c66b0
                    try clear c68
                    try clear c68b0
                    try clear c68b1
                    try clear c69
                    try clear c69b0
                    try clear c69b1
                    try clear c71
                    try clear c72
                    try clear c75
                    try clear c75b0
                    try clear c75b1
                    try clear c76
                    try clear c76b0
                    try clear c77
                    try clear c78
                    try clear c81
                    try clear c82
                    try clear c84
                    try clear c84b0
                    try clear c86
                    try clear c86b0
                    try clear c86b1
                    try clear c87
                    try clear c87b0
                    try clear c88
                    try clear c89
                    try clear hcz18_0
                    try clear hcz18_1
                    try clear hcz18_2
                    try clear hcz21_0
                    try clear hcz21_1
                    try clear hcz21_2
                    try clear hcz25_0
                    try clear hcz25_1
                    try clear hcz25_2
                    try clear hcz26_0
                    try clear hcz26_1
                    try clear hcz26_2
                    try clear hcz31_0
                    try clear hcz31_1
                    try clear hcz31_2
                    try clear hcz41_0
                    try clear hcz41_1
                    try clear hcz41_2
                    try clear hcz43_0
                    try clear hcz43_1
                    try clear hcz43_2
                    try clear hcz52_0
                    try clear hcz52_1
                    try clear hcz52_2
                    try clear hcz60_0
                    try clear hcz60_1
                    try clear hcz60_2
                    try clear hcz62_0
                    try clear hcz62_1
                    try clear hcz62_2
                    try clear hcz73_0
                    try clear hcz73_1
                    try clear hcz73_2
                    try clear hcz79_0
                    try clear hcz79_1
                    try clear hcz79_2
                    try clear hcz83_0
                    try clear hcz83_1
                    try clear hcz83_2
                    try clear hcz90_0
                    try clear hcz90_1
                    try clear hcz90_2
                    try clear hfz18_0
                    try clear hfz18_1
                    try clear hfz18_2
                    try clear hfz21_0
                    try clear hfz21_1
                    try clear hfz21_2
                    try clear hfz25_0
                    try clear hfz25_1
                    try clear hfz25_2
                    try clear hfz26_0
                    try clear hfz26_1
                    try clear hfz26_2
                    try clear hfz31_0
                    try clear hfz31_1
                    try clear hfz31_2
                    try clear hfz41_0
                    try clear hfz41_1
                    try clear hfz41_2
                    try clear hfz43_0
                    try clear hfz43_1
                    try clear hfz43_2
                    try clear hfz52_0
                    try clear hfz52_1
                    try clear hfz52_2
                    try clear hfz60_0
                    try clear hfz60_1
                    try clear hfz60_2
                    try clear hfz62_0
                    try clear hfz62_1
                    try clear hfz62_2
                    try clear hfz73_0
                    try clear hfz73_1
                    try clear hfz73_2
                    try clear hfz79_0
                    try clear hfz79_1
                    try clear hfz79_2
                    try clear hfz83_0
                    try clear hfz83_1
                    try clear hfz83_2
                    try clear hfz90_0
                    try clear hfz90_1
                    try clear hfz90_2
                    try clear hx283_0
                    try clear hx286_0
                    try clear p2
                    try clear p28
                    try clear p283
                    try clear p286
                    try clear p6
                    try clear p64
                    try clear q2
                    try clear q28
                    try clear q283
                    try clear q286
                    obtain ⟨kq, HA, HJ79, BK262, BK271, BK276, HB⟩ := hcut
                    cases kq with
                    | zero => exact absurd HA.out (by simp [laws_FnLong.j5])
                    | succ kj79 =>
                      have H := HA.out
                      clear HA
                      simp only [laws_FnLong.j5] at H
                      replace H := Option.bind_eq_some_iff.mp H
                      obtain ⟨t289, A920, H⟩ := H
                      replace H : ((impl_FactorThirds.f kj79 (wrap64 (1 + t289))).bind fun bt290 => ((spec_FactorThirds.f kj79 (wrap64 (1 + t289))).bind fun bt292 => ((impl_TimeOf.f bt292.1).bind fun bt294 => (if bt290.2 = bt292.2 then (if bt290.2 = 0 then (if bt290.1 = bt292.1 then (if bt294.2 = 0 then (laws_FnLong.j6 kj79 (wrap64 (1 + t289)) bt292.1 (decide (bt294.1 < (wrap64 (1000 * (wrap64 (1 + t289)))))) t259 t260 t261) else (none)) else (none)) else (none)) else (none))))) = some r := H
                      have A92 := Aside0.mk A920
                      clear A920
                      replace H := Option.bind_eq_some_iff.mp H
                      obtain ⟨⟨t290, t291⟩, A930, H⟩ := H
                      replace H : ((spec_FactorThirds.f kj79 (wrap64 (1 + t289))).bind fun bt292 => ((impl_TimeOf.f bt292.1).bind fun bt294 => (if t291 = bt292.2 then (if t291 = 0 then (if t290 = bt292.1 then (if bt294.2 = 0 then (laws_FnLong.j6 kj79 (wrap64 (1 + t289)) bt292.1 (decide (bt294.1 < (wrap64 (1000 * (wrap64 (1 + t289)))))) t259 t260 t261) else (none)) else (none)) else (none)) else (none)))) = some r := H
                      have A93 := Aside0.mk A930
                      clear A930
                      replace H := Option.bind_eq_some_iff.mp H
                      obtain ⟨⟨t292, t293⟩, A940, H⟩ := H
                      replace H : ((impl_TimeOf.f t292).bind fun bt294 => (if t291 = t293 then (if t291 = 0 then (if t290 = t292 then (if bt294.2 = 0 then (laws_FnLong.j6 kj79 (wrap64 (1 + t289)) t292 (decide (bt294.1 < (wrap64 (1000 * (wrap64 (1 + t289)))))) t259 t260 t261) else (none)) else (none)) else (none)) else (none))) = some r := H
                      have A94 := Aside0.mk A940
                      clear A940
                      replace H := Option.bind_eq_some_iff.mp H
                      obtain ⟨⟨t294, t295⟩, A950, H⟩ := H
                      replace H : (if t291 = t293 then (if t291 = 0 then (if t290 = t292 then (if t295 = 0 then (laws_FnLong.j6 kj79 (wrap64 (1 + t289)) t292 (decide (t294 < (wrap64 (1000 * (wrap64 (1 + t289)))))) t259 t260 t261) else (none)) else (none)) else (none)) else (none)) = some r := H
                      have A95 := Aside0.mk A950
                      clear A950
                      have HC96 := Aside0.mk H
                      clear H
                      go_upto_region 31 with (first | (go_at_call 45; (with_reducible refine (spec_P6Pick.calls _ _ l1 60 t289 _ ?side1 ?side2 A92.out).mono ?_); (case side1 => repeat (first | exact (Kd.C_below HR1.out HB.out) | (with_reducible refine Kd.C_alloc ?_ _) | (with_reducible refine Kd.C_drewN ?_ _) | (with_reducible refine Kd.C_drew ?_))); (case side2 => exact HC1.out); rintro e w97 ⟨rfl, hb⟩; have n0_ := Aside0.mk (blk_below (g := gb262) (o := .cells #[.int .i8 t259, .int .i8 t260, .int .i8 t261] 41 (0, 0)) (by (with_reducible repeat (first | refine blk_drewN ?_ _ | refine blk_drew ?_ | refine blk_alloc ?_ _)); exact BK262.out) hb); have n1_ := Aside0.mk (blk_below (g := gb271) (o := .cells #[.int .i8 t267, .int .i8 t268, .int .i8 t269] 41 (0, 0)) (by (with_reducible repeat (first | refine blk_drewN ?_ _ | refine blk_drew ?_ | refine blk_alloc ?_ _)); exact BK271.out) hb); have n2_ := Aside0.mk (blk_below (g := gb276) (o := .cells #[.int .i8 t272, .int .i8 t273, .int .i8 t274] 41 (0, 0)) (by (with_reducible repeat (first | refine blk_drewN ?_ _ | refine blk_drew ?_ | refine blk_alloc ?_ _)); exact BK276.out) hb); have n3_ := Aside0.mk (below_step (by repeat (first | (with_reducible first | exact HB.out | apply below_alloc | apply pw_below_drewN | apply below_drew1 | refine below_set ?_ GE262.out | refine below_set ?_ GE271.out | refine below_set ?_ GE276.out) | exact HB.out)) hb); clear BK262; clear BK271; clear BK276; clear HB; have BK262 := n0_; have BK271 := n1_; have BK276 := n2_; have HB := n3_; clear n0_ n1_ n2_ n3_; (try clear hb); (try clear hb2); (try clear hk); (try clear hi)) | (go_at_call 46; (with_reducible refine (impl_FactorThirds.calls kj79 (wrap64 (1 + t289)) t290 t291 _ A93.out).mono ?_); rintro e w' ⟨rfl, ⟨nd, rfl⟩⟩; (try first | exact ⟨rfl, _, World.drewN_drewN _ _ _⟩ | exact ⟨rfl, _, Eq.trans (World.drewN_drewN _ _ _) (congrArg (World.drewN _) (Nat.add_assoc _ _ _))⟩)) | (go_at_call 47; (with_reducible refine (spec_FactorThirds.calls kj79 (wrap64 (1 + t289)) t292 t293 _ A94.out).mono ?_); rintro e w98 ⟨rfl, hb⟩; have n0_ := Aside0.mk (blk_below (g := gb262) (o := .cells #[.int .i8 t259, .int .i8 t260, .int .i8 t261] 41 (0, 0)) (by (with_reducible repeat (first | refine blk_drewN ?_ _ | refine blk_drew ?_ | refine blk_alloc ?_ _)); exact BK262.out) hb); have n1_ := Aside0.mk (blk_below (g := gb271) (o := .cells #[.int .i8 t267, .int .i8 t268, .int .i8 t269] 41 (0, 0)) (by (with_reducible repeat (first | refine blk_drewN ?_ _ | refine blk_drew ?_ | refine blk_alloc ?_ _)); exact BK271.out) hb); have n2_ := Aside0.mk (blk_below (g := gb276) (o := .cells #[.int .i8 t272, .int .i8 t273, .int .i8 t274] 41 (0, 0)) (by (with_reducible repeat (first | refine blk_drewN ?_ _ | refine blk_drew ?_ | refine blk_alloc ?_ _)); exact BK276.out) hb); have n3_ := Aside0.mk (below_step (by repeat (first | (with_reducible first | exact HB.out | apply below_alloc | apply pw_below_drewN | apply below_drew1 | refine below_set ?_ GE262.out | refine below_set ?_ GE271.out | refine below_set ?_ GE276.out) | exact HB.out)) hb); clear BK262; clear BK271; clear BK276; clear HB; have BK262 := n0_; have BK271 := n1_; have BK276 := n2_; have HB := n3_; clear n0_ n1_ n2_ n3_; (try clear hb); (try clear hb2); (try clear hk); (try clear hi)) | (go_at_call 48; (with_reducible refine (impl_TimeOf.calls t292 t294 t295 _ A95.out).mono ?_); rintro e w' ⟨rfl, ⟨nd, rfl⟩⟩; (try first | exact ⟨rfl, _, World.drewN_drewN _ _ _⟩ | exact ⟨rfl, _, Eq.trans (World.drewN_drewN _ _ _) (congrArg (World.drewN _) (Nat.add_assoc _ _ _))⟩)))
                      repeat (go_quiet (first | (go_at_call 45; (with_reducible refine (spec_P6Pick.calls _ _ l1 60 t289 _ ?side1 ?side2 A92.out).mono ?_); (case side1 => repeat (first | exact (Kd.C_below HR1.out HB.out) | (with_reducible refine Kd.C_alloc ?_ _) | (with_reducible refine Kd.C_drewN ?_ _) | (with_reducible refine Kd.C_drew ?_))); (case side2 => exact HC1.out); rintro e w97 ⟨rfl, hb⟩; have n0_ := Aside0.mk (blk_below (g := gb262) (o := .cells #[.int .i8 t259, .int .i8 t260, .int .i8 t261] 41 (0, 0)) (by (with_reducible repeat (first | refine blk_drewN ?_ _ | refine blk_drew ?_ | refine blk_alloc ?_ _)); exact BK262.out) hb); have n1_ := Aside0.mk (blk_below (g := gb271) (o := .cells #[.int .i8 t267, .int .i8 t268, .int .i8 t269] 41 (0, 0)) (by (with_reducible repeat (first | refine blk_drewN ?_ _ | refine blk_drew ?_ | refine blk_alloc ?_ _)); exact BK271.out) hb); have n2_ := Aside0.mk (blk_below (g := gb276) (o := .cells #[.int .i8 t272, .int .i8 t273, .int .i8 t274] 41 (0, 0)) (by (with_reducible repeat (first | refine blk_drewN ?_ _ | refine blk_drew ?_ | refine blk_alloc ?_ _)); exact BK276.out) hb); have n3_ := Aside0.mk (below_step (by repeat (first | (with_reducible first | exact HB.out | apply below_alloc | apply pw_below_drewN | apply below_drew1 | refine below_set ?_ GE262.out | refine below_set ?_ GE271.out | refine below_set ?_ GE276.out) | exact HB.out)) hb); clear BK262; clear BK271; clear BK276; clear HB; have BK262 := n0_; have BK271 := n1_; have BK276 := n2_; have HB := n3_; clear n0_ n1_ n2_ n3_; (try clear hb); (try clear hb2); (try clear hk); (try clear hi)) | (go_at_call 46; (with_reducible refine (impl_FactorThirds.calls kj79 (wrap64 (1 + t289)) t290 t291 _ A93.out).mono ?_); rintro e w' ⟨rfl, ⟨nd, rfl⟩⟩; (try first | exact ⟨rfl, _, World.drewN_drewN _ _ _⟩ | exact ⟨rfl, _, Eq.trans (World.drewN_drewN _ _ _) (congrArg (World.drewN _) (Nat.add_assoc _ _ _))⟩)) | (go_at_call 47; (with_reducible refine (spec_FactorThirds.calls kj79 (wrap64 (1 + t289)) t292 t293 _ A94.out).mono ?_); rintro e w98 ⟨rfl, hb⟩; have n0_ := Aside0.mk (blk_below (g := gb262) (o := .cells #[.int .i8 t259, .int .i8 t260, .int .i8 t261] 41 (0, 0)) (by (with_reducible repeat (first | refine blk_drewN ?_ _ | refine blk_drew ?_ | refine blk_alloc ?_ _)); exact BK262.out) hb); have n1_ := Aside0.mk (blk_below (g := gb271) (o := .cells #[.int .i8 t267, .int .i8 t268, .int .i8 t269] 41 (0, 0)) (by (with_reducible repeat (first | refine blk_drewN ?_ _ | refine blk_drew ?_ | refine blk_alloc ?_ _)); exact BK271.out) hb); have n2_ := Aside0.mk (blk_below (g := gb276) (o := .cells #[.int .i8 t272, .int .i8 t273, .int .i8 t274] 41 (0, 0)) (by (with_reducible repeat (first | refine blk_drewN ?_ _ | refine blk_drew ?_ | refine blk_alloc ?_ _)); exact BK276.out) hb); have n3_ := Aside0.mk (below_step (by repeat (first | (with_reducible first | exact HB.out | apply below_alloc | apply pw_below_drewN | apply below_drew1 | refine below_set ?_ GE262.out | refine below_set ?_ GE271.out | refine below_set ?_ GE276.out) | exact HB.out)) hb); clear BK262; clear BK271; clear BK276; clear HB; have BK262 := n0_; have BK271 := n1_; have BK276 := n2_; have HB := n3_; clear n0_ n1_ n2_ n3_; (try clear hb); (try clear hb2); (try clear hk); (try clear hi)) | (go_at_call 48; (with_reducible refine (impl_TimeOf.calls t292 t294 t295 _ A95.out).mono ?_); rintro e w' ⟨rfl, ⟨nd, rfl⟩⟩; (try first | exact ⟨rfl, _, World.drewN_drewN _ _ _⟩ | exact ⟨rfl, _, Eq.trans (World.drewN_drewN _ _ _) (congrArg (World.drewN _) (Nat.add_assoc _ _ _))⟩))); go_upto_region 31 with (first | (go_at_call 45; (with_reducible refine (spec_P6Pick.calls _ _ l1 60 t289 _ ?side1 ?side2 A92.out).mono ?_); (case side1 => repeat (first | exact (Kd.C_below HR1.out HB.out) | (with_reducible refine Kd.C_alloc ?_ _) | (with_reducible refine Kd.C_drewN ?_ _) | (with_reducible refine Kd.C_drew ?_))); (case side2 => exact HC1.out); rintro e w97 ⟨rfl, hb⟩; have n0_ := Aside0.mk (blk_below (g := gb262) (o := .cells #[.int .i8 t259, .int .i8 t260, .int .i8 t261] 41 (0, 0)) (by (with_reducible repeat (first | refine blk_drewN ?_ _ | refine blk_drew ?_ | refine blk_alloc ?_ _)); exact BK262.out) hb); have n1_ := Aside0.mk (blk_below (g := gb271) (o := .cells #[.int .i8 t267, .int .i8 t268, .int .i8 t269] 41 (0, 0)) (by (with_reducible repeat (first | refine blk_drewN ?_ _ | refine blk_drew ?_ | refine blk_alloc ?_ _)); exact BK271.out) hb); have n2_ := Aside0.mk (blk_below (g := gb276) (o := .cells #[.int .i8 t272, .int .i8 t273, .int .i8 t274] 41 (0, 0)) (by (with_reducible repeat (first | refine blk_drewN ?_ _ | refine blk_drew ?_ | refine blk_alloc ?_ _)); exact BK276.out) hb); have n3_ := Aside0.mk (below_step (by repeat (first | (with_reducible first | exact HB.out | apply below_alloc | apply pw_below_drewN | apply below_drew1 | refine below_set ?_ GE262.out | refine below_set ?_ GE271.out | refine below_set ?_ GE276.out) | exact HB.out)) hb); clear BK262; clear BK271; clear BK276; clear HB; have BK262 := n0_; have BK271 := n1_; have BK276 := n2_; have HB := n3_; clear n0_ n1_ n2_ n3_; (try clear hb); (try clear hb2); (try clear hk); (try clear hi)) | (go_at_call 46; (with_reducible refine (impl_FactorThirds.calls kj79 (wrap64 (1 + t289)) t290 t291 _ A93.out).mono ?_); rintro e w' ⟨rfl, ⟨nd, rfl⟩⟩; (try first | exact ⟨rfl, _, World.drewN_drewN _ _ _⟩ | exact ⟨rfl, _, Eq.trans (World.drewN_drewN _ _ _) (congrArg (World.drewN _) (Nat.add_assoc _ _ _))⟩)) | (go_at_call 47; (with_reducible refine (spec_FactorThirds.calls kj79 (wrap64 (1 + t289)) t292 t293 _ A94.out).mono ?_); rintro e w98 ⟨rfl, hb⟩; have n0_ := Aside0.mk (blk_below (g := gb262) (o := .cells #[.int .i8 t259, .int .i8 t260, .int .i8 t261] 41 (0, 0)) (by (with_reducible repeat (first | refine blk_drewN ?_ _ | refine blk_drew ?_ | refine blk_alloc ?_ _)); exact BK262.out) hb); have n1_ := Aside0.mk (blk_below (g := gb271) (o := .cells #[.int .i8 t267, .int .i8 t268, .int .i8 t269] 41 (0, 0)) (by (with_reducible repeat (first | refine blk_drewN ?_ _ | refine blk_drew ?_ | refine blk_alloc ?_ _)); exact BK271.out) hb); have n2_ := Aside0.mk (blk_below (g := gb276) (o := .cells #[.int .i8 t272, .int .i8 t273, .int .i8 t274] 41 (0, 0)) (by (with_reducible repeat (first | refine blk_drewN ?_ _ | refine blk_drew ?_ | refine blk_alloc ?_ _)); exact BK276.out) hb); have n3_ := Aside0.mk (below_step (by repeat (first | (with_reducible first | exact HB.out | apply below_alloc | apply pw_below_drewN | apply below_drew1 | refine below_set ?_ GE262.out | refine below_set ?_ GE271.out | refine below_set ?_ GE276.out) | exact HB.out)) hb); clear BK262; clear BK271; clear BK276; clear HB; have BK262 := n0_; have BK271 := n1_; have BK276 := n2_; have HB := n3_; clear n0_ n1_ n2_ n3_; (try clear hb); (try clear hb2); (try clear hk); (try clear hi)) | (go_at_call 48; (with_reducible refine (impl_TimeOf.calls t292 t294 t295 _ A95.out).mono ?_); rintro e w' ⟨rfl, ⟨nd, rfl⟩⟩; (try first | exact ⟨rfl, _, World.drewN_drewN _ _ _⟩ | exact ⟨rfl, _, Eq.trans (World.drewN_drewN _ _ _) (congrArg (World.drewN _) (Nat.add_assoc _ _ _))⟩))))
                      (try simp only [Act.put, List.setIfInBounds_toArray, List.set_cons_zero, List.set_cons_succ])
                      go_cut [239] (fun v239 wc => ∃ (kq : Nat) (x239_95 : Bool), v239 = .bool x239_95 ∧ Aside0 (laws_FnLong.j6 kq (wrap64 (1 + t289)) t292 x239_95 t259 t260 t261 = some r) ∧ Aside0 (kq ≤ kj79) ∧ Aside0 (wc.heap[gb262]? = some (.cells #[.int .i8 t259, .int .i8 t260, .int .i8 t261] 41 (0, 0))) ∧ Aside0 (wc.heap[gb271]? = some (.cells #[.int .i8 t267, .int .i8 t268, .int .i8 t269] 41 (0, 0))) ∧ Aside0 (wc.heap[gb276]? = some (.cells #[.int .i8 t272, .int .i8 t273, .int .i8 t274] 41 (0, 0))) ∧ Aside0 (Below w.heap.size w wc))
                      case first =>
                        have H := HC96.out
                        clear HC96
                        by_cases c99 : t291 = t293
                        · rw [if_pos c99] at H
                          have c99b0 : (t291 == t293) = true := beq_iff_eq.mpr c99
                          have c99b1 : (t291 != t293) = false := bne_eq_false_iff_eq.mpr c99
                          clear c99
                          (first | rw [c99b0] | (simp only [i64_w, i32_w]; rw [c99b0]) | skip)
                          by_cases c100 : t291 = 0
                          · rw [if_pos c100] at H
                            have c100b0 : (t291 == 0) = true := beq_iff_eq.mpr c100
                            have c100b1 : (t291 != 0) = false := bne_eq_false_iff_eq.mpr c100
                            clear c100
                            by_cases c101 : t290 = t292
                            · rw [if_pos c101] at H
                              have c101b0 : (t290 == t292) = true := beq_iff_eq.mpr c101
                              have c101b1 : (t290 != t292) = false := bne_eq_false_iff_eq.mpr c101
                              clear c101
                              by_cases c102 : t295 = 0
                              · rw [if_pos c102] at H
                                have c102b0 : (t295 == 0) = true := beq_iff_eq.mpr c102
                                have c102b1 : (t295 != 0) = false := bne_eq_false_iff_eq.mpr c102
                                clear c102
                                have H' := Aside0.mk H
                                clear H
                                go_wp2
                                repeat (go_quiet (fail); try go_wp2)
                                go_meet
                                case rel => exact ⟨_, (decide (t294 < (wrap64 (1000 * (wrap64 (1 + t289)))))), (by first | rfl | (simp; done) | (simp [*]; done)), H', ⟨by have := HJ2.out; have := HJ13.out; have := HJ45.out; have := HJ79.out; first | omega | exact Nat.le_refl _⟩, ⟨by (with_reducible repeat (first | refine blk_drewN ?_ _ | refine blk_drew ?_ | refine blk_alloc ?_ _)); exact BK262.out⟩, ⟨by (with_reducible repeat (first | refine blk_drewN ?_ _ | refine blk_drew ?_ | refine blk_alloc ?_ _)); exact BK271.out⟩, ⟨by (with_reducible repeat (first | refine blk_drewN ?_ _ | refine blk_drew ?_ | refine blk_alloc ?_ _)); exact BK276.out⟩, ⟨by repeat (first | (with_reducible first | exact HB.out | apply below_alloc | apply pw_below_drewN | apply below_drew1 | refine below_set ?_ GE262.out | refine below_set ?_ GE271.out | refine below_set ?_ GE276.out) | exact HB.out)⟩⟩
                              · rw [if_neg c102] at H
                                exact absurd H (by simp)
                            · rw [if_neg c101] at H
                              exact absurd H (by simp)
                          · rw [if_neg c100] at H
                            exact absurd H (by simp)
                        · rw [if_neg c99] at H
                          exact absurd H (by simp)
                      case rest => as_aux_lemma =>
                        clear HC96
                        try clear c1
                        try clear c2
                        try clear p2
                        try clear q2
                        try clear hx2
                        try clear c3
                        try clear c4
                        try clear c5
                        try clear c6
                        try clear p6
                        try clear c7
                        try clear c8
                        try clear c9
                        try clear c10
                        try clear c11
                        try clear c24
                        try clear p28
                        try clear q28
                        try clear hx28
                        try clear c29
                        try clear c30
                        try clear c32
                        try clear c32b0
                        try clear c32b1
                        try clear c33
                        try clear c33b0
                        try clear c33b1
                        try clear c34
                        try clear c34b0
                        try clear c34b1
                        try clear c35
                        try clear c35b0
                        try clear c36
                        try clear c36b0
                        try clear c36b1
                        try clear c37
                        try clear c37b0
                        try clear c39
                        try clear c40
                        try clear c42
                        try clear c45
                        try clear c47
                        try clear c47b0
                        try clear c47b1
                        try clear c50
                        try clear c51
                        try clear c54
                        try clear c54b0
                        try clear c54b1
                        try clear c55
                        try clear c55b0
                        try clear c55b1
                        try clear c56
                        try clear c56b0
                        try clear c56b1
                        try clear c58
                        try clear c59
                        try clear c61
                        try clear c64
                        try clear p64
                        try clear c65
                        try clear c65b0
                        try clear c66
                        try clear c66b0
                        try clear c68
                        try clear c68b0
                        try clear c68b1
                        try clear c69
                        try clear c69b0
                        try clear c69b1
                        try clear c71
                        try clear c72
                        try clear c75
                        try clear c75b0
                        try clear c75b1
                        try clear c76
                        try clear c76b0
                        try clear c77
                        try clear c78
                        try clear c81
                        try clear c82
                        try clear c84
                        try clear c84b0
                        try clear c86
                        try clear c86b0
                        try clear c86b1
                        try clear c87
                        try clear c87b0
                        try clear c88
                        try clear c89
                        try clear c99
                        try clear c99b0
                        try clear c99b1
                        try clear c100
                        try clear c100b0
                        try clear c100b1
                        try clear c101
                        try clear c101b0
                        try clear c101b1
                        try clear c102
                        try clear c102b0
                        try clear c102b1
                        try clear hcz18_0
                        try clear hcz18_1
                        try clear hcz18_2
                        try clear hcz21_0
                        try clear hcz21_1
                        try clear hcz21_2
                        try clear hcz25_0
                        try clear hcz25_1
                        try clear hcz25_2
                        try clear hcz26_0
                        try clear hcz26_1
                        try clear hcz26_2
                        try clear hcz31_0
                        try clear hcz31_1
                        try clear hcz31_2
                        try clear hcz41_0
                        try clear hcz41_1
                        try clear hcz41_2
                        try clear hcz43_0
                        try clear hcz43_1
                        try clear hcz43_2
                        try clear hcz52_0
                        try clear hcz52_1
                        try clear hcz52_2
                        try clear hcz60_0
                        try clear hcz60_1
                        try clear hcz60_2
                        try clear hcz62_0
                        try clear hcz62_1
                        try clear hcz62_2
                        try clear hcz73_0
                        try clear hcz73_1
                        try clear hcz73_2
                        try clear hcz79_0
                        try clear hcz79_1
                        try clear hcz79_2
                        try clear hcz83_0
                        try clear hcz83_1
                        try clear hcz83_2
                        try clear hcz90_0
                        try clear hcz90_1
                        try clear hcz90_2
                        try clear hfz18_0
                        try clear hfz18_1
                        try clear hfz18_2
                        try clear hfz21_0
                        try clear hfz21_1
                        try clear hfz21_2
                        try clear hfz25_0
                        try clear hfz25_1
                        try clear hfz25_2
                        try clear hfz26_0
                        try clear hfz26_1
                        try clear hfz26_2
                        try clear hfz31_0
                        try clear hfz31_1
                        try clear hfz31_2
                        try clear hfz41_0
                        try clear hfz41_1
                        try clear hfz41_2
                        try clear hfz43_0
                        try clear hfz43_1
                        try clear hfz43_2
                        try clear hfz52_0
                        try clear hfz52_1
                        try clear hfz52_2
                        try clear hfz60_0
                        try clear hfz60_1
                        try clear hfz60_2
                        try clear hfz62_0
                        try clear hfz62_1
                        try clear hfz62_2
                        try clear hfz73_0
                        try clear hfz73_1
                        try clear hfz73_2
                        try clear hfz79_0
                        try clear hfz79_1
                        try clear hfz79_2
                        try clear hfz83_0
                        try clear hfz83_1
                        try clear hfz83_2
                        try clear hfz90_0
                        try clear hfz90_1
                        try clear hfz90_2
                        try clear hx283_0
                        try clear hx286_0
                        try clear p2
                        try clear p28
                        try clear p283
                        try clear p286
                        try clear p6
                        try clear p64
                        try clear q2
                        try clear q28
                        try clear q283
                        try clear q286
                        obtain ⟨kq, x239_95, rfl, HA, HJ95, BK262, BK271, BK276, HB⟩ := hcut
                        cases kq with
                        | zero => exact absurd HA.out (by simp [laws_FnLong.j6])
                        | succ kj95 =>
                          have H := HA.out
                          clear HA
                          simp only [laws_FnLong.j6] at H
                          by_cases c103 : x239_95 = true
                          · subst c103
                            have H1 : (none) = some r := by rw [if_pos rfl] at H; exact H
                            clear H
                            have H := H1
                            clear H1
                            exact absurd H (by simp)
                          · replace c103 := Bool.eq_false_iff.mpr c103
                            subst c103
                            have H1 : (if t292 > 0 then ((impl_TimeOf.f (wrap64 (t292 - 1))).bind fun bt296 => (if bt296.2 = 0 then (if bt296.1 ≥ (wrap64 (1000 * (wrap64 (1 + t289)))) then (none) else (laws_FnLong.j7 kj95 (wrap64 (1 + t289)) t292 t259 t260 t261)) else (none))) else (laws_FnLong.j7 kj95 (wrap64 (1 + t289)) t292 t259 t260 t261)) = some r := by rw [if_neg (show ¬ (false = true) by decide)] at H; exact H
                            clear H
                            have H := H1
                            clear H1
                            have HC104 := Aside0.mk H
                            clear H
                            go_upto_if 241 with (fail)
                            repeat (go_quiet (fail); go_upto_if 241 with (fail))
                            go_cut [] (fun wc => ∃ (kq : Nat), Aside0 (laws_FnLong.j7 kq (wrap64 (1 + t289)) t292 t259 t260 t261 = some r) ∧ Aside0 (kq ≤ kj95) ∧ Aside0 (wc.heap[gb262]? = some (.cells #[.int .i8 t259, .int .i8 t260, .int .i8 t261] 41 (0, 0))) ∧ Aside0 (wc.heap[gb271]? = some (.cells #[.int .i8 t267, .int .i8 t268, .int .i8 t269] 41 (0, 0))) ∧ Aside0 (wc.heap[gb276]? = some (.cells #[.int .i8 t272, .int .i8 t273, .int .i8 t274] 41 (0, 0))) ∧ Aside0 (Below w.heap.size w wc))
                            case first =>
                              have H := HC104.out
                              clear HC104
                              by_cases c105 : t292 > 0
                              · rw [if_pos c105] at H
                                have c105b0 : decide (0 < t292) = true := decide_eq_true c105
                                clear c105
                                (first | rw [c105b0] | (simp only [i64_w, i32_w]; rw [c105b0]) | skip)
                                replace H := Option.bind_eq_some_iff.mp H
                                obtain ⟨⟨t296, t297⟩, A1060, H⟩ := H
                                replace H : (if t297 = 0 then (if t296 ≥ (wrap64 (1000 * (wrap64 (1 + t289)))) then (none) else (laws_FnLong.j7 kj95 (wrap64 (1 + t289)) t292 t259 t260 t261)) else (none)) = some r := H
                                have A106 := Aside0.mk A1060
                                clear A1060
                                by_cases c107 : t297 = 0
                                · rw [if_pos c107] at H
                                  have c107b0 : (t297 == 0) = true := beq_iff_eq.mpr c107
                                  have c107b1 : (t297 != 0) = false := bne_eq_false_iff_eq.mpr c107
                                  clear c107
                                  by_cases c108 : t296 ≥ (wrap64 (1000 * (wrap64 (1 + t289))))
                                  · rw [if_pos c108] at H
                                    exact absurd H (by simp)
                                  · rw [if_neg c108] at H
                                    have c108b0 : decide ((wrap64 (1000 * (wrap64 (1 + t289)))) ≤ t296) = false := decide_eq_false c108
                                    clear c108
                                    have H' := Aside0.mk H
                                    clear H
                                    go_wp2_with (first | (go_at_call 48; (with_reducible refine (impl_TimeOf.calls (wrap64 (t292 - 1)) t296 t297 _ A106.out).mono ?_); rintro e w' ⟨rfl, ⟨nd, rfl⟩⟩; (try first | exact ⟨rfl, _, World.drewN_drewN _ _ _⟩ | exact ⟨rfl, _, Eq.trans (World.drewN_drewN _ _ _) (congrArg (World.drewN _) (Nat.add_assoc _ _ _))⟩)))
                                    repeat (go_quiet (first | (go_at_call 48; (with_reducible refine (impl_TimeOf.calls (wrap64 (t292 - 1)) t296 t297 _ A106.out).mono ?_); rintro e w' ⟨rfl, ⟨nd, rfl⟩⟩; (try first | exact ⟨rfl, _, World.drewN_drewN _ _ _⟩ | exact ⟨rfl, _, Eq.trans (World.drewN_drewN _ _ _) (congrArg (World.drewN _) (Nat.add_assoc _ _ _))⟩))); try go_wp2_with (first | (go_at_call 48; (with_reducible refine (impl_TimeOf.calls (wrap64 (t292 - 1)) t296 t297 _ A106.out).mono ?_); rintro e w' ⟨rfl, ⟨nd, rfl⟩⟩; (try first | exact ⟨rfl, _, World.drewN_drewN _ _ _⟩ | exact ⟨rfl, _, Eq.trans (World.drewN_drewN _ _ _) (congrArg (World.drewN _) (Nat.add_assoc _ _ _))⟩))))
                                    go_meet
                                    case rel => exact ⟨_, H', ⟨by have := HJ2.out; have := HJ13.out; have := HJ45.out; have := HJ79.out; have := HJ95.out; first | omega | exact Nat.le_refl _⟩, ⟨by (with_reducible repeat (first | refine blk_drewN ?_ _ | refine blk_drew ?_ | refine blk_alloc ?_ _)); exact BK262.out⟩, ⟨by (with_reducible repeat (first | refine blk_drewN ?_ _ | refine blk_drew ?_ | refine blk_alloc ?_ _)); exact BK271.out⟩, ⟨by (with_reducible repeat (first | refine blk_drewN ?_ _ | refine blk_drew ?_ | refine blk_alloc ?_ _)); exact BK276.out⟩, ⟨by repeat (first | (with_reducible first | exact HB.out | apply below_alloc | apply pw_below_drewN | apply below_drew1 | refine below_set ?_ GE262.out | refine below_set ?_ GE271.out | refine below_set ?_ GE276.out) | exact HB.out)⟩⟩
                                · rw [if_neg c107] at H
                                  exact absurd H (by simp)
                              · rw [if_neg c105] at H
                                have c105b0 : decide (0 < t292) = false := decide_eq_false c105
                                clear c105
                                (first | rw [c105b0] | (simp only [i64_w, i32_w]; rw [c105b0]) | skip)
                                have H' := Aside0.mk H
                                clear H
                                go_wp2
                                repeat (go_quiet (fail); try go_wp2)
                                go_meet
                                case rel => exact ⟨_, H', ⟨by have := HJ2.out; have := HJ13.out; have := HJ45.out; have := HJ79.out; have := HJ95.out; first | omega | exact Nat.le_refl _⟩, ⟨by (with_reducible repeat (first | refine blk_drewN ?_ _ | refine blk_drew ?_ | refine blk_alloc ?_ _)); exact BK262.out⟩, ⟨by (with_reducible repeat (first | refine blk_drewN ?_ _ | refine blk_drew ?_ | refine blk_alloc ?_ _)); exact BK271.out⟩, ⟨by (with_reducible repeat (first | refine blk_drewN ?_ _ | refine blk_drew ?_ | refine blk_alloc ?_ _)); exact BK276.out⟩, ⟨by repeat (first | (with_reducible first | exact HB.out | apply below_alloc | apply pw_below_drewN | apply below_drew1 | refine below_set ?_ GE262.out | refine below_set ?_ GE271.out | refine below_set ?_ GE276.out) | exact HB.out)⟩⟩
                            case rest => as_aux_lemma =>
                              clear HC104
                              try clear c1
                              try clear c2
                              try clear p2
                              try clear q2
                              try clear hx2
                              try clear c3
                              try clear c4
                              try clear c5
                              try clear c6
                              try clear p6
                              try clear c7
                              try clear c8
                              try clear c9
                              try clear c10
                              try clear c11
                              try clear c24
                              try clear p28
                              try clear q28
                              try clear hx28
                              try clear c29
                              try clear c30
                              try clear c32
                              try clear c32b0
                              try clear c32b1
                              try clear c33
                              try clear c33b0
                              try clear c33b1
                              try clear c34
                              try clear c34b0
                              try clear c34b1
                              try clear c35
                              try clear c35b0
                              try clear c36
                              try clear c36b0
                              try clear c36b1
                              try clear c37
                              try clear c37b0
                              try clear c39
                              try clear c40
                              try clear c42
                              try clear c45
                              try clear c47
                              try clear c47b0
                              try clear c47b1
                              try clear c50
                              try clear c51
                              try clear c54
                              try clear c54b0
                              try clear c54b1
                              try clear c55
                              try clear c55b0
                              try clear c55b1
                              try clear c56
                              try clear c56b0
                              try clear c56b1
                              try clear c58
                              try clear c59
                              try clear c61
                              try clear c64
                              try clear p64
                              try clear c65
                              try clear c65b0
                              try clear c66
                              try clear c66b0
                              try clear c68
                              try clear c68b0
                              try clear c68b1
                              try clear c69
                              try clear c69b0
                              try clear c69b1
                              try clear c71
                              try clear c72
                              try clear c75
                              try clear c75b0
                              try clear c75b1
                              try clear c76
                              try clear c76b0
                              try clear c77
                              try clear c78
                              try clear c81
                              try clear c82
                              try clear c84
                              try clear c84b0
                              try clear c86
                              try clear c86b0
                              try clear c86b1
                              try clear c87
                              try clear c87b0
                              try clear c88
                              try clear c89
                              try clear c99
                              try clear c99b0
                              try clear c99b1
                              try clear c100
                              try clear c100b0
                              try clear c100b1
                              try clear c101
                              try clear c101b0
                              try clear c101b1
                              try clear c102
                              try clear c102b0
                              try clear c102b1
                              try clear c103
                              try clear c105
                              try clear c105b0
                              try clear c107
                              try clear c107b0
                              try clear c107b1
                              try clear c108
                              try clear c108b0
                              try clear hcz18_0
                              try clear hcz18_1
                              try clear hcz18_2
                              try clear hcz21_0
                              try clear hcz21_1
                              try clear hcz21_2
                              try clear hcz25_0
                              try clear hcz25_1
                              try clear hcz25_2
                              try clear hcz26_0
                              try clear hcz26_1
                              try clear hcz26_2
                              try clear hcz31_0
                              try clear hcz31_1
                              try clear hcz31_2
                              try clear hcz41_0
                              try clear hcz41_1
                              try clear hcz41_2
                              try clear hcz43_0
                              try clear hcz43_1
                              try clear hcz43_2
                              try clear hcz52_0
                              try clear hcz52_1
                              try clear hcz52_2
                              try clear hcz60_0
                              try clear hcz60_1
                              try clear hcz60_2
                              try clear hcz62_0
                              try clear hcz62_1
                              try clear hcz62_2
                              try clear hcz73_0
                              try clear hcz73_1
                              try clear hcz73_2
                              try clear hcz79_0
                              try clear hcz79_1
                              try clear hcz79_2
                              try clear hcz83_0
                              try clear hcz83_1
                              try clear hcz83_2
                              try clear hcz90_0
                              try clear hcz90_1
                              try clear hcz90_2
                              try clear hfz18_0
                              try clear hfz18_1
                              try clear hfz18_2
                              try clear hfz21_0
                              try clear hfz21_1
                              try clear hfz21_2
                              try clear hfz25_0
                              try clear hfz25_1
                              try clear hfz25_2
                              try clear hfz26_0
                              try clear hfz26_1
                              try clear hfz26_2
                              try clear hfz31_0
                              try clear hfz31_1
                              try clear hfz31_2
                              try clear hfz41_0
                              try clear hfz41_1
                              try clear hfz41_2
                              try clear hfz43_0
                              try clear hfz43_1
                              try clear hfz43_2
                              try clear hfz52_0
                              try clear hfz52_1
                              try clear hfz52_2
                              try clear hfz60_0
                              try clear hfz60_1
                              try clear hfz60_2
                              try clear hfz62_0
                              try clear hfz62_1
                              try clear hfz62_2
                              try clear hfz73_0
                              try clear hfz73_1
                              try clear hfz73_2
                              try clear hfz79_0
                              try clear hfz79_1
                              try clear hfz79_2
                              try clear hfz83_0
                              try clear hfz83_1
                              try clear hfz83_2
                              try clear hfz90_0
                              try clear hfz90_1
                              try clear hfz90_2
                              try clear hx283_0
                              try clear hx286_0
                              try clear p2
                              try clear p28
                              try clear p283
                              try clear p286
                              try clear p6
                              try clear p64
                              try clear q2
                              try clear q28
                              try clear q283
                              try clear q286
                              obtain ⟨kq, HA, HJ103, BK262, BK271, BK276, HB⟩ := hcut
                              cases kq with
                              | zero => exact absurd HA.out (by simp [laws_FnLong.j7])
                              | succ kj103 =>
                                have H := HA.out
                                clear HA
                                simp only [laws_FnLong.j7] at H
                                obtain ⟨y298, hy298⟩ : ∃ y_ : List Int, y_ = (([(wrap64 (1 + t289)), (wrap64 (1 + t289))] : List Int)) := ⟨_, rfl⟩
                                replace H : ((impl_WithFilters.f kj103 t259 t260 t261 y298).bind fun bt301 => ((spec_MoreLight.f t259 t260 t261 (wrap64 (2 * t292))).bind fun bt306 => (if bt301.2.2.2 = bt306.2.2.2 then (some (bt301.1 == bt306.1 && (bt301.2.1 == bt306.2.1 && (bt301.2.2.1 == bt306.2.2.1)))) else (none)))) = some r := by first | (rw [hy298]; with_reducible exact H) | (have H2_ := (Option.bind_some _ _).symm.trans H; rw [hy298]; with_reducible exact H2_) | (have H2_ := (Option.bind_some _ _).symm.trans H; with_reducible exact H2_) | with_reducible exact H | (rw [hy298]; exact H) | exact H
                                have Ny298 := Aside0.mk hy298
                                clear hy298
                                replace H := Option.bind_eq_some_iff.mp H
                                obtain ⟨⟨t301, t302, t303, t304⟩, A1090, H⟩ := H
                                replace H : ((spec_MoreLight.f t259 t260 t261 (wrap64 (2 * t292))).bind fun bt306 => (if t304 = bt306.2.2.2 then (some (t301 == bt306.1 && (t302 == bt306.2.1 && (t303 == bt306.2.2.1)))) else (none))) = some r := H
                                have A109 := Aside0.mk A1090
                                clear A1090
                                replace H := Option.bind_eq_some_iff.mp H
                                obtain ⟨⟨t306, t307, t308, t309⟩, A1100, H⟩ := H
                                replace H : (if t304 = t309 then (some (t301 == t306 && (t302 == t307 && (t303 == t308)))) else (none)) = some r := H
                                have A110 := Aside0.mk A1100
                                clear A1100
                                by_cases c111 : t304 = t309
                                · rw [if_pos c111] at H
                                  have c111b0 : (t304 == t309) = true := beq_iff_eq.mpr c111
                                  have c111b1 : (t304 != t309) = false := bne_eq_false_iff_eq.mpr c111
                                  clear c111
                                  obtain rfl := Option.some.inj H
                                  have hnb112 := NB262_271.out
                                  have hnc112 := NB271_262.out
                                  have hnb113 := NB262_276.out
                                  have hnc113 := NB276_262.out
                                  have hcz114_0 : wc.cell? ⟨gb262, 0, none⟩ = some (.int .i8 t259) := (blk_cell BK262.out 0).trans rfl
                                  have hcz114_1 : wc.cell? ⟨gb262, 1, none⟩ = some (.int .i8 t260) := (blk_cell BK262.out 1).trans rfl
                                  have hcz114_2 : wc.cell? ⟨gb262, 2, none⟩ = some (.int .i8 t261) := (blk_cell BK262.out 2).trans rfl
                                  have hfz114_0 := blk_frozen BK262.out 0
                                  have hfz114_1 := blk_frozen BK262.out 1
                                  have hfz114_2 := blk_frozen BK262.out 2
                                  go_wp2_with (first | ((with_reducible refine gate_dst (N := 260) rfl ?_); refine Kd.R_lit (Kd.int .i64) _ 2 ?hg (N := 260) ?hd (xs := ([(wrap64 (1 + t289)), (wrap64 (1 + t289))] : List Int)) (inner := [.int .i64 (wrap64 (1 + t289)), .int .i64 (wrap64 (1 + t289))]) (ok := fun _ => True) (okp := fun _ => True) ?hr ?hp (fun _ hk => hk) trivial (Below.refl _ _) (Nat.le_refl _) (by simp) ?_; (case hd => rfl); (case hg => rfl); (case hr => first | (go_simp; done) | (go_simp; rfl)); (case hp => exact (Reps.one (show Kd.M (Kd.int .i64) _ _ _ (wrap64 (1 + t289)) [.int .i64 (wrap64 (1 + t289))] from rfl) (Reps.one (show Kd.M (Kd.int .i64) _ _ _ (wrap64 (1 + t289)) [.int .i64 (wrap64 (1 + t289))] from rfl) (Reps.none _ _)))); intro v299 w115 ho116 hb hg_ hnew_; clear hg_ hnew_; (first | rw [← Ny298.out] at ho116 | (simp only [Int.reduceToNat] at ho116; rw [← Ny298.out] at ho116)); have n0_ := Aside0.mk (Kd.R_lower ho116 (below_size (by repeat (first | (with_reducible first | exact HB.out | apply below_alloc | apply pw_below_drewN | apply below_drew1 | refine below_set ?_ GE262.out | refine below_set ?_ GE271.out | refine below_set ?_ GE276.out) | exact HB.out)))); have n1_ := Aside0.mk (blk_below (g := gb262) (o := .cells #[.int .i8 t259, .int .i8 t260, .int .i8 t261] 41 (0, 0)) (by (with_reducible repeat (first | refine blk_drewN ?_ _ | refine blk_drew ?_ | refine blk_alloc ?_ _)); exact BK262.out) hb); have n2_ := Aside0.mk (blk_below (g := gb271) (o := .cells #[.int .i8 t267, .int .i8 t268, .int .i8 t269] 41 (0, 0)) (by (with_reducible repeat (first | refine blk_drewN ?_ _ | refine blk_drew ?_ | refine blk_alloc ?_ _)); exact BK271.out) hb); have n3_ := Aside0.mk (blk_below (g := gb276) (o := .cells #[.int .i8 t272, .int .i8 t273, .int .i8 t274] 41 (0, 0)) (by (with_reducible repeat (first | refine blk_drewN ?_ _ | refine blk_drew ?_ | refine blk_alloc ?_ _)); exact BK276.out) hb); have n4_ := Aside0.mk (below_step (by repeat (first | (with_reducible first | exact HB.out | apply below_alloc | apply pw_below_drewN | apply below_drew1 | refine below_set ?_ GE262.out | refine below_set ?_ GE271.out | refine below_set ?_ GE276.out) | exact HB.out)) hb); clear BK262; clear BK271; clear BK276; clear HB; have HO300 := n0_; have BK262 := n1_; have BK271 := n2_; have BK276 := n3_; have HB := n4_; clear n0_ n1_ n2_ n3_ n4_; clear hb ho116; obtain ⟨Ao117, co117, eo117⟩ := Kd.R_slice HO300.out; subst eo117) | (go_at_call 34; (with_reducible refine (impl_WithFilters.calls kj103 t259 t260 t261 _ _ y298 t301 t302 t303 t304 _ ?side1 ?side2 A109.out).mono ?_); (case side1 => repeat (first | exact (Kd.R_reads' HO300.out).2.2 | (with_reducible refine Kd.C_alloc ?_ _) | (with_reducible refine Kd.C_drewN ?_ _) | (with_reducible refine Kd.C_drew ?_))); (case side2 => exact (Kd.R_reads' HO300.out).2.1); rintro e w118 ⟨rfl, hb⟩; have n0_ := Aside0.mk (Kd.R_below (by (with_reducible repeat (first | apply Kd.R_alloc | apply Kd.R_drewN | apply Kd.R_drew)); exact HO300.out) hb); have n1_ := Aside0.mk (blk_below (g := gb262) (o := .cells #[.int .i8 t259, .int .i8 t260, .int .i8 t261] 41 (0, 0)) (by (with_reducible repeat (first | refine blk_drewN ?_ _ | refine blk_drew ?_ | refine blk_alloc ?_ _)); exact BK262.out) hb); have n2_ := Aside0.mk (blk_below (g := gb271) (o := .cells #[.int .i8 t267, .int .i8 t268, .int .i8 t269] 41 (0, 0)) (by (with_reducible repeat (first | refine blk_drewN ?_ _ | refine blk_drew ?_ | refine blk_alloc ?_ _)); exact BK271.out) hb); have n3_ := Aside0.mk (blk_below (g := gb276) (o := .cells #[.int .i8 t272, .int .i8 t273, .int .i8 t274] 41 (0, 0)) (by (with_reducible repeat (first | refine blk_drewN ?_ _ | refine blk_drew ?_ | refine blk_alloc ?_ _)); exact BK276.out) hb); have n4_ := Aside0.mk (below_step (by repeat (first | (with_reducible first | exact HB.out | apply below_alloc | apply pw_below_drewN | apply below_drew1 | refine below_set ?_ GE262.out | refine below_set ?_ GE271.out | refine below_set ?_ GE276.out) | exact HB.out)) hb); clear HO300; clear BK262; clear BK271; clear BK276; clear HB; have HO300 := n0_; have BK262 := n1_; have BK271 := n2_; have BK276 := n3_; have HB := n4_; clear n0_ n1_ n2_ n3_ n4_; (try clear hb); (try clear hb2); (try clear hk); (try clear hi)) | ((with_reducible refine gate_dst (N := 31) rfl ?_); refine box_event ?hg (N := 31) ?hd (cs := #[.int .i8 0, .int .i8 0, .int .i8 0]) (t := 41) ?hr ?_; (case hd => rfl); (case hg => rfl); (case hr => first | (go_simp; done) | (go_simp; rfl)); intro gb305 hg w119 hbox hb; have n0_ := Aside0.mk (Kd.R_below (by (with_reducible repeat (first | apply Kd.R_alloc | apply Kd.R_drewN | apply Kd.R_drew)); exact HO300.out) hb); have n1_ := Aside0.mk (blk_below (g := gb262) (o := .cells #[.int .i8 t259, .int .i8 t260, .int .i8 t261] 41 (0, 0)) (by (with_reducible repeat (first | refine blk_drewN ?_ _ | refine blk_drew ?_ | refine blk_alloc ?_ _)); exact BK262.out) hb); have n2_ := Aside0.mk (blk_below (g := gb271) (o := .cells #[.int .i8 t267, .int .i8 t268, .int .i8 t269] 41 (0, 0)) (by (with_reducible repeat (first | refine blk_drewN ?_ _ | refine blk_drew ?_ | refine blk_alloc ?_ _)); exact BK271.out) hb); have n3_ := Aside0.mk (blk_below (g := gb276) (o := .cells #[.int .i8 t272, .int .i8 t273, .int .i8 t274] 41 (0, 0)) (by (with_reducible repeat (first | refine blk_drewN ?_ _ | refine blk_drew ?_ | refine blk_alloc ?_ _)); exact BK276.out) hb); have n4_ := Aside0.mk (below_step (by repeat (first | (with_reducible first | exact HB.out | apply below_alloc | apply pw_below_drewN | apply below_drew1 | refine below_set ?_ GE262.out | refine below_set ?_ GE271.out | refine below_set ?_ GE276.out) | exact HB.out)) hb); have n5_ := Aside0.mk (hbox); have n6_ := Aside0.mk ((by rw [hg]; exact (below_size (by repeat (first | (with_reducible first | exact HB.out | apply below_alloc | apply pw_below_drewN | apply below_drew1 | refine below_set ?_ GE262.out | refine below_set ?_ GE271.out | refine below_set ?_ GE276.out) | exact HB.out))) : w.heap.size ≤ gb305)); have n7_ := Aside0.mk ((by rw [hg]; exact (below_size (by repeat (first | (with_reducible first | exact HB.out | apply below_alloc | apply pw_below_drewN | apply below_drew1 | refine below_set ?_ GE262.out | refine below_set ?_ GE271.out | refine below_set ?_ GE276.out) | exact HB.out))) : w.heap.size ≤ gb305)); have n8_ := Aside0.mk ((by rw [hg]; exact Nat.ne_of_lt (blk_lt (g := gb262) (o := .cells #[.int .i8 t259, .int .i8 t260, .int .i8 t261] 41 (0, 0)) (by (with_reducible repeat (first | refine blk_drewN ?_ _ | refine blk_drew ?_ | refine blk_alloc ?_ _)); exact BK262.out)) : gb262 ≠ gb305)); have n9_ := Aside0.mk ((by rw [hg]; exact Nat.ne_of_gt (blk_lt (g := gb262) (o := .cells #[.int .i8 t259, .int .i8 t260, .int .i8 t261] 41 (0, 0)) (by (with_reducible repeat (first | refine blk_drewN ?_ _ | refine blk_drew ?_ | refine blk_alloc ?_ _)); exact BK262.out)) : gb305 ≠ gb262)); have n10_ := Aside0.mk ((by rw [hg]; exact Nat.ne_of_lt (blk_lt (g := gb271) (o := .cells #[.int .i8 t267, .int .i8 t268, .int .i8 t269] 41 (0, 0)) (by (with_reducible repeat (first | refine blk_drewN ?_ _ | refine blk_drew ?_ | refine blk_alloc ?_ _)); exact BK271.out)) : gb271 ≠ gb305)); have n11_ := Aside0.mk ((by rw [hg]; exact Nat.ne_of_gt (blk_lt (g := gb271) (o := .cells #[.int .i8 t267, .int .i8 t268, .int .i8 t269] 41 (0, 0)) (by (with_reducible repeat (first | refine blk_drewN ?_ _ | refine blk_drew ?_ | refine blk_alloc ?_ _)); exact BK271.out)) : gb305 ≠ gb271)); have n12_ := Aside0.mk ((by rw [hg]; exact Nat.ne_of_lt (blk_lt (g := gb276) (o := .cells #[.int .i8 t272, .int .i8 t273, .int .i8 t274] 41 (0, 0)) (by (with_reducible repeat (first | refine blk_drewN ?_ _ | refine blk_drew ?_ | refine blk_alloc ?_ _)); exact BK276.out)) : gb276 ≠ gb305)); have n13_ := Aside0.mk ((by rw [hg]; exact Nat.ne_of_gt (blk_lt (g := gb276) (o := .cells #[.int .i8 t272, .int .i8 t273, .int .i8 t274] 41 (0, 0)) (by (with_reducible repeat (first | refine blk_drewN ?_ _ | refine blk_drew ?_ | refine blk_alloc ?_ _)); exact BK276.out)) : gb305 ≠ gb276)); clear HO300; clear BK262; clear BK271; clear BK276; clear HB; have HO300 := n0_; have BK262 := n1_; have BK271 := n2_; have BK276 := n3_; have HB := n4_; have BK305 := n5_; have GW305 := n6_; have GE305 := n7_; have NB262_305 := n8_; have NB305_262 := n9_; have NB271_305 := n10_; have NB305_271 := n11_; have NB276_305 := n12_; have NB305_276 := n13_; clear n0_ n1_ n2_ n3_ n4_ n5_ n6_ n7_ n8_ n9_ n10_ n11_ n12_ n13_; clear hb hbox hg; have hnb120 := NB305_262.out; have hnc120 := NB262_305.out; have hnb121 := NB305_271.out; have hnc121 := NB271_305.out; have hnb122 := NB305_276.out; have hnc122 := NB276_305.out; have hcz123_0 : w119.cell? ⟨gb305, 0, none⟩ = some (.int .i8 0) := (blk_cell BK305.out 0).trans rfl; have hcz123_1 : w119.cell? ⟨gb305, 1, none⟩ = some (.int .i8 0) := (blk_cell BK305.out 1).trans rfl; have hcz123_2 : w119.cell? ⟨gb305, 2, none⟩ = some (.int .i8 0) := (blk_cell BK305.out 2).trans rfl; have hfz123_0 := blk_frozen BK305.out 0; have hfz123_1 := blk_frozen BK305.out 1; have hfz123_2 := blk_frozen BK305.out 2; have hcz124_0 : w119.cell? ⟨gb262, 0, none⟩ = some (.int .i8 t259) := (blk_cell BK262.out 0).trans rfl; have hcz124_1 : w119.cell? ⟨gb262, 1, none⟩ = some (.int .i8 t260) := (blk_cell BK262.out 1).trans rfl; have hcz124_2 : w119.cell? ⟨gb262, 2, none⟩ = some (.int .i8 t261) := (blk_cell BK262.out 2).trans rfl; have hfz124_0 := blk_frozen BK262.out 0; have hfz124_1 := blk_frozen BK262.out 1; have hfz124_2 := blk_frozen BK262.out 2) | (go_at_call 49; (with_reducible refine (spec_MoreLight.calls t259 t260 t261 (wrap64 (2 * t292)) t306 t307 t308 t309 _ A110.out).mono ?_); rintro e w125 ⟨rfl, hb⟩; have n0_ := Aside0.mk (Kd.R_below (by (with_reducible repeat (first | apply Kd.R_alloc | apply Kd.R_drewN | apply Kd.R_drew)); exact (Kd.R_mono (Kd.R_far (p := ⟨gb305, 2, none⟩) (Kd.R_far (p := ⟨gb305, 1, none⟩) (Kd.R_far (p := ⟨gb305, 0, none⟩) (Kd.R_types HO300.out BK305.out (by decide)) (fun _ hk => hk.2) (.int .i8 t301)) (fun _ hk => hk.2) (.int .i8 t302)) (fun _ hk => hk.2) (.int .i8 t303)) (fun _ h_ => h_.1))) hb); have n1_ := Aside0.mk (blk_below (g := gb262) (o := .cells #[.int .i8 t259, .int .i8 t260, .int .i8 t261] 41 (0, 0)) (by (with_reducible repeat (first | refine blk_drewN ?_ _ | refine blk_drew ?_ | refine blk_alloc ?_ _)); refine blk_far ?_ NB262_305.out _; (with_reducible repeat (first | refine blk_drewN ?_ _ | refine blk_drew ?_ | refine blk_alloc ?_ _)); refine blk_far ?_ NB262_305.out _; (with_reducible repeat (first | refine blk_drewN ?_ _ | refine blk_drew ?_ | refine blk_alloc ?_ _)); refine blk_far ?_ NB262_305.out _; (with_reducible repeat (first | refine blk_drewN ?_ _ | refine blk_drew ?_ | refine blk_alloc ?_ _)); exact BK262.out) hb); have n2_ := Aside0.mk (blk_below (g := gb271) (o := .cells #[.int .i8 t267, .int .i8 t268, .int .i8 t269] 41 (0, 0)) (by (with_reducible repeat (first | refine blk_drewN ?_ _ | refine blk_drew ?_ | refine blk_alloc ?_ _)); refine blk_far ?_ NB271_305.out _; (with_reducible repeat (first | refine blk_drewN ?_ _ | refine blk_drew ?_ | refine blk_alloc ?_ _)); refine blk_far ?_ NB271_305.out _; (with_reducible repeat (first | refine blk_drewN ?_ _ | refine blk_drew ?_ | refine blk_alloc ?_ _)); refine blk_far ?_ NB271_305.out _; (with_reducible repeat (first | refine blk_drewN ?_ _ | refine blk_drew ?_ | refine blk_alloc ?_ _)); exact BK271.out) hb); have n3_ := Aside0.mk (blk_below (g := gb276) (o := .cells #[.int .i8 t272, .int .i8 t273, .int .i8 t274] 41 (0, 0)) (by (with_reducible repeat (first | refine blk_drewN ?_ _ | refine blk_drew ?_ | refine blk_alloc ?_ _)); refine blk_far ?_ NB276_305.out _; (with_reducible repeat (first | refine blk_drewN ?_ _ | refine blk_drew ?_ | refine blk_alloc ?_ _)); refine blk_far ?_ NB276_305.out _; (with_reducible repeat (first | refine blk_drewN ?_ _ | refine blk_drew ?_ | refine blk_alloc ?_ _)); refine blk_far ?_ NB276_305.out _; (with_reducible repeat (first | refine blk_drewN ?_ _ | refine blk_drew ?_ | refine blk_alloc ?_ _)); exact BK276.out) hb); have n4_ := Aside0.mk (blk_below (g := gb305) (o := .cells #[.int .i8 t301, .int .i8 t302, .int .i8 t303] 41 (0, 0)) (by (with_reducible repeat (first | refine blk_drewN ?_ _ | refine blk_drew ?_ | refine blk_alloc ?_ _)); refine blk_put (cs := #[.int .i8 t301, .int .i8 t302, .int .i8 0]) ?_ 2 _ rfl; (with_reducible repeat (first | refine blk_drewN ?_ _ | refine blk_drew ?_ | refine blk_alloc ?_ _)); refine blk_put (cs := #[.int .i8 t301, .int .i8 0, .int .i8 0]) ?_ 1 _ rfl; (with_reducible repeat (first | refine blk_drewN ?_ _ | refine blk_drew ?_ | refine blk_alloc ?_ _)); refine blk_put (cs := #[.int .i8 0, .int .i8 0, .int .i8 0]) ?_ 0 _ rfl; (with_reducible repeat (first | refine blk_drewN ?_ _ | refine blk_drew ?_ | refine blk_alloc ?_ _)); exact BK305.out) hb); have n5_ := Aside0.mk (below_step (by repeat (first | (with_reducible first | exact HB.out | apply below_alloc | apply pw_below_drewN | apply below_drew1 | refine below_set ?_ GE262.out | refine below_set ?_ GE271.out | refine below_set ?_ GE276.out | refine below_set ?_ GE305.out) | exact HB.out)) hb); clear HO300; clear BK262; clear BK271; clear BK276; clear BK305; clear HB; have HO300 := n0_; have BK262 := n1_; have BK271 := n2_; have BK276 := n3_; have BK305 := n4_; have HB := n5_; clear n0_ n1_ n2_ n3_ n4_ n5_; (try clear hb); (try clear hb2); (try clear hk); (try clear hi)) | ((with_reducible refine gate_dst (N := 33) rfl ?_); refine box_event ?hg (N := 33) ?hd (cs := #[.int .i8 0, .int .i8 0, .int .i8 0]) (t := 41) ?hr ?_; (case hd => rfl); (case hg => rfl); (case hr => first | (go_simp; done) | (go_simp; rfl)); intro gb310 hg w126 hbox hb; have n0_ := Aside0.mk (Kd.R_below (by (with_reducible repeat (first | apply Kd.R_alloc | apply Kd.R_drewN | apply Kd.R_drew)); exact HO300.out) hb); have n1_ := Aside0.mk (blk_below (g := gb262) (o := .cells #[.int .i8 t259, .int .i8 t260, .int .i8 t261] 41 (0, 0)) (by (with_reducible repeat (first | refine blk_drewN ?_ _ | refine blk_drew ?_ | refine blk_alloc ?_ _)); exact BK262.out) hb); have n2_ := Aside0.mk (blk_below (g := gb271) (o := .cells #[.int .i8 t267, .int .i8 t268, .int .i8 t269] 41 (0, 0)) (by (with_reducible repeat (first | refine blk_drewN ?_ _ | refine blk_drew ?_ | refine blk_alloc ?_ _)); exact BK271.out) hb); have n3_ := Aside0.mk (blk_below (g := gb276) (o := .cells #[.int .i8 t272, .int .i8 t273, .int .i8 t274] 41 (0, 0)) (by (with_reducible repeat (first | refine blk_drewN ?_ _ | refine blk_drew ?_ | refine blk_alloc ?_ _)); exact BK276.out) hb); have n4_ := Aside0.mk (blk_below (g := gb305) (o := .cells #[.int .i8 t301, .int .i8 t302, .int .i8 t303] 41 (0, 0)) (by (with_reducible repeat (first | refine blk_drewN ?_ _ | refine blk_drew ?_ | refine blk_alloc ?_ _)); exact BK305.out) hb); have n5_ := Aside0.mk (below_step (by repeat (first | (with_reducible first | exact HB.out | apply below_alloc | apply pw_below_drewN | apply below_drew1 | refine below_set ?_ GE262.out | refine below_set ?_ GE271.out | refine below_set ?_ GE276.out | refine below_set ?_ GE305.out) | exact HB.out)) hb); have n6_ := Aside0.mk (hbox); have n7_ := Aside0.mk ((by rw [hg]; exact (below_size (by repeat (first | (with_reducible first | exact HB.out | apply below_alloc | apply pw_below_drewN | apply below_drew1 | refine below_set ?_ GE262.out | refine below_set ?_ GE271.out | refine below_set ?_ GE276.out | refine below_set ?_ GE305.out) | exact HB.out))) : w.heap.size ≤ gb310)); have n8_ := Aside0.mk ((by rw [hg]; exact (below_size (by repeat (first | (with_reducible first | exact HB.out | apply below_alloc | apply pw_below_drewN | apply below_drew1 | refine below_set ?_ GE262.out | refine below_set ?_ GE271.out | refine below_set ?_ GE276.out | refine below_set ?_ GE305.out) | exact HB.out))) : w.heap.size ≤ gb310)); have n9_ := Aside0.mk ((by rw [hg]; exact Nat.ne_of_lt (blk_lt (g := gb262) (o := .cells #[.int .i8 t259, .int .i8 t260, .int .i8 t261] 41 (0, 0)) (by (with_reducible repeat (first | refine blk_drewN ?_ _ | refine blk_drew ?_ | refine blk_alloc ?_ _)); exact BK262.out)) : gb262 ≠ gb310)); have n10_ := Aside0.mk ((by rw [hg]; exact Nat.ne_of_gt (blk_lt (g := gb262) (o := .cells #[.int .i8 t259, .int .i8 t260, .int .i8 t261] 41 (0, 0)) (by (with_reducible repeat (first | refine blk_drewN ?_ _ | refine blk_drew ?_ | refine blk_alloc ?_ _)); exact BK262.out)) : gb310 ≠ gb262)); have n11_ := Aside0.mk ((by rw [hg]; exact Nat.ne_of_lt (blk_lt (g := gb271) (o := .cells #[.int .i8 t267, .int .i8 t268, .int .i8 t269] 41 (0, 0)) (by (with_reducible repeat (first | refine blk_drewN ?_ _ | refine blk_drew ?_ | refine blk_alloc ?_ _)); exact BK271.out)) : gb271 ≠ gb310)); have n12_ := Aside0.mk ((by rw [hg]; exact Nat.ne_of_gt (blk_lt (g := gb271) (o := .cells #[.int .i8 t267, .int .i8 t268, .int .i8 t269] 41 (0, 0)) (by (with_reducible repeat (first | refine blk_drewN ?_ _ | refine blk_drew ?_ | refine blk_alloc ?_ _)); exact BK271.out)) : gb310 ≠ gb271)); have n13_ := Aside0.mk ((by rw [hg]; exact Nat.ne_of_lt (blk_lt (g := gb276) (o := .cells #[.int .i8 t272, .int .i8 t273, .int .i8 t274] 41 (0, 0)) (by (with_reducible repeat (first | refine blk_drewN ?_ _ | refine blk_drew ?_ | refine blk_alloc ?_ _)); exact BK276.out)) : gb276 ≠ gb310)); have n14_ := Aside0.mk ((by rw [hg]; exact Nat.ne_of_gt (blk_lt (g := gb276) (o := .cells #[.int .i8 t272, .int .i8 t273, .int .i8 t274] 41 (0, 0)) (by (with_reducible repeat (first | refine blk_drewN ?_ _ | refine blk_drew ?_ | refine blk_alloc ?_ _)); exact BK276.out)) : gb310 ≠ gb276)); have n15_ := Aside0.mk ((by rw [hg]; exact Nat.ne_of_lt (blk_lt (g := gb305) (o := .cells #[.int .i8 t301, .int .i8 t302, .int .i8 t303] 41 (0, 0)) (by (with_reducible repeat (first | refine blk_drewN ?_ _ | refine blk_drew ?_ | refine blk_alloc ?_ _)); exact BK305.out)) : gb305 ≠ gb310)); have n16_ := Aside0.mk ((by rw [hg]; exact Nat.ne_of_gt (blk_lt (g := gb305) (o := .cells #[.int .i8 t301, .int .i8 t302, .int .i8 t303] 41 (0, 0)) (by (with_reducible repeat (first | refine blk_drewN ?_ _ | refine blk_drew ?_ | refine blk_alloc ?_ _)); exact BK305.out)) : gb310 ≠ gb305)); clear HO300; clear BK262; clear BK271; clear BK276; clear BK305; clear HB; have HO300 := n0_; have BK262 := n1_; have BK271 := n2_; have BK276 := n3_; have BK305 := n4_; have HB := n5_; have BK310 := n6_; have GW310 := n7_; have GE310 := n8_; have NB262_310 := n9_; have NB310_262 := n10_; have NB271_310 := n11_; have NB310_271 := n12_; have NB276_310 := n13_; have NB310_276 := n14_; have NB305_310 := n15_; have NB310_305 := n16_; clear n0_ n1_ n2_ n3_ n4_ n5_ n6_ n7_ n8_ n9_ n10_ n11_ n12_ n13_ n14_ n15_ n16_; clear hb hbox hg; have hnb127 := NB310_262.out; have hnc127 := NB262_310.out; have hnb128 := NB310_271.out; have hnc128 := NB271_310.out; have hnb129 := NB310_276.out; have hnc129 := NB276_310.out; have hnb130 := NB310_305.out; have hnc130 := NB305_310.out; have hcz131_0 : w126.cell? ⟨gb310, 0, none⟩ = some (.int .i8 0) := (blk_cell BK310.out 0).trans rfl; have hcz131_1 : w126.cell? ⟨gb310, 1, none⟩ = some (.int .i8 0) := (blk_cell BK310.out 1).trans rfl; have hcz131_2 : w126.cell? ⟨gb310, 2, none⟩ = some (.int .i8 0) := (blk_cell BK310.out 2).trans rfl; have hfz131_0 := blk_frozen BK310.out 0; have hfz131_1 := blk_frozen BK310.out 1; have hfz131_2 := blk_frozen BK310.out 2; have hcz132_0 : w126.cell? ⟨gb305, 0, none⟩ = some (.int .i8 t301) := (blk_cell BK305.out 0).trans rfl; have hcz132_1 : w126.cell? ⟨gb305, 1, none⟩ = some (.int .i8 t302) := (blk_cell BK305.out 1).trans rfl; have hcz132_2 : w126.cell? ⟨gb305, 2, none⟩ = some (.int .i8 t303) := (blk_cell BK305.out 2).trans rfl; have hfz132_0 := blk_frozen BK305.out 0; have hfz132_1 := blk_frozen BK305.out 1; have hfz132_2 := blk_frozen BK305.out 2))
                                  repeat (go_quiet (first | ((with_reducible refine gate_dst (N := 260) rfl ?_); refine Kd.R_lit (Kd.int .i64) _ 2 ?hg (N := 260) ?hd (xs := ([(wrap64 (1 + t289)), (wrap64 (1 + t289))] : List Int)) (inner := [.int .i64 (wrap64 (1 + t289)), .int .i64 (wrap64 (1 + t289))]) (ok := fun _ => True) (okp := fun _ => True) ?hr ?hp (fun _ hk => hk) trivial (Below.refl _ _) (Nat.le_refl _) (by simp) ?_; (case hd => rfl); (case hg => rfl); (case hr => first | (go_simp; done) | (go_simp; rfl)); (case hp => exact (Reps.one (show Kd.M (Kd.int .i64) _ _ _ (wrap64 (1 + t289)) [.int .i64 (wrap64 (1 + t289))] from rfl) (Reps.one (show Kd.M (Kd.int .i64) _ _ _ (wrap64 (1 + t289)) [.int .i64 (wrap64 (1 + t289))] from rfl) (Reps.none _ _)))); intro v299 w115 ho116 hb hg_ hnew_; clear hg_ hnew_; (first | rw [← Ny298.out] at ho116 | (simp only [Int.reduceToNat] at ho116; rw [← Ny298.out] at ho116)); have n0_ := Aside0.mk (Kd.R_lower ho116 (below_size (by repeat (first | (with_reducible first | exact HB.out | apply below_alloc | apply pw_below_drewN | apply below_drew1 | refine below_set ?_ GE262.out | refine below_set ?_ GE271.out | refine below_set ?_ GE276.out) | exact HB.out)))); have n1_ := Aside0.mk (blk_below (g := gb262) (o := .cells #[.int .i8 t259, .int .i8 t260, .int .i8 t261] 41 (0, 0)) (by (with_reducible repeat (first | refine blk_drewN ?_ _ | refine blk_drew ?_ | refine blk_alloc ?_ _)); exact BK262.out) hb); have n2_ := Aside0.mk (blk_below (g := gb271) (o := .cells #[.int .i8 t267, .int .i8 t268, .int .i8 t269] 41 (0, 0)) (by (with_reducible repeat (first | refine blk_drewN ?_ _ | refine blk_drew ?_ | refine blk_alloc ?_ _)); exact BK271.out) hb); have n3_ := Aside0.mk (blk_below (g := gb276) (o := .cells #[.int .i8 t272, .int .i8 t273, .int .i8 t274] 41 (0, 0)) (by (with_reducible repeat (first | refine blk_drewN ?_ _ | refine blk_drew ?_ | refine blk_alloc ?_ _)); exact BK276.out) hb); have n4_ := Aside0.mk (below_step (by repeat (first | (with_reducible first | exact HB.out | apply below_alloc | apply pw_below_drewN | apply below_drew1 | refine below_set ?_ GE262.out | refine below_set ?_ GE271.out | refine below_set ?_ GE276.out) | exact HB.out)) hb); clear BK262; clear BK271; clear BK276; clear HB; have HO300 := n0_; have BK262 := n1_; have BK271 := n2_; have BK276 := n3_; have HB := n4_; clear n0_ n1_ n2_ n3_ n4_; clear hb ho116; obtain ⟨Ao117, co117, eo117⟩ := Kd.R_slice HO300.out; subst eo117) | (go_at_call 34; (with_reducible refine (impl_WithFilters.calls kj103 t259 t260 t261 _ _ y298 t301 t302 t303 t304 _ ?side1 ?side2 A109.out).mono ?_); (case side1 => repeat (first | exact (Kd.R_reads' HO300.out).2.2 | (with_reducible refine Kd.C_alloc ?_ _) | (with_reducible refine Kd.C_drewN ?_ _) | (with_reducible refine Kd.C_drew ?_))); (case side2 => exact (Kd.R_reads' HO300.out).2.1); rintro e w118 ⟨rfl, hb⟩; have n0_ := Aside0.mk (Kd.R_below (by (with_reducible repeat (first | apply Kd.R_alloc | apply Kd.R_drewN | apply Kd.R_drew)); exact HO300.out) hb); have n1_ := Aside0.mk (blk_below (g := gb262) (o := .cells #[.int .i8 t259, .int .i8 t260, .int .i8 t261] 41 (0, 0)) (by (with_reducible repeat (first | refine blk_drewN ?_ _ | refine blk_drew ?_ | refine blk_alloc ?_ _)); exact BK262.out) hb); have n2_ := Aside0.mk (blk_below (g := gb271) (o := .cells #[.int .i8 t267, .int .i8 t268, .int .i8 t269] 41 (0, 0)) (by (with_reducible repeat (first | refine blk_drewN ?_ _ | refine blk_drew ?_ | refine blk_alloc ?_ _)); exact BK271.out) hb); have n3_ := Aside0.mk (blk_below (g := gb276) (o := .cells #[.int .i8 t272, .int .i8 t273, .int .i8 t274] 41 (0, 0)) (by (with_reducible repeat (first | refine blk_drewN ?_ _ | refine blk_drew ?_ | refine blk_alloc ?_ _)); exact BK276.out) hb); have n4_ := Aside0.mk (below_step (by repeat (first | (with_reducible first | exact HB.out | apply below_alloc | apply pw_below_drewN | apply below_drew1 | refine below_set ?_ GE262.out | refine below_set ?_ GE271.out | refine below_set ?_ GE276.out) | exact HB.out)) hb); clear HO300; clear BK262; clear BK271; clear BK276; clear HB; have HO300 := n0_; have BK262 := n1_; have BK271 := n2_; have BK276 := n3_; have HB := n4_; clear n0_ n1_ n2_ n3_ n4_; (try clear hb); (try clear hb2); (try clear hk); (try clear hi)) | ((with_reducible refine gate_dst (N := 31) rfl ?_); refine box_event ?hg (N := 31) ?hd (cs := #[.int .i8 0, .int .i8 0, .int .i8 0]) (t := 41) ?hr ?_; (case hd => rfl); (case hg => rfl); (case hr => first | (go_simp; done) | (go_simp; rfl)); intro gb305 hg w119 hbox hb; have n0_ := Aside0.mk (Kd.R_below (by (with_reducible repeat (first | apply Kd.R_alloc | apply Kd.R_drewN | apply Kd.R_drew)); exact HO300.out) hb); have n1_ := Aside0.mk (blk_below (g := gb262) (o := .cells #[.int .i8 t259, .int .i8 t260, .int .i8 t261] 41 (0, 0)) (by (with_reducible repeat (first | refine blk_drewN ?_ _ | refine blk_drew ?_ | refine blk_alloc ?_ _)); exact BK262.out) hb); have n2_ := Aside0.mk (blk_below (g := gb271) (o := .cells #[.int .i8 t267, .int .i8 t268, .int .i8 t269] 41 (0, 0)) (by (with_reducible repeat (first | refine blk_drewN ?_ _ | refine blk_drew ?_ | refine blk_alloc ?_ _)); exact BK271.out) hb); have n3_ := Aside0.mk (blk_below (g := gb276) (o := .cells #[.int .i8 t272, .int .i8 t273, .int .i8 t274] 41 (0, 0)) (by (with_reducible repeat (first | refine blk_drewN ?_ _ | refine blk_drew ?_ | refine blk_alloc ?_ _)); exact BK276.out) hb); have n4_ := Aside0.mk (below_step (by repeat (first | (with_reducible first | exact HB.out | apply below_alloc | apply pw_below_drewN | apply below_drew1 | refine below_set ?_ GE262.out | refine below_set ?_ GE271.out | refine below_set ?_ GE276.out) | exact HB.out)) hb); have n5_ := Aside0.mk (hbox); have n6_ := Aside0.mk ((by rw [hg]; exact (below_size (by repeat (first | (with_reducible first | exact HB.out | apply below_alloc | apply pw_below_drewN | apply below_drew1 | refine below_set ?_ GE262.out | refine below_set ?_ GE271.out | refine below_set ?_ GE276.out) | exact HB.out))) : w.heap.size ≤ gb305)); have n7_ := Aside0.mk ((by rw [hg]; exact (below_size (by repeat (first | (with_reducible first | exact HB.out | apply below_alloc | apply pw_below_drewN | apply below_drew1 | refine below_set ?_ GE262.out | refine below_set ?_ GE271.out | refine below_set ?_ GE276.out) | exact HB.out))) : w.heap.size ≤ gb305)); have n8_ := Aside0.mk ((by rw [hg]; exact Nat.ne_of_lt (blk_lt (g := gb262) (o := .cells #[.int .i8 t259, .int .i8 t260, .int .i8 t261] 41 (0, 0)) (by (with_reducible repeat (first | refine blk_drewN ?_ _ | refine blk_drew ?_ | refine blk_alloc ?_ _)); exact BK262.out)) : gb262 ≠ gb305)); have n9_ := Aside0.mk ((by rw [hg]; exact Nat.ne_of_gt (blk_lt (g := gb262) (o := .cells #[.int .i8 t259, .int .i8 t260, .int .i8 t261] 41 (0, 0)) (by (with_reducible repeat (first | refine blk_drewN ?_ _ | refine blk_drew ?_ | refine blk_alloc ?_ _)); exact BK262.out)) : gb305 ≠ gb262)); have n10_ := Aside0.mk ((by rw [hg]; exact Nat.ne_of_lt (blk_lt (g := gb271) (o := .cells #[.int .i8 t267, .int .i8 t268, .int .i8 t269] 41 (0, 0)) (by (with_reducible repeat (first | refine blk_drewN ?_ _ | refine blk_drew ?_ | refine blk_alloc ?_ _)); exact BK271.out)) : gb271 ≠ gb305)); have n11_ := Aside0.mk ((by rw [hg]; exact Nat.ne_of_gt (blk_lt (g := gb271) (o := .cells #[.int .i8 t267, .int .i8 t268, .int .i8 t269] 41 (0, 0)) (by (with_reducible repeat (first | refine blk_drewN ?_ _ | refine blk_drew ?_ | refine blk_alloc ?_ _)); exact BK271.out)) : gb305 ≠ gb271)); have n12_ := Aside0.mk ((by rw [hg]; exact Nat.ne_of_lt (blk_lt (g := gb276) (o := .cells #[.int .i8 t272, .int .i8 t273, .int .i8 t274] 41 (0, 0)) (by (with_reducible repeat (first | refine blk_drewN ?_ _ | refine blk_drew ?_ | refine blk_alloc ?_ _)); exact BK276.out)) : gb276 ≠ gb305)); have n13_ := Aside0.mk ((by rw [hg]; exact Nat.ne_of_gt (blk_lt (g := gb276) (o := .cells #[.int .i8 t272, .int .i8 t273, .int .i8 t274] 41 (0, 0)) (by (with_reducible repeat (first | refine blk_drewN ?_ _ | refine blk_drew ?_ | refine blk_alloc ?_ _)); exact BK276.out)) : gb305 ≠ gb276)); clear HO300; clear BK262; clear BK271; clear BK276; clear HB; have HO300 := n0_; have BK262 := n1_; have BK271 := n2_; have BK276 := n3_; have HB := n4_; have BK305 := n5_; have GW305 := n6_; have GE305 := n7_; have NB262_305 := n8_; have NB305_262 := n9_; have NB271_305 := n10_; have NB305_271 := n11_; have NB276_305 := n12_; have NB305_276 := n13_; clear n0_ n1_ n2_ n3_ n4_ n5_ n6_ n7_ n8_ n9_ n10_ n11_ n12_ n13_; clear hb hbox hg; have hnb120 := NB305_262.out; have hnc120 := NB262_305.out; have hnb121 := NB305_271.out; have hnc121 := NB271_305.out; have hnb122 := NB305_276.out; have hnc122 := NB276_305.out; have hcz123_0 : w119.cell? ⟨gb305, 0, none⟩ = some (.int .i8 0) := (blk_cell BK305.out 0).trans rfl; have hcz123_1 : w119.cell? ⟨gb305, 1, none⟩ = some (.int .i8 0) := (blk_cell BK305.out 1).trans rfl; have hcz123_2 : w119.cell? ⟨gb305, 2, none⟩ = some (.int .i8 0) := (blk_cell BK305.out 2).trans rfl; have hfz123_0 := blk_frozen BK305.out 0; have hfz123_1 := blk_frozen BK305.out 1; have hfz123_2 := blk_frozen BK305.out 2; have hcz124_0 : w119.cell? ⟨gb262, 0, none⟩ = some (.int .i8 t259) := (blk_cell BK262.out 0).trans rfl; have hcz124_1 : w119.cell? ⟨gb262, 1, none⟩ = some (.int .i8 t260) := (blk_cell BK262.out 1).trans rfl; have hcz124_2 : w119.cell? ⟨gb262, 2, none⟩ = some (.int .i8 t261) := (blk_cell BK262.out 2).trans rfl; have hfz124_0 := blk_frozen BK262.out 0; have hfz124_1 := blk_frozen BK262.out 1; have hfz124_2 := blk_frozen BK262.out 2) | (go_at_call 49; (with_reducible refine (spec_MoreLight.calls t259 t260 t261 (wrap64 (2 * t292)) t306 t307 t308 t309 _ A110.out).mono ?_); rintro e w125 ⟨rfl, hb⟩; have n0_ := Aside0.mk (Kd.R_below (by (with_reducible repeat (first | apply Kd.R_alloc | apply Kd.R_drewN | apply Kd.R_drew)); exact (Kd.R_mono (Kd.R_far (p := ⟨gb305, 2, none⟩) (Kd.R_far (p := ⟨gb305, 1, none⟩) (Kd.R_far (p := ⟨gb305, 0, none⟩) (Kd.R_types HO300.out BK305.out (by decide)) (fun _ hk => hk.2) (.int .i8 t301)) (fun _ hk => hk.2) (.int .i8 t302)) (fun _ hk => hk.2) (.int .i8 t303)) (fun _ h_ => h_.1))) hb); have n1_ := Aside0.mk (blk_below (g := gb262) (o := .cells #[.int .i8 t259, .int .i8 t260, .int .i8 t261] 41 (0, 0)) (by (with_reducible repeat (first | refine blk_drewN ?_ _ | refine blk_drew ?_ | refine blk_alloc ?_ _)); refine blk_far ?_ NB262_305.out _; (with_reducible repeat (first | refine blk_drewN ?_ _ | refine blk_drew ?_ | refine blk_alloc ?_ _)); refine blk_far ?_ NB262_305.out _; (with_reducible repeat (first | refine blk_drewN ?_ _ | refine blk_drew ?_ | refine blk_alloc ?_ _)); refine blk_far ?_ NB262_305.out _; (with_reducible repeat (first | refine blk_drewN ?_ _ | refine blk_drew ?_ | refine blk_alloc ?_ _)); exact BK262.out) hb); have n2_ := Aside0.mk (blk_below (g := gb271) (o := .cells #[.int .i8 t267, .int .i8 t268, .int .i8 t269] 41 (0, 0)) (by (with_reducible repeat (first | refine blk_drewN ?_ _ | refine blk_drew ?_ | refine blk_alloc ?_ _)); refine blk_far ?_ NB271_305.out _; (with_reducible repeat (first | refine blk_drewN ?_ _ | refine blk_drew ?_ | refine blk_alloc ?_ _)); refine blk_far ?_ NB271_305.out _; (with_reducible repeat (first | refine blk_drewN ?_ _ | refine blk_drew ?_ | refine blk_alloc ?_ _)); refine blk_far ?_ NB271_305.out _; (with_reducible repeat (first | refine blk_drewN ?_ _ | refine blk_drew ?_ | refine blk_alloc ?_ _)); exact BK271.out) hb); have n3_ := Aside0.mk (blk_below (g := gb276) (o := .cells #[.int .i8 t272, .int .i8 t273, .int .i8 t274] 41 (0, 0)) (by (with_reducible repeat (first | refine blk_drewN ?_ _ | refine blk_drew ?_ | refine blk_alloc ?_ _)); refine blk_far ?_ NB276_305.out _; (with_reducible repeat (first | refine blk_drewN ?_ _ | refine blk_drew ?_ | refine blk_alloc ?_ _)); refine blk_far ?_ NB276_305.out _; (with_reducible repeat (first | refine blk_drewN ?_ _ | refine blk_drew ?_ | refine blk_alloc ?_ _)); refine blk_far ?_ NB276_305.out _; (with_reducible repeat (first | refine blk_drewN ?_ _ | refine blk_drew ?_ | refine blk_alloc ?_ _)); exact BK276.out) hb); have n4_ := Aside0.mk (blk_below (g := gb305) (o := .cells #[.int .i8 t301, .int .i8 t302, .int .i8 t303] 41 (0, 0)) (by (with_reducible repeat (first | refine blk_drewN ?_ _ | refine blk_drew ?_ | refine blk_alloc ?_ _)); refine blk_put (cs := #[.int .i8 t301, .int .i8 t302, .int .i8 0]) ?_ 2 _ rfl; (with_reducible repeat (first | refine blk_drewN ?_ _ | refine blk_drew ?_ | refine blk_alloc ?_ _)); refine blk_put (cs := #[.int .i8 t301, .int .i8 0, .int .i8 0]) ?_ 1 _ rfl; (with_reducible repeat (first | refine blk_drewN ?_ _ | refine blk_drew ?_ | refine blk_alloc ?_ _)); refine blk_put (cs := #[.int .i8 0, .int .i8 0, .int .i8 0]) ?_ 0 _ rfl; (with_reducible repeat (first | refine blk_drewN ?_ _ | refine blk_drew ?_ | refine blk_alloc ?_ _)); exact BK305.out) hb); have n5_ := Aside0.mk (below_step (by repeat (first | (with_reducible first | exact HB.out | apply below_alloc | apply pw_below_drewN | apply below_drew1 | refine below_set ?_ GE262.out | refine below_set ?_ GE271.out | refine below_set ?_ GE276.out | refine below_set ?_ GE305.out) | exact HB.out)) hb); clear HO300; clear BK262; clear BK271; clear BK276; clear BK305; clear HB; have HO300 := n0_; have BK262 := n1_; have BK271 := n2_; have BK276 := n3_; have BK305 := n4_; have HB := n5_; clear n0_ n1_ n2_ n3_ n4_ n5_; (try clear hb); (try clear hb2); (try clear hk); (try clear hi)) | ((with_reducible refine gate_dst (N := 33) rfl ?_); refine box_event ?hg (N := 33) ?hd (cs := #[.int .i8 0, .int .i8 0, .int .i8 0]) (t := 41) ?hr ?_; (case hd => rfl); (case hg => rfl); (case hr => first | (go_simp; done) | (go_simp; rfl)); intro gb310 hg w126 hbox hb; have n0_ := Aside0.mk (Kd.R_below (by (with_reducible repeat (first | apply Kd.R_alloc | apply Kd.R_drewN | apply Kd.R_drew)); exact HO300.out) hb); have n1_ := Aside0.mk (blk_below (g := gb262) (o := .cells #[.int .i8 t259, .int .i8 t260, .int .i8 t261] 41 (0, 0)) (by (with_reducible repeat (first | refine blk_drewN ?_ _ | refine blk_drew ?_ | refine blk_alloc ?_ _)); exact BK262.out) hb); have n2_ := Aside0.mk (blk_below (g := gb271) (o := .cells #[.int .i8 t267, .int .i8 t268, .int .i8 t269] 41 (0, 0)) (by (with_reducible repeat (first | refine blk_drewN ?_ _ | refine blk_drew ?_ | refine blk_alloc ?_ _)); exact BK271.out) hb); have n3_ := Aside0.mk (blk_below (g := gb276) (o := .cells #[.int .i8 t272, .int .i8 t273, .int .i8 t274] 41 (0, 0)) (by (with_reducible repeat (first | refine blk_drewN ?_ _ | refine blk_drew ?_ | refine blk_alloc ?_ _)); exact BK276.out) hb); have n4_ := Aside0.mk (blk_below (g := gb305) (o := .cells #[.int .i8 t301, .int .i8 t302, .int .i8 t303] 41 (0, 0)) (by (with_reducible repeat (first | refine blk_drewN ?_ _ | refine blk_drew ?_ | refine blk_alloc ?_ _)); exact BK305.out) hb); have n5_ := Aside0.mk (below_step (by repeat (first | (with_reducible first | exact HB.out | apply below_alloc | apply pw_below_drewN | apply below_drew1 | refine below_set ?_ GE262.out | refine below_set ?_ GE271.out | refine below_set ?_ GE276.out | refine below_set ?_ GE305.out) | exact HB.out)) hb); have n6_ := Aside0.mk (hbox); have n7_ := Aside0.mk ((by rw [hg]; exact (below_size (by repeat (first | (with_reducible first | exact HB.out | apply below_alloc | apply pw_below_drewN | apply below_drew1 | refine below_set ?_ GE262.out | refine below_set ?_ GE271.out | refine below_set ?_ GE276.out | refine below_set ?_ GE305.out) | exact HB.out))) : w.heap.size ≤ gb310)); have n8_ := Aside0.mk ((by rw [hg]; exact (below_size (by repeat (first | (with_reducible first | exact HB.out | apply below_alloc | apply pw_below_drewN | apply below_drew1 | refine below_set ?_ GE262.out | refine below_set ?_ GE271.out | refine below_set ?_ GE276.out | refine below_set ?_ GE305.out) | exact HB.out))) : w.heap.size ≤ gb310)); have n9_ := Aside0.mk ((by rw [hg]; exact Nat.ne_of_lt (blk_lt (g := gb262) (o := .cells #[.int .i8 t259, .int .i8 t260, .int .i8 t261] 41 (0, 0)) (by (with_reducible repeat (first | refine blk_drewN ?_ _ | refine blk_drew ?_ | refine blk_alloc ?_ _)); exact BK262.out)) : gb262 ≠ gb310)); have n10_ := Aside0.mk ((by rw [hg]; exact Nat.ne_of_gt (blk_lt (g := gb262) (o := .cells #[.int .i8 t259, .int .i8 t260, .int .i8 t261] 41 (0, 0)) (by (with_reducible repeat (first | refine blk_drewN ?_ _ | refine blk_drew ?_ | refine blk_alloc ?_ _)); exact BK262.out)) : gb310 ≠ gb262)); have n11_ := Aside0.mk ((by rw [hg]; exact Nat.ne_of_lt (blk_lt (g := gb271) (o := .cells #[.int .i8 t267, .int .i8 t268, .int .i8 t269] 41 (0, 0)) (by (with_reducible repeat (first | refine blk_drewN ?_ _ | refine blk_drew ?_ | refine blk_alloc ?_ _)); exact BK271.out)) : gb271 ≠ gb310)); have n12_ := Aside0.mk ((by rw [hg]; exact Nat.ne_of_gt (blk_lt (g := gb271) (o := .cells #[.int .i8 t267, .int .i8 t268, .int .i8 t269] 41 (0, 0)) (by (with_reducible repeat (first | refine blk_drewN ?_ _ | refine blk_drew ?_ | refine blk_alloc ?_ _)); exact BK271.out)) : gb310 ≠ gb271)); have n13_ := Aside0.mk ((by rw [hg]; exact Nat.ne_of_lt (blk_lt (g := gb276) (o := .cells #[.int .i8 t272, .int .i8 t273, .int .i8 t274] 41 (0, 0)) (by (with_reducible repeat (first | refine blk_drewN ?_ _ | refine blk_drew ?_ | refine blk_alloc ?_ _)); exact BK276.out)) : gb276 ≠ gb310)); have n14_ := Aside0.mk ((by rw [hg]; exact Nat.ne_of_gt (blk_lt (g := gb276) (o := .cells #[.int .i8 t272, .int .i8 t273, .int .i8 t274] 41 (0, 0)) (by (with_reducible repeat (first | refine blk_drewN ?_ _ | refine blk_drew ?_ | refine blk_alloc ?_ _)); exact BK276.out)) : gb310 ≠ gb276)); have n15_ := Aside0.mk ((by rw [hg]; exact Nat.ne_of_lt (blk_lt (g := gb305) (o := .cells #[.int .i8 t301, .int .i8 t302, .int .i8 t303] 41 (0, 0)) (by (with_reducible repeat (first | refine blk_drewN ?_ _ | refine blk_drew ?_ | refine blk_alloc ?_ _)); exact BK305.out)) : gb305 ≠ gb310)); have n16_ := Aside0.mk ((by rw [hg]; exact Nat.ne_of_gt (blk_lt (g := gb305) (o := .cells #[.int .i8 t301, .int .i8 t302, .int .i8 t303] 41 (0, 0)) (by (with_reducible repeat (first | refine blk_drewN ?_ _ | refine blk_drew ?_ | refine blk_alloc ?_ _)); exact BK305.out)) : gb310 ≠ gb305)); clear HO300; clear BK262; clear BK271; clear BK276; clear BK305; clear HB; have HO300 := n0_; have BK262 := n1_; have BK271 := n2_; have BK276 := n3_; have BK305 := n4_; have HB := n5_; have BK310 := n6_; have GW310 := n7_; have GE310 := n8_; have NB262_310 := n9_; have NB310_262 := n10_; have NB271_310 := n11_; have NB310_271 := n12_; have NB276_310 := n13_; have NB310_276 := n14_; have NB305_310 := n15_; have NB310_305 := n16_; clear n0_ n1_ n2_ n3_ n4_ n5_ n6_ n7_ n8_ n9_ n10_ n11_ n12_ n13_ n14_ n15_ n16_; clear hb hbox hg; have hnb127 := NB310_262.out; have hnc127 := NB262_310.out; have hnb128 := NB310_271.out; have hnc128 := NB271_310.out; have hnb129 := NB310_276.out; have hnc129 := NB276_310.out; have hnb130 := NB310_305.out; have hnc130 := NB305_310.out; have hcz131_0 : w126.cell? ⟨gb310, 0, none⟩ = some (.int .i8 0) := (blk_cell BK310.out 0).trans rfl; have hcz131_1 : w126.cell? ⟨gb310, 1, none⟩ = some (.int .i8 0) := (blk_cell BK310.out 1).trans rfl; have hcz131_2 : w126.cell? ⟨gb310, 2, none⟩ = some (.int .i8 0) := (blk_cell BK310.out 2).trans rfl; have hfz131_0 := blk_frozen BK310.out 0; have hfz131_1 := blk_frozen BK310.out 1; have hfz131_2 := blk_frozen BK310.out 2; have hcz132_0 : w126.cell? ⟨gb305, 0, none⟩ = some (.int .i8 t301) := (blk_cell BK305.out 0).trans rfl; have hcz132_1 : w126.cell? ⟨gb305, 1, none⟩ = some (.int .i8 t302) := (blk_cell BK305.out 1).trans rfl; have hcz132_2 : w126.cell? ⟨gb305, 2, none⟩ = some (.int .i8 t303) := (blk_cell BK305.out 2).trans rfl; have hfz132_0 := blk_frozen BK305.out 0; have hfz132_1 := blk_frozen BK305.out 1; have hfz132_2 := blk_frozen BK305.out 2)); try go_wp2_with (first | ((with_reducible refine gate_dst (N := 260) rfl ?_); refine Kd.R_lit (Kd.int .i64) _ 2 ?hg (N := 260) ?hd (xs := ([(wrap64 (1 + t289)), (wrap64 (1 + t289))] : List Int)) (inner := [.int .i64 (wrap64 (1 + t289)), .int .i64 (wrap64 (1 + t289))]) (ok := fun _ => True) (okp := fun _ => True) ?hr ?hp (fun _ hk => hk) trivial (Below.refl _ _) (Nat.le_refl _) (by simp) ?_; (case hd => rfl); (case hg => rfl); (case hr => first | (go_simp; done) | (go_simp; rfl)); (case hp => exact (Reps.one (show Kd.M (Kd.int .i64) _ _ _ (wrap64 (1 + t289)) [.int .i64 (wrap64 (1 + t289))] from rfl) (Reps.one (show Kd.M (Kd.int .i64) _ _ _ (wrap64 (1 + t289)) [.int .i64 (wrap64 (1 + t289))] from rfl) (Reps.none _ _)))); intro v299 w115 ho116 hb hg_ hnew_; clear hg_ hnew_; (first | rw [← Ny298.out] at ho116 | (simp only [Int.reduceToNat] at ho116; rw [← Ny298.out] at ho116)); have n0_ := Aside0.mk (Kd.R_lower ho116 (below_size (by repeat (first | (with_reducible first | exact HB.out | apply below_alloc | apply pw_below_drewN | apply below_drew1 | refine below_set ?_ GE262.out | refine below_set ?_ GE271.out | refine below_set ?_ GE276.out) | exact HB.out)))); have n1_ := Aside0.mk (blk_below (g := gb262) (o := .cells #[.int .i8 t259, .int .i8 t260, .int .i8 t261] 41 (0, 0)) (by (with_reducible repeat (first | refine blk_drewN ?_ _ | refine blk_drew ?_ | refine blk_alloc ?_ _)); exact BK262.out) hb); have n2_ := Aside0.mk (blk_below (g := gb271) (o := .cells #[.int .i8 t267, .int .i8 t268, .int .i8 t269] 41 (0, 0)) (by (with_reducible repeat (first | refine blk_drewN ?_ _ | refine blk_drew ?_ | refine blk_alloc ?_ _)); exact BK271.out) hb); have n3_ := Aside0.mk (blk_below (g := gb276) (o := .cells #[.int .i8 t272, .int .i8 t273, .int .i8 t274] 41 (0, 0)) (by (with_reducible repeat (first | refine blk_drewN ?_ _ | refine blk_drew ?_ | refine blk_alloc ?_ _)); exact BK276.out) hb); have n4_ := Aside0.mk (below_step (by repeat (first | (with_reducible first | exact HB.out | apply below_alloc | apply pw_below_drewN | apply below_drew1 | refine below_set ?_ GE262.out | refine below_set ?_ GE271.out | refine below_set ?_ GE276.out) | exact HB.out)) hb); clear BK262; clear BK271; clear BK276; clear HB; have HO300 := n0_; have BK262 := n1_; have BK271 := n2_; have BK276 := n3_; have HB := n4_; clear n0_ n1_ n2_ n3_ n4_; clear hb ho116; obtain ⟨Ao117, co117, eo117⟩ := Kd.R_slice HO300.out; subst eo117) | (go_at_call 34; (with_reducible refine (impl_WithFilters.calls kj103 t259 t260 t261 _ _ y298 t301 t302 t303 t304 _ ?side1 ?side2 A109.out).mono ?_); (case side1 => repeat (first | exact (Kd.R_reads' HO300.out).2.2 | (with_reducible refine Kd.C_alloc ?_ _) | (with_reducible refine Kd.C_drewN ?_ _) | (with_reducible refine Kd.C_drew ?_))); (case side2 => exact (Kd.R_reads' HO300.out).2.1); rintro e w118 ⟨rfl, hb⟩; have n0_ := Aside0.mk (Kd.R_below (by (with_reducible repeat (first | apply Kd.R_alloc | apply Kd.R_drewN | apply Kd.R_drew)); exact HO300.out) hb); have n1_ := Aside0.mk (blk_below (g := gb262) (o := .cells #[.int .i8 t259, .int .i8 t260, .int .i8 t261] 41 (0, 0)) (by (with_reducible repeat (first | refine blk_drewN ?_ _ | refine blk_drew ?_ | refine blk_alloc ?_ _)); exact BK262.out) hb); have n2_ := Aside0.mk (blk_below (g := gb271) (o := .cells #[.int .i8 t267, .int .i8 t268, .int .i8 t269] 41 (0, 0)) (by (with_reducible repeat (first | refine blk_drewN ?_ _ | refine blk_drew ?_ | refine blk_alloc ?_ _)); exact BK271.out) hb); have n3_ := Aside0.mk (blk_below (g := gb276) (o := .cells #[.int .i8 t272, .int .i8 t273, .int .i8 t274] 41 (0, 0)) (by (with_reducible repeat (first | refine blk_drewN ?_ _ | refine blk_drew ?_ | refine blk_alloc ?_ _)); exact BK276.out) hb); have n4_ := Aside0.mk (below_step (by repeat (first | (with_reducible first | exact HB.out | apply below_alloc | apply pw_below_drewN | apply below_drew1 | refine below_set ?_ GE262.out | refine below_set ?_ GE271.out | refine below_set ?_ GE276.out) | exact HB.out)) hb); clear HO300; clear BK262; clear BK271; clear BK276; clear HB; have HO300 := n0_; have BK262 := n1_; have BK271 := n2_; have BK276 := n3_; have HB := n4_; clear n0_ n1_ n2_ n3_ n4_; (try clear hb); (try clear hb2); (try clear hk); (try clear hi)) | ((with_reducible refine gate_dst (N := 31) rfl ?_); refine box_event ?hg (N := 31) ?hd (cs := #[.int .i8 0, .int .i8 0, .int .i8 0]) (t := 41) ?hr ?_; (case hd => rfl); (case hg => rfl); (case hr => first | (go_simp; done) | (go_simp; rfl)); intro gb305 hg w119 hbox hb; have n0_ := Aside0.mk (Kd.R_below (by (with_reducible repeat (first | apply Kd.R_alloc | apply Kd.R_drewN | apply Kd.R_drew)); exact HO300.out) hb); have n1_ := Aside0.mk (blk_below (g := gb262) (o := .cells #[.int .i8 t259, .int .i8 t260, .int .i8 t261] 41 (0, 0)) (by (with_reducible repeat (first | refine blk_drewN ?_ _ | refine blk_drew ?_ | refine blk_alloc ?_ _)); exact BK262.out) hb); have n2_ := Aside0.mk (blk_below (g := gb271) (o := .cells #[.int .i8 t267, .int .i8 t268, .int .i8 t269] 41 (0, 0)) (by (with_reducible repeat (first | refine blk_drewN ?_ _ | refine blk_drew ?_ | refine blk_alloc ?_ _)); exact BK271.out) hb); have n3_ := Aside0.mk (blk_below (g := gb276) (o := .cells #[.int .i8 t272, .int .i8 t273, .int .i8 t274] 41 (0, 0)) (by (with_reducible repeat (first | refine blk_drewN ?_ _ | refine blk_drew ?_ | refine blk_alloc ?_ _)); exact BK276.out) hb); have n4_ := Aside0.mk (below_step (by repeat (first | (with_reducible first | exact HB.out | apply below_alloc | apply pw_below_drewN | apply below_drew1 | refine below_set ?_ GE262.out | refine below_set ?_ GE271.out | refine below_set ?_ GE276.out) | exact HB.out)) hb); have n5_ := Aside0.mk (hbox); have n6_ := Aside0.mk ((by rw [hg]; exact (below_size (by repeat (first | (with_reducible first | exact HB.out | apply below_alloc | apply pw_below_drewN | apply below_drew1 | refine below_set ?_ GE262.out | refine below_set ?_ GE271.out | refine below_set ?_ GE276.out) | exact HB.out))) : w.heap.size ≤ gb305)); have n7_ := Aside0.mk ((by rw [hg]; exact (below_size (by repeat (first | (with_reducible first | exact HB.out | apply below_alloc | apply pw_below_drewN | apply below_drew1 | refine below_set ?_ GE262.out | refine below_set ?_ GE271.out | refine below_set ?_ GE276.out) | exact HB.out))) : w.heap.size ≤ gb305)); have n8_ := Aside0.mk ((by rw [hg]; exact Nat.ne_of_lt (blk_lt (g := gb262) (o := .cells #[.int .i8 t259, .int .i8 t260, .int .i8 t261] 41 (0, 0)) (by (with_reducible repeat (first | refine blk_drewN ?_ _ | refine blk_drew ?_ | refine blk_alloc ?_ _)); exact BK262.out)) : gb262 ≠ gb305)); have n9_ := Aside0.mk ((by rw [hg]; exact Nat.ne_of_gt (blk_lt (g := gb262) (o := .cells #[.int .i8 t259, .int .i8 t260, .int .i8 t261] 41 (0, 0)) (by (with_reducible repeat (first | refine blk_drewN ?_ _ | refine blk_drew ?_ | refine blk_alloc ?_ _)); exact BK262.out)) : gb305 ≠ gb262)); have n10_ := Aside0.mk ((by rw [hg]; exact Nat.ne_of_lt (blk_lt (g := gb271) (o := .cells #[.int .i8 t267, .int .i8 t268, .int .i8 t269] 41 (0, 0)) (by (with_reducible repeat (first | refine blk_drewN ?_ _ | refine blk_drew ?_ | refine blk_alloc ?_ _)); exact BK271.out)) : gb271 ≠ gb305)); have n11_ := Aside0.mk ((by rw [hg]; exact Nat.ne_of_gt (blk_lt (g := gb271) (o := .cells #[.int .i8 t267, .int .i8 t268, .int .i8 t269] 41 (0, 0)) (by (with_reducible repeat (first | refine blk_drewN ?_ _ | refine blk_drew ?_ | refine blk_alloc ?_ _)); exact BK271.out)) : gb305 ≠ gb271)); have n12_ := Aside0.mk ((by rw [hg]; exact Nat.ne_of_lt (blk_lt (g := gb276) (o := .cells #[.int .i8 t272, .int .i8 t273, .int .i8 t274] 41 (0, 0)) (by (with_reducible repeat (first | refine blk_drewN ?_ _ | refine blk_drew ?_ | refine blk_alloc ?_ _)); exact BK276.out)) : gb276 ≠ gb305)); have n13_ := Aside0.mk ((by rw [hg]; exact Nat.ne_of_gt (blk_lt (g := gb276) (o := .cells #[.int .i8 t272, .int .i8 t273, .int .i8 t274] 41 (0, 0)) (by (with_reducible repeat (first | refine blk_drewN ?_ _ | refine blk_drew ?_ | refine blk_alloc ?_ _)); exact BK276.out)) : gb305 ≠ gb276)); clear HO300; clear BK262; clear BK271; clear BK276; clear HB; have HO300 := n0_; have BK262 := n1_; have BK271 := n2_; have BK276 := n3_; have HB := n4_; have BK305 := n5_; have GW305 := n6_; have GE305 := n7_; have NB262_305 := n8_; have NB305_262 := n9_; have NB271_305 := n10_; have NB305_271 := n11_; have NB276_305 := n12_; have NB305_276 := n13_; clear n0_ n1_ n2_ n3_ n4_ n5_ n6_ n7_ n8_ n9_ n10_ n11_ n12_ n13_; clear hb hbox hg; have hnb120 := NB305_262.out; have hnc120 := NB262_305.out; have hnb121 := NB305_271.out; have hnc121 := NB271_305.out; have hnb122 := NB305_276.out; have hnc122 := NB276_305.out; have hcz123_0 : w119.cell? ⟨gb305, 0, none⟩ = some (.int .i8 0) := (blk_cell BK305.out 0).trans rfl; have hcz123_1 : w119.cell? ⟨gb305, 1, none⟩ = some (.int .i8 0) := (blk_cell BK305.out 1).trans rfl; have hcz123_2 : w119.cell? ⟨gb305, 2, none⟩ = some (.int .i8 0) := (blk_cell BK305.out 2).trans rfl; have hfz123_0 := blk_frozen BK305.out 0; have hfz123_1 := blk_frozen BK305.out 1; have hfz123_2 := blk_frozen BK305.out 2; have hcz124_0 : w119.cell? ⟨gb262, 0, none⟩ = some (.int .i8 t259) := (blk_cell BK262.out 0).trans rfl; have hcz124_1 : w119.cell? ⟨gb262, 1, none⟩ = some (.int .i8 t260) := (blk_cell BK262.out 1).trans rfl; have hcz124_2 : w119.cell? ⟨gb262, 2, none⟩ = some (.int .i8 t261) := (blk_cell BK262.out 2).trans rfl; have hfz124_0 := blk_frozen BK262.out 0; have hfz124_1 := blk_frozen BK262.out 1; have hfz124_2 := blk_frozen BK262.out 2) | (go_at_call 49; (with_reducible refine (spec_MoreLight.calls t259 t260 t261 (wrap64 (2 * t292)) t306 t307 t308 t309 _ A110.out).mono ?_); rintro e w125 ⟨rfl, hb⟩; have n0_ := Aside0.mk (Kd.R_below (by (with_reducible repeat (first | apply Kd.R_alloc | apply Kd.R_drewN | apply Kd.R_drew)); exact (Kd.R_mono (Kd.R_far (p := ⟨gb305, 2, none⟩) (Kd.R_far (p := ⟨gb305, 1, none⟩) (Kd.R_far (p := ⟨gb305, 0, none⟩) (Kd.R_types HO300.out BK305.out (by decide)) (fun _ hk => hk.2) (.int .i8 t301)) (fun _ hk => hk.2) (.int .i8 t302)) (fun _ hk => hk.2) (.int .i8 t303)) (fun _ h_ => h_.1))) hb); have n1_ := Aside0.mk (blk_below (g := gb262) (o := .cells #[.int .i8 t259, .int .i8 t260, .int .i8 t261] 41 (0, 0)) (by (with_reducible repeat (first | refine blk_drewN ?_ _ | refine blk_drew ?_ | refine blk_alloc ?_ _)); refine blk_far ?_ NB262_305.out _; (with_reducible repeat (first | refine blk_drewN ?_ _ | refine blk_drew ?_ | refine blk_alloc ?_ _)); refine blk_far ?_ NB262_305.out _; (with_reducible repeat (first | refine blk_drewN ?_ _ | refine blk_drew ?_ | refine blk_alloc ?_ _)); refine blk_far ?_ NB262_305.out _; (with_reducible repeat (first | refine blk_drewN ?_ _ | refine blk_drew ?_ | refine blk_alloc ?_ _)); exact BK262.out) hb); have n2_ := Aside0.mk (blk_below (g := gb271) (o := .cells #[.int .i8 t267, .int .i8 t268, .int .i8 t269] 41 (0, 0)) (by (with_reducible repeat (first | refine blk_drewN ?_ _ | refine blk_drew ?_ | refine blk_alloc ?_ _)); refine blk_far ?_ NB271_305.out _; (with_reducible repeat (first | refine blk_drewN ?_ _ | refine blk_drew ?_ | refine blk_alloc ?_ _)); refine blk_far ?_ NB271_305.out _; (with_reducible repeat (first | refine blk_drewN ?_ _ | refine blk_drew ?_ | refine blk_alloc ?_ _)); refine blk_far ?_ NB271_305.out _; (with_reducible repeat (first | refine blk_drewN ?_ _ | refine blk_drew ?_ | refine blk_alloc ?_ _)); exact BK271.out) hb); have n3_ := Aside0.mk (blk_below (g := gb276) (o := .cells #[.int .i8 t272, .int .i8 t273, .int .i8 t274] 41 (0, 0)) (by (with_reducible repeat (first | refine blk_drewN ?_ _ | refine blk_drew ?_ | refine blk_alloc ?_ _)); refine blk_far ?_ NB276_305.out _; (with_reducible repeat (first | refine blk_drewN ?_ _ | refine blk_drew ?_ | refine blk_alloc ?_ _)); refine blk_far ?_ NB276_305.out _; (with_reducible repeat (first | refine blk_drewN ?_ _ | refine blk_drew ?_ | refine blk_alloc ?_ _)); refine blk_far ?_ NB276_305.out _; (with_reducible repeat (first | refine blk_drewN ?_ _ | refine blk_drew ?_ | refine blk_alloc ?_ _)); exact BK276.out) hb); have n4_ := Aside0.mk (blk_below (g := gb305) (o := .cells #[.int .i8 t301, .int .i8 t302, .int .i8 t303] 41 (0, 0)) (by (with_reducible repeat (first | refine blk_drewN ?_ _ | refine blk_drew ?_ | refine blk_alloc ?_ _)); refine blk_put (cs := #[.int .i8 t301, .int .i8 t302, .int .i8 0]) ?_ 2 _ rfl; (with_reducible repeat (first | refine blk_drewN ?_ _ | refine blk_drew ?_ | refine blk_alloc ?_ _)); refine blk_put (cs := #[.int .i8 t301, .int .i8 0, .int .i8 0]) ?_ 1 _ rfl; (with_reducible repeat (first | refine blk_drewN ?_ _ | refine blk_drew ?_ | refine blk_alloc ?_ _)); refine blk_put (cs := #[.int .i8 0, .int .i8 0, .int .i8 0]) ?_ 0 _ rfl; (with_reducible repeat (first | refine blk_drewN ?_ _ | refine blk_drew ?_ | refine blk_alloc ?_ _)); exact BK305.out) hb); have n5_ := Aside0.mk (below_step (by repeat (first | (with_reducible first | exact HB.out | apply below_alloc | apply pw_below_drewN | apply below_drew1 | refine below_set ?_ GE262.out | refine below_set ?_ GE271.out | refine below_set ?_ GE276.out | refine below_set ?_ GE305.out) | exact HB.out)) hb); clear HO300; clear BK262; clear BK271; clear BK276; clear BK305; clear HB; have HO300 := n0_; have BK262 := n1_; have BK271 := n2_; have BK276 := n3_; have BK305 := n4_; have HB := n5_; clear n0_ n1_ n2_ n3_ n4_ n5_; (try clear hb); (try clear hb2); (try clear hk); (try clear hi)) | ((with_reducible refine gate_dst (N := 33) rfl ?_); refine box_event ?hg (N := 33) ?hd (cs := #[.int .i8 0, .int .i8 0, .int .i8 0]) (t := 41) ?hr ?_; (case hd => rfl); (case hg => rfl); (case hr => first | (go_simp; done) | (go_simp; rfl)); intro gb310 hg w126 hbox hb; have n0_ := Aside0.mk (Kd.R_below (by (with_reducible repeat (first | apply Kd.R_alloc | apply Kd.R_drewN | apply Kd.R_drew)); exact HO300.out) hb); have n1_ := Aside0.mk (blk_below (g := gb262) (o := .cells #[.int .i8 t259, .int .i8 t260, .int .i8 t261] 41 (0, 0)) (by (with_reducible repeat (first | refine blk_drewN ?_ _ | refine blk_drew ?_ | refine blk_alloc ?_ _)); exact BK262.out) hb); have n2_ := Aside0.mk (blk_below (g := gb271) (o := .cells #[.int .i8 t267, .int .i8 t268, .int .i8 t269] 41 (0, 0)) (by (with_reducible repeat (first | refine blk_drewN ?_ _ | refine blk_drew ?_ | refine blk_alloc ?_ _)); exact BK271.out) hb); have n3_ := Aside0.mk (blk_below (g := gb276) (o := .cells #[.int .i8 t272, .int .i8 t273, .int .i8 t274] 41 (0, 0)) (by (with_reducible repeat (first | refine blk_drewN ?_ _ | refine blk_drew ?_ | refine blk_alloc ?_ _)); exact BK276.out) hb); have n4_ := Aside0.mk (blk_below (g := gb305) (o := .cells #[.int .i8 t301, .int .i8 t302, .int .i8 t303] 41 (0, 0)) (by (with_reducible repeat (first | refine blk_drewN ?_ _ | refine blk_drew ?_ | refine blk_alloc ?_ _)); exact BK305.out) hb); have n5_ := Aside0.mk (below_step (by repeat (first | (with_reducible first | exact HB.out | apply below_alloc | apply pw_below_drewN | apply below_drew1 | refine below_set ?_ GE262.out | refine below_set ?_ GE271.out | refine below_set ?_ GE276.out | refine below_set ?_ GE305.out) | exact HB.out)) hb); have n6_ := Aside0.mk (hbox); have n7_ := Aside0.mk ((by rw [hg]; exact (below_size (by repeat (first | (with_reducible first | exact HB.out | apply below_alloc | apply pw_below_drewN | apply below_drew1 | refine below_set ?_ GE262.out | refine below_set ?_ GE271.out | refine below_set ?_ GE276.out | refine below_set ?_ GE305.out) | exact HB.out))) : w.heap.size ≤ gb310)); have n8_ := Aside0.mk ((by rw [hg]; exact (below_size (by repeat (first | (with_reducible first | exact HB.out | apply below_alloc | apply pw_below_drewN | apply below_drew1 | refine below_set ?_ GE262.out | refine below_set ?_ GE271.out | refine below_set ?_ GE276.out | refine below_set ?_ GE305.out) | exact HB.out))) : w.heap.size ≤ gb310)); have n9_ := Aside0.mk ((by rw [hg]; exact Nat.ne_of_lt (blk_lt (g := gb262) (o := .cells #[.int .i8 t259, .int .i8 t260, .int .i8 t261] 41 (0, 0)) (by (with_reducible repeat (first | refine blk_drewN ?_ _ | refine blk_drew ?_ | refine blk_alloc ?_ _)); exact BK262.out)) : gb262 ≠ gb310)); have n10_ := Aside0.mk ((by rw [hg]; exact Nat.ne_of_gt (blk_lt (g := gb262) (o := .cells #[.int .i8 t259, .int .i8 t260, .int .i8 t261] 41 (0, 0)) (by (with_reducible repeat (first | refine blk_drewN ?_ _ | refine blk_drew ?_ | refine blk_alloc ?_ _)); exact BK262.out)) : gb310 ≠ gb262)); have n11_ := Aside0.mk ((by rw [hg]; exact Nat.ne_of_lt (blk_lt (g := gb271) (o := .cells #[.int .i8 t267, .int .i8 t268, .int .i8 t269] 41 (0, 0)) (by (with_reducible repeat (first | refine blk_drewN ?_ _ | refine blk_drew ?_ | refine blk_alloc ?_ _)); exact BK271.out)) : gb271 ≠ gb310)); have n12_ := Aside0.mk ((by rw [hg]; exact Nat.ne_of_gt (blk_lt (g := gb271) (o := .cells #[.int .i8 t267, .int .i8 t268, .int .i8 t269] 41 (0, 0)) (by (with_reducible repeat (first | refine blk_drewN ?_ _ | refine blk_drew ?_ | refine blk_alloc ?_ _)); exact BK271.out)) : gb310 ≠ gb271)); have n13_ := Aside0.mk ((by rw [hg]; exact Nat.ne_of_lt (blk_lt (g := gb276) (o := .cells #[.int .i8 t272, .int .i8 t273, .int .i8 t274] 41 (0, 0)) (by (with_reducible repeat (first | refine blk_drewN ?_ _ | refine blk_drew ?_ | refine blk_alloc ?_ _)); exact BK276.out)) : gb276 ≠ gb310)); have n14_ := Aside0.mk ((by rw [hg]; exact Nat.ne_of_gt (blk_lt (g := gb276) (o := .cells #[.int .i8 t272, .int .i8 t273, .int .i8 t274] 41 (0, 0)) (by (with_reducible repeat (first | refine blk_drewN ?_ _ | refine blk_drew ?_ | refine blk_alloc ?_ _)); exact BK276.out)) : gb310 ≠ gb276)); have n15_ := Aside0.mk ((by rw [hg]; exact Nat.ne_of_lt (blk_lt (g := gb305) (o := .cells #[.int .i8 t301, .int .i8 t302, .int .i8 t303] 41 (0, 0)) (by (with_reducible repeat (first | refine blk_drewN ?_ _ | refine blk_drew ?_ | refine blk_alloc ?_ _)); exact BK305.out)) : gb305 ≠ gb310)); have n16_ := Aside0.mk ((by rw [hg]; exact Nat.ne_of_gt (blk_lt (g := gb305) (o := .cells #[.int .i8 t301, .int .i8 t302, .int .i8 t303] 41 (0, 0)) (by (with_reducible repeat (first | refine blk_drewN ?_ _ | refine blk_drew ?_ | refine blk_alloc ?_ _)); exact BK305.out)) : gb310 ≠ gb305)); clear HO300; clear BK262; clear BK271; clear BK276; clear BK305; clear HB; have HO300 := n0_; have BK262 := n1_; have BK271 := n2_; have BK276 := n3_; have BK305 := n4_; have HB := n5_; have BK310 := n6_; have GW310 := n7_; have GE310 := n8_; have NB262_310 := n9_; have NB310_262 := n10_; have NB271_310 := n11_; have NB310_271 := n12_; have NB276_310 := n13_; have NB310_276 := n14_; have NB305_310 := n15_; have NB310_305 := n16_; clear n0_ n1_ n2_ n3_ n4_ n5_ n6_ n7_ n8_ n9_ n10_ n11_ n12_ n13_ n14_ n15_ n16_; clear hb hbox hg; have hnb127 := NB310_262.out; have hnc127 := NB262_310.out; have hnb128 := NB310_271.out; have hnc128 := NB271_310.out; have hnb129 := NB310_276.out; have hnc129 := NB276_310.out; have hnb130 := NB310_305.out; have hnc130 := NB305_310.out; have hcz131_0 : w126.cell? ⟨gb310, 0, none⟩ = some (.int .i8 0) := (blk_cell BK310.out 0).trans rfl; have hcz131_1 : w126.cell? ⟨gb310, 1, none⟩ = some (.int .i8 0) := (blk_cell BK310.out 1).trans rfl; have hcz131_2 : w126.cell? ⟨gb310, 2, none⟩ = some (.int .i8 0) := (blk_cell BK310.out 2).trans rfl; have hfz131_0 := blk_frozen BK310.out 0; have hfz131_1 := blk_frozen BK310.out 1; have hfz131_2 := blk_frozen BK310.out 2; have hcz132_0 : w126.cell? ⟨gb305, 0, none⟩ = some (.int .i8 t301) := (blk_cell BK305.out 0).trans rfl; have hcz132_1 : w126.cell? ⟨gb305, 1, none⟩ = some (.int .i8 t302) := (blk_cell BK305.out 1).trans rfl; have hcz132_2 : w126.cell? ⟨gb305, 2, none⟩ = some (.int .i8 t303) := (blk_cell BK305.out 2).trans rfl; have hfz132_0 := blk_frozen BK305.out 0; have hfz132_1 := blk_frozen BK305.out 1; have hfz132_2 := blk_frozen BK305.out 2)))
                                  go_ret
                                  exact ⟨by first | rfl | (simp [errW_none, errW_some] <;> rfl) | (simp [*, errW_none, errW_some] <;> rfl), by repeat (first | (with_reducible first | exact HB.out | apply below_alloc | apply pw_below_drewN | apply below_drew1 | refine below_set ?_ GE262.out | refine below_set ?_ GE271.out | refine below_set ?_ GE276.out | refine below_set ?_ GE305.out | refine below_set ?_ GE310.out) | exact HB.out)⟩
                                · rw [if_neg c111] at H
                                  exact absurd H (by simp)

/-- THE ONE PURE STATEMENT of laws_FnLong: yours. -/
def laws_FnLong.Pure : Prop := ∀ (l0 : List Int) (l1 : List Int), l0.length ≤ maxLen → l0.length * 1 ≤ 140737488351232 → (∀ x ∈ l0, (Lit.int .u8 x).wf = true) → l1.length ≤ maxLen → l1.length * 1 ≤ 140737488351232 → (∀ x ∈ l1, (Lit.int .u8 x).wf = true) → ∃ k, laws_FnLong.f k l0 l1 = some true
theorem laws_FnLong.walk (P : laws_FnLong.Pure) (a0 : Option Addr) (len0 cap0 : Nat) (z0 : List Int) (a1 : Option Addr) (len1 cap1 : Nat) (z1 : List Int) (w : World) (w0 : (a0 = none ∧ len0 = 0 ∧ cap0 = 0 ∧ z0 = []) ∨ ∃ x, a0 = some x ∧ len0 ≤ cap0 ∧ cap0 ≤ maxLen ∧ z0.length = cap0 ∧ (∀ i, i < z0.length → w.cell? (x.add i) = some (.int .u8 (z0.getD i 0))) ∧ ∀ n ∈ z0, (Lit.int .u8 n).wf = true) (y0 : len0 * 1 ≤ 140737488351232) (w1 : (a1 = none ∧ len1 = 0 ∧ cap1 = 0 ∧ z1 = []) ∨ ∃ x, a1 = some x ∧ len1 ≤ cap1 ∧ cap1 ≤ maxLen ∧ z1.length = cap1 ∧ (∀ i, i < z1.length → w.cell? (x.add i) = some (.int .u8 (z1.getD i 0))) ∧ ∀ n ∈ z1, (Lit.int .u8 n).wf = true) (y1 : len1 * 1 ≤ 140737488351232) :
    Calls Try.prog 11 #[.slice a0 len0 cap0, .slice a1 len1 cap1] w fun e w' => e = .returned (.bool true) ∧ Below w.heap.size w w' := by
  obtain ⟨l0, rfl, hr0, hm0, hw0, hc0⟩ := ReadsInt.ofRowC w0
  obtain ⟨l1, rfl, hr1, hm1, hw1, hc1⟩ := ReadsInt.ofRowC w1
  obtain ⟨k, h⟩ := P l0 l1 hm0 y0 hw0 hm1 y1 hw1
  refine (laws_FnLong.calls k _ _ l0 _ _ l1 true w (Kd.C_of_reads (d := (0 : Int)) (h1 := fun _ => rfl) hr0) hc0 (Kd.C_of_reads (d := (0 : Int)) (h1 := fun _ => rfl) hr1) hc1 h).mono ?_
  rintro e w' ⟨rfl, hd⟩
  exact ⟨rfl, hd⟩

end Go.Proofs.Ytclneihcbnbmbaa.PFnLong
