/- Proves what functions that a law reaches come to, one contract each; no conditions beyond those that each names. Printed by a program of this session (xprint) out of the translation. -/
import Derived.Test.YtglgfobfmcipoaaPFnTimesx0
import Derived.Test.YtglgfobfmcipoaaPFnTimesx1
import Derived.Test.YtglgfobfmcipoaaPFnTimesx2
namespace Go.Proofs.Ytglgfobfmcipoaa.PFnTimes
open Go.RowKit Go.Proofs.YtglgfobfmcipoaaW.PrintWords Go.Proofs.YtglgfobfmcipoaaW.PrintLast Go.Proofs.YtglgfobfmcipoaaW.PrintMore
attribute [local go_sem] max2_int min2_int max_two min_two max_three min_three max_four min_four   -- for this text's walks alone
set_option linter.unusedVariables false
set_option linter.unusedSimpArgs false

/-! ### laws_FnTimes: function 14 -/
mutual
def laws_FnTimes.j0 : Nat → List Int → List Int → Bool → Option (Bool)
  | 0, _, _, _ => none
  | k + 1, x0, x1, x46 => if x46 = true then (some true) else ((spec_P6Pick.f x0 36).bind fun t161 => ((impl_TimeOf.f t161).bind fun bt162 => ((impl_TimeOf.f (wrap64 (t161 + 1))).bind fun bt164 => ((spec_TimeOf.f t161).bind fun bt166 => ((impl_TimesOf.f k (([t161, wrap64 (t161 + 1), t161] : List Int))).bind fun bt171 => ((impl_ThirdsIn.f k bt162.1).bind fun bt173 => ((impl_NearestThirds.f k bt162.1).bind fun bt175 => (if bt162.2 = bt166.2 then (if bt162.2 = 0 then (if bt162.1 = bt166.1 then (if bt164.2 = 0 then (if bt164.1 ≤ bt166.1 then (none) else (if bt171.2 = 0 then (if bt171.1 = (wrap64 ((wrap64 (2 * bt166.1)) + bt164.1)) then (if bt173.2 = 0 then (if bt173.1 = t161 then (if bt175.2 = 0 then (laws_FnTimes.j1 k x0 x1 t161 bt166.1 (bt175.1 != t161)) else (none)) else (none)) else (none)) else (none)) else (none))) else (none)) else (none)) else (none)) else (none)))))))))
def laws_FnTimes.j1 : Nat → List Int → List Int → Int → Int → Bool → Option (Bool)
  | 0, _, _, _, _, _ => none
  | k + 1, x0, x1, x5, x10, x134 => if x134 = true then (none) else (if (wrap64 (x5 + 3)) ≤ 36 then ((impl_TimeOf.f (wrap64 (x5 + 3))).bind fun bt177 => (if bt177.2 = 0 then (if bt177.1 = (wrap64 (2 * x10)) then (laws_FnTimes.j2 k x0 x1 x5) else (none)) else (none))) else (laws_FnTimes.j2 k x0 x1 x5))
def laws_FnTimes.j2 : Nat → List Int → List Int → Int → Option (Bool)
  | 0, _, _, _ => none
  | k + 1, x0, x1, x5 => (spec_P6Pick.f x0 22).bind fun t179 => (if 0 ≤ (IntKind.u64.wrap (wrap64 (1 + t179))) then ((spec_P6Pick.f x1 (shl .i64 1 (IntKind.u64.wrap (wrap64 (1 + t179))))).bind fun t180 => ((impl_NearestThirds.f k t180).bind fun bt181 => ((spec_NearestThirds.f k t180).bind fun bt183 => ((impl_TimeOf.f bt183.1).bind fun bt185 => (if bt181.2 = bt183.2 then (if bt181.2 = 0 then (if bt181.1 = bt183.1 then (laws_FnTimes.j3 k x1 x5 t180 bt183.1 bt185.1 (bt185.2 != 0)) else (none)) else (none)) else (none)))))) else (none))
def laws_FnTimes.j3 : Nat → List Int → Int → Int → Int → Int → Bool → Option (Bool)
  | 0, _, _, _, _, _, _ => none
  | k + 1, x1, x5, x20, x23, x25, x189 => if x189 = true then (none) else (laws_FnTimes.l0 k x1 x5 x20 x23 x25 0)
def laws_FnTimes.l0 : Nat → List Int → Int → Int → Int → Int → Int → Option (Bool)
  | 0, _, _, _, _, _, _ => none
  | k + 1, x1, x5, x20, x23, x25, x27 => if x27 ≤ 36 then ((spec_TimeOf.f x27).bind fun bt187 => (if bt187.2 = 0 then (if (mx (wrap64 (bt187.1 - x20)) (wrap64 (x20 - bt187.1))) < (mx (wrap64 (x25 - x20)) (wrap64 (x20 - x25))) then (none) else (if x27 < x23 then (laws_FnTimes.j5 k x1 x5 x20 x23 x25 x27 ((mx (wrap64 (bt187.1 - x20)) (wrap64 (x20 - bt187.1))) == (mx (wrap64 (x25 - x20)) (wrap64 (x20 - x25))))) else (laws_FnTimes.j5 k x1 x5 x20 x23 x25 x27 false))) else (none))) else ((impl_ThirdsIn.f k x20).bind fun bt189 => (if x20 < 1000 then (if bt189.2 = 6 then (laws_FnTimes.j7 k x1 x5) else (none)) else ((spec_TimeOf.f bt189.1).bind fun bt191 => (if bt189.2 = 0 then (if bt191.2 = 0 then (if bt191.1 > x20 then (none) else (laws_FnTimes.j6 k x1 x5 (decide (bt189.1 > x23)))) else (none)) else (none)))))
def laws_FnTimes.j5 : Nat → List Int → Int → Int → Int → Int → Int → Bool → Option (Bool)
  | 0, _, _, _, _, _, _, _ => none
  | k + 1, x1, x5, x20, x23, x25, x27, x239 => if x239 = true then (none) else (laws_FnTimes.l0 k x1 x5 x20 x23 x25 (wrap64 (x27 + 1)))
def laws_FnTimes.j7 : Nat → List Int → Int → Option (Bool)
  | 0, _, _ => none
  | k + 1, x1, x5 => (spec_P6Pick.f x1 60).bind fun t193 => ((impl_EnlargedBy.f k x5 (wrap64 (1 + t193)) (wrap64 (1 + t193))).bind fun bt194 => ((impl_EnlargedBy.f k x5 (wrap64 (1 + t193)) (wrap64 ((wrap64 (1 + t193)) + 1))).bind fun bt196 => ((spec_EnlargedBy.f k x5 (wrap64 (1 + t193)) (wrap64 ((wrap64 (1 + t193)) + 1))).bind fun bt198 => (if bt194.2 = 0 then (if bt194.1 = x5 then (if bt196.2 = bt198.2 then (if bt196.1 = bt198.1 then (if bt196.2 = 0 then (some (decide (bt198.1 ≥ x5))) else (some true)) else (none)) else (none)) else (none)) else (none)))))
def laws_FnTimes.j6 : Nat → List Int → Int → Bool → Option (Bool)
  | 0, _, _, _ => none
  | k + 1, x1, x5, x269 => if x269 = true then (none) else (laws_FnTimes.j7 k x1 x5)
end
def laws_FnTimes.f (k : Nat) (l0 : List Int) (l1 : List Int) : Option (Bool) := (laws_f6big.f l0).bind fun t159 => (if t159 = true then (laws_FnTimes.j0 k l0 l1 true) else ((laws_f6big.f l1).bind fun t160 => (laws_FnTimes.j0 k l0 l1 t160)))
theorem laws_FnTimes.mono_l : ∀ k, (∀ y0 y1 y2, LeO (laws_FnTimes.j0 k y0 y1 y2) (laws_FnTimes.j0 (k + 1) y0 y1 y2)) ∧ (∀ y0 y1 y2 y3 y4, LeO (laws_FnTimes.j1 k y0 y1 y2 y3 y4) (laws_FnTimes.j1 (k + 1) y0 y1 y2 y3 y4)) ∧ (∀ y0 y1 y2, LeO (laws_FnTimes.j2 k y0 y1 y2) (laws_FnTimes.j2 (k + 1) y0 y1 y2)) ∧ (∀ y0 y1 y2 y3 y4 y5, LeO (laws_FnTimes.j3 k y0 y1 y2 y3 y4 y5) (laws_FnTimes.j3 (k + 1) y0 y1 y2 y3 y4 y5)) ∧ (∀ y0 y1 y2 y3 y4 y5, LeO (laws_FnTimes.l0 k y0 y1 y2 y3 y4 y5) (laws_FnTimes.l0 (k + 1) y0 y1 y2 y3 y4 y5)) ∧ (∀ y0 y1 y2 y3 y4 y5 y6, LeO (laws_FnTimes.j5 k y0 y1 y2 y3 y4 y5 y6) (laws_FnTimes.j5 (k + 1) y0 y1 y2 y3 y4 y5 y6)) ∧ (∀ y0 y1, LeO (laws_FnTimes.j7 k y0 y1) (laws_FnTimes.j7 (k + 1) y0 y1)) ∧ (∀ y0 y1 y2, LeO (laws_FnTimes.j6 k y0 y1 y2) (laws_FnTimes.j6 (k + 1) y0 y1 y2))
  | 0 => ⟨fun _ _ _ r h => by simp [laws_FnTimes.j0] at h, fun _ _ _ _ _ r h => by simp [laws_FnTimes.j1] at h, fun _ _ _ r h => by simp [laws_FnTimes.j2] at h, fun _ _ _ _ _ _ r h => by simp [laws_FnTimes.j3] at h, fun _ _ _ _ _ _ r h => by simp [laws_FnTimes.l0] at h, fun _ _ _ _ _ _ _ r h => by simp [laws_FnTimes.j5] at h, fun _ _ r h => by simp [laws_FnTimes.j7] at h, fun _ _ _ r h => by simp [laws_FnTimes.j6] at h⟩
  | k + 1 => by
    obtain ⟨ih0, ih1, ih2, ih3, ih4, ih5, ih6, ih7⟩ := laws_FnTimes.mono_l k
    refine ⟨?_, ?_, ?_, ?_, ?_, ?_, ?_, ?_⟩
    · intro y0 y1 y2
      unfold laws_FnTimes.j0
      repeat' first
      | (with_reducible exact ih0 _ _ _)
      | (with_reducible exact ih1 _ _ _ _ _)
      | (with_reducible exact ih2 _ _ _)
      | (with_reducible exact ih3 _ _ _ _ _ _)
      | (with_reducible exact ih4 _ _ _ _ _ _)
      | (with_reducible exact ih5 _ _ _ _ _ _ _)
      | (with_reducible exact ih6 _ _)
      | (with_reducible exact ih7 _ _ _)
      | (with_reducible exact impl_EnlargedBy.mono _ _ _ _)
      | (with_reducible exact impl_NearestThirds.mono _ _)
      | (with_reducible exact impl_ThirdsIn.mono _ _)
      | (with_reducible exact impl_TimesOf.mono _ _)
      | (with_reducible exact spec_EnlargedBy.mono _ _ _ _)
      | (with_reducible exact spec_NearestThirds.mono _ _)
      | (with_reducible exact LeO.refl _)
      | (with_reducible exact LeO.none _)
      | (with_reducible refine LeO.ite ?_ ?_)
      | (with_reducible refine LeO.bind ?_ (fun _ => ?_))
      | exact ih0 _ _ _
      | exact ih1 _ _ _ _ _
      | exact ih2 _ _ _
      | exact ih3 _ _ _ _ _ _
      | exact ih4 _ _ _ _ _ _
      | exact ih5 _ _ _ _ _ _ _
      | exact ih6 _ _
      | exact ih7 _ _ _
      | exact impl_EnlargedBy.mono _ _ _ _
      | exact impl_NearestThirds.mono _ _
      | exact impl_ThirdsIn.mono _ _
      | exact impl_TimesOf.mono _ _
      | exact spec_EnlargedBy.mono _ _ _ _
      | exact spec_NearestThirds.mono _ _
      | exact LeO.none _
      | refine LeO.ite ?_ ?_
      | refine LeO.bind ?_ (fun _ => ?_)
    · intro y0 y1 y2 y3 y4
      unfold laws_FnTimes.j1
      repeat' first
      | (with_reducible exact ih0 _ _ _)
      | (with_reducible exact ih1 _ _ _ _ _)
      | (with_reducible exact ih2 _ _ _)
      | (with_reducible exact ih3 _ _ _ _ _ _)
      | (with_reducible exact ih4 _ _ _ _ _ _)
      | (with_reducible exact ih5 _ _ _ _ _ _ _)
      | (with_reducible exact ih6 _ _)
      | (with_reducible exact ih7 _ _ _)
      | (with_reducible exact impl_EnlargedBy.mono _ _ _ _)
      | (with_reducible exact impl_NearestThirds.mono _ _)
      | (with_reducible exact impl_ThirdsIn.mono _ _)
      | (with_reducible exact impl_TimesOf.mono _ _)
      | (with_reducible exact spec_EnlargedBy.mono _ _ _ _)
      | (with_reducible exact spec_NearestThirds.mono _ _)
      | (with_reducible exact LeO.refl _)
      | (with_reducible exact LeO.none _)
      | (with_reducible refine LeO.ite ?_ ?_)
      | (with_reducible refine LeO.bind ?_ (fun _ => ?_))
      | exact ih0 _ _ _
      | exact ih1 _ _ _ _ _
      | exact ih2 _ _ _
      | exact ih3 _ _ _ _ _ _
      | exact ih4 _ _ _ _ _ _
      | exact ih5 _ _ _ _ _ _ _
      | exact ih6 _ _
      | exact ih7 _ _ _
      | exact impl_EnlargedBy.mono _ _ _ _
      | exact impl_NearestThirds.mono _ _
      | exact impl_ThirdsIn.mono _ _
      | exact impl_TimesOf.mono _ _
      | exact spec_EnlargedBy.mono _ _ _ _
      | exact spec_NearestThirds.mono _ _
      | exact LeO.none _
      | refine LeO.ite ?_ ?_
      | refine LeO.bind ?_ (fun _ => ?_)
    · intro y0 y1 y2
      unfold laws_FnTimes.j2
      repeat' first
      | (with_reducible exact ih0 _ _ _)
      | (with_reducible exact ih1 _ _ _ _ _)
      | (with_reducible exact ih2 _ _ _)
      | (with_reducible exact ih3 _ _ _ _ _ _)
      | (with_reducible exact ih4 _ _ _ _ _ _)
      | (with_reducible exact ih5 _ _ _ _ _ _ _)
      | (with_reducible exact ih6 _ _)
      | (with_reducible exact ih7 _ _ _)
      | (with_reducible exact impl_EnlargedBy.mono _ _ _ _)
      | (with_reducible exact impl_NearestThirds.mono _ _)
      | (with_reducible exact impl_ThirdsIn.mono _ _)
      | (with_reducible exact impl_TimesOf.mono _ _)
      | (with_reducible exact spec_EnlargedBy.mono _ _ _ _)
      | (with_reducible exact spec_NearestThirds.mono _ _)
      | (with_reducible exact LeO.refl _)
      | (with_reducible exact LeO.none _)
      | (with_reducible refine LeO.ite ?_ ?_)
      | (with_reducible refine LeO.bind ?_ (fun _ => ?_))
      | exact ih0 _ _ _
      | exact ih1 _ _ _ _ _
      | exact ih2 _ _ _
      | exact ih3 _ _ _ _ _ _
      | exact ih4 _ _ _ _ _ _
      | exact ih5 _ _ _ _ _ _ _
      | exact ih6 _ _
      | exact ih7 _ _ _
      | exact impl_EnlargedBy.mono _ _ _ _
      | exact impl_NearestThirds.mono _ _
      | exact impl_ThirdsIn.mono _ _
      | exact impl_TimesOf.mono _ _
      | exact spec_EnlargedBy.mono _ _ _ _
      | exact spec_NearestThirds.mono _ _
      | exact LeO.none _
      | refine LeO.ite ?_ ?_
      | refine LeO.bind ?_ (fun _ => ?_)
    · intro y0 y1 y2 y3 y4 y5
      unfold laws_FnTimes.j3
      repeat' first
      | (with_reducible exact ih0 _ _ _)
      | (with_reducible exact ih1 _ _ _ _ _)
      | (with_reducible exact ih2 _ _ _)
      | (with_reducible exact ih3 _ _ _ _ _ _)
      | (with_reducible exact ih4 _ _ _ _ _ _)
      | (with_reducible exact ih5 _ _ _ _ _ _ _)
      | (with_reducible exact ih6 _ _)
      | (with_reducible exact ih7 _ _ _)
      | (with_reducible exact impl_EnlargedBy.mono _ _ _ _)
      | (with_reducible exact impl_NearestThirds.mono _ _)
      | (with_reducible exact impl_ThirdsIn.mono _ _)
      | (with_reducible exact impl_TimesOf.mono _ _)
      | (with_reducible exact spec_EnlargedBy.mono _ _ _ _)
      | (with_reducible exact spec_NearestThirds.mono _ _)
      | (with_reducible exact LeO.refl _)
      | (with_reducible exact LeO.none _)
      | (with_reducible refine LeO.ite ?_ ?_)
      | (with_reducible refine LeO.bind ?_ (fun _ => ?_))
      | exact ih0 _ _ _
      | exact ih1 _ _ _ _ _
      | exact ih2 _ _ _
      | exact ih3 _ _ _ _ _ _
      | exact ih4 _ _ _ _ _ _
      | exact ih5 _ _ _ _ _ _ _
      | exact ih6 _ _
      | exact ih7 _ _ _
      | exact impl_EnlargedBy.mono _ _ _ _
      | exact impl_NearestThirds.mono _ _
      | exact impl_ThirdsIn.mono _ _
      | exact impl_TimesOf.mono _ _
      | exact spec_EnlargedBy.mono _ _ _ _
      | exact spec_NearestThirds.mono _ _
      | exact LeO.none _
      | refine LeO.ite ?_ ?_
      | refine LeO.bind ?_ (fun _ => ?_)
    · intro y0 y1 y2 y3 y4 y5
      unfold laws_FnTimes.l0
      repeat' first
      | (with_reducible exact ih0 _ _ _)
      | (with_reducible exact ih1 _ _ _ _ _)
      | (with_reducible exact ih2 _ _ _)
      | (with_reducible exact ih3 _ _ _ _ _ _)
      | (with_reducible exact ih4 _ _ _ _ _ _)
      | (with_reducible exact ih5 _ _ _ _ _ _ _)
      | (with_reducible exact ih6 _ _)
      | (with_reducible exact ih7 _ _ _)
      | (with_reducible exact impl_EnlargedBy.mono _ _ _ _)
      | (with_reducible exact impl_NearestThirds.mono _ _)
      | (with_reducible exact impl_ThirdsIn.mono _ _)
      | (with_reducible exact impl_TimesOf.mono _ _)
      | (with_reducible exact spec_EnlargedBy.mono _ _ _ _)
      | (with_reducible exact spec_NearestThirds.mono _ _)
      | (with_reducible exact LeO.refl _)
      | (with_reducible exact LeO.none _)
      | (with_reducible refine LeO.ite ?_ ?_)
      | (with_reducible refine LeO.bind ?_ (fun _ => ?_))
      | exact ih0 _ _ _
      | exact ih1 _ _ _ _ _
      | exact ih2 _ _ _
      | exact ih3 _ _ _ _ _ _
      | exact ih4 _ _ _ _ _ _
      | exact ih5 _ _ _ _ _ _ _
      | exact ih6 _ _
      | exact ih7 _ _ _
      | exact impl_EnlargedBy.mono _ _ _ _
      | exact impl_NearestThirds.mono _ _
      | exact impl_ThirdsIn.mono _ _
      | exact impl_TimesOf.mono _ _
      | exact spec_EnlargedBy.mono _ _ _ _
      | exact spec_NearestThirds.mono _ _
      | exact LeO.none _
      | refine LeO.ite ?_ ?_
      | refine LeO.bind ?_ (fun _ => ?_)
    · intro y0 y1 y2 y3 y4 y5 y6
      unfold laws_FnTimes.j5
      repeat' first
      | (with_reducible exact ih0 _ _ _)
      | (with_reducible exact ih1 _ _ _ _ _)
      | (with_reducible exact ih2 _ _ _)
      | (with_reducible exact ih3 _ _ _ _ _ _)
      | (with_reducible exact ih4 _ _ _ _ _ _)
      | (with_reducible exact ih5 _ _ _ _ _ _ _)
      | (with_reducible exact ih6 _ _)
      | (with_reducible exact ih7 _ _ _)
      | (with_reducible exact impl_EnlargedBy.mono _ _ _ _)
      | (with_reducible exact impl_NearestThirds.mono _ _)
      | (with_reducible exact impl_ThirdsIn.mono _ _)
      | (with_reducible exact impl_TimesOf.mono _ _)
      | (with_reducible exact spec_EnlargedBy.mono _ _ _ _)
      | (with_reducible exact spec_NearestThirds.mono _ _)
      | (with_reducible exact LeO.refl _)
      | (with_reducible exact LeO.none _)
      | (with_reducible refine LeO.ite ?_ ?_)
      | (with_reducible refine LeO.bind ?_ (fun _ => ?_))
      | exact ih0 _ _ _
      | exact ih1 _ _ _ _ _
      | exact ih2 _ _ _
      | exact ih3 _ _ _ _ _ _
      | exact ih4 _ _ _ _ _ _
      | exact ih5 _ _ _ _ _ _ _
      | exact ih6 _ _
      | exact ih7 _ _ _
      | exact impl_EnlargedBy.mono _ _ _ _
      | exact impl_NearestThirds.mono _ _
      | exact impl_ThirdsIn.mono _ _
      | exact impl_TimesOf.mono _ _
      | exact spec_EnlargedBy.mono _ _ _ _
      | exact spec_NearestThirds.mono _ _
      | exact LeO.none _
      | refine LeO.ite ?_ ?_
      | refine LeO.bind ?_ (fun _ => ?_)
    · intro y0 y1
      unfold laws_FnTimes.j7
      repeat' first
      | (with_reducible exact ih0 _ _ _)
      | (with_reducible exact ih1 _ _ _ _ _)
      | (with_reducible exact ih2 _ _ _)
      | (with_reducible exact ih3 _ _ _ _ _ _)
      | (with_reducible exact ih4 _ _ _ _ _ _)
      | (with_reducible exact ih5 _ _ _ _ _ _ _)
      | (with_reducible exact ih6 _ _)
      | (with_reducible exact ih7 _ _ _)
      | (with_reducible exact impl_EnlargedBy.mono _ _ _ _)
      | (with_reducible exact impl_NearestThirds.mono _ _)
      | (with_reducible exact impl_ThirdsIn.mono _ _)
      | (with_reducible exact impl_TimesOf.mono _ _)
      | (with_reducible exact spec_EnlargedBy.mono _ _ _ _)
      | (with_reducible exact spec_NearestThirds.mono _ _)
      | (with_reducible exact LeO.refl _)
      | (with_reducible exact LeO.none _)
      | (with_reducible refine LeO.ite ?_ ?_)
      | (with_reducible refine LeO.bind ?_ (fun _ => ?_))
      | exact ih0 _ _ _
      | exact ih1 _ _ _ _ _
      | exact ih2 _ _ _
      | exact ih3 _ _ _ _ _ _
      | exact ih4 _ _ _ _ _ _
      | exact ih5 _ _ _ _ _ _ _
      | exact ih6 _ _
      | exact ih7 _ _ _
      | exact impl_EnlargedBy.mono _ _ _ _
      | exact impl_NearestThirds.mono _ _
      | exact impl_ThirdsIn.mono _ _
      | exact impl_TimesOf.mono _ _
      | exact spec_EnlargedBy.mono _ _ _ _
      | exact spec_NearestThirds.mono _ _
      | exact LeO.none _
      | refine LeO.ite ?_ ?_
      | refine LeO.bind ?_ (fun _ => ?_)
    · intro y0 y1 y2
      unfold laws_FnTimes.j6
      repeat' first
      | (with_reducible exact ih0 _ _ _)
      | (with_reducible exact ih1 _ _ _ _ _)
      | (with_reducible exact ih2 _ _ _)
      | (with_reducible exact ih3 _ _ _ _ _ _)
      | (with_reducible exact ih4 _ _ _ _ _ _)
      | (with_reducible exact ih5 _ _ _ _ _ _ _)
      | (with_reducible exact ih6 _ _)
      | (with_reducible exact ih7 _ _ _)
      | (with_reducible exact impl_EnlargedBy.mono _ _ _ _)
      | (with_reducible exact impl_NearestThirds.mono _ _)
      | (with_reducible exact impl_ThirdsIn.mono _ _)
      | (with_reducible exact impl_TimesOf.mono _ _)
      | (with_reducible exact spec_EnlargedBy.mono _ _ _ _)
      | (with_reducible exact spec_NearestThirds.mono _ _)
      | (with_reducible exact LeO.refl _)
      | (with_reducible exact LeO.none _)
      | (with_reducible refine LeO.ite ?_ ?_)
      | (with_reducible refine LeO.bind ?_ (fun _ => ?_))
      | exact ih0 _ _ _
      | exact ih1 _ _ _ _ _
      | exact ih2 _ _ _
      | exact ih3 _ _ _ _ _ _
      | exact ih4 _ _ _ _ _ _
      | exact ih5 _ _ _ _ _ _ _
      | exact ih6 _ _
      | exact ih7 _ _ _
      | exact impl_EnlargedBy.mono _ _ _ _
      | exact impl_NearestThirds.mono _ _
      | exact impl_ThirdsIn.mono _ _
      | exact impl_TimesOf.mono _ _
      | exact spec_EnlargedBy.mono _ _ _ _
      | exact spec_NearestThirds.mono _ _
      | exact LeO.none _
      | refine LeO.ite ?_ ?_
      | refine LeO.bind ?_ (fun _ => ?_)
theorem laws_FnTimes.mono : ∀ a0 a1 k, LeO (laws_FnTimes.f k a0 a1) (laws_FnTimes.f (k + 1) a0 a1) := by
  intro a0 a1 k
  obtain ⟨ih0, ih1, ih2, ih3, ih4, ih5, ih6, ih7⟩ := laws_FnTimes.mono_l k
  unfold laws_FnTimes.f
  repeat' first
      | (with_reducible exact ih0 _ _ _)
      | (with_reducible exact ih1 _ _ _ _ _)
      | (with_reducible exact ih2 _ _ _)
      | (with_reducible exact ih3 _ _ _ _ _ _)
      | (with_reducible exact ih4 _ _ _ _ _ _)
      | (with_reducible exact ih5 _ _ _ _ _ _ _)
      | (with_reducible exact ih6 _ _)
      | (with_reducible exact ih7 _ _ _)
      | (with_reducible exact impl_EnlargedBy.mono _ _ _ _)
      | (with_reducible exact impl_NearestThirds.mono _ _)
      | (with_reducible exact impl_ThirdsIn.mono _ _)
      | (with_reducible exact impl_TimesOf.mono _ _)
      | (with_reducible exact spec_EnlargedBy.mono _ _ _ _)
      | (with_reducible exact spec_NearestThirds.mono _ _)
      | (with_reducible exact LeO.refl _)
      | (with_reducible exact LeO.none _)
      | (with_reducible refine LeO.ite ?_ ?_)
      | (with_reducible refine LeO.bind ?_ (fun _ => ?_))
      | exact ih0 _ _ _
      | exact ih1 _ _ _ _ _
      | exact ih2 _ _ _
      | exact ih3 _ _ _ _ _ _
      | exact ih4 _ _ _ _ _ _
      | exact ih5 _ _ _ _ _ _ _
      | exact ih6 _ _
      | exact ih7 _ _ _
      | exact impl_EnlargedBy.mono _ _ _ _
      | exact impl_NearestThirds.mono _ _
      | exact impl_ThirdsIn.mono _ _
      | exact impl_TimesOf.mono _ _
      | exact spec_EnlargedBy.mono _ _ _ _
      | exact spec_NearestThirds.mono _ _
      | exact LeO.none _
      | refine LeO.ite ?_ ?_
      | refine LeO.bind ?_ (fun _ => ?_)
set_option maxHeartbeats 8000000 in
set_option maxRecDepth 100000 in
theorem laws_FnTimes.calls (k : Nat) (A0 : Option Addr) (c0 : Nat) (l0 : List Int) (A1 : Option Addr) (c1 : Nat) (l1 : List Int) (r : Bool) (w : World) (hr0 : Kd.C (Kd.int .u8) w A0 l0.length l0) (hc0 : l0.length ≤ c0) (hr1 : Kd.C (Kd.int .u8) w A1 l1.length l1) (hc1 : l1.length ≤ c1) (h : laws_FnTimes.f k l0 l1 = some r) :
    Calls Try.prog 14 #[.slice A0 l0.length c0, .slice A1 l1.length c1] w fun e w' => e = .returned (.bool r) ∧ Below w.heap.size w w' := by
  have HR0 := Aside0.mk hr0
  have HC0 := Aside0.mk hc0
  clear hr0 hc0
  have HR1 := Aside0.mk hr1
  have HC1 := Aside0.mk hc1
  clear hr1 hc1
  have HB := Aside0.mk (Below.refl w.heap.size w)
  have H : ((laws_f6big.f l0).bind fun t159 => (if t159 = true then (laws_FnTimes.j0 k l0 l1 true) else ((laws_f6big.f l1).bind fun t160 => (laws_FnTimes.j0 k l0 l1 t160)))) = some r := h
  clear h
  have HC3 := Aside0.mk H
  clear H
  go_enter Try.func14, Try.ntmps14
  go_upto_region 1 with (fail)
  go_cut [46] (fun v46 wc => ∃ (kq : Nat) (x46_2 : Bool), v46 = .bool x46_2 ∧ Aside0 (laws_FnTimes.j0 kq l0 l1 x46_2 = some r) ∧ Aside0 (kq ≤ k) ∧ Aside0 (Below w.heap.size w wc))
  case first =>
    have H := HC3.out
    clear HC3
    replace H := Option.bind_eq_some_iff.mp H
    obtain ⟨t159, A40, H⟩ := H
    replace H : (if t159 = true then (laws_FnTimes.j0 k l0 l1 true) else ((laws_f6big.f l1).bind fun t160 => (laws_FnTimes.j0 k l0 l1 t160))) = some r := H
    have A4 := Aside0.mk A40
    clear A40
    by_cases c5 : t159 = true
    · subst c5
      have H1 : (laws_FnTimes.j0 k l0 l1 true) = some r := by rw [if_pos rfl] at H; exact H
      clear H
      have H := H1
      clear H1
      have H' := Aside0.mk H
      clear H
      go_wp2_with (first | ((with_reducible refine gate_callee (f := 39) rfl ?_); refine goesL_ (some 42) rfl rfl Try.func39 (by kernel_rfl) rfl #[.slice A0 l0.length c0] rfl (by (try simp only [List.map_toArray, List.map_cons, List.map_nil]); first | done | rfl | (simp only [List.length_drop, List.length_take]; rfl)) ?_; (with_reducible refine (laws_f6big.calls _ _ l0 true _ ?side1 ?side2 A4.out).mono ?_); (case side1 => repeat (first | exact (Kd.C_below HR0.out HB.out) | (with_reducible refine Kd.C_alloc ?_ _) | (with_reducible refine Kd.C_drewN ?_ _) | (with_reducible refine Kd.C_drew ?_))); (case side2 => exact HC0.out); rintro e w' ⟨rfl, ⟨nd, rfl⟩⟩; refine ⟨_, rfl, ?_⟩))
      go_meet
      case rel => exact ⟨_, (true), (by first | rfl | (simp; done) | (simp [*]; done)), H', ⟨by first | omega | exact Nat.le_refl _⟩, ⟨by repeat (first | (with_reducible first | exact HB.out | apply below_alloc | apply pw_below_drewN | apply below_drew1) | exact HB.out)⟩⟩
    · replace c5 := Bool.eq_false_iff.mpr c5
      subst c5
      have H1 : ((laws_f6big.f l1).bind fun t160 => (laws_FnTimes.j0 k l0 l1 t160)) = some r := by rw [if_neg (show ¬ (false = true) by decide)] at H; exact H
      clear H
      have H := H1
      clear H1
      replace H := Option.bind_eq_some_iff.mp H
      obtain ⟨t160, A60, H⟩ := H
      replace H : (laws_FnTimes.j0 k l0 l1 t160) = some r := H
      have A6 := Aside0.mk A60
      clear A60
      have H' := Aside0.mk H
      clear H
      go_wp2_with (first | ((with_reducible refine gate_callee (f := 39) rfl ?_); refine goesL_ (some 42) rfl rfl Try.func39 (by kernel_rfl) rfl #[.slice A0 l0.length c0] rfl (by (try simp only [List.map_toArray, List.map_cons, List.map_nil]); first | done | rfl | (simp only [List.length_drop, List.length_take]; rfl)) ?_; (with_reducible refine (laws_f6big.calls _ _ l0 false _ ?side1 ?side2 A4.out).mono ?_); (case side1 => repeat (first | exact (Kd.C_below HR0.out HB.out) | (with_reducible refine Kd.C_alloc ?_ _) | (with_reducible refine Kd.C_drewN ?_ _) | (with_reducible refine Kd.C_drew ?_))); (case side2 => exact HC0.out); rintro e w' ⟨rfl, ⟨nd, rfl⟩⟩; refine ⟨_, rfl, ?_⟩) | (go_at_call 39; (with_reducible refine (laws_f6big.calls _ _ l1 t160 _ ?side1 ?side2 A6.out).mono ?_); (case side1 => repeat (first | exact (Kd.C_below HR1.out (by repeat (first | (with_reducible first | exact HB.out | apply below_alloc | apply pw_below_drewN | apply below_drew1) | exact HB.out))) | (with_reducible refine Kd.C_alloc ?_ _) | (with_reducible refine Kd.C_drewN ?_ _) | (with_reducible refine Kd.C_drew ?_))); (case side2 => exact HC1.out); rintro e w' ⟨rfl, ⟨nd, rfl⟩⟩))
      go_meet
      case rel => exact ⟨_, (t160), (by first | rfl | (simp; done) | (simp [*]; done)), H', ⟨by first | omega | exact Nat.le_refl _⟩, ⟨by repeat (first | (with_reducible first | exact HB.out | apply below_alloc | apply pw_below_drewN | apply below_drew1) | exact HB.out)⟩⟩
  case rest => as_aux_lemma =>
    clear HC3
    try clear c1
    try clear p2
    try clear c3
    try clear c5
    obtain ⟨kq, x46_2, rfl, HA, HJ2, HB⟩ := hcut
    cases kq with
    | zero => exact absurd HA.out (by simp [laws_FnTimes.j0])
    | succ kj2 =>
      have H := HA.out
      clear HA
      simp only [laws_FnTimes.j0] at H
      by_cases c7 : x46_2 = true
      · subst c7
        have H1 : (some true) = some r := by rw [if_pos rfl] at H; exact H
        clear H
        have H := H1
        clear H1
        obtain rfl := Option.some.inj H
        go_wp2
        go_ret
        exact ⟨by first | rfl | (simp [errW_none, errW_some] <;> rfl) | (simp [*, errW_none, errW_some] <;> rfl), by repeat (first | (with_reducible first | exact HB.out | apply below_alloc | apply pw_below_drewN | apply below_drew1) | exact HB.out)⟩
      · replace c7 := Bool.eq_false_iff.mpr c7
        subst c7
        have H1 : ((spec_P6Pick.f l0 36).bind fun t161 => ((impl_TimeOf.f t161).bind fun bt162 => ((impl_TimeOf.f (wrap64 (t161 + 1))).bind fun bt164 => ((spec_TimeOf.f t161).bind fun bt166 => ((impl_TimesOf.f kj2 (([t161, wrap64 (t161 + 1), t161] : List Int))).bind fun bt171 => ((impl_ThirdsIn.f kj2 bt162.1).bind fun bt173 => ((impl_NearestThirds.f kj2 bt162.1).bind fun bt175 => (if bt162.2 = bt166.2 then (if bt162.2 = 0 then (if bt162.1 = bt166.1 then (if bt164.2 = 0 then (if bt164.1 ≤ bt166.1 then (none) else (if bt171.2 = 0 then (if bt171.1 = (wrap64 ((wrap64 (2 * bt166.1)) + bt164.1)) then (if bt173.2 = 0 then (if bt173.1 = t161 then (if bt175.2 = 0 then (laws_FnTimes.j1 kj2 l0 l1 t161 bt166.1 (bt175.1 != t161)) else (none)) else (none)) else (none)) else (none)) else (none))) else (none)) else (none)) else (none)) else (none))))))))) = some r := by rw [if_neg (show ¬ (false = true) by decide)] at H; exact H
        clear H
        have H := H1
        clear H1
        replace H := Option.bind_eq_some_iff.mp H
        obtain ⟨t161, A80, H⟩ := H
        replace H : ((impl_TimeOf.f t161).bind fun bt162 => ((impl_TimeOf.f (wrap64 (t161 + 1))).bind fun bt164 => ((spec_TimeOf.f t161).bind fun bt166 => ((impl_TimesOf.f kj2 (([t161, wrap64 (t161 + 1), t161] : List Int))).bind fun bt171 => ((impl_ThirdsIn.f kj2 bt162.1).bind fun bt173 => ((impl_NearestThirds.f kj2 bt162.1).bind fun bt175 => (if bt162.2 = bt166.2 then (if bt162.2 = 0 then (if bt162.1 = bt166.1 then (if bt164.2 = 0 then (if bt164.1 ≤ bt166.1 then (none) else (if bt171.2 = 0 then (if bt171.1 = (wrap64 ((wrap64 (2 * bt166.1)) + bt164.1)) then (if bt173.2 = 0 then (if bt173.1 = t161 then (if bt175.2 = 0 then (laws_FnTimes.j1 kj2 l0 l1 t161 bt166.1 (bt175.1 != t161)) else (none)) else (none)) else (none)) else (none)) else (none))) else (none)) else (none)) else (none)) else (none)))))))) = some r := H
        have A8 := Aside0.mk A80
        clear A80
        replace H := Option.bind_eq_some_iff.mp H
        obtain ⟨⟨t162, t163⟩, A90, H⟩ := H
        replace H : ((impl_TimeOf.f (wrap64 (t161 + 1))).bind fun bt164 => ((spec_TimeOf.f t161).bind fun bt166 => ((impl_TimesOf.f kj2 (([t161, wrap64 (t161 + 1), t161] : List Int))).bind fun bt171 => ((impl_ThirdsIn.f kj2 t162).bind fun bt173 => ((impl_NearestThirds.f kj2 t162).bind fun bt175 => (if t163 = bt166.2 then (if t163 = 0 then (if t162 = bt166.1 then (if bt164.2 = 0 then (if bt164.1 ≤ bt166.1 then (none) else (if bt171.2 = 0 then (if bt171.1 = (wrap64 ((wrap64 (2 * bt166.1)) + bt164.1)) then (if bt173.2 = 0 then (if bt173.1 = t161 then (if bt175.2 = 0 then (laws_FnTimes.j1 kj2 l0 l1 t161 bt166.1 (bt175.1 != t161)) else (none)) else (none)) else (none)) else (none)) else (none))) else (none)) else (none)) else (none)) else (none))))))) = some r := H
        have A9 := Aside0.mk A90
        clear A90
        replace H := Option.bind_eq_some_iff.mp H
        obtain ⟨⟨t164, t165⟩, A100, H⟩ := H
        replace H : ((spec_TimeOf.f t161).bind fun bt166 => ((impl_TimesOf.f kj2 (([t161, wrap64 (t161 + 1), t161] : List Int))).bind fun bt171 => ((impl_ThirdsIn.f kj2 t162).bind fun bt173 => ((impl_NearestThirds.f kj2 t162).bind fun bt175 => (if t163 = bt166.2 then (if t163 = 0 then (if t162 = bt166.1 then (if t165 = 0 then (if t164 ≤ bt166.1 then (none) else (if bt171.2 = 0 then (if bt171.1 = (wrap64 ((wrap64 (2 * bt166.1)) + t164)) then (if bt173.2 = 0 then (if bt173.1 = t161 then (if bt175.2 = 0 then (laws_FnTimes.j1 kj2 l0 l1 t161 bt166.1 (bt175.1 != t161)) else (none)) else (none)) else (none)) else (none)) else (none))) else (none)) else (none)) else (none)) else (none)))))) = some r := H
        have A10 := Aside0.mk A100
        clear A100
        replace H := Option.bind_eq_some_iff.mp H
        obtain ⟨⟨t166, t167⟩, A110, H⟩ := H
        replace H : ((impl_TimesOf.f kj2 (([t161, wrap64 (t161 + 1), t161] : List Int))).bind fun bt171 => ((impl_ThirdsIn.f kj2 t162).bind fun bt173 => ((impl_NearestThirds.f kj2 t162).bind fun bt175 => (if t163 = t167 then (if t163 = 0 then (if t162 = t166 then (if t165 = 0 then (if t164 ≤ t166 then (none) else (if bt171.2 = 0 then (if bt171.1 = (wrap64 ((wrap64 (2 * t166)) + t164)) then (if bt173.2 = 0 then (if bt173.1 = t161 then (if bt175.2 = 0 then (laws_FnTimes.j1 kj2 l0 l1 t161 t166 (bt175.1 != t161)) else (none)) else (none)) else (none)) else (none)) else (none))) else (none)) else (none)) else (none)) else (none))))) = some r := H
        have A11 := Aside0.mk A110
        clear A110
        obtain ⟨y168, hy168⟩ : ∃ y_ : List Int, y_ = (([t161, wrap64 (t161 + 1), t161] : List Int)) := ⟨_, rfl⟩
        replace H : ((impl_TimesOf.f kj2 y168).bind fun bt171 => ((impl_ThirdsIn.f kj2 t162).bind fun bt173 => ((impl_NearestThirds.f kj2 t162).bind fun bt175 => (if t163 = t167 then (if t163 = 0 then (if t162 = t166 then (if t165 = 0 then (if t164 ≤ t166 then (none) else (if bt171.2 = 0 then (if bt171.1 = (wrap64 ((wrap64 (2 * t166)) + t164)) then (if bt173.2 = 0 then (if bt173.1 = t161 then (if bt175.2 = 0 then (laws_FnTimes.j1 kj2 l0 l1 t161 t166 (bt175.1 != t161)) else (none)) else (none)) else (none)) else (none)) else (none))) else (none)) else (none)) else (none)) else (none))))) = some r := by first | (rw [hy168]; with_reducible exact H) | (have H2_ := (Option.bind_some _ _).symm.trans H; rw [hy168]; with_reducible exact H2_) | (have H2_ := (Option.bind_some _ _).symm.trans H; with_reducible exact H2_) | with_reducible exact H | (rw [hy168]; exact H) | exact H
        have Ny168 := Aside0.mk hy168
        clear hy168
        replace H := Option.bind_eq_some_iff.mp H
        obtain ⟨⟨t171, t172⟩, A120, H⟩ := H
        replace H : ((impl_ThirdsIn.f kj2 t162).bind fun bt173 => ((impl_NearestThirds.f kj2 t162).bind fun bt175 => (if t163 = t167 then (if t163 = 0 then (if t162 = t166 then (if t165 = 0 then (if t164 ≤ t166 then (none) else (if t172 = 0 then (if t171 = (wrap64 ((wrap64 (2 * t166)) + t164)) then (if bt173.2 = 0 then (if bt173.1 = t161 then (if bt175.2 = 0 then (laws_FnTimes.j1 kj2 l0 l1 t161 t166 (bt175.1 != t161)) else (none)) else (none)) else (none)) else (none)) else (none))) else (none)) else (none)) else (none)) else (none)))) = some r := H
        have A12 := Aside0.mk A120
        clear A120
        replace H := Option.bind_eq_some_iff.mp H
        obtain ⟨⟨t173, t174⟩, A130, H⟩ := H
        replace H : ((impl_NearestThirds.f kj2 t162).bind fun bt175 => (if t163 = t167 then (if t163 = 0 then (if t162 = t166 then (if t165 = 0 then (if t164 ≤ t166 then (none) else (if t172 = 0 then (if t171 = (wrap64 ((wrap64 (2 * t166)) + t164)) then (if t174 = 0 then (if t173 = t161 then (if bt175.2 = 0 then (laws_FnTimes.j1 kj2 l0 l1 t161 t166 (bt175.1 != t161)) else (none)) else (none)) else (none)) else (none)) else (none))) else (none)) else (none)) else (none)) else (none))) = some r := H
        have A13 := Aside0.mk A130
        clear A130
        replace H := Option.bind_eq_some_iff.mp H
        obtain ⟨⟨t175, t176⟩, A140, H⟩ := H
        replace H : (if t163 = t167 then (if t163 = 0 then (if t162 = t166 then (if t165 = 0 then (if t164 ≤ t166 then (none) else (if t172 = 0 then (if t171 = (wrap64 ((wrap64 (2 * t166)) + t164)) then (if t174 = 0 then (if t173 = t161 then (if t176 = 0 then (laws_FnTimes.j1 kj2 l0 l1 t161 t166 (t175 != t161)) else (none)) else (none)) else (none)) else (none)) else (none))) else (none)) else (none)) else (none)) else (none)) = some r := H
        have A14 := Aside0.mk A140
        clear A140
        have HC15 := Aside0.mk H
        clear H
        go_upto_region 10 with (first | ((with_reducible refine gate_callee (f := 40) rfl ?_); refine goesL_ (some 48) rfl rfl Try.func40 (by kernel_rfl) rfl #[.slice A0 l0.length c0, .int .i64 36] rfl (by (try simp only [List.map_toArray, List.map_cons, List.map_nil]); first | done | rfl | (simp only [List.length_drop, List.length_take]; rfl)) ?_; (with_reducible refine (spec_P6Pick.calls _ _ l0 36 t161 _ ?side1 ?side2 A8.out).mono ?_); (case side1 => repeat (first | exact (Kd.C_below HR0.out HB.out) | (with_reducible refine Kd.C_alloc ?_ _) | (with_reducible refine Kd.C_drewN ?_ _) | (with_reducible refine Kd.C_drew ?_))); (case side2 => exact HC0.out); rintro e w16 ⟨rfl, hb⟩; refine ⟨_, rfl, ?_⟩; have n0_ := Aside0.mk (below_step (by repeat (first | (with_reducible first | exact HB.out | apply below_alloc | apply pw_below_drewN | apply below_drew1) | exact HB.out)) hb); clear HB; have HB := n0_; clear n0_; (try clear hb); (try clear hb2); (try clear hk); (try clear hi)) | ((with_reducible refine gate_callee (f := 21) rfl ?_); refine goesL_ (some 51) rfl rfl Try.func21 (by kernel_rfl) rfl #[.int .i64 t161] rfl (by (try simp only [List.map_toArray, List.map_cons, List.map_nil]); first | done | rfl | (simp only [List.length_drop, List.length_take]; rfl)) ?_; (with_reducible refine (impl_TimeOf.calls t161 t162 t163 _ A9.out).mono ?_); rintro e w' ⟨rfl, ⟨nd, rfl⟩⟩; refine ⟨_, rfl, ?_⟩) | ((with_reducible refine gate_callee (f := 21) rfl ?_); refine goesL_ (some 57) rfl rfl Try.func21 (by kernel_rfl) rfl #[.int .i64 (wrap64 (t161 + 1))] rfl (by (try simp only [List.map_toArray, List.map_cons, List.map_nil]); first | done | rfl | (simp only [List.length_drop, List.length_take]; rfl)) ?_; (with_reducible refine (impl_TimeOf.calls (wrap64 (t161 + 1)) t164 t165 _ A10.out).mono ?_); rintro e w' ⟨rfl, ⟨nd, rfl⟩⟩; refine ⟨_, rfl, ?_⟩) | ((with_reducible refine gate_callee (f := 20) rfl ?_); refine goesL_ (some 62) rfl rfl Try.func20 (by kernel_rfl) rfl #[.int .i64 t161] rfl (by (try simp only [List.map_toArray, List.map_cons, List.map_nil]); first | done | rfl | (simp only [List.length_drop, List.length_take]; rfl)) ?_; (with_reducible refine (spec_TimeOf.calls t161 t166 t167 _ A11.out).mono ?_); rintro e w17 ⟨rfl, hb⟩; refine ⟨_, rfl, ?_⟩; have n0_ := Aside0.mk (below_step (by repeat (first | (with_reducible first | exact HB.out | apply below_alloc | apply pw_below_drewN | apply below_drew1) | exact HB.out)) hb); clear HB; have HB := n0_; clear n0_; (try clear hb); (try clear hb2); (try clear hk); (try clear hi)) | ((with_reducible refine gate_dst (N := 70) rfl ?_); (try (refine gate_guard (by rfl) ?_; dsimp only)); refine Kd.R_lit (Kd.int .i64) _ 2 ?hg (N := 70) ?hd (xs := ([t161, wrap64 (t161 + 1), t161] : List Int)) (inner := [.int .i64 t161, .int .i64 (wrap64 (t161 + 1)), .int .i64 t161]) (ok := fun _ => True) (okp := fun _ => True) ?hr ?hp (fun _ hk => hk) trivial (Below.refl _ _) (Nat.le_refl _) (by simp) ?_; (case hd => rfl); (case hg => rfl); (case hr => first | (go_simp; done) | (go_simp; rfl)); (case hp => exact (Reps.one (show Kd.M (Kd.int .i64) _ _ _ t161 [.int .i64 t161] from rfl) (Reps.one (show Kd.M (Kd.int .i64) _ _ _ (wrap64 (t161 + 1)) [.int .i64 (wrap64 (t161 + 1))] from rfl) (Reps.one (show Kd.M (Kd.int .i64) _ _ _ t161 [.int .i64 t161] from rfl) (Reps.none _ _))))); intro v169 w18 ho19 hb hg_ hnew_; clear hg_ hnew_; (first | rw [← Ny168.out] at ho19 | (simp only [Int.reduceToNat] at ho19; rw [← Ny168.out] at ho19)); have n0_ := Aside0.mk (Kd.R_lower ho19 (below_size (by repeat (first | (with_reducible first | exact HB.out | apply below_alloc | apply pw_below_drewN | apply below_drew1) | exact HB.out)))); have n1_ := Aside0.mk (below_step (by repeat (first | (with_reducible first | exact HB.out | apply below_alloc | apply pw_below_drewN | apply below_drew1) | exact HB.out)) hb); clear HB; have HO170 := n0_; have HB := n1_; clear n0_ n1_; clear hb ho19; obtain ⟨Ao20, co20, eo20⟩ := Kd.R_slice HO170.out; subst eo20) | ((with_reducible refine gate_callee (f := 30) rfl ?_); refine goesL_ (some 71) rfl rfl Try.func30 (by kernel_rfl) rfl #[.slice Ao20 y168.length co20] rfl (by (try simp only [List.map_toArray, List.map_cons, List.map_nil]); first | done | rfl | (simp only [List.length_drop, List.length_take]; rfl)) ?_; (with_reducible refine (impl_TimesOf.calls kj2 _ _ y168 t171 t172 _ ?side1 ?side2 A12.out).mono ?_); (case side1 => repeat (first | exact (Kd.R_reads' HO170.out).2.2 | (with_reducible refine Kd.C_alloc ?_ _) | (with_reducible refine Kd.C_drewN ?_ _) | (with_reducible refine Kd.C_drew ?_))); (case side2 => exact (Kd.R_reads' HO170.out).2.1); rintro e w' ⟨rfl, ⟨nd, rfl⟩⟩; refine ⟨_, rfl, ?_⟩) | ((with_reducible refine gate_callee (f := 27) rfl ?_); refine goesL_ (some 76) rfl rfl Try.func27 (by kernel_rfl) rfl #[.int .i64 t162] rfl (by (try simp only [List.map_toArray, List.map_cons, List.map_nil]); first | done | rfl | (simp only [List.length_drop, List.length_take]; rfl)) ?_; (with_reducible refine (impl_ThirdsIn.calls kj2 t162 t173 t174 _ A13.out).mono ?_); rintro e w' ⟨rfl, ⟨nd, rfl⟩⟩; refine ⟨_, rfl, ?_⟩) | ((with_reducible refine gate_callee (f := 33) rfl ?_); refine goesL_ (some 81) rfl rfl Try.func33 (by kernel_rfl) rfl #[.int .i64 t162] rfl (by (try simp only [List.map_toArray, List.map_cons, List.map_nil]); first | done | rfl | (simp only [List.length_drop, List.length_take]; rfl)) ?_; (with_reducible refine (impl_NearestThirds.calls kj2 t162 t175 t176 _ A14.out).mono ?_); rintro e w21 ⟨rfl, hb⟩; refine ⟨_, rfl, ?_⟩; have n0_ := Aside0.mk (Kd.R_below (by (with_reducible repeat (first | apply Kd.R_alloc | apply Kd.R_drewN | apply Kd.R_drew)); exact HO170.out) hb); have n1_ := Aside0.mk (below_step (by repeat (first | (with_reducible first | exact HB.out | apply below_alloc | apply pw_below_drewN | apply below_drew1) | exact HB.out)) hb); clear HO170; clear HB; have HO170 := n0_; have HB := n1_; clear n0_ n1_; (try clear hb); (try clear hb2); (try clear hk); (try clear hi)))
        (try simp only [Act.put, List.setIfInBounds_toArray, List.set_cons_zero, List.set_cons_succ])
        go_cut [134] (fun v134 wc => ∃ (kq : Nat) (x134_14 : Bool), v134 = .bool x134_14 ∧ Aside0 (laws_FnTimes.j1 kq l0 l1 t161 t166 x134_14 = some r) ∧ Aside0 (kq ≤ kj2) ∧ Aside0 (Below w.heap.size w wc))
        case first =>
          have H := HC15.out
          clear HC15
          by_cases c22 : t163 = t167
          · rw [if_pos c22] at H
            have c22b0 : (t163 == t167) = true := beq_iff_eq.mpr c22
            have c22b1 : (t163 != t167) = false := bne_eq_false_iff_eq.mpr c22
            clear c22
            (first | rw [c22b0] | (simp only [i64_w, i32_w]; rw [c22b0]) | skip)
            by_cases c23 : t163 = 0
            · rw [if_pos c23] at H
              have c23b0 : (t163 == 0) = true := beq_iff_eq.mpr c23
              have c23b1 : (t163 != 0) = false := bne_eq_false_iff_eq.mpr c23
              clear c23
              by_cases c24 : t162 = t166
              · rw [if_pos c24] at H
                have c24b0 : (t162 == t166) = true := beq_iff_eq.mpr c24
                have c24b1 : (t162 != t166) = false := bne_eq_false_iff_eq.mpr c24
                clear c24
                by_cases c25 : t165 = 0
                · rw [if_pos c25] at H
                  have c25b0 : (t165 == 0) = true := beq_iff_eq.mpr c25
                  have c25b1 : (t165 != 0) = false := bne_eq_false_iff_eq.mpr c25
                  clear c25
                  by_cases c26 : t164 ≤ t166
                  · rw [if_pos c26] at H
                    exact absurd H (by simp)
                  · rw [if_neg c26] at H
                    have c26b0 : decide (t164 ≤ t166) = false := decide_eq_false c26
                    clear c26
                    by_cases c27 : t172 = 0
                    · rw [if_pos c27] at H
                      have c27b0 : (t172 == 0) = true := beq_iff_eq.mpr c27
                      have c27b1 : (t172 != 0) = false := bne_eq_false_iff_eq.mpr c27
                      clear c27
                      by_cases c28 : t171 = (wrap64 ((wrap64 (2 * t166)) + t164))
                      · rw [if_pos c28] at H
                        have c28b0 : (t171 == (wrap64 ((wrap64 (2 * t166)) + t164))) = true := beq_iff_eq.mpr c28
                        have c28b1 : (t171 != (wrap64 ((wrap64 (2 * t166)) + t164))) = false := bne_eq_false_iff_eq.mpr c28
                        clear c28
                        by_cases c29 : t174 = 0
                        · rw [if_pos c29] at H
                          have c29b0 : (t174 == 0) = true := beq_iff_eq.mpr c29
                          have c29b1 : (t174 != 0) = false := bne_eq_false_iff_eq.mpr c29
                          clear c29
                          by_cases c30 : t173 = t161
                          · rw [if_pos c30] at H
                            have c30b0 : (t173 == t161) = true := beq_iff_eq.mpr c30
                            have c30b1 : (t173 != t161) = false := bne_eq_false_iff_eq.mpr c30
                            clear c30
                            by_cases c31 : t176 = 0
                            · rw [if_pos c31] at H
                              have c31b0 : (t176 == 0) = true := beq_iff_eq.mpr c31
                              have c31b1 : (t176 != 0) = false := bne_eq_false_iff_eq.mpr c31
                              clear c31
                              have H' := Aside0.mk H
                              clear H
                              go_wp2
                              go_meet
                              case rel => exact ⟨_, ((t175 != t161)), (by first | rfl | (simp; done) | (simp [*]; done)), H', ⟨by have := HJ2.out; first | omega | exact Nat.le_refl _⟩, ⟨by repeat (first | (with_reducible first | exact HB.out | apply below_alloc | apply pw_below_drewN | apply below_drew1) | exact HB.out)⟩⟩
                            · rw [if_neg c31] at H
                              exact absurd H (by simp)
                          · rw [if_neg c30] at H
                            exact absurd H (by simp)
                        · rw [if_neg c29] at H
                          exact absurd H (by simp)
                      · rw [if_neg c28] at H
                        exact absurd H (by simp)
                    · rw [if_neg c27] at H
                      exact absurd H (by simp)
                · rw [if_neg c25] at H
                  exact absurd H (by simp)
              · rw [if_neg c24] at H
                exact absurd H (by simp)
            · rw [if_neg c23] at H
              exact absurd H (by simp)
          · rw [if_neg c22] at H
            exact absurd H (by simp)
        case rest => as_aux_lemma =>
          clear HC15
          try clear c1
          try clear c2
          try clear p2
          try clear c3
          try clear c4
          try clear c5
          try clear p6
          try clear c7
          try clear c14
          try clear c20
          try clear c21
          try clear c22
          try clear c22b0
          try clear c22b1
          try clear c23
          try clear c23b0
          try clear c23b1
          try clear c24
          try clear c24b0
          try clear c24b1
          try clear c25
          try clear c25b0
          try clear c25b1
          try clear c26
          try clear c26b0
          try clear c27
          try clear c27b0
          try clear c27b1
          try clear c28
          try clear c28b0
          try clear c28b1
          try clear c29
          try clear c29b0
          try clear c29b1
          try clear c30
          try clear c30b0
          try clear c30b1
          try clear c31
          try clear c31b0
          try clear c31b1
          try clear p2
          obtain ⟨kq, x134_14, rfl, HA, HJ14, HB⟩ := hcut
          cases kq with
          | zero => exact absurd HA.out (by simp [laws_FnTimes.j1])
          | succ kj14 =>
            have H := HA.out
            clear HA
            simp only [laws_FnTimes.j1] at H
            by_cases c32 : x134_14 = true
            · subst c32
              have H1 : (none) = some r := by rw [if_pos rfl] at H; exact H
              clear H
              have H := H1
              clear H1
              exact absurd H (by simp)
            · replace c32 := Bool.eq_false_iff.mpr c32
              subst c32
              have H1 : (if (wrap64 (t161 + 3)) ≤ 36 then ((impl_TimeOf.f (wrap64 (t161 + 3))).bind fun bt177 => (if bt177.2 = 0 then (if bt177.1 = (wrap64 (2 * t166)) then (laws_FnTimes.j2 kj14 l0 l1 t161) else (none)) else (none))) else (laws_FnTimes.j2 kj14 l0 l1 t161)) = some r := by rw [if_neg (show ¬ (false = true) by decide)] at H; exact H
              clear H
              have H := H1
              clear H1
              have HC33 := Aside0.mk H
              clear H
              go_upto_if 137 with (fail)
              go_cut [] (fun wc => ∃ (kq : Nat), Aside0 (laws_FnTimes.j2 kq l0 l1 t161 = some r) ∧ Aside0 (kq ≤ kj14) ∧ Aside0 (Below w.heap.size w wc))
              case first =>
                have H := HC33.out
                clear HC33
                by_cases c34 : (wrap64 (t161 + 3)) ≤ 36
                · rw [if_pos c34] at H
                  have c34b0 : decide ((wrap64 (t161 + 3)) ≤ 36) = true := decide_eq_true c34
                  clear c34
                  (first | rw [c34b0] | (simp only [i64_w, i32_w]; rw [c34b0]) | skip)
                  replace H := Option.bind_eq_some_iff.mp H
                  obtain ⟨⟨t177, t178⟩, A350, H⟩ := H
                  replace H : (if t178 = 0 then (if t177 = (wrap64 (2 * t166)) then (laws_FnTimes.j2 kj14 l0 l1 t161) else (none)) else (none)) = some r := H
                  have A35 := Aside0.mk A350
                  clear A350
                  by_cases c36 : t178 = 0
                  · rw [if_pos c36] at H
                    have c36b0 : (t178 == 0) = true := beq_iff_eq.mpr c36
                    have c36b1 : (t178 != 0) = false := bne_eq_false_iff_eq.mpr c36
                    clear c36
                    by_cases c37 : t177 = (wrap64 (2 * t166))
                    · rw [if_pos c37] at H
                      have c37b0 : (t177 == (wrap64 (2 * t166))) = true := beq_iff_eq.mpr c37
                      have c37b1 : (t177 != (wrap64 (2 * t166))) = false := bne_eq_false_iff_eq.mpr c37
                      clear c37
                      have H' := Aside0.mk H
                      clear H
                      go_wp2_with (first | ((with_reducible refine gate_callee (f := 21) rfl ?_); refine goesL_ (some 141) rfl rfl Try.func21 (by kernel_rfl) rfl #[.int .i64 (wrap64 (t161 + 3))] rfl (by (try simp only [List.map_toArray, List.map_cons, List.map_nil]); first | done | rfl | (simp only [List.length_drop, List.length_take]; rfl)) ?_; (with_reducible refine (impl_TimeOf.calls (wrap64 (t161 + 3)) t177 t178 _ A35.out).mono ?_); rintro e w' ⟨rfl, ⟨nd, rfl⟩⟩; refine ⟨_, rfl, ?_⟩))
                      go_meet
                      case rel => exact ⟨_, H', ⟨by have := HJ2.out; have := HJ14.out; first | omega | exact Nat.le_refl _⟩, ⟨by repeat (first | (with_reducible first | exact HB.out | apply below_alloc | apply pw_below_drewN | apply below_drew1) | exact HB.out)⟩⟩
                    · rw [if_neg c37] at H
                      exact absurd H (by simp)
                  · rw [if_neg c36] at H
                    exact absurd H (by simp)
                · rw [if_neg c34] at H
                  have c34b0 : decide ((wrap64 (t161 + 3)) ≤ 36) = false := decide_eq_false c34
                  clear c34
                  (first | rw [c34b0] | (simp only [i64_w, i32_w]; rw [c34b0]) | skip)
                  have H' := Aside0.mk H
                  clear H
                  go_wp2
                  go_meet
                  case rel => exact ⟨_, H', ⟨by have := HJ2.out; have := HJ14.out; first | omega | exact Nat.le_refl _⟩, ⟨by repeat (first | (with_reducible first | exact HB.out | apply below_alloc | apply pw_below_drewN | apply below_drew1) | exact HB.out)⟩⟩
              case rest => as_aux_lemma =>
                clear HC33
                try clear c1
                try clear c2
                try clear p2
                try clear c3
                try clear c4
                try clear c5
                try clear p6
                try clear c7
                try clear c14
                try clear c20
                try clear c21
                try clear c22
                try clear c22b0
                try clear c22b1
                try clear c23
                try clear c23b0
                try clear c23b1
                try clear c24
                try clear c24b0
                try clear c24b1
                try clear c25
                try clear c25b0
                try clear c25b1
                try clear c26
                try clear c26b0
                try clear c27
                try clear c27b0
                try clear c27b1
                try clear c28
                try clear c28b0
                try clear c28b1
                try clear c29
                try clear c29b0
                try clear c29b1
                try clear c30
                try clear c30b0
                try clear c30b1
                try clear c31
                try clear c31b0
                try clear c31b1
                try clear c32
                try clear c33
                try clear c34
                try clear c34b0
                try clear c36
                try clear c36b0
                try clear c36b1
                try clear c37
                try clear c37b0
                try clear c37b1
                try clear p2
                try clear p6
                obtain ⟨kq, HA, HJ32, HB⟩ := hcut
                cases kq with
                | zero => exact absurd HA.out (by simp [laws_FnTimes.j2])
                | succ kj32 =>
                  have H := HA.out
                  clear HA
                  simp only [laws_FnTimes.j2] at H
                  replace H := Option.bind_eq_some_iff.mp H
                  obtain ⟨t179, A380, H⟩ := H
                  replace H : (if 0 ≤ (IntKind.u64.wrap (wrap64 (1 + t179))) then ((spec_P6Pick.f l1 (shl .i64 1 (IntKind.u64.wrap (wrap64 (1 + t179))))).bind fun t180 => ((impl_NearestThirds.f kj32 t180).bind fun bt181 => ((spec_NearestThirds.f kj32 t180).bind fun bt183 => ((impl_TimeOf.f bt183.1).bind fun bt185 => (if bt181.2 = bt183.2 then (if bt181.2 = 0 then (if bt181.1 = bt183.1 then (laws_FnTimes.j3 kj32 l1 t161 t180 bt183.1 bt185.1 (bt185.2 != 0)) else (none)) else (none)) else (none)))))) else (none)) = some r := H
                  have A38 := Aside0.mk A380
                  clear A380
                  obtain ⟨ji39, hji39⟩ : ∃ j_ : Int, (IntKind.u64.wrap (wrap64 (1 + t179))) = j_ := ⟨_, rfl⟩
                  replace H : (if 0 ≤ (ji39) then ((spec_P6Pick.f l1 (shl .i64 1 (ji39))).bind fun t180 => ((impl_NearestThirds.f kj32 t180).bind fun bt181 => ((spec_NearestThirds.f kj32 t180).bind fun bt183 => ((impl_TimeOf.f bt183.1).bind fun bt185 => (if bt181.2 = bt183.2 then (if bt181.2 = 0 then (if bt181.1 = bt183.1 then (laws_FnTimes.j3 kj32 l1 t161 t180 bt183.1 bt185.1 (bt185.2 != 0)) else (none)) else (none)) else (none)))))) else (none)) = some r := by first | (rw [hji39] at H; exact H) | (simp only [hji39] at H ⊢; exact H)
                  (try rw [hji39] at A38)
                  by_cases c40 : 0 ≤ (ji39)
                  · rw [if_pos c40] at H
                    have c40b0 := eq_true c40
                    have c40b1 : decide (0 ≤ (ji39)) = true := decide_eq_true c40
                    clear c40
                    obtain ⟨ji41, hji41⟩ : ∃ j_ : Int, (shl .i64 1 (ji39)) = j_ := ⟨_, rfl⟩
                    replace H : ((spec_P6Pick.f l1 (ji41)).bind fun t180 => ((impl_NearestThirds.f kj32 t180).bind fun bt181 => ((spec_NearestThirds.f kj32 t180).bind fun bt183 => ((impl_TimeOf.f bt183.1).bind fun bt185 => (if bt181.2 = bt183.2 then (if bt181.2 = 0 then (if bt181.1 = bt183.1 then (laws_FnTimes.j3 kj32 l1 t161 t180 bt183.1 bt185.1 (bt185.2 != 0)) else (none)) else (none)) else (none)))))) = some r := by first | (rw [hji41] at H; exact H) | (simp only [hji41] at H ⊢; exact H)
                    (try rw [hji41] at A38)
                    have hji41_ : (IntKind.i64.wrap (1 * 2 ^ min (ji39).toNat 64)) = ji41 := hji41
                    have hji41z : (ji39) ≤ 64 → (IntKind.i64.wrap (1 * 2 ^ (ji39).toNat)) = ji41 := shl_small hji41
                    have hji41u : (IntKind.i64.wrap (2 ^ min (ji39).toNat 64)) = ji41 := by have h_ := hji41_; rw [Int.one_mul] at h_; exact h_
                    have hji41v : (ji39) ≤ 64 → (IntKind.i64.wrap (2 ^ (ji39).toNat)) = ji41 := fun hle_ => by have h_ := hji41z hle_; rw [Int.one_mul] at h_; exact h_
                    have hji41y : (wrap64 (1 * 2 ^ min (ji39).toNat 64)) = ji41 := (i64_w _).symm.trans hji41_
                    have hji41x : (ji39) ≤ 64 → (wrap64 (1 * 2 ^ (ji39).toNat)) = ji41 := fun h_ => (i64_w _).symm.trans (hji41z h_)
                    replace H := Option.bind_eq_some_iff.mp H
                    obtain ⟨t180, A420, H⟩ := H
                    replace H : ((impl_NearestThirds.f kj32 t180).bind fun bt181 => ((spec_NearestThirds.f kj32 t180).bind fun bt183 => ((impl_TimeOf.f bt183.1).bind fun bt185 => (if bt181.2 = bt183.2 then (if bt181.2 = 0 then (if bt181.1 = bt183.1 then (laws_FnTimes.j3 kj32 l1 t161 t180 bt183.1 bt185.1 (bt185.2 != 0)) else (none)) else (none)) else (none))))) = some r := H
                    have A42 := Aside0.mk A420
                    clear A420
                    replace H := Option.bind_eq_some_iff.mp H
                    obtain ⟨⟨t181, t182⟩, A430, H⟩ := H
                    replace H : ((spec_NearestThirds.f kj32 t180).bind fun bt183 => ((impl_TimeOf.f bt183.1).bind fun bt185 => (if t182 = bt183.2 then (if t182 = 0 then (if t181 = bt183.1 then (laws_FnTimes.j3 kj32 l1 t161 t180 bt183.1 bt185.1 (bt185.2 != 0)) else (none)) else (none)) else (none)))) = some r := H
                    have A43 := Aside0.mk A430
                    clear A430
                    replace H := Option.bind_eq_some_iff.mp H
                    obtain ⟨⟨t183, t184⟩, A440, H⟩ := H
                    replace H : ((impl_TimeOf.f t183).bind fun bt185 => (if t182 = t184 then (if t182 = 0 then (if t181 = t183 then (laws_FnTimes.j3 kj32 l1 t161 t180 t183 bt185.1 (bt185.2 != 0)) else (none)) else (none)) else (none))) = some r := H
                    have A44 := Aside0.mk A440
                    clear A440
                    replace H := Option.bind_eq_some_iff.mp H
                    obtain ⟨⟨t185, t186⟩, A450, H⟩ := H
                    replace H : (if t182 = t184 then (if t182 = 0 then (if t181 = t183 then (laws_FnTimes.j3 kj32 l1 t161 t180 t183 t185 (t186 != 0)) else (none)) else (none)) else (none)) = some r := H
                    have A45 := Aside0.mk A450
                    clear A450
                    have HC46 := Aside0.mk H
                    clear H
                    go_upto_region 20 with (first | ((with_reducible refine gate_callee (f := 40) rfl ?_); refine goesL_ (some 154) rfl rfl Try.func40 (by kernel_rfl) rfl #[.slice A0 l0.length c0, .int .i64 22] rfl (by (try simp only [List.map_toArray, List.map_cons, List.map_nil]); first | done | rfl | (simp only [List.length_drop, List.length_take]; rfl)) ?_; (with_reducible refine (spec_P6Pick.calls _ _ l0 22 t179 _ ?side1 ?side2 A38.out).mono ?_); (case side1 => repeat (first | exact (Kd.C_below HR0.out HB.out) | (with_reducible refine Kd.C_alloc ?_ _) | (with_reducible refine Kd.C_drewN ?_ _) | (with_reducible refine Kd.C_drew ?_))); (case side2 => exact HC0.out); rintro e w47 ⟨rfl, hb⟩; refine ⟨_, rfl, ?_⟩; have n0_ := Aside0.mk (below_step (by repeat (first | (with_reducible first | exact HB.out | apply below_alloc | apply pw_below_drewN | apply below_drew1) | exact HB.out)) hb); clear HB; have HB := n0_; clear n0_; (try clear hb); (try clear hb2); (try clear hk); (try clear hi)) | ((with_reducible refine gate_callee (f := 40) rfl ?_); refine goesL_ (some 158) rfl rfl Try.func40 (by kernel_rfl) rfl #[.slice A1 l1.length c1, .int .i64 ji41] rfl (by (try simp only [List.map_toArray, List.map_cons, List.map_nil]); first | done | (simp only [hji41]; rfl) | rfl | (simp only [List.length_drop, List.length_take]; rfl)) ?_; (with_reducible refine (spec_P6Pick.calls _ _ l1 ji41 t180 _ ?side1 ?side2 A42.out).mono ?_); (case side1 => repeat (first | exact (Kd.C_below HR1.out HB.out) | (with_reducible refine Kd.C_alloc ?_ _) | (with_reducible refine Kd.C_drewN ?_ _) | (with_reducible refine Kd.C_drew ?_))); (case side2 => exact HC1.out); rintro e w48 ⟨rfl, hb⟩; refine ⟨_, rfl, ?_⟩; have n0_ := Aside0.mk (below_step (by repeat (first | (with_reducible first | exact HB.out | apply below_alloc | apply pw_below_drewN | apply below_drew1) | exact HB.out)) hb); clear HB; have HB := n0_; clear n0_; (try clear hb); (try clear hb2); (try clear hk); (try clear hi)) | ((with_reducible refine gate_callee (f := 33) rfl ?_); refine goesL_ (some 161) rfl rfl Try.func33 (by kernel_rfl) rfl #[.int .i64 t180] rfl (by (try simp only [List.map_toArray, List.map_cons, List.map_nil]); first | done | rfl | (simp only [List.length_drop, List.length_take]; rfl)) ?_; (with_reducible refine (impl_NearestThirds.calls kj32 t180 t181 t182 _ A43.out).mono ?_); rintro e w49 ⟨rfl, hb⟩; refine ⟨_, rfl, ?_⟩; have n0_ := Aside0.mk (below_step (by repeat (first | (with_reducible first | exact HB.out | apply below_alloc | apply pw_below_drewN | apply below_drew1) | exact HB.out)) hb); clear HB; have HB := n0_; clear n0_; (try clear hb); (try clear hb2); (try clear hk); (try clear hi)) | ((with_reducible refine gate_callee (f := 32) rfl ?_); refine goesL_ (some 166) rfl rfl Try.func32 (by kernel_rfl) rfl #[.int .i64 t180] rfl (by (try simp only [List.map_toArray, List.map_cons, List.map_nil]); first | done | rfl | (simp only [List.length_drop, List.length_take]; rfl)) ?_; (with_reducible refine (spec_NearestThirds.calls kj32 t180 t183 t184 _ A44.out).mono ?_); rintro e w50 ⟨rfl, hb⟩; refine ⟨_, rfl, ?_⟩; have n0_ := Aside0.mk (below_step (by repeat (first | (with_reducible first | exact HB.out | apply below_alloc | apply pw_below_drewN | apply below_drew1) | exact HB.out)) hb); clear HB; have HB := n0_; clear n0_; (try clear hb); (try clear hb2); (try clear hk); (try clear hi)) | ((with_reducible refine gate_callee (f := 21) rfl ?_); refine goesL_ (some 171) rfl rfl Try.func21 (by kernel_rfl) rfl #[.int .i64 t183] rfl (by (try simp only [List.map_toArray, List.map_cons, List.map_nil]); first | done | rfl | (simp only [List.length_drop, List.length_take]; rfl)) ?_; (with_reducible refine (impl_TimeOf.calls t183 t185 t186 _ A45.out).mono ?_); rintro e w' ⟨rfl, ⟨nd, rfl⟩⟩; refine ⟨_, rfl, ?_⟩))
                    (try simp only [Act.put, List.setIfInBounds_toArray, List.set_cons_zero, List.set_cons_succ])
                    go_cut [189] (fun v189 wc => ∃ (kq : Nat) (x189_45 : Bool), v189 = .bool x189_45 ∧ Aside0 (laws_FnTimes.j3 kq l1 t161 t180 t183 t185 x189_45 = some r) ∧ Aside0 (kq ≤ kj32) ∧ Aside0 (Below w.heap.size w wc))
                    case first =>
                      have H := HC46.out
                      clear HC46
                      by_cases c51 : t182 = t184
                      · rw [if_pos c51] at H
                        have c51b0 : (t182 == t184) = true := beq_iff_eq.mpr c51
                        have c51b1 : (t182 != t184) = false := bne_eq_false_iff_eq.mpr c51
                        clear c51
                        (first | rw [c51b0] | (simp only [i64_w, i32_w]; rw [c51b0]) | skip)
                        by_cases c52 : t182 = 0
                        · rw [if_pos c52] at H
                          have c52b0 : (t182 == 0) = true := beq_iff_eq.mpr c52
                          have c52b1 : (t182 != 0) = false := bne_eq_false_iff_eq.mpr c52
                          clear c52
                          by_cases c53 : t181 = t183
                          · rw [if_pos c53] at H
                            have c53b0 : (t181 == t183) = true := beq_iff_eq.mpr c53
                            have c53b1 : (t181 != t183) = false := bne_eq_false_iff_eq.mpr c53
                            clear c53
                            have H' := Aside0.mk H
                            clear H
                            go_wp2
                            go_meet
                            case rel => exact ⟨_, ((t186 != 0)), (by first | rfl | (simp; done) | (simp [*]; done)), H', ⟨by have := HJ2.out; have := HJ14.out; have := HJ32.out; first | omega | exact Nat.le_refl _⟩, ⟨by repeat (first | (with_reducible first | exact HB.out | apply below_alloc | apply pw_below_drewN | apply below_drew1) | exact HB.out)⟩⟩
                          · rw [if_neg c53] at H
                            exact absurd H (by simp)
                        · rw [if_neg c52] at H
                          exact absurd H (by simp)
                      · rw [if_neg c51] at H
                        exact absurd H (by simp)
                    case rest => as_aux_lemma =>
                      clear HC46
                      try clear c1
                      try clear c2
                      try clear p2
                      try clear c3
                      try clear c4
                      try clear c5
                      try clear p6
                      try clear c7
                      try clear c14
                      try clear c20
                      try clear c21
                      try clear c22
                      try clear c22b0
                      try clear c22b1
                      try clear c23
                      try clear c23b0
                      try clear c23b1
                      try clear c24
                      try clear c24b0
                      try clear c24b1
                      try clear c25
                      try clear c25b0
                      try clear c25b1
                      try clear c26
                      try clear c26b0
                      try clear c27
                      try clear c27b0
                      try clear c27b1
                      try clear c28
                      try clear c28b0
                      try clear c28b1
                      try clear c29
                      try clear c29b0
                      try clear c29b1
                      try clear c30
                      try clear c30b0
                      try clear c30b1
                      try clear c31
                      try clear c31b0
                      try clear c31b1
                      try clear c32
                      try clear c33
                      try clear c34
                      try clear c34b0
                      try clear c36
                      try clear c36b0
                      try clear c36b1
                      try clear c37
                      try clear c37b0
                      try clear c37b1
                      try clear c39
                      try clear c40
                      try clear c40b0
                      try clear c40b1
                      try clear c51
                      try clear c51b0
                      try clear c51b1
                      try clear c52
                      try clear c52b0
                      try clear c52b1
                      try clear c53
                      try clear c53b0
                      try clear c53b1
                      try clear p2
                      try clear p6
                      obtain ⟨kq, x189_45, rfl, HA, HJ45, HB⟩ := hcut
                      cases kq with
                      | zero => exact absurd HA.out (by simp [laws_FnTimes.j3])
                      | succ kj45 =>
                        have H := HA.out
                        clear HA
                        simp only [laws_FnTimes.j3] at H
                        by_cases c54 : x189_45 = true
                        · subst c54
                          have H1 : (none) = some r := by rw [if_pos rfl] at H; exact H
                          clear H
                          have H := H1
                          clear H1
                          exact absurd H (by simp)
                        · replace c54 := Bool.eq_false_iff.mpr c54
                          subst c54
                          have H1 : (laws_FnTimes.l0 kj45 l1 t161 t180 t183 t185 0) = some r := by rw [if_neg (show ¬ (false = true) by decide)] at H; exact H
                          clear H
                          have H := H1
                          clear H1
                          have H' := Aside0.mk H
                          clear H
                          go_wp2
                          go_loopg [27] kj45 (fun kq v27 w' => ∃ (x27_5 : Int), v27 = .int .i64 x27_5 ∧ Aside0 (laws_FnTimes.l0 kq l1 t161 t180 t183 t185 x27_5 = some r) ∧ Aside0 (kq ≤ kj45) ∧ Aside0 (Below w.heap.size w w'))
                          case atStart => exact ⟨(0), (by first | rfl | (simp; done) | (simp [*]; done)), H', ⟨Nat.le_refl _⟩, ⟨by repeat (first | (with_reducible first | exact HB.out | apply below_alloc | apply pw_below_drewN | apply below_drew1) | exact HB.out)⟩⟩
                          case round =>
                            clear H'
                            try clear c1
                            try clear c2
                            try clear p2
                            try clear c3
                            try clear c4
                            try clear c5
                            try clear p6
                            try clear c7
                            try clear c14
                            try clear c20
                            try clear c21
                            try clear c22
                            try clear c22b0
                            try clear c22b1
                            try clear c23
                            try clear c23b0
                            try clear c23b1
                            try clear c24
                            try clear c24b0
                            try clear c24b1
                            try clear c25
                            try clear c25b0
                            try clear c25b1
                            try clear c26
                            try clear c26b0
                            try clear c27
                            try clear c27b0
                            try clear c27b1
                            try clear c28
                            try clear c28b0
                            try clear c28b1
                            try clear c29
                            try clear c29b0
                            try clear c29b1
                            try clear c30
                            try clear c30b0
                            try clear c30b1
                            try clear c31
                            try clear c31b0
                            try clear c31b1
                            try clear c32
                            try clear c33
                            try clear c34
                            try clear c34b0
                            try clear c36
                            try clear c36b0
                            try clear c36b1
                            try clear c37
                            try clear c37b0
                            try clear c37b1
                            try clear c39
                            try clear c40
                            try clear c40b0
                            try clear c40b1
                            try clear c51
                            try clear c51b0
                            try clear c51b1
                            try clear c52
                            try clear c52b0
                            try clear c52b1
                            try clear c53
                            try clear c53b0
                            try clear c53b1
                            try clear c54
                            try clear p2
                            try clear p6
                            obtain ⟨x27_5, rfl, HA, HK5, HB⟩ := hrel
                            cases gk with
                            | zero => exact absurd HA.out (by simp [laws_FnTimes.l0])
                            | succ k5 =>
                              have H := HA.out
                              clear HA
                              simp only [laws_FnTimes.l0] at H
                              by_cases c55 : x27_5 ≤ 36
                              · rw [if_pos c55] at H
                                have c55b0 : decide (x27_5 ≤ 36) = true := decide_eq_true c55
                                clear c55
                                replace H := Option.bind_eq_some_iff.mp H
                                obtain ⟨⟨t187, t188⟩, A560, H⟩ := H
                                replace H : (if t188 = 0 then (if (mx (wrap64 (t187 - t180)) (wrap64 (t180 - t187))) < (mx (wrap64 (t185 - t180)) (wrap64 (t180 - t185))) then (none) else (if x27_5 < t183 then (laws_FnTimes.j5 k5 l1 t161 t180 t183 t185 x27_5 ((mx (wrap64 (t187 - t180)) (wrap64 (t180 - t187))) == (mx (wrap64 (t185 - t180)) (wrap64 (t180 - t185))))) else (laws_FnTimes.j5 k5 l1 t161 t180 t183 t185 x27_5 false))) else (none)) = some r := H
                                have A56 := Aside0.mk A560
                                clear A560
                                have HC57 := Aside0.mk H
                                clear H
                                go_upto_region 26 with (first | ((with_reducible refine gate_callee (f := 20) rfl ?_); refine goesL_ (some 196) rfl rfl Try.func20 (by kernel_rfl) rfl #[.int .i64 x27_5] rfl (by (try simp only [List.map_toArray, List.map_cons, List.map_nil]); first | done | rfl | (simp only [List.length_drop, List.length_take]; rfl)) ?_; (with_reducible refine (spec_TimeOf.calls x27_5 t187 t188 _ A56.out).mono ?_); rintro e w58 ⟨rfl, hb⟩; refine ⟨_, rfl, ?_⟩; have n0_ := Aside0.mk (below_step (by repeat (first | (with_reducible first | exact HB.out | apply below_alloc | apply pw_below_drewN | apply below_drew1) | exact HB.out)) hb); clear HB; have HB := n0_; clear n0_; (try clear hb); (try clear hb2); (try clear hk); (try clear hi)))
                                (try simp only [Act.put, List.setIfInBounds_toArray, List.set_cons_zero, List.set_cons_succ])
                                go_cut [239] (fun v239 wc => ∃ (kq : Nat) (x239_56 : Bool), v239 = .bool x239_56 ∧ Aside0 (laws_FnTimes.j5 kq l1 t161 t180 t183 t185 x27_5 x239_56 = some r) ∧ Aside0 (kq ≤ k5) ∧ Aside0 (Below w.heap.size w wc))
                                case first =>
                                  have H := HC57.out
                                  clear HC57
                                  by_cases c59 : t188 = 0
                                  · rw [if_pos c59] at H
                                    have c59b0 : (t188 == 0) = true := beq_iff_eq.mpr c59
                                    have c59b1 : (t188 != 0) = false := bne_eq_false_iff_eq.mpr c59
                                    clear c59
                                    (first | rw [c59b0] | (simp only [i64_w, i32_w]; rw [c59b0]) | skip)
                                    obtain ⟨ji60, hji60⟩ : ∃ j_ : Int, (mx (wrap64 (t187 - t180)) (wrap64 (t180 - t187))) = j_ := ⟨_, rfl⟩
                                    replace H : (if (ji60) < (mx (wrap64 (t185 - t180)) (wrap64 (t180 - t185))) then (none) else (if x27_5 < t183 then (laws_FnTimes.j5 k5 l1 t161 t180 t183 t185 x27_5 ((ji60) == (mx (wrap64 (t185 - t180)) (wrap64 (t180 - t185))))) else (laws_FnTimes.j5 k5 l1 t161 t180 t183 t185 x27_5 false))) = some r := by first | (rw [hji60] at H; exact H) | (simp only [hji60] at H ⊢; exact H)
                                    have hji60_ : (if (wrap64 (t187 - t180)) < (wrap64 (t180 - t187)) then (wrap64 (t180 - t187)) else (wrap64 (t187 - t180))) = ji60 := hji60
                                    obtain ⟨ji61, hji61⟩ : ∃ j_ : Int, (mx (wrap64 (t185 - t180)) (wrap64 (t180 - t185))) = j_ := ⟨_, rfl⟩
                                    replace H : (if (ji60) < (ji61) then (none) else (if x27_5 < t183 then (laws_FnTimes.j5 k5 l1 t161 t180 t183 t185 x27_5 ((ji60) == (ji61))) else (laws_FnTimes.j5 k5 l1 t161 t180 t183 t185 x27_5 false))) = some r := by first | (rw [hji61] at H; exact H) | (simp only [hji61] at H ⊢; exact H)
                                    have hji61_ : (if (wrap64 (t185 - t180)) < (wrap64 (t180 - t185)) then (wrap64 (t180 - t185)) else (wrap64 (t185 - t180))) = ji61 := hji61
                                    by_cases c62 : (ji60) < (ji61)
                                    · rw [if_pos c62] at H
                                      exact absurd H (by simp)
                                    · rw [if_neg c62] at H
                                      have c62b0 : decide ((ji60) < (ji61)) = false := decide_eq_false c62
                                      clear c62
                                      by_cases c63 : x27_5 < t183
                                      · rw [if_pos c63] at H
                                        have c63b0 : decide (x27_5 < t183) = true := decide_eq_true c63
                                        clear c63
                                        have H' := Aside0.mk H
                                        clear H
                                        go_wp2
                                        go_meet
                                        case rel => exact ⟨_, (((ji60) == (ji61))), (by first | rfl | (simp; done) | (simp only [← hji60, ← hji61] <;> (first | rfl | simp)) | (simp [*]; done)), H', ⟨by have := HJ2.out; have := HJ14.out; have := HJ32.out; have := HJ45.out; have := HK5.out; first | omega | exact Nat.le_refl _⟩, ⟨by repeat (first | (with_reducible first | exact HB.out | apply below_alloc | apply pw_below_drewN | apply below_drew1) | exact HB.out)⟩⟩
                                      · rw [if_neg c63] at H
                                        have c63b0 : decide (x27_5 < t183) = false := decide_eq_false c63
                                        clear c63
                                        have H' := Aside0.mk H
                                        clear H
                                        go_wp2
                                        go_meet
                                        case rel => exact ⟨_, (false), (by first | rfl | (simp; done) | (simp [*]; done)), H', ⟨by have := HJ2.out; have := HJ14.out; have := HJ32.out; have := HJ45.out; have := HK5.out; first | omega | exact Nat.le_refl _⟩, ⟨by repeat (first | (with_reducible first | exact HB.out | apply below_alloc | apply pw_below_drewN | apply below_drew1) | exact HB.out)⟩⟩
                                  · rw [if_neg c59] at H
                                    exact absurd H (by simp)
                                case rest => as_aux_lemma =>
                                  clear HC57
                                  try clear c1
                                  try clear c2
                                  try clear p2
                                  try clear c3
                                  try clear c4
                                  try clear c5
                                  try clear c6
                                  try clear p6
                                  try clear c7
                                  try clear c14
                                  try clear c20
                                  try clear c21
                                  try clear c22
                                  try clear c22b0
                                  try clear c22b1
                                  try clear c23
                                  try clear c23b0
                                  try clear c23b1
                                  try clear c24
                                  try clear c24b0
                                  try clear c24b1
                                  try clear c25
                                  try clear c25b0
                                  try clear c25b1
                                  try clear c26
                                  try clear c26b0
                                  try clear c27
                                  try clear c27b0
                                  try clear c27b1
                                  try clear c28
                                  try clear c28b0
                                  try clear c28b1
                                  try clear c29
                                  try clear c29b0
                                  try clear c29b1
                                  try clear c30
                                  try clear c30b0
                                  try clear c30b1
                                  try clear c31
                                  try clear c31b0
                                  try clear c31b1
                                  try clear c32
                                  try clear c33
                                  try clear c34
                                  try clear c34b0
                                  try clear c36
                                  try clear c36b0
                                  try clear c36b1
                                  try clear c37
                                  try clear c37b0
                                  try clear c37b1
                                  try clear c39
                                  try clear c40
                                  try clear c40b0
                                  try clear c40b1
                                  try clear c51
                                  try clear c51b0
                                  try clear c51b1
                                  try clear c52
                                  try clear c52b0
                                  try clear c52b1
                                  try clear c53
                                  try clear c53b0
                                  try clear c53b1
                                  try clear c54
                                  try clear c55
                                  try clear c55b0
                                  try clear c59
                                  try clear c59b0
                                  try clear c59b1
                                  try clear c62
                                  try clear c62b0
                                  try clear c63
                                  try clear c63b0
                                  try clear p2
                                  try clear p6
                                  obtain ⟨kq, x239_56, rfl, HA, HJ56, HB⟩ := hcut
                                  cases kq with
                                  | zero => exact absurd HA.out (by simp [laws_FnTimes.j5])
                                  | succ kj56 =>
                                    have H := HA.out
                                    clear HA
                                    simp only [laws_FnTimes.j5] at H
                                    by_cases c64 : x239_56 = true
                                    · subst c64
                                      have H1 : (none) = some r := by rw [if_pos rfl] at H; exact H
                                      clear H
                                      have H := H1
                                      clear H1
                                      exact absurd H (by simp)
                                    · replace c64 := Bool.eq_false_iff.mpr c64
                                      subst c64
                                      have H1 : (laws_FnTimes.l0 kj56 l1 t161 t180 t183 t185 (wrap64 (x27_5 + 1))) = some r := by rw [if_neg (show ¬ (false = true) by decide)] at H; exact H
                                      clear H
                                      have H := H1
                                      clear H1
                                      have H' := Aside0.mk H
                                      clear H
                                      go_wp2
                                      go_roundg kj56
                                      case measure => have := HJ2.out; have := HJ14.out; have := HJ32.out; have := HJ45.out; have := HK5.out; have := HJ56.out; omega
                                      case rel => exact ⟨(wrap64 (x27_5 + 1)), (by first | rfl | (simp; done) | (simp [*]; done)), H', ⟨by have := HJ2.out; have := HJ14.out; have := HJ32.out; have := HJ45.out; have := HK5.out; have := HJ56.out; omega⟩, ⟨by repeat (first | (with_reducible first | exact HB.out | apply below_alloc | apply pw_below_drewN | apply below_drew1) | exact HB.out)⟩⟩
                              · rw [if_neg c55] at H
                                have c55b0 : decide (x27_5 ≤ 36) = false := decide_eq_false c55
                                clear c55
                                replace H := Option.bind_eq_some_iff.mp H
                                obtain ⟨⟨t189, t190⟩, A650, H⟩ := H
                                replace H : (if t180 < 1000 then (if t190 = 6 then (laws_FnTimes.j7 k5 l1 t161) else (none)) else ((spec_TimeOf.f t189).bind fun bt191 => (if t190 = 0 then (if bt191.2 = 0 then (if bt191.1 > t180 then (none) else (laws_FnTimes.j6 k5 l1 t161 (decide (t189 > t183)))) else (none)) else (none)))) = some r := H
                                have A65 := Aside0.mk A650
                                clear A650
                                have HC66 := Aside0.mk H
                                clear H
                                go_upto_if 246 with (first | ((with_reducible refine gate_callee (f := 27) rfl ?_); refine goesL_ (some 242) rfl rfl Try.func27 (by kernel_rfl) rfl #[.int .i64 t180] rfl (by (try simp only [List.map_toArray, List.map_cons, List.map_nil]); first | done | rfl | (simp only [List.length_drop, List.length_take]; rfl)) ?_; (with_reducible refine (impl_ThirdsIn.calls k5 t180 t189 t190 _ A65.out).mono ?_); rintro e w' ⟨rfl, ⟨nd, rfl⟩⟩; refine ⟨_, rfl, ?_⟩))
                                (try simp only [Act.put, List.setIfInBounds_toArray, List.set_cons_zero, List.set_cons_succ])
                                go_cut [] (fun wc => ∃ (kq : Nat), Aside0 (laws_FnTimes.j7 kq l1 t161 = some r) ∧ Aside0 (kq ≤ k5) ∧ Aside0 (Below w.heap.size w wc))
                                case first =>
                                  have H := HC66.out
                                  clear HC66
                                  by_cases c67 : t180 < 1000
                                  · rw [if_pos c67] at H
                                    have c67b0 : decide (t180 < 1000) = true := decide_eq_true c67
                                    clear c67
                                    (first | rw [c67b0] | (simp only [i64_w, i32_w]; rw [c67b0]) | skip)
                                    by_cases c68 : t190 = 6
                                    · rw [if_pos c68] at H
                                      have c68b0 : (t190 == 6) = true := beq_iff_eq.mpr c68
                                      have c68b1 : (t190 != 6) = false := bne_eq_false_iff_eq.mpr c68
                                      clear c68
                                      have H' := Aside0.mk H
                                      clear H
                                      go_wp2
                                      go_meet
                                      case rel => exact ⟨_, H', ⟨by have := HJ2.out; have := HJ14.out; have := HJ32.out; have := HJ45.out; have := HK5.out; first | omega | exact Nat.le_refl _⟩, ⟨by repeat (first | (with_reducible first | exact HB.out | apply below_alloc | apply pw_below_drewN | apply below_drew1) | exact HB.out)⟩⟩
                                    · rw [if_neg c68] at H
                                      exact absurd H (by simp)
                                  · rw [if_neg c67] at H
                                    have c67b0 : decide (t180 < 1000) = false := decide_eq_false c67
                                    clear c67
                                    (first | rw [c67b0] | (simp only [i64_w, i32_w]; rw [c67b0]) | skip)
                                    replace H := Option.bind_eq_some_iff.mp H
                                    obtain ⟨⟨t191, t192⟩, A690, H⟩ := H
                                    replace H : (if t190 = 0 then (if t192 = 0 then (if t191 > t180 then (none) else (laws_FnTimes.j6 k5 l1 t161 (decide (t189 > t183)))) else (none)) else (none)) = some r := H
                                    have A69 := Aside0.mk A690
                                    clear A690
                                    have HC70 := Aside0.mk H
                                    clear H
                                    go_upto_region 33 with (first | ((with_reducible refine gate_callee (f := 20) rfl ?_); refine goesL_ (some 251) rfl rfl Try.func20 (by kernel_rfl) rfl #[.int .i64 t189] rfl (by (try simp only [List.map_toArray, List.map_cons, List.map_nil]); first | done | rfl | (simp only [List.length_drop, List.length_take]; rfl)) ?_; (with_reducible refine (spec_TimeOf.calls t189 t191 t192 _ A69.out).mono ?_); rintro e w71 ⟨rfl, hb⟩; refine ⟨_, rfl, ?_⟩; have n0_ := Aside0.mk (below_step (by repeat (first | (with_reducible first | exact HB.out | apply below_alloc | apply pw_below_drewN | apply below_drew1) | exact HB.out)) hb); clear HB; have HB := n0_; clear n0_; (try clear hb); (try clear hb2); (try clear hk); (try clear hi)))
                                    (try simp only [Act.put, List.setIfInBounds_toArray, List.set_cons_zero, List.set_cons_succ])
                                    go_cut [269] (fun v269 wc => ∃ (kq : Nat) (x269_69 : Bool), v269 = .bool x269_69 ∧ Aside0 (laws_FnTimes.j6 kq l1 t161 x269_69 = some r) ∧ Aside0 (kq ≤ k5) ∧ Aside0 (Below w.heap.size w wc))
                                    case first =>
                                      have H := HC70.out
                                      clear HC70
                                      by_cases c72 : t190 = 0
                                      · rw [if_pos c72] at H
                                        have c72b0 : (t190 == 0) = true := beq_iff_eq.mpr c72
                                        have c72b1 : (t190 != 0) = false := bne_eq_false_iff_eq.mpr c72
                                        clear c72
                                        (first | rw [c72b0] | (simp only [i64_w, i32_w]; rw [c72b0]) | skip)
                                        by_cases c73 : t192 = 0
                                        · rw [if_pos c73] at H
                                          have c73b0 : (t192 == 0) = true := beq_iff_eq.mpr c73
                                          have c73b1 : (t192 != 0) = false := bne_eq_false_iff_eq.mpr c73
                                          clear c73
                                          by_cases c74 : t191 > t180
                                          · rw [if_pos c74] at H
                                            exact absurd H (by simp)
                                          · rw [if_neg c74] at H
                                            have c74b0 : decide (t180 < t191) = false := decide_eq_false c74
                                            clear c74
                                            have H' := Aside0.mk H
                                            clear H
                                            go_wp2
                                            go_meet
                                            case rel => exact ⟨_, (decide (t189 > t183)), (by first | rfl | (simp; done) | (simp [*]; done)), H', ⟨by have := HJ2.out; have := HJ14.out; have := HJ32.out; have := HJ45.out; have := HK5.out; first | omega | exact Nat.le_refl _⟩, ⟨by repeat (first | (with_reducible first | exact HB.out | apply below_alloc | apply pw_below_drewN | apply below_drew1) | exact HB.out)⟩⟩
                                        · rw [if_neg c73] at H
                                          exact absurd H (by simp)
                                      · rw [if_neg c72] at H
                                        exact absurd H (by simp)
                                    case rest => as_aux_lemma =>
                                      clear HC70
                                      try clear c1
                                      try clear c2
                                      try clear p2
                                      try clear c3
                                      try clear c4
                                      try clear c5
                                      try clear c6
                                      try clear p6
                                      try clear c7
                                      try clear c14
                                      try clear c20
                                      try clear c21
                                      try clear c22
                                      try clear c22b0
                                      try clear c22b1
                                      try clear c23
                                      try clear c23b0
                                      try clear c23b1
                                      try clear c24
                                      try clear c24b0
                                      try clear c24b1
                                      try clear c25
                                      try clear c25b0
                                      try clear c25b1
                                      try clear c26
                                      try clear c26b0
                                      try clear c27
                                      try clear c27b0
                                      try clear c27b1
                                      try clear c28
                                      try clear c28b0
                                      try clear c28b1
                                      try clear c29
                                      try clear c29b0
                                      try clear c29b1
                                      try clear c30
                                      try clear c30b0
                                      try clear c30b1
                                      try clear c31
                                      try clear c31b0
                                      try clear c31b1
                                      try clear c32
                                      try clear c33
                                      try clear c34
                                      try clear c34b0
                                      try clear c36
                                      try clear c36b0
                                      try clear c36b1
                                      try clear c37
                                      try clear c37b0
                                      try clear c37b1
                                      try clear c39
                                      try clear c40
                                      try clear c40b0
                                      try clear c40b1
                                      try clear c51
                                      try clear c51b0
                                      try clear c51b1
                                      try clear c52
                                      try clear c52b0
                                      try clear c52b1
                                      try clear c53
                                      try clear c53b0
                                      try clear c53b1
                                      try clear c54
                                      try clear c55
                                      try clear c55b0
                                      try clear c59
                                      try clear c59b0
                                      try clear c59b1
                                      try clear c62
                                      try clear c62b0
                                      try clear c63
                                      try clear c63b0
                                      try clear c64
                                      try clear p64
                                      try clear c67
                                      try clear c67b0
                                      try clear c68
                                      try clear c68b0
                                      try clear c68b1
                                      try clear c72
                                      try clear c72b0
                                      try clear c72b1
                                      try clear c73
                                      try clear c73b0
                                      try clear c73b1
                                      try clear c74
                                      try clear c74b0
                                      try clear p2
                                      try clear p6
                                      obtain ⟨kq, x269_69, rfl, HA, HJ69, HB⟩ := hcut
                                      cases kq with
                                      | zero => exact absurd HA.out (by simp [laws_FnTimes.j6])
                                      | succ kj69 =>
                                        have H := HA.out
                                        clear HA
                                        simp only [laws_FnTimes.j6] at H
                                        by_cases c75 : x269_69 = true
                                        · subst c75
                                          have H1 : (none) = some r := by rw [if_pos rfl] at H; exact H
                                          clear H
                                          have H := H1
                                          clear H1
                                          exact absurd H (by simp)
                                        · replace c75 := Bool.eq_false_iff.mpr c75
                                          subst c75
                                          have H1 : (laws_FnTimes.j7 kj69 l1 t161) = some r := by rw [if_neg (show ¬ (false = true) by decide)] at H; exact H
                                          clear H
                                          have H := H1
                                          clear H1
                                          have H' := Aside0.mk H
                                          clear H
                                          go_wp2
                                          go_meet
                                          case rel => exact ⟨_, H', ⟨by have := HJ2.out; have := HJ14.out; have := HJ32.out; have := HJ45.out; have := HK5.out; have := HJ69.out; first | omega | exact Nat.le_refl _⟩, ⟨by repeat (first | (with_reducible first | exact HB.out | apply below_alloc | apply pw_below_drewN | apply below_drew1) | exact HB.out)⟩⟩
                                case rest => as_aux_lemma =>
                                  clear HC66
                                  try clear c1
                                  try clear c2
                                  try clear p2
                                  try clear c3
                                  try clear c4
                                  try clear c5
                                  try clear c6
                                  try clear p6
                                  try clear c7
                                  try clear c14
                                  try clear c20
                                  try clear c21
                                  try clear c22
                                  try clear c22b0
                                  try clear c22b1
                                  try clear c23
                                  try clear c23b0
                                  try clear c23b1
                                  try clear c24
                                  try clear c24b0
                                  try clear c24b1
                                  try clear c25
                                  try clear c25b0
                                  try clear c25b1
                                  try clear c26
                                  try clear c26b0
                                  try clear c27
                                  try clear c27b0
                                  try clear c27b1
                                  try clear c28
                                  try clear c28b0
                                  try clear c28b1
                                  try clear c29
                                  try clear c29b0
                                  try clear c29b1
                                  try clear c30
                                  try clear c30b0
                                  try clear c30b1
                                  try clear c31
                                  try clear c31b0
                                  try clear c31b1
                                  try clear c32
                                  try clear c33
                                  try clear c34
                                  try clear c34b0
                                  try clear c36
                                  try clear c36b0
                                  try clear c36b1
                                  try clear c37
                                  try clear c37b0
                                  try clear c37b1
                                  try clear c39
                                  try clear c40
                                  try clear c40b0
                                  try clear c40b1
                                  try clear c51
                                  try clear c51b0
                                  try clear c51b1
                                  try clear c52
                                  try clear c52b0
                                  try clear c52b1
                                  try clear c53
                                  try clear c53b0
                                  try clear c53b1
                                  try clear c54
                                  try clear c55
                                  try clear c55b0
                                  try clear c59
                                  try clear c59b0
                                  try clear c59b1
                                  try clear c62
                                  try clear c62b0
                                  try clear c63
                                  try clear c63b0
                                  try clear c64
                                  try clear p64
                                  try clear c67
                                  try clear c67b0
                                  try clear c68
                                  try clear c68b0
                                  try clear c68b1
                                  try clear c72
                                  try clear c72b0
                                  try clear c72b1
                                  try clear c73
                                  try clear c73b0
                                  try clear c73b1
                                  try clear c74
                                  try clear c74b0
                                  try clear c75
                                  try clear p2
                                  try clear p6
                                  try clear p64
                                  obtain ⟨kq, HA, HJ65, HB⟩ := hcut
                                  cases kq with
                                  | zero => exact absurd HA.out (by simp [laws_FnTimes.j7])
                                  | succ kj65 =>
                                    have H := HA.out
                                    clear HA
                                    simp only [laws_FnTimes.j7] at H
                                    replace H := Option.bind_eq_some_iff.mp H
                                    obtain ⟨t193, A760, H⟩ := H
                                    replace H : ((impl_EnlargedBy.f kj65 t161 (wrap64 (1 + t193)) (wrap64 (1 + t193))).bind fun bt194 => ((impl_EnlargedBy.f kj65 t161 (wrap64 (1 + t193)) (wrap64 ((wrap64 (1 + t193)) + 1))).bind fun bt196 => ((spec_EnlargedBy.f kj65 t161 (wrap64 (1 + t193)) (wrap64 ((wrap64 (1 + t193)) + 1))).bind fun bt198 => (if bt194.2 = 0 then (if bt194.1 = t161 then (if bt196.2 = bt198.2 then (if bt196.1 = bt198.1 then (if bt196.2 = 0 then (some (decide (bt198.1 ≥ t161))) else (some true)) else (none)) else (none)) else (none)) else (none))))) = some r := H
                                    have A76 := Aside0.mk A760
                                    clear A760
                                    replace H := Option.bind_eq_some_iff.mp H
                                    obtain ⟨⟨t194, t195⟩, A770, H⟩ := H
                                    replace H : ((impl_EnlargedBy.f kj65 t161 (wrap64 (1 + t193)) (wrap64 ((wrap64 (1 + t193)) + 1))).bind fun bt196 => ((spec_EnlargedBy.f kj65 t161 (wrap64 (1 + t193)) (wrap64 ((wrap64 (1 + t193)) + 1))).bind fun bt198 => (if t195 = 0 then (if t194 = t161 then (if bt196.2 = bt198.2 then (if bt196.1 = bt198.1 then (if bt196.2 = 0 then (some (decide (bt198.1 ≥ t161))) else (some true)) else (none)) else (none)) else (none)) else (none)))) = some r := H
                                    have A77 := Aside0.mk A770
                                    clear A770
                                    replace H := Option.bind_eq_some_iff.mp H
                                    obtain ⟨⟨t196, t197⟩, A780, H⟩ := H
                                    replace H : ((spec_EnlargedBy.f kj65 t161 (wrap64 (1 + t193)) (wrap64 ((wrap64 (1 + t193)) + 1))).bind fun bt198 => (if t195 = 0 then (if t194 = t161 then (if t197 = bt198.2 then (if t196 = bt198.1 then (if t197 = 0 then (some (decide (bt198.1 ≥ t161))) else (some true)) else (none)) else (none)) else (none)) else (none))) = some r := H
                                    have A78 := Aside0.mk A780
                                    clear A780
                                    replace H := Option.bind_eq_some_iff.mp H
                                    obtain ⟨⟨t198, t199⟩, A790, H⟩ := H
                                    replace H : (if t195 = 0 then (if t194 = t161 then (if t197 = t199 then (if t196 = t198 then (if t197 = 0 then (some (decide (t198 ≥ t161))) else (some true)) else (none)) else (none)) else (none)) else (none)) = some r := H
                                    have A79 := Aside0.mk A790
                                    clear A790
                                    by_cases c80 : t195 = 0
                                    · rw [if_pos c80] at H
                                      have c80b0 : (t195 == 0) = true := beq_iff_eq.mpr c80
                                      have c80b1 : (t195 != 0) = false := bne_eq_false_iff_eq.mpr c80
                                      clear c80
                                      by_cases c81 : t194 = t161
                                      · rw [if_pos c81] at H
                                        have c81b0 : (t194 == t161) = true := beq_iff_eq.mpr c81
                                        have c81b1 : (t194 != t161) = false := bne_eq_false_iff_eq.mpr c81
                                        clear c81
                                        by_cases c82 : t197 = t199
                                        · rw [if_pos c82] at H
                                          have c82b0 : (t197 == t199) = true := beq_iff_eq.mpr c82
                                          have c82b1 : (t197 != t199) = false := bne_eq_false_iff_eq.mpr c82
                                          clear c82
                                          by_cases c83 : t196 = t198
                                          · rw [if_pos c83] at H
                                            have c83b0 : (t196 == t198) = true := beq_iff_eq.mpr c83
                                            have c83b1 : (t196 != t198) = false := bne_eq_false_iff_eq.mpr c83
                                            clear c83
                                            by_cases c84 : t197 = 0
                                            · rw [if_pos c84] at H
                                              have c84b0 : (t197 == 0) = true := beq_iff_eq.mpr c84
                                              have c84b1 : (t197 != 0) = false := bne_eq_false_iff_eq.mpr c84
                                              clear c84
                                              obtain rfl := Option.some.inj H
                                              go_wp2_with (first | ((with_reducible refine gate_callee (f := 40) rfl ?_); refine goesL_ (some 271) rfl rfl Try.func40 (by kernel_rfl) rfl #[.slice A1 l1.length c1, .int .i64 60] rfl (by (try simp only [List.map_toArray, List.map_cons, List.map_nil]); first | done | rfl | (simp only [List.length_drop, List.length_take]; rfl)) ?_; (with_reducible refine (spec_P6Pick.calls _ _ l1 60 t193 _ ?side1 ?side2 A76.out).mono ?_); (case side1 => repeat (first | exact (Kd.C_below HR1.out HB.out) | (with_reducible refine Kd.C_alloc ?_ _) | (with_reducible refine Kd.C_drewN ?_ _) | (with_reducible refine Kd.C_drew ?_))); (case side2 => exact HC1.out); rintro e w85 ⟨rfl, hb⟩; refine ⟨_, rfl, ?_⟩; have n0_ := Aside0.mk (below_step (by repeat (first | (with_reducible first | exact HB.out | apply below_alloc | apply pw_below_drewN | apply below_drew1) | exact HB.out)) hb); clear HB; have HB := n0_; clear n0_; (try clear hb); (try clear hb2); (try clear hk); (try clear hi)) | ((with_reducible refine gate_callee (f := 35) rfl ?_); refine goesL_ (some 277) rfl rfl Try.func35 (by kernel_rfl) rfl #[.int .i64 t161, .int .i64 (wrap64 (1 + t193)), .int .i64 (wrap64 (1 + t193))] rfl (by (try simp only [List.map_toArray, List.map_cons, List.map_nil]); first | done | rfl | (simp only [List.length_drop, List.length_take]; rfl)) ?_; (with_reducible refine (impl_EnlargedBy.calls kj65 t161 (wrap64 (1 + t193)) (wrap64 (1 + t193)) t194 t195 _ A77.out).mono ?_); rintro e w86 ⟨rfl, hb⟩; refine ⟨_, rfl, ?_⟩; have n0_ := Aside0.mk (below_step (by repeat (first | (with_reducible first | exact HB.out | apply below_alloc | apply pw_below_drewN | apply below_drew1) | exact HB.out)) hb); clear HB; have HB := n0_; clear n0_; (try clear hb); (try clear hb2); (try clear hk); (try clear hi)) | ((with_reducible refine gate_callee (f := 35) rfl ?_); refine goesL_ (some 285) rfl rfl Try.func35 (by kernel_rfl) rfl #[.int .i64 t161, .int .i64 (wrap64 (1 + t193)), .int .i64 (wrap64 ((wrap64 (1 + t193)) + 1))] rfl (by (try simp only [List.map_toArray, List.map_cons, List.map_nil]); first | done | rfl | (simp only [List.length_drop, List.length_take]; rfl)) ?_; (with_reducible refine (impl_EnlargedBy.calls kj65 t161 (wrap64 (1 + t193)) (wrap64 ((wrap64 (1 + t193)) + 1)) t196 t197 _ A78.out).mono ?_); rintro e w87 ⟨rfl, hb⟩; refine ⟨_, rfl, ?_⟩; have n0_ := Aside0.mk (below_step (by repeat (first | (with_reducible first | exact HB.out | apply below_alloc | apply pw_below_drewN | apply below_drew1) | exact HB.out)) hb); clear HB; have HB := n0_; clear n0_; (try clear hb); (try clear hb2); (try clear hk); (try clear hi)) | ((with_reducible refine gate_callee (f := 34) rfl ?_); refine goesL_ (some 293) rfl rfl Try.func34 (by kernel_rfl) rfl #[.int .i64 t161, .int .i64 (wrap64 (1 + t193)), .int .i64 (wrap64 ((wrap64 (1 + t193)) + 1))] rfl (by (try simp only [List.map_toArray, List.map_cons, List.map_nil]); first | done | rfl | (simp only [List.length_drop, List.length_take]; rfl)) ?_; (with_reducible refine (spec_EnlargedBy.calls kj65 t161 (wrap64 (1 + t193)) (wrap64 ((wrap64 (1 + t193)) + 1)) t198 t199 _ A79.out).mono ?_); rintro e w88 ⟨rfl, hb⟩; refine ⟨_, rfl, ?_⟩; have n0_ := Aside0.mk (below_step (by repeat (first | (with_reducible first | exact HB.out | apply below_alloc | apply pw_below_drewN | apply below_drew1) | exact HB.out)) hb); clear HB; have HB := n0_; clear n0_; (try clear hb); (try clear hb2); (try clear hk); (try clear hi)))
                                              go_ret
                                              exact ⟨by first | rfl | (simp [errW_none, errW_some] <;> rfl) | (simp only [← hji39, ← hji41]; first | rfl | (simp [errW_none, errW_some] <;> rfl)) | (simp [*, errW_none, errW_some] <;> rfl), by repeat (first | (with_reducible first | exact HB.out | apply below_alloc | apply pw_below_drewN | apply below_drew1) | exact HB.out)⟩
                                            · rw [if_neg c84] at H
                                              have c84b0 : (t197 == 0) = false := beq_eq_false_iff_ne.mpr c84
                                              have c84b1 : (t197 != 0) = true := bne_iff_ne.mpr c84
                                              obtain rfl := Option.some.inj H
                                              go_wp2_with (first | ((with_reducible refine gate_callee (f := 40) rfl ?_); refine goesL_ (some 271) rfl rfl Try.func40 (by kernel_rfl) rfl #[.slice A1 l1.length c1, .int .i64 60] rfl (by (try simp only [List.map_toArray, List.map_cons, List.map_nil]); first | done | rfl | (simp only [List.length_drop, List.length_take]; rfl)) ?_; (with_reducible refine (spec_P6Pick.calls _ _ l1 60 t193 _ ?side1 ?side2 A76.out).mono ?_); (case side1 => repeat (first | exact (Kd.C_below HR1.out HB.out) | (with_reducible refine Kd.C_alloc ?_ _) | (with_reducible refine Kd.C_drewN ?_ _) | (with_reducible refine Kd.C_drew ?_))); (case side2 => exact HC1.out); rintro e w89 ⟨rfl, hb⟩; refine ⟨_, rfl, ?_⟩; have n0_ := Aside0.mk (below_step (by repeat (first | (with_reducible first | exact HB.out | apply below_alloc | apply pw_below_drewN | apply below_drew1) | exact HB.out)) hb); clear HB; have HB := n0_; clear n0_; (try clear hb); (try clear hb2); (try clear hk); (try clear hi)) | ((with_reducible refine gate_callee (f := 35) rfl ?_); refine goesL_ (some 277) rfl rfl Try.func35 (by kernel_rfl) rfl #[.int .i64 t161, .int .i64 (wrap64 (1 + t193)), .int .i64 (wrap64 (1 + t193))] rfl (by (try simp only [List.map_toArray, List.map_cons, List.map_nil]); first | done | rfl | (simp only [List.length_drop, List.length_take]; rfl)) ?_; (with_reducible refine (impl_EnlargedBy.calls kj65 t161 (wrap64 (1 + t193)) (wrap64 (1 + t193)) t194 t195 _ A77.out).mono ?_); rintro e w90 ⟨rfl, hb⟩; refine ⟨_, rfl, ?_⟩; have n0_ := Aside0.mk (below_step (by repeat (first | (with_reducible first | exact HB.out | apply below_alloc | apply pw_below_drewN | apply below_drew1) | exact HB.out)) hb); clear HB; have HB := n0_; clear n0_; (try clear hb); (try clear hb2); (try clear hk); (try clear hi)) | ((with_reducible refine gate_callee (f := 35) rfl ?_); refine goesL_ (some 285) rfl rfl Try.func35 (by kernel_rfl) rfl #[.int .i64 t161, .int .i64 (wrap64 (1 + t193)), .int .i64 (wrap64 ((wrap64 (1 + t193)) + 1))] rfl (by (try simp only [List.map_toArray, List.map_cons, List.map_nil]); first | done | rfl | (simp only [List.length_drop, List.length_take]; rfl)) ?_; (with_reducible refine (impl_EnlargedBy.calls kj65 t161 (wrap64 (1 + t193)) (wrap64 ((wrap64 (1 + t193)) + 1)) t196 t197 _ A78.out).mono ?_); rintro e w91 ⟨rfl, hb⟩; refine ⟨_, rfl, ?_⟩; have n0_ := Aside0.mk (below_step (by repeat (first | (with_reducible first | exact HB.out | apply below_alloc | apply pw_below_drewN | apply below_drew1) | exact HB.out)) hb); clear HB; have HB := n0_; clear n0_; (try clear hb); (try clear hb2); (try clear hk); (try clear hi)) | ((with_reducible refine gate_callee (f := 34) rfl ?_); refine goesL_ (some 293) rfl rfl Try.func34 (by kernel_rfl) rfl #[.int .i64 t161, .int .i64 (wrap64 (1 + t193)), .int .i64 (wrap64 ((wrap64 (1 + t193)) + 1))] rfl (by (try simp only [List.map_toArray, List.map_cons, List.map_nil]); first | done | rfl | (simp only [List.length_drop, List.length_take]; rfl)) ?_; (with_reducible refine (spec_EnlargedBy.calls kj65 t161 (wrap64 (1 + t193)) (wrap64 ((wrap64 (1 + t193)) + 1)) t198 t199 _ A79.out).mono ?_); rintro e w92 ⟨rfl, hb⟩; refine ⟨_, rfl, ?_⟩; have n0_ := Aside0.mk (below_step (by repeat (first | (with_reducible first | exact HB.out | apply below_alloc | apply pw_below_drewN | apply below_drew1) | exact HB.out)) hb); clear HB; have HB := n0_; clear n0_; (try clear hb); (try clear hb2); (try clear hk); (try clear hi)))
                                              go_ret
                                              exact ⟨by first | rfl | (simp [errW_none, errW_some] <;> rfl) | (simp only [← hji39, ← hji41]; first | rfl | (simp [errW_none, errW_some] <;> rfl)) | (simp [*, errW_none, errW_some] <;> rfl), by repeat (first | (with_reducible first | exact HB.out | apply below_alloc | apply pw_below_drewN | apply below_drew1) | exact HB.out)⟩
                                          · rw [if_neg c83] at H
                                            exact absurd H (by simp)
                                        · rw [if_neg c82] at H
                                          exact absurd H (by simp)
                                      · rw [if_neg c81] at H
                                        exact absurd H (by simp)
                                    · rw [if_neg c80] at H
                                      exact absurd H (by simp)
                  · rw [if_neg c40] at H
                    exact absurd H (by simp)

/-- THE ONE PURE STATEMENT of laws_FnTimes: yours. -/
def laws_FnTimes.Pure : Prop := ∀ (l0 : List Int) (l1 : List Int), l0.length ≤ maxLen → l0.length * 1 ≤ 140737488351232 → (∀ x ∈ l0, (Lit.int .u8 x).wf = true) → l1.length ≤ maxLen → l1.length * 1 ≤ 140737488351232 → (∀ x ∈ l1, (Lit.int .u8 x).wf = true) → ∃ k, laws_FnTimes.f k l0 l1 = some true
theorem laws_FnTimes.walk (P : laws_FnTimes.Pure) (a0 : Option Addr) (len0 cap0 : Nat) (z0 : List Int) (a1 : Option Addr) (len1 cap1 : Nat) (z1 : List Int) (w : World) (w0 : (a0 = none ∧ len0 = 0 ∧ cap0 = 0 ∧ z0 = []) ∨ ∃ x, a0 = some x ∧ len0 ≤ cap0 ∧ cap0 ≤ maxLen ∧ z0.length = cap0 ∧ (∀ i, i < z0.length → w.cell? (x.add i) = some (.int .u8 (z0.getD i 0))) ∧ ∀ n ∈ z0, (Lit.int .u8 n).wf = true) (y0 : len0 * 1 ≤ 140737488351232) (w1 : (a1 = none ∧ len1 = 0 ∧ cap1 = 0 ∧ z1 = []) ∨ ∃ x, a1 = some x ∧ len1 ≤ cap1 ∧ cap1 ≤ maxLen ∧ z1.length = cap1 ∧ (∀ i, i < z1.length → w.cell? (x.add i) = some (.int .u8 (z1.getD i 0))) ∧ ∀ n ∈ z1, (Lit.int .u8 n).wf = true) (y1 : len1 * 1 ≤ 140737488351232) :
    Calls Try.prog 14 #[.slice a0 len0 cap0, .slice a1 len1 cap1] w fun e w' => e = .returned (.bool true) ∧ Below w.heap.size w w' := by
  obtain ⟨l0, rfl, hr0, hm0, hw0, hc0⟩ := ReadsInt.ofRowC w0
  obtain ⟨l1, rfl, hr1, hm1, hw1, hc1⟩ := ReadsInt.ofRowC w1
  obtain ⟨k, h⟩ := P l0 l1 hm0 y0 hw0 hm1 y1 hw1
  refine (laws_FnTimes.calls k _ _ l0 _ _ l1 true w (Kd.C_of_reads (d := (0 : Int)) (h1 := fun _ => rfl) hr0) hc0 (Kd.C_of_reads (d := (0 : Int)) (h1 := fun _ => rfl) hr1) hc1 h).mono ?_
  rintro e w' ⟨rfl, hd⟩
  exact ⟨rfl, hd⟩

end Go.Proofs.Ytglgfobfmcipoaa.PFnTimes
