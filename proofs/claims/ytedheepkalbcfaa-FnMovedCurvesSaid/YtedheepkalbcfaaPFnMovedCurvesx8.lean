/- Proves what functions that a law reaches come to, one contract each; no conditions beyond those that each names. Printed by a program of this session (xprint) out of the translation. -/
import Derived.Test.YtedheepkalbcfaaPFnMovedCurvesx0
import Derived.Test.YtedheepkalbcfaaPFnMovedCurvesx2
import Derived.Test.YtedheepkalbcfaaPFnMovedCurvesx4
import Derived.Test.YtedheepkalbcfaaPFnMovedCurvesx6
import Derived.Test.YtedheepkalbcfaaPFnMovedCurvesx7
namespace Go.Proofs.Ytedheepkalbcfaa.PFnMovedCurves
open Go.RowKit Go.Proofs.YtedheepkalbcfaaW.PrintWords Go.Proofs.YtedheepkalbcfaaW.PrintLast Go.Proofs.YtedheepkalbcfaaW.PrintMore
attribute [local go_sem] max2_int min2_int max_two min_two max_three min_three max_four min_four
set_option maxHeartbeats 8000000
set_option maxRecDepth 100000
set_option linter.unusedVariables false
set_option linter.unusedSimpArgs false

/-! ### impl_gap: function 34 -/
def impl_gap.l0 : Nat → List (S37) → List (S37) → Int → Int → Int → Option (Int × Int)
 | 0, _, _, _, _, _ => none
 | k + 1, x0, x1, x6, x7, x8 => (impl_isPlace.f x8).bind fun t219 => (if t219 = true then ((impl_Curve_at.f k x1 x8).bind fun t220 => ((impl_Curve_at.f k x0 x8).bind fun t221 => ((impl_size.f (wrap64 (t220 - t221))).bind fun t222 => ((impl_size.f x7).bind fun t223 => (if t222 > t223 then (impl_gap.l0 k x0 x1 x8 (wrap64 (t220 - t221)) (wrap64 (x8 + 1))) else (impl_gap.l0 k x0 x1 x6 x7 (wrap64 (x8 + 1)))))))) else (some (x6, x7)))
def impl_gap.f (k : Nat) (l0 : List (S37)) (l1 : List (S37)) : Option (Int × Int) := impl_gap.l0 k l0 l1 (-200) 0 (-200)
theorem impl_gap.mono_l : ∀ k, (∀ y0 y1 y2 y3 y4, LeO (impl_gap.l0 k y0 y1 y2 y3 y4) (impl_gap.l0 (k + 1) y0 y1 y2 y3 y4))
 | 0 => fun _ _ _ _ _ r h => by simp [impl_gap.l0] at h
 | k + 1 => by
  have ih0 := impl_gap.mono_l k
  · intro y0 y1 y2 y3 y4
    unfold impl_gap.l0
    repeat' first | (with_reducible first | exact ih0 _ _ _ _ _ | exact impl_Curve_at.mono _ _ _ | exact LeO.refl _ | exact LeO.none _ | refine LeO.ite ?_ ?_ | refine LeO.bind ?_ (fun _ => ?_)) | exact ih0 _ _ _ _ _ | exact impl_Curve_at.mono _ _ _ | exact LeO.none _ | refine LeO.ite ?_ ?_ | refine LeO.bind ?_ (fun _ => ?_)
theorem impl_gap.mono : ∀ a0 a1 k, LeO (impl_gap.f k a0 a1) (impl_gap.f (k + 1) a0 a1) := by
 intro a0 a1 k
 have ih0 := impl_gap.mono_l k
 unfold impl_gap.f
 repeat' first | (with_reducible first | exact ih0 _ _ _ _ _ | exact impl_Curve_at.mono _ _ _ | exact LeO.refl _ | exact LeO.none _ | refine LeO.ite ?_ ?_ | refine LeO.bind ?_ (fun _ => ?_)) | exact ih0 _ _ _ _ _ | exact impl_Curve_at.mono _ _ _ | exact LeO.none _ | refine LeO.ite ?_ ?_ | refine LeO.bind ?_ (fun _ => ?_)
theorem impl_gap.calls (k : Nat) (A0 : Option Addr) (c0 : Nat) (l0 : List (S37)) (A1 : Option Addr) (c1 : Nat) (l1 : List (S37)) (r1 : Int) (r2 : Int) (w : World) (hr0 : Kd.C k37 w A0 l0.length l0) (hc0 : l0.length ≤ c0) (hr1 : Kd.C k37 w A1 l1.length l1) (hc1 : l1.length ≤ c1) (h : impl_gap.f k l0 l1 = some (r1, r2)) :
 Calls Try.prog 34 #[.slice A0 l0.length c0, .slice A1 l1.length c1] w fun e w' => e = .returned (.tuple #[.int .i64 r1, .int .i64 r2]) ∧ Below w.heap.size w w' := by
 have HR0 := am hr0
 have HC0 := am hc0
 clear hr0 hc0
 have HR1 := am hr1
 have HC1 := am hc1
 clear hr1 hc1
 have HB := am (Below.refl w.heap.size w)
 have H : (impl_gap.l0 k l0 l1 (-200) 0 (-200)) = some (r1, r2) := h
 clear h
 have H' := am H
 clear H
 go_enter Try.func34, Try.ntmps34
 go_wp2
 go_loopg [6, 7, 8] k (fun kq v6 v7 v8 w' => ∃ (x6_1 : Int) (x7_1 : Int) (x8_1 : Int), v6 = .int .i64 x6_1 ∧ v7 = .int .i64 x7_1 ∧ v8 = .int .i64 x8_1 ∧ Aside0 (impl_gap.l0 kq l0 l1 x6_1 x7_1 x8_1 = some (r1, r2)) ∧ Aside0 (kq ≤ k) ∧ Aside0 (Below w.heap.size w w'))
 case atStart => exact ⟨((-200)), (0), ((-200)), tr, tr, tr, H', ⟨Nat.le_refl _⟩, ⟨hB⟩⟩
 case round =>
  clear H'
  try clear c1
  try clear p2
  obtain ⟨x6_1, x7_1, x8_1, rfl, rfl, rfl, HA, HK1, HB⟩ := hrel
  cases gk with
  | zero => exact absurd HA.out (by simp [impl_gap.l0])
  | succ k1 =>
   have H := HA.out; clear HA; simp only [impl_gap.l0] at H; replace H := qob.mp H; obtain ⟨t219, A30, H⟩ := H; replace H : (if t219 = true then ((impl_Curve_at.f k1 l1 x8_1).bind fun t220 => ((impl_Curve_at.f k1 l0 x8_1).bind fun t221 => ((impl_size.f (wrap64 (t220 - t221))).bind fun t222 => ((impl_size.f x7_1).bind fun t223 => (if t222 > t223 then (impl_gap.l0 k1 l0 l1 x8_1 (wrap64 (t220 - t221)) (wrap64 (x8_1 + 1))) else (impl_gap.l0 k1 l0 l1 x6_1 x7_1 (wrap64 (x8_1 + 1)))))))) else (some (x6_1, x7_1))) = some (r1, r2) := H; have A3 := am A30; clear A30
   by_cases c4 : t219 = true
   · subst c4
     (have H1 : ((impl_Curve_at.f k1 l1 x8_1).bind fun t220 => ((impl_Curve_at.f k1 l0 x8_1).bind fun t221 => ((impl_size.f (wrap64 (t220 - t221))).bind fun t222 => ((impl_size.f x7_1).bind fun t223 => (if t222 > t223 then (impl_gap.l0 k1 l0 l1 x8_1 (wrap64 (t220 - t221)) (wrap64 (x8_1 + 1))) else (impl_gap.l0 k1 l0 l1 x6_1 x7_1 (wrap64 (x8_1 + 1)))))))) = some (r1, r2) := by rw [if_pos rfl] at H; exact H); clear H; have H := H1; clear H1; replace H := qob.mp H; obtain ⟨t220, A50, H⟩ := H; replace H : ((impl_Curve_at.f k1 l0 x8_1).bind fun t221 => ((impl_size.f (wrap64 (t220 - t221))).bind fun t222 => ((impl_size.f x7_1).bind fun t223 => (if t222 > t223 then (impl_gap.l0 k1 l0 l1 x8_1 (wrap64 (t220 - t221)) (wrap64 (x8_1 + 1))) else (impl_gap.l0 k1 l0 l1 x6_1 x7_1 (wrap64 (x8_1 + 1))))))) = some (r1, r2) := H; have A5 := am A50; clear A50; replace H := qob.mp H; obtain ⟨t221, A60, H⟩ := H; replace H : ((impl_size.f (wrap64 (t220 - t221))).bind fun t222 => ((impl_size.f x7_1).bind fun t223 => (if t222 > t223 then (impl_gap.l0 k1 l0 l1 x8_1 (wrap64 (t220 - t221)) (wrap64 (x8_1 + 1))) else (impl_gap.l0 k1 l0 l1 x6_1 x7_1 (wrap64 (x8_1 + 1)))))) = some (r1, r2) := H; have A6 := am A60; clear A60; replace H := qob.mp H; obtain ⟨t222, A70, H⟩ := H; replace H : ((impl_size.f x7_1).bind fun t223 => (if t222 > t223 then (impl_gap.l0 k1 l0 l1 x8_1 (wrap64 (t220 - t221)) (wrap64 (x8_1 + 1))) else (impl_gap.l0 k1 l0 l1 x6_1 x7_1 (wrap64 (x8_1 + 1))))) = some (r1, r2) := H; have A7 := am A70; clear A70; replace H := qob.mp H; obtain ⟨t223, A80, H⟩ := H; replace H : (if t222 > t223 then (impl_gap.l0 k1 l0 l1 x8_1 (wrap64 (t220 - t221)) (wrap64 (x8_1 + 1))) else (impl_gap.l0 k1 l0 l1 x6_1 x7_1 (wrap64 (x8_1 + 1)))) = some (r1, r2) := H; have A8 := am A80; clear A80
     by_cases c9 : t222 > t223
     · rw [if_pos c9] at H
       have c9b0 : decide (t223 < t222) = true := decide_eq_true c9; clear c9; have H' := am H; clear H; go_wp2_with (first | ((with_reducible refine gate_callee (f := 36) rfl ?_); refine gl (some 11) rfl rfl Try.func36 #[.int .i64 x8_1] rfl ?_; (with_reducible refine (impl_isPlace.calls x8_1 true _ A3.out).mono ?_); rintro e w' ⟨rfl, ⟨nd, rfl⟩⟩; refine ⟨_, rfl, ?_⟩) | ((with_reducible refine gate_callee (f := 37) rfl ?_); refine gl (some 16) rfl rfl Try.func37 #[.slice A1 l1.length c1, .int .i64 x8_1] rfl ?_; (with_reducible refine (impl_Curve_at.calls k1 _ _ l1 x8_1 t220 _ ?side1 ?side2 A5.out).mono ?_); (case side1 => repeat (first | exact (Kd.C_below HR1.out hB) | (with_reducible first | refine qca ?_ _ | refine qcn ?_ _ | refine qco ?_))); (case side2 => exact HC1.out); rintro e w10 ⟨rfl, hb⟩; refine ⟨_, rfl, ?_⟩; have n0_ := am (qS hb); clear HB; have HB := n0_; clear n0_; (try clear hb)) | ((with_reducible refine gate_callee (f := 37) rfl ?_); refine gl (some 19) rfl rfl Try.func37 #[.slice A0 l0.length c0, .int .i64 x8_1] rfl ?_; (with_reducible refine (impl_Curve_at.calls k1 _ _ l0 x8_1 t221 _ ?side1 ?side2 A6.out).mono ?_); (case side1 => repeat (first | exact (Kd.C_below HR0.out HB.out) | (with_reducible first | refine qca ?_ _ | refine qcn ?_ _ | refine qco ?_))); (case side2 => exact HC0.out); rintro e w11 ⟨rfl, hb⟩; refine ⟨_, rfl, ?_⟩; have n0_ := am (qS hb); clear HB; have HB := n0_; clear n0_; (try clear hb)) | ((with_reducible refine gate_callee (f := 60) rfl ?_); refine gl (some 22) rfl rfl Try.func60 #[.int .i64 (wrap64 (t220 - t221))] rfl ?_; (with_reducible refine (impl_size.calls (wrap64 (t220 - t221)) t222 _ A7.out).mono ?_); rintro e w12 ⟨rfl, hb⟩; refine ⟨_, rfl, ?_⟩; have n0_ := am (qS hb); clear HB; have HB := n0_; clear n0_; (try clear hb)) | ((with_reducible refine gate_callee (f := 60) rfl ?_); refine gl (some 24) rfl rfl Try.func60 #[.int .i64 x7_1] rfl ?_; (with_reducible refine (impl_size.calls x7_1 t223 _ A8.out).mono ?_); rintro e w13 ⟨rfl, hb⟩; refine ⟨_, rfl, ?_⟩; have n0_ := am (qS hb); clear HB; have HB := n0_; clear n0_; (try clear hb))); go_roundg k1
       case measure => have := HK1.out; omega
       case rel => exact ⟨(x8_1), (wrap64 (t220 - t221)), (wrap64 (x8_1 + 1)), tr, tr, tr, H', ⟨by have := HK1.out; omega⟩, ⟨hB⟩⟩
     · rw [if_neg c9] at H
       have c9b0 : decide (t223 < t222) = false := decide_eq_false c9; clear c9; have H' := am H; clear H; go_wp2_with (first | ((with_reducible refine gate_callee (f := 36) rfl ?_); refine gl (some 11) rfl rfl Try.func36 #[.int .i64 x8_1] rfl ?_; (with_reducible refine (impl_isPlace.calls x8_1 true _ A3.out).mono ?_); rintro e w' ⟨rfl, ⟨nd, rfl⟩⟩; refine ⟨_, rfl, ?_⟩) | ((with_reducible refine gate_callee (f := 37) rfl ?_); refine gl (some 16) rfl rfl Try.func37 #[.slice A1 l1.length c1, .int .i64 x8_1] rfl ?_; (with_reducible refine (impl_Curve_at.calls k1 _ _ l1 x8_1 t220 _ ?side1 ?side2 A5.out).mono ?_); (case side1 => repeat (first | exact (Kd.C_below HR1.out hB) | (with_reducible first | refine qca ?_ _ | refine qcn ?_ _ | refine qco ?_))); (case side2 => exact HC1.out); rintro e w14 ⟨rfl, hb⟩; refine ⟨_, rfl, ?_⟩; have n0_ := am (qS hb); clear HB; have HB := n0_; clear n0_; (try clear hb)) | ((with_reducible refine gate_callee (f := 37) rfl ?_); refine gl (some 19) rfl rfl Try.func37 #[.slice A0 l0.length c0, .int .i64 x8_1] rfl ?_; (with_reducible refine (impl_Curve_at.calls k1 _ _ l0 x8_1 t221 _ ?side1 ?side2 A6.out).mono ?_); (case side1 => repeat (first | exact (Kd.C_below HR0.out HB.out) | (with_reducible first | refine qca ?_ _ | refine qcn ?_ _ | refine qco ?_))); (case side2 => exact HC0.out); rintro e w15 ⟨rfl, hb⟩; refine ⟨_, rfl, ?_⟩; have n0_ := am (qS hb); clear HB; have HB := n0_; clear n0_; (try clear hb)) | ((with_reducible refine gate_callee (f := 60) rfl ?_); refine gl (some 22) rfl rfl Try.func60 #[.int .i64 (wrap64 (t220 - t221))] rfl ?_; (with_reducible refine (impl_size.calls (wrap64 (t220 - t221)) t222 _ A7.out).mono ?_); rintro e w16 ⟨rfl, hb⟩; refine ⟨_, rfl, ?_⟩; have n0_ := am (qS hb); clear HB; have HB := n0_; clear n0_; (try clear hb)) | ((with_reducible refine gate_callee (f := 60) rfl ?_); refine gl (some 24) rfl rfl Try.func60 #[.int .i64 x7_1] rfl ?_; (with_reducible refine (impl_size.calls x7_1 t223 _ A8.out).mono ?_); rintro e w17 ⟨rfl, hb⟩; refine ⟨_, rfl, ?_⟩; have n0_ := am (qS hb); clear HB; have HB := n0_; clear n0_; (try clear hb))); go_roundg k1
       case measure => have := HK1.out; omega
       case rel => exact ⟨(x6_1), (x7_1), (wrap64 (x8_1 + 1)), tr, tr, tr, H', ⟨by have := HK1.out; omega⟩, ⟨hB⟩⟩
   · replace c4 := Bool.eq_false_iff.mpr c4
     subst c4; (have H1 : (some (x6_1, x7_1)) = some (r1, r2) := by rw [if_neg (show ¬ (false = true) by decide)] at H; exact H); clear H; have H := H1; clear H1; simp only [Option.some.injEq, Prod.mk.injEq] at H; obtain ⟨rfl, rfl⟩ := H; go_wp2_with (first | ((with_reducible refine gate_callee (f := 36) rfl ?_); refine gl (some 11) rfl rfl Try.func36 #[.int .i64 x8_1] rfl ?_; (with_reducible refine (impl_isPlace.calls x8_1 false _ A3.out).mono ?_); rintro e w' ⟨rfl, ⟨nd, rfl⟩⟩; refine ⟨_, rfl, ?_⟩)); go_ret2; exact ⟨te, hB⟩

/-! ### impl_GreatestGap: function 12 -/
def impl_GreatestGap.f (k : Nat) (l0 : List (S37)) (l1 : List (S37)) : Option (Int × Int × Int) := (impl_ValidCurve.f k l0).bind fun t224 => (if t224 = true then ((impl_ValidCurve.f k l1).bind fun t225 => (if t225 = true then ((impl_gap.f k l0 l1).bind fun bt226 => (some (bt226.1, bt226.2, 0))) else (some (0, 0, 1)))) else (some (0, 0, 1)))
theorem impl_GreatestGap.mono : ∀ a0 a1 k, LeO (impl_GreatestGap.f k a0 a1) (impl_GreatestGap.f (k + 1) a0 a1) := by
 intro a0 a1 k
 unfold impl_GreatestGap.f
 repeat' first | (with_reducible first | exact impl_ValidCurve.mono _ _ | exact impl_gap.mono _ _ _ | exact LeO.refl _ | exact LeO.none _ | refine LeO.ite ?_ ?_ | refine LeO.bind ?_ (fun _ => ?_)) | exact impl_ValidCurve.mono _ _ | exact impl_gap.mono _ _ _ | exact LeO.none _ | refine LeO.ite ?_ ?_ | refine LeO.bind ?_ (fun _ => ?_)
theorem impl_GreatestGap.calls (k : Nat) (A0 : Option Addr) (c0 : Nat) (l0 : List (S37)) (A1 : Option Addr) (c1 : Nat) (l1 : List (S37)) (r1 : Int) (r2 : Int) (r3 : Int) (w : World) (hr0 : Kd.C k37 w A0 l0.length l0) (hc0 : l0.length ≤ c0) (hr1 : Kd.C k37 w A1 l1.length l1) (hc1 : l1.length ≤ c1) (h : impl_GreatestGap.f k l0 l1 = some (r1, r2, r3)) :
 Calls Try.prog 12 #[.slice A0 l0.length c0, .slice A1 l1.length c1] w fun e w' => e = .returned (.tuple #[.int .i64 r1, .int .i64 r2, .int .i64 r3]) ∧ Below w.heap.size w w' := by
 have HR0 := am hr0
 have HC0 := am hc0
 clear hr0 hc0
 have HR1 := am hr1
 have HC1 := am hc1
 clear hr1 hc1
 have HB := am (Below.refl w.heap.size w)
 have H : ((impl_ValidCurve.f k l0).bind fun t224 => (if t224 = true then ((impl_ValidCurve.f k l1).bind fun t225 => (if t225 = true then ((impl_gap.f k l0 l1).bind fun bt226 => (some (bt226.1, bt226.2, 0))) else (some (0, 0, 1)))) else (some (0, 0, 1)))) = some (r1, r2, r3) := h
 clear h
 replace H := qob.mp H
 obtain ⟨t224, A30, H⟩ := H
 replace H : (if t224 = true then ((impl_ValidCurve.f k l1).bind fun t225 => (if t225 = true then ((impl_gap.f k l0 l1).bind fun bt226 => (some (bt226.1, bt226.2, 0))) else (some (0, 0, 1)))) else (some (0, 0, 1))) = some (r1, r2, r3) := H
 have A3 := am A30
 clear A30
 by_cases c4 : t224 = true
 · subst c4
   (have H1 : ((impl_ValidCurve.f k l1).bind fun t225 => (if t225 = true then ((impl_gap.f k l0 l1).bind fun bt226 => (some (bt226.1, bt226.2, 0))) else (some (0, 0, 1)))) = some (r1, r2, r3) := by rw [if_pos rfl] at H; exact H); clear H; have H := H1; clear H1; replace H := qob.mp H; obtain ⟨t225, A50, H⟩ := H; replace H : (if t225 = true then ((impl_gap.f k l0 l1).bind fun bt226 => (some (bt226.1, bt226.2, 0))) else (some (0, 0, 1))) = some (r1, r2, r3) := H; have A5 := am A50; clear A50
   by_cases c6 : t225 = true
   · subst c6
     (have H1 : ((impl_gap.f k l0 l1).bind fun bt226 => (some (bt226.1, bt226.2, 0))) = some (r1, r2, r3) := by rw [if_pos rfl] at H; exact H); clear H; have H := H1; clear H1; replace H := qob.mp H; obtain ⟨⟨t226, t227⟩, A70, H⟩ := H; replace H : (some (t226, t227, 0)) = some (r1, r2, r3) := H; have A7 := am A70; clear A70; simp only [Option.some.injEq, Prod.mk.injEq] at H; obtain ⟨rfl, rfl, rfl⟩ := H; go_enter Try.func12, Try.ntmps12; go_wp2_with (first | ((with_reducible refine gate_callee (f := 18) rfl ?_); refine gl (some 10) rfl rfl Try.func18 #[.slice A0 l0.length c0] rfl ?_; (with_reducible refine (impl_ValidCurve.calls k _ _ l0 true _ ?side1 ?side2 A3.out).mono ?_); (case side1 => repeat (first | exact HR0.out | (with_reducible first | refine qca ?_ _ | refine qcn ?_ _ | refine qco ?_))); (case side2 => exact HC0.out); rintro e w8 ⟨rfl, hb⟩; refine ⟨_, rfl, ?_⟩; have n0_ := am (qS hb); clear HB; have HB := n0_; clear n0_; (try clear hb)) | (go_at_call 18; (with_reducible refine (impl_ValidCurve.calls k _ _ l1 true _ ?side1 ?side2 A5.out).mono ?_); (case side1 => repeat (first | exact (Kd.C_below HR1.out HB.out) | (with_reducible first | refine qca ?_ _ | refine qcn ?_ _ | refine qco ?_))); (case side2 => exact HC1.out); rintro e w9 ⟨rfl, hb⟩; have n0_ := am (qS hb); clear HB; have HB := n0_; clear n0_; (try clear hb)) | ((with_reducible refine gate_callee (f := 34) rfl ?_); refine gl (some 20) rfl rfl Try.func34 #[.slice A0 l0.length c0, .slice A1 l1.length c1] rfl ?_; (with_reducible refine (impl_gap.calls k _ _ l0 _ _ l1 t226 t227 _ ?side1 ?side2 ?side3 ?side4 A7.out).mono ?_); (case side1 => repeat (first | exact (Kd.C_below HR0.out HB.out) | (with_reducible first | refine qca ?_ _ | refine qcn ?_ _ | refine qco ?_))); (case side2 => exact HC0.out); (case side3 => repeat (first | exact (Kd.C_below HR1.out HB.out) | (with_reducible first | refine qca ?_ _ | refine qcn ?_ _ | refine qco ?_))); (case side4 => exact HC1.out); rintro e w10 ⟨rfl, hb⟩; refine ⟨_, rfl, ?_⟩; have n0_ := am (qS hb); clear HB; have HB := n0_; clear n0_; (try clear hb))); go_ret3; exact ⟨te, hB⟩
   · replace c6 := Bool.eq_false_iff.mpr c6
     subst c6; (have H1 : (some (0, 0, 1)) = some (r1, r2, r3) := by rw [if_neg (show ¬ (false = true) by decide)] at H; exact H); clear H; have H := H1; clear H1; simp only [Option.some.injEq, Prod.mk.injEq] at H; obtain ⟨rfl, rfl, rfl⟩ := H; go_enter Try.func12, Try.ntmps12; go_wp2_with (first | ((with_reducible refine gate_callee (f := 18) rfl ?_); refine gl (some 10) rfl rfl Try.func18 #[.slice A0 l0.length c0] rfl ?_; (with_reducible refine (impl_ValidCurve.calls k _ _ l0 true _ ?side1 ?side2 A3.out).mono ?_); (case side1 => repeat (first | exact HR0.out | (with_reducible first | refine qca ?_ _ | refine qcn ?_ _ | refine qco ?_))); (case side2 => exact HC0.out); rintro e w11 ⟨rfl, hb⟩; refine ⟨_, rfl, ?_⟩; have n0_ := am (qS hb); clear HB; have HB := n0_; clear n0_; (try clear hb)) | (go_at_call 18; (with_reducible refine (impl_ValidCurve.calls k _ _ l1 false _ ?side1 ?side2 A5.out).mono ?_); (case side1 => repeat (first | exact (Kd.C_below HR1.out HB.out) | (with_reducible first | refine qca ?_ _ | refine qcn ?_ _ | refine qco ?_))); (case side2 => exact HC1.out); rintro e w12 ⟨rfl, hb⟩; have n0_ := am (qS hb); clear HB; have HB := n0_; clear n0_; (try clear hb))); go_ret3; exact ⟨te, hB⟩
 · replace c4 := Bool.eq_false_iff.mpr c4
   subst c4; (have H1 : (some (0, 0, 1)) = some (r1, r2, r3) := by rw [if_neg (show ¬ (false = true) by decide)] at H; exact H); clear H; have H := H1; clear H1; simp only [Option.some.injEq, Prod.mk.injEq] at H; obtain ⟨rfl, rfl, rfl⟩ := H; go_enter Try.func12, Try.ntmps12; go_wp2_with (first | ((with_reducible refine gate_callee (f := 18) rfl ?_); refine gl (some 10) rfl rfl Try.func18 #[.slice A0 l0.length c0] rfl ?_; (with_reducible refine (impl_ValidCurve.calls k _ _ l0 false _ ?side1 ?side2 A3.out).mono ?_); (case side1 => repeat (first | exact HR0.out | (with_reducible first | refine qca ?_ _ | refine qcn ?_ _ | refine qco ?_))); (case side2 => exact HC0.out); rintro e w13 ⟨rfl, hb⟩; refine ⟨_, rfl, ?_⟩; have n0_ := am (qS hb); clear HB; have HB := n0_; clear n0_; (try clear hb))); go_ret3; exact ⟨te, hB⟩

/-! ### impl_CurveAt: function 13 -/
def impl_CurveAt.f (k : Nat) (l0 : List (S37)) (a1 : Int) : Option (Int × Int) := (impl_isPlace.f a1).bind fun t228 => ((impl_curveCode.f k l0 t228).bind fun t229 => (if t229 = 0 then ((impl_Curve_at.f k l0 a1).bind fun t230 => (some (t230, 0))) else (some (0, t229))))
theorem impl_CurveAt.mono : ∀ a0 a1 k, LeO (impl_CurveAt.f k a0 a1) (impl_CurveAt.f (k + 1) a0 a1) := by
 intro a0 a1 k
 unfold impl_CurveAt.f
 repeat' first | (with_reducible first | exact impl_Curve_at.mono _ _ _ | exact impl_curveCode.mono _ _ _ | exact LeO.refl _ | exact LeO.none _ | refine LeO.ite ?_ ?_ | refine LeO.bind ?_ (fun _ => ?_)) | exact impl_Curve_at.mono _ _ _ | exact impl_curveCode.mono _ _ _ | exact LeO.none _ | refine LeO.ite ?_ ?_ | refine LeO.bind ?_ (fun _ => ?_)
theorem impl_CurveAt.calls (k : Nat) (A0 : Option Addr) (c0 : Nat) (l0 : List (S37)) (a1 : Int) (r1 : Int) (r2 : Int) (w : World) (hr0 : Kd.C k37 w A0 l0.length l0) (hc0 : l0.length ≤ c0) (h : impl_CurveAt.f k l0 a1 = some (r1, r2)) :
 Calls Try.prog 13 #[.slice A0 l0.length c0, .int .i64 a1] w fun e w' => e = .returned (.tuple #[.int .i64 r1, .int .i64 r2]) ∧ Below w.heap.size w w' := by
 have HR0 := am hr0
 have HC0 := am hc0
 clear hr0 hc0
 have HB := am (Below.refl w.heap.size w)
 have H : ((impl_isPlace.f a1).bind fun t228 => ((impl_curveCode.f k l0 t228).bind fun t229 => (if t229 = 0 then ((impl_Curve_at.f k l0 a1).bind fun t230 => (some (t230, 0))) else (some (0, t229))))) = some (r1, r2) := h
 clear h
 replace H := qob.mp H
 obtain ⟨t228, A30, H⟩ := H
 replace H : ((impl_curveCode.f k l0 t228).bind fun t229 => (if t229 = 0 then ((impl_Curve_at.f k l0 a1).bind fun t230 => (some (t230, 0))) else (some (0, t229)))) = some (r1, r2) := H
 have A3 := am A30
 clear A30
 replace H := qob.mp H
 obtain ⟨t229, A40, H⟩ := H
 replace H : (if t229 = 0 then ((impl_Curve_at.f k l0 a1).bind fun t230 => (some (t230, 0))) else (some (0, t229))) = some (r1, r2) := H
 have A4 := am A40
 clear A40
 by_cases c5 : t229 = 0
 · rw [if_pos c5] at H
   have c5b0 : (t229 == 0) = true := beq_iff_eq.mpr c5; have c5b1 : (t229 != 0) = false := bne_eq_false_iff_eq.mpr c5; clear c5; replace H := qob.mp H; obtain ⟨t230, A60, H⟩ := H; replace H : (some (t230, 0)) = some (r1, r2) := H; have A6 := am A60; clear A60; simp only [Option.some.injEq, Prod.mk.injEq] at H; obtain ⟨rfl, rfl⟩ := H; go_enter Try.func13, Try.ntmps13; go_wp2_with (first | ((with_reducible refine gate_callee (f := 36) rfl ?_); refine gl (some 9) rfl rfl Try.func36 #[.int .i64 a1] rfl ?_; (with_reducible refine (impl_isPlace.calls a1 t228 _ A3.out).mono ?_); rintro e w' ⟨rfl, ⟨nd, rfl⟩⟩; refine ⟨_, rfl, ?_⟩) | ((with_reducible refine gate_callee (f := 35) rfl ?_); refine gl (some 10) rfl rfl Try.func35 #[.slice A0 l0.length c0, .bool t228] rfl ?_; (with_reducible refine (impl_curveCode.calls k _ _ l0 t228 t229 _ ?side1 ?side2 A4.out).mono ?_); (case side1 => repeat (first | exact HR0.out | (with_reducible first | refine qca ?_ _ | refine qcn ?_ _ | refine qco ?_))); (case side2 => exact HC0.out); rintro e w7 ⟨rfl, hb⟩; refine ⟨_, rfl, ?_⟩; have n0_ := am (qS hb); clear HB; have HB := n0_; clear n0_; (try clear hb)) | ((with_reducible refine gate_callee (f := 37) rfl ?_); refine gl (some 16) rfl rfl Try.func37 #[.slice A0 l0.length c0, .int .i64 a1] rfl ?_; (with_reducible refine (impl_Curve_at.calls k _ _ l0 a1 t230 _ ?side1 ?side2 A6.out).mono ?_); (case side1 => repeat (first | exact (Kd.C_below HR0.out HB.out) | (with_reducible first | refine qca ?_ _ | refine qcn ?_ _ | refine qco ?_))); (case side2 => exact HC0.out); rintro e w8 ⟨rfl, hb⟩; refine ⟨_, rfl, ?_⟩; have n0_ := am (qS hb); clear HB; have HB := n0_; clear n0_; (try clear hb))); go_ret2; exact ⟨te, hB⟩
 · rw [if_neg c5] at H
   have c5b0 : (t229 == 0) = false := beq_eq_false_iff_ne.mpr c5; have c5b1 : (t229 != 0) = true := bne_iff_ne.mpr c5; simp only [Option.some.injEq, Prod.mk.injEq] at H; obtain ⟨rfl, rfl⟩ := H; go_enter Try.func13, Try.ntmps13; go_wp2_with (first | ((with_reducible refine gate_callee (f := 36) rfl ?_); refine gl (some 9) rfl rfl Try.func36 #[.int .i64 a1] rfl ?_; (with_reducible refine (impl_isPlace.calls a1 t228 _ A3.out).mono ?_); rintro e w' ⟨rfl, ⟨nd, rfl⟩⟩; refine ⟨_, rfl, ?_⟩) | ((with_reducible refine gate_callee (f := 35) rfl ?_); refine gl (some 10) rfl rfl Try.func35 #[.slice A0 l0.length c0, .bool t228] rfl ?_; (with_reducible refine (impl_curveCode.calls k _ _ l0 t228 t229 _ ?side1 ?side2 A4.out).mono ?_); (case side1 => repeat (first | exact HR0.out | (with_reducible first | refine qca ?_ _ | refine qcn ?_ _ | refine qco ?_))); (case side2 => exact HC0.out); rintro e w9 ⟨rfl, hb⟩; refine ⟨_, rfl, ?_⟩; have n0_ := am (qS hb); clear HB; have HB := n0_; clear n0_; (try clear hb))); go_ret2; exact ⟨te, hB⟩

/-! ### spec_l02Asked: function 38 -/
def spec_l02Asked.f (k : Nat) (l0 : List (S37)) (a1 : Int) : Option (Int) := (spec_l02Ok.f k l0).bind fun t231 => (if t231 = true then ((spec_l02Place.f a1).bind fun t232 => (if t232 = true then (some 0) else (some 2))) else (some 1))
theorem spec_l02Asked.mono : ∀ a0 a1 k, LeO (spec_l02Asked.f k a0 a1) (spec_l02Asked.f (k + 1) a0 a1) := by
 intro a0 a1 k
 unfold spec_l02Asked.f
 repeat' first | (with_reducible first | exact spec_l02Ok.mono _ _ | exact LeO.refl _ | exact LeO.none _ | refine LeO.ite ?_ ?_ | refine LeO.bind ?_ (fun _ => ?_)) | exact spec_l02Ok.mono _ _ | exact LeO.none _ | refine LeO.ite ?_ ?_ | refine LeO.bind ?_ (fun _ => ?_)
theorem spec_l02Asked.calls (k : Nat) (A0 : Option Addr) (c0 : Nat) (l0 : List (S37)) (a1 : Int) (r : Int) (w : World) (hr0 : Kd.C k37 w A0 l0.length l0) (hc0 : l0.length ≤ c0) (h : spec_l02Asked.f k l0 a1 = some r) :
 Calls Try.prog 38 #[.slice A0 l0.length c0, .int .i64 a1] w fun e w' => e = .returned (.int .i64 r) ∧ Below w.heap.size w w' := by
 have HR0 := am hr0
 have HC0 := am hc0
 clear hr0 hc0
 have HB := am (Below.refl w.heap.size w)
 have H : ((spec_l02Ok.f k l0).bind fun t231 => (if t231 = true then ((spec_l02Place.f a1).bind fun t232 => (if t232 = true then (some 0) else (some 2))) else (some 1))) = some r := h
 clear h
 replace H := qob.mp H
 obtain ⟨t231, A30, H⟩ := H
 replace H : (if t231 = true then ((spec_l02Place.f a1).bind fun t232 => (if t232 = true then (some 0) else (some 2))) else (some 1)) = some r := H
 have A3 := am A30
 clear A30
 by_cases c4 : t231 = true
 · subst c4
   (have H1 : ((spec_l02Place.f a1).bind fun t232 => (if t232 = true then (some 0) else (some 2))) = some r := by rw [if_pos rfl] at H; exact H); clear H; have H := H1; clear H1; replace H := qob.mp H; obtain ⟨t232, A50, H⟩ := H; replace H : (if t232 = true then (some 0) else (some 2)) = some r := H; have A5 := am A50; clear A50
   by_cases c6 : t232 = true
   · subst c6
     (have H1 : (some 0) = some r := by rw [if_pos rfl] at H; exact H); clear H; have H := H1; clear H1; obtain rfl := Option.some.inj H; go_enter Try.func38, Try.ntmps38; go_wp2_with (first | ((with_reducible refine gate_callee (f := 51) rfl ?_); refine gl (some 6) rfl rfl Try.func51 #[.slice A0 l0.length c0] rfl ?_; (with_reducible refine (spec_l02Ok.calls k _ _ l0 true _ ?side1 ?side2 A3.out).mono ?_); (case side1 => repeat (first | exact HR0.out | (with_reducible first | refine qca ?_ _ | refine qcn ?_ _ | refine qco ?_))); (case side2 => exact HC0.out); rintro e w7 ⟨rfl, hb⟩; refine ⟨_, rfl, ?_⟩; have n0_ := am (qS hb); clear HB; have HB := n0_; clear n0_; (try clear hb)) | ((with_reducible refine gate_callee (f := 53) rfl ?_); refine gl (some 9) rfl rfl Try.func53 #[.int .i64 a1] rfl ?_; (with_reducible refine (spec_l02Place.calls a1 true _ A5.out).mono ?_); rintro e w' ⟨rfl, ⟨nd, rfl⟩⟩; refine ⟨_, rfl, ?_⟩)); go_ret; exact ⟨te, hB⟩
   · replace c6 := Bool.eq_false_iff.mpr c6
     subst c6; (have H1 : (some 2) = some r := by rw [if_neg (show ¬ (false = true) by decide)] at H; exact H); clear H; have H := H1; clear H1; obtain rfl := Option.some.inj H; go_enter Try.func38, Try.ntmps38; go_wp2_with (first | ((with_reducible refine gate_callee (f := 51) rfl ?_); refine gl (some 6) rfl rfl Try.func51 #[.slice A0 l0.length c0] rfl ?_; (with_reducible refine (spec_l02Ok.calls k _ _ l0 true _ ?side1 ?side2 A3.out).mono ?_); (case side1 => repeat (first | exact HR0.out | (with_reducible first | refine qca ?_ _ | refine qcn ?_ _ | refine qco ?_))); (case side2 => exact HC0.out); rintro e w8 ⟨rfl, hb⟩; refine ⟨_, rfl, ?_⟩; have n0_ := am (qS hb); clear HB; have HB := n0_; clear n0_; (try clear hb)) | ((with_reducible refine gate_callee (f := 53) rfl ?_); refine gl (some 9) rfl rfl Try.func53 #[.int .i64 a1] rfl ?_; (with_reducible refine (spec_l02Place.calls a1 false _ A5.out).mono ?_); rintro e w' ⟨rfl, ⟨nd, rfl⟩⟩; refine ⟨_, rfl, ?_⟩)); go_ret; exact ⟨te, hB⟩
 · replace c4 := Bool.eq_false_iff.mpr c4
   subst c4; (have H1 : (some 1) = some r := by rw [if_neg (show ¬ (false = true) by decide)] at H; exact H); clear H; have H := H1; clear H1; obtain rfl := Option.some.inj H; go_enter Try.func38, Try.ntmps38; go_wp2_with (first | ((with_reducible refine gate_callee (f := 51) rfl ?_); refine gl (some 6) rfl rfl Try.func51 #[.slice A0 l0.length c0] rfl ?_; (with_reducible refine (spec_l02Ok.calls k _ _ l0 false _ ?side1 ?side2 A3.out).mono ?_); (case side1 => repeat (first | exact HR0.out | (with_reducible first | refine qca ?_ _ | refine qcn ?_ _ | refine qco ?_))); (case side2 => exact HC0.out); rintro e w9 ⟨rfl, hb⟩; refine ⟨_, rfl, ?_⟩; have n0_ := am (qS hb); clear HB; have HB := n0_; clear n0_; (try clear hb))); go_ret; exact ⟨te, hB⟩

/-! ### spec_l02At: function 39 -/
def spec_l02At.l0 : Nat → List (S37) → Int → Int → Option (Int)
 | 0, _, _, _ => none
 | k + 1, x0, x1, x6 => if 0 ≤ (wrap64 (x6 + 1)) then (if (wrap64 (x6 + 1)) < (x0.length : Int) then (if (wrap64 ((rd_T37 x0 (wrap64 (x6 + 1))).f0)) ≤ x1 then (spec_l02At.l0 k x0 x1 (wrap64 (x6 + 1))) else (if 0 ≤ x6 then (if x6 < (x0.length : Int) then (if (wrap64 ((wrap64 ((rd_T37 x0 (wrap64 (x6 + 1))).f0)) - (wrap64 ((rd_T37 x0 x6).f0)))) = 0 then (none) else (some (wrap64 ((wrap64 ((rd_T37 x0 x6).f1)) + (wrap64 (Int.tdiv (wrap64 ((wrap64 ((wrap64 ((rd_T37 x0 (wrap64 (x6 + 1))).f1)) - (wrap64 ((rd_T37 x0 x6).f1)))) * (wrap64 (x1 - (wrap64 ((rd_T37 x0 x6).f0)))))) (wrap64 ((wrap64 ((rd_T37 x0 (wrap64 (x6 + 1))).f0)) - (wrap64 ((rd_T37 x0 x6).f0)))))))))) else (none)) else (none))) else (none)) else (none)
def spec_l02At.f (k : Nat) (l0 : List (S37)) (a1 : Int) : Option (Int) := if 0 < (l0.length : Int) then (if a1 ≤ (wrap64 ((rd_T37 l0 0).f0)) then (some (wrap64 ((rd_T37 l0 0).f1))) else (if 0 ≤ (wrap64 ((l0.length : Int) - 1)) then (if (wrap64 ((l0.length : Int) - 1)) < (l0.length : Int) then (if a1 ≥ (wrap64 ((rd_T37 l0 (wrap64 ((l0.length : Int) - 1))).f0)) then (some (wrap64 ((rd_T37 l0 (wrap64 ((l0.length : Int) - 1))).f1))) else (spec_l02At.l0 k l0 a1 0)) else (none)) else (none))) else (none)
theorem spec_l02At.mono_l : ∀ k, (∀ y0 y1 y2, LeO (spec_l02At.l0 k y0 y1 y2) (spec_l02At.l0 (k + 1) y0 y1 y2))
 | 0 => fun _ _ _ r h => by simp [spec_l02At.l0] at h
 | k + 1 => by
  have ih0 := spec_l02At.mono_l k
  · intro y0 y1 y2
    unfold spec_l02At.l0
    repeat' first | (with_reducible first | exact ih0 _ _ _ | exact LeO.refl _ | exact LeO.none _ | refine LeO.ite ?_ ?_ | refine LeO.bind ?_ (fun _ => ?_)) | exact ih0 _ _ _ | exact LeO.none _ | refine LeO.ite ?_ ?_ | refine LeO.bind ?_ (fun _ => ?_)
theorem spec_l02At.mono : ∀ a0 a1 k, LeO (spec_l02At.f k a0 a1) (spec_l02At.f (k + 1) a0 a1) := by
 intro a0 a1 k
 have ih0 := spec_l02At.mono_l k
 unfold spec_l02At.f
 repeat' first | (with_reducible first | exact ih0 _ _ _ | exact LeO.refl _ | exact LeO.none _ | refine LeO.ite ?_ ?_ | refine LeO.bind ?_ (fun _ => ?_)) | exact ih0 _ _ _ | exact LeO.none _ | refine LeO.ite ?_ ?_ | refine LeO.bind ?_ (fun _ => ?_)
theorem spec_l02At.calls (k : Nat) (A0 : Option Addr) (c0 : Nat) (l0 : List (S37)) (a1 : Int) (r : Int) (w : World) (hr0 : Kd.C k37 w A0 l0.length l0) (hc0 : l0.length ≤ c0) (h : spec_l02At.f k l0 a1 = some r) :
 Calls Try.prog 39 #[.slice A0 l0.length c0, .int .i64 a1] w fun e w' => e = .returned (.int .i64 r) ∧ Below w.heap.size w w' := by
 have hu37 := Try.underlying37
 have HR0 := am hr0
 have HC0 := am hc0
 clear hr0 hc0
 have HB := am (Below.refl w.heap.size w)
 have H : (if 0 < (l0.length : Int) then (if a1 ≤ (wrap64 ((rd_T37 l0 0).f0)) then (some (wrap64 ((rd_T37 l0 0).f1))) else (if 0 ≤ (wrap64 ((l0.length : Int) - 1)) then (if (wrap64 ((l0.length : Int) - 1)) < (l0.length : Int) then (if a1 ≥ (wrap64 ((rd_T37 l0 (wrap64 ((l0.length : Int) - 1))).f0)) then (some (wrap64 ((rd_T37 l0 (wrap64 ((l0.length : Int) - 1))).f1))) else (spec_l02At.l0 k l0 a1 0)) else (none)) else (none))) else (none)) = some r := h
 clear h
 by_cases c3 : 0 < (l0.length : Int)
 · rw [if_pos c3] at H
   have c3b0 : decide (0 < (l0.length : Int)) = true := decide_eq_true c3; have c3b1 : decide (0 < l0.length) = true := decide_eq_true (by omega); clear c3
   by_cases c4 : a1 ≤ (wrap64 ((rd_T37 l0 0).f0))
   · rw [if_pos c4] at H
     have c4b0 : decide (a1 ≤ (wrap64 ((rd_T37 l0 0).f0))) = true := decide_eq_true c4; clear c4; obtain rfl := Option.some.inj H; have p233 : 0 ≤ (0 : Int) := (by omega); have q233 : 0 < (l0.length : Int) := od; obtain ⟨ad233, e233, hx233_0, hx233_1⟩ := at_T37 HR0.out 0 p233 q233
     cases e233
     have qi233 : (0 < l0.length) = True := eq_true (by omega); (try rw [show ((0 : Int)).toNat = 0 from rfl] at hx233_0); (try rw [show 0 * 2 = 0 from rfl] at hx233_0); (try rw [Addr.add_zero'] at hx233_0); (try rw [show ((0 : Int)).toNat = 0 from rfl] at hx233_1); (try rw [show 0 * 2 = 0 from rfl] at hx233_1); (try rw [Addr.add_zero'] at hx233_1); replace p233 := eq_true p233; replace q233 := eq_true q233; have p234 : 0 ≤ (0 : Int) := (by omega); have q234 : 0 < (l0.length : Int) := od; obtain ⟨ad234, e234, hx234_0, hx234_1⟩ := at_T37 HR0.out 0 p234 q234; obtain rfl : ad233 = ad234 := (by injection e234); have qi234 : (0 < l0.length) = True := eq_true (by omega); (try rw [show ((0 : Int)).toNat = 0 from rfl] at hx234_0); (try rw [show 0 * 2 = 0 from rfl] at hx234_0); (try rw [Addr.add_zero'] at hx234_0); (try rw [show ((0 : Int)).toNat = 0 from rfl] at hx234_1); (try rw [show 0 * 2 = 0 from rfl] at hx234_1); (try rw [Addr.add_zero'] at hx234_1); replace p234 := eq_true p234; replace q234 := eq_true q234; go_enter Try.func39, Try.ntmps39; go_wp2
     repeat (go_quiet (fail); try go_wp2)
     go_ret; exact ⟨te, hB⟩
   · rw [if_neg c4] at H
     have c4b0 : decide (a1 ≤ (wrap64 ((rd_T37 l0 0).f0))) = false := decide_eq_false c4; clear c4; obtain ⟨ji5, hji5⟩ : ∃ j_ : Int, (wrap64 ((l0.length : Int) - 1)) = j_ := ⟨_, rfl⟩; (replace H : (if 0 ≤ (ji5) then (if (ji5) < (l0.length : Int) then (if a1 ≥ (wrap64 ((rd_T37 l0 (ji5)).f0)) then (some (wrap64 ((rd_T37 l0 (ji5)).f1))) else (spec_l02At.l0 k l0 a1 0)) else (none)) else (none)) = some r := by first | (rw [hji5] at H; exact H) | (simp only [hji5] at H ⊢; exact H)); have hji5w : (IntKind.i64.wrap ((l0.length : Int) - 1)) = ji5 := (i64_w _).trans hji5
     by_cases c6 : 0 ≤ (ji5)
     · rw [if_pos c6] at H
       have c6b0 : decide (0 ≤ (ji5)) = true := decide_eq_true c6; clear c6
       by_cases c7 : (ji5) < (l0.length : Int)
       · rw [if_pos c7] at H
         have c7b0 : decide ((ji5) < (l0.length : Int)) = true := decide_eq_true c7; clear c7
         by_cases c8 : a1 ≥ (wrap64 ((rd_T37 l0 (ji5)).f0))
         · rw [if_pos c8] at H
           have c8b0 : decide ((wrap64 ((rd_T37 l0 (ji5)).f0)) ≤ a1) = true := decide_eq_true c8; clear c8; obtain rfl := Option.some.inj H; have p233 : 0 ≤ (0 : Int) := (by omega); have q233 : 0 < (l0.length : Int) := od; obtain ⟨ad233, e233, hx233_0, hx233_1⟩ := at_T37 HR0.out 0 p233 q233
           cases e233
           have qi233 : (0 < l0.length) = True := eq_true (by omega); (try rw [show ((0 : Int)).toNat = 0 from rfl] at hx233_0); (try rw [show 0 * 2 = 0 from rfl] at hx233_0); (try rw [Addr.add_zero'] at hx233_0); (try rw [show ((0 : Int)).toNat = 0 from rfl] at hx233_1); (try rw [show 0 * 2 = 0 from rfl] at hx233_1); (try rw [Addr.add_zero'] at hx233_1); replace p233 := eq_true p233; replace q233 := eq_true q233; have p235 : 0 ≤ ((ji5) : Int) := od; have q235 : (ji5) < (l0.length : Int) := od; obtain ⟨ad235, e235, hx235_0, hx235_1⟩ := at_T37 HR0.out (ji5) p235 q235; obtain rfl : ad233 = ad235 := (by injection e235); replace p235 := eq_true p235; replace q235 := eq_true q235; have p236 : 0 ≤ ((ji5) : Int) := od; have q236 : (ji5) < (l0.length : Int) := od; obtain ⟨ad236, e236, hx236_0, hx236_1⟩ := at_T37 HR0.out (ji5) p236 q236; obtain rfl : ad233 = ad236 := (by injection e236); replace p236 := eq_true p236; replace q236 := eq_true q236; go_enter Try.func39, Try.ntmps39; go_wp2
           repeat (go_quiet (fail); try go_wp2)
           go_ret; exact ⟨by first | rfl | (simp [errW_none, errW_some] <;> rfl) | (simp only [← hji5]; first | rfl | (simp [errW_none, errW_some] <;> rfl)) | (simp [*, errW_none, errW_some] <;> rfl), hB⟩
         · rw [if_neg c8] at H
           have c8b0 : decide ((wrap64 ((rd_T37 l0 (ji5)).f0)) ≤ a1) = false := decide_eq_false c8; clear c8; have H' := am H; clear H; have p233 : 0 ≤ (0 : Int) := (by omega); have q233 : 0 < (l0.length : Int) := od; obtain ⟨ad233, e233, hx233_0, hx233_1⟩ := at_T37 HR0.out 0 p233 q233
           cases e233
           have qi233 : (0 < l0.length) = True := eq_true (by omega); (try rw [show ((0 : Int)).toNat = 0 from rfl] at hx233_0); (try rw [show 0 * 2 = 0 from rfl] at hx233_0); (try rw [Addr.add_zero'] at hx233_0); (try rw [show ((0 : Int)).toNat = 0 from rfl] at hx233_1); (try rw [show 0 * 2 = 0 from rfl] at hx233_1); (try rw [Addr.add_zero'] at hx233_1); replace p233 := eq_true p233; replace q233 := eq_true q233; have p235 : 0 ≤ ((ji5) : Int) := od; have q235 : (ji5) < (l0.length : Int) := od; obtain ⟨ad235, e235, hx235_0, hx235_1⟩ := at_T37 HR0.out (ji5) p235 q235; obtain rfl : ad233 = ad235 := (by injection e235); replace p235 := eq_true p235; replace q235 := eq_true q235; go_enter Try.func39, Try.ntmps39; go_wp2
           repeat (go_quiet (fail); try go_wp2)
           go_loopg [6] k (fun kq v6 w' => ∃ (x6_1 : Int), v6 = .int .i64 x6_1 ∧ Aside0 (spec_l02At.l0 kq l0 a1 x6_1 = some r) ∧ Aside0 (kq ≤ k) ∧ Aside0 (Below w.heap.size w w'))
           case atStart => exact ⟨(0), tr, H', ⟨Nat.le_refl _⟩, ⟨hB⟩⟩
           case round =>
            clear H'; (try clear p2); (try clear q2); (try clear hx2); (try clear qi2); (try clear c3); (try clear c3b0); (try clear c3b1); (try clear c4); (try clear c4b0); (try clear c6); (try clear c6b0); (try clear p6); (try clear c7); (try clear c7b0); (try clear c8); (try clear c8b0); (try clear hx233_0); (try clear hx233_1); (try clear hx234_0); (try clear hx234_1); (try clear hx235_0); (try clear hx235_1); (try clear hx236_0); (try clear hx236_1); (try clear p233); (try clear p234); (try clear p235); (try clear p236); (try clear q233); (try clear q234); (try clear q235); (try clear q236); obtain ⟨x6_1, rfl, HA, HK1, HB⟩ := hrel
            cases gk with
            | zero => exact absurd HA.out (by simp [spec_l02At.l0])
            | succ k1 =>
             have H := HA.out; clear HA; simp only [spec_l02At.l0] at H; obtain ⟨ji9, hji9⟩ : ∃ j_ : Int, (wrap64 (x6_1 + 1)) = j_ := ⟨_, rfl⟩; (replace H : (if 0 ≤ (ji9) then (if (ji9) < (l0.length : Int) then (if (wrap64 ((rd_T37 l0 (ji9)).f0)) ≤ a1 then (spec_l02At.l0 k1 l0 a1 ji9) else (if 0 ≤ x6_1 then (if x6_1 < (l0.length : Int) then (if (wrap64 ((wrap64 ((rd_T37 l0 (ji9)).f0)) - (wrap64 ((rd_T37 l0 x6_1).f0)))) = 0 then (none) else (some (wrap64 ((wrap64 ((rd_T37 l0 x6_1).f1)) + (wrap64 (Int.tdiv (wrap64 ((wrap64 ((wrap64 ((rd_T37 l0 (ji9)).f1)) - (wrap64 ((rd_T37 l0 x6_1).f1)))) * (wrap64 (a1 - (wrap64 ((rd_T37 l0 x6_1).f0)))))) (wrap64 ((wrap64 ((rd_T37 l0 (ji9)).f0)) - (wrap64 ((rd_T37 l0 x6_1).f0)))))))))) else (none)) else (none))) else (none)) else (none)) = some r := by first | (rw [hji9] at H; exact H) | (simp only [hji9] at H ⊢; exact H)); have hji9w : (IntKind.i64.wrap (x6_1 + 1)) = ji9 := (i64_w _).trans hji9
             by_cases c10 : 0 ≤ (ji9)
             · rw [if_pos c10] at H
               have c10b0 : decide (0 ≤ (ji9)) = true := decide_eq_true c10; clear c10
               by_cases c11 : (ji9) < (l0.length : Int)
               · rw [if_pos c11] at H
                 have c11b0 : decide ((ji9) < (l0.length : Int)) = true := decide_eq_true c11; clear c11
                 by_cases c12 : (wrap64 ((rd_T37 l0 (ji9)).f0)) ≤ a1
                 · rw [if_pos c12] at H
                   have c12b0 : decide ((wrap64 ((rd_T37 l0 (ji9)).f0)) ≤ a1) = true := decide_eq_true c12; clear c12; have H' := am H; clear H; have p237 : 0 ≤ ((ji9) : Int) := od; have q237 : (ji9) < (l0.length : Int) := od; obtain ⟨ad237, e237, hx237_0, hx237_1⟩ := at_T37 HR0.out (ji9) p237 q237; obtain rfl : ad233 = ad237 := (by injection e237); replace hx237_0 := (HB.out.cell (qwb w _ hx237_0)).trans hx237_0; replace hx237_1 := (HB.out.cell (qwb w _ hx237_1)).trans hx237_1; replace p237 := eq_true p237; replace q237 := eq_true q237; go_wp2
                   repeat (go_quiet (fail); try go_wp2)
                   go_roundg k1
                   case measure => have := HK1.out; omega
                   case rel => exact ⟨(ji9), (by first | rfl | (simp; done) | (simp only [← hji9] <;> (first | rfl | simp)) | (simp [*]; done)), H', ⟨by have := HK1.out; omega⟩, ⟨hB⟩⟩
                 · rw [if_neg c12] at H
                   have c12b0 : decide ((wrap64 ((rd_T37 l0 (ji9)).f0)) ≤ a1) = false := decide_eq_false c12; clear c12
                   by_cases c13 : 0 ≤ x6_1
                   · rw [if_pos c13] at H
                     have c13b0 : decide (0 ≤ x6_1) = true := decide_eq_true c13; clear c13
                     by_cases c14 : x6_1 < (l0.length : Int)
                     · rw [if_pos c14] at H
                       have c14b0 : decide (x6_1 < (l0.length : Int)) = true := decide_eq_true c14; clear c14
                       by_cases c15 : (wrap64 ((wrap64 ((rd_T37 l0 (ji9)).f0)) - (wrap64 ((rd_T37 l0 x6_1).f0)))) = 0
                       · rw [if_pos c15] at H
                         exact absurd H (by simp)
                       · rw [if_neg c15] at H
                         have c15b0 : ((wrap64 ((wrap64 ((rd_T37 l0 (ji9)).f0)) - (wrap64 ((rd_T37 l0 x6_1).f0)))) == 0) = false := beq_eq_false_iff_ne.mpr c15; have c15b1 : ((wrap64 ((wrap64 ((rd_T37 l0 (ji9)).f0)) - (wrap64 ((rd_T37 l0 x6_1).f0)))) != 0) = true := bne_iff_ne.mpr c15; obtain rfl := Option.some.inj H; have p237 : 0 ≤ ((ji9) : Int) := od; have q237 : (ji9) < (l0.length : Int) := od; obtain ⟨ad237, e237, hx237_0, hx237_1⟩ := at_T37 HR0.out (ji9) p237 q237; obtain rfl : ad233 = ad237 := (by injection e237); replace hx237_0 := (HB.out.cell (qwb w _ hx237_0)).trans hx237_0; replace hx237_1 := (HB.out.cell (qwb w _ hx237_1)).trans hx237_1; replace p237 := eq_true p237; replace q237 := eq_true q237; have p238 : 0 ≤ (x6_1 : Int) := od; have q238 : x6_1 < (l0.length : Int) := od; obtain ⟨ad238, e238, hx238_0, hx238_1⟩ := at_T37 HR0.out x6_1 p238 q238; obtain rfl : ad233 = ad238 := (by injection e238); replace hx238_0 := (HB.out.cell (qwb w _ hx238_0)).trans hx238_0; replace hx238_1 := (HB.out.cell (qwb w _ hx238_1)).trans hx238_1; replace p238 := eq_true p238; replace q238 := eq_true q238; go_wp2_with (first | ((with_reducible refine gate_dst (N := 7) rfl ?_); refine box_event ?hg (N := 7) ?hd (cs := #[.int .i16 0, .int .i16 0]) (t := 37) ?hr ?_; (case hd => rfl); (case hg => rfl); (case hr => first | (go_simp; done) | (go_simp; rfl)); intro gb239 hg w16 hbox hb; have n0_ := am (qS hb); have n1_ := am (hbox); have n2_ := am ((by rw [hg]; exact qZ : w.heap.size ≤ gb239)); have n3_ := am ((by rw [hg]; exact qZ : w.heap.size ≤ gb239)); clear HB; have HB := n0_; have BK239 := n1_; have GW239 := n2_; have GE239 := n3_; clear n0_ n1_ n2_ n3_; clear hb hbox hg; have hcz17_0 : w16.cell? ⟨gb239, 0, none⟩ = some (.int .i16 0) := (blk_cell BK239.out 0).trans rfl; have hcz17_1 : w16.cell? ⟨gb239, 1, none⟩ = some (.int .i16 0) := (blk_cell BK239.out 1).trans rfl; have hfz17_0 := blk_frozen BK239.out 0; have hfz17_1 := blk_frozen BK239.out 1; have p240 : 0 ≤ ((ji9) : Int) := od; have q240 : (ji9) < (l0.length : Int) := od; obtain ⟨ad240, e240, hx240_0, hx240_1⟩ := at_T37 HR0.out (ji9) p240 q240; obtain rfl : ad233 = ad240 := (by injection e240); have hn240_0 : ad233.block ≠ gb239 := Nat.ne_of_lt (Nat.lt_of_lt_of_le (by have := qwb _ _ hx240_0; first | rwa [add_block] at this | exact this) GW239.out); have hn240_1 : ad233.block ≠ gb239 := Nat.ne_of_lt (Nat.lt_of_lt_of_le (by have := qwb _ _ hx240_0; first | rwa [add_block] at this | exact this) GW239.out); replace hx240_0 := (HB.out.cell (qwb w _ hx240_0)).trans hx240_0; replace hx240_1 := (HB.out.cell (qwb w _ hx240_1)).trans hx240_1; replace hx240_0 := (cell_far (p := ⟨gb239, 0, none⟩) (by first | (rw [add_block]; exact hn240_0) | (show (Addr.add _ _).block ≠ _; rw [add_block]; exact hn240_0) | exact hn240_0) (.int .i16 ((rd_T37 l0 x6_1).f0))).trans hx240_0; replace hx240_1 := (cell_far (p := ⟨gb239, 0, none⟩) (by first | (rw [add_block]; exact hn240_0) | (show (Addr.add _ _).block ≠ _; rw [add_block]; exact hn240_0) | exact hn240_0) (.int .i16 ((rd_T37 l0 x6_1).f0))).trans hx240_1; replace hx240_0 := (cell_far (p := ⟨gb239, 1, none⟩) (by first | (rw [add_block]; exact hn240_1) | (show (Addr.add _ _).block ≠ _; rw [add_block]; exact hn240_1) | exact hn240_1) (.int .i16 ((rd_T37 l0 x6_1).f1))).trans hx240_0; replace hx240_1 := (cell_far (p := ⟨gb239, 1, none⟩) (by first | (rw [add_block]; exact hn240_1) | (show (Addr.add _ _).block ≠ _; rw [add_block]; exact hn240_1) | exact hn240_1) (.int .i16 ((rd_T37 l0 x6_1).f1))).trans hx240_1; (try have hy240_0 := fun (n_ : Nat) => (show ((((w16.drewN n_).setCell ⟨gb239, 0, none⟩ (.int .i16 ((rd_T37 l0 x6_1).f0))).setCell ⟨gb239, 1, none⟩ (.int .i16 ((rd_T37 l0 x6_1).f1)))).cell? _ = some _ from hx240_0)); (try have hy240_1 := fun (n_ : Nat) => (show ((((w16.drewN n_).setCell ⟨gb239, 0, none⟩ (.int .i16 ((rd_T37 l0 x6_1).f0))).setCell ⟨gb239, 1, none⟩ (.int .i16 ((rd_T37 l0 x6_1).f1)))).cell? _ = some _ from hx240_1)); clear hn240_0; clear hn240_1; replace p240 := eq_true p240; replace q240 := eq_true q240) | ((with_reducible refine gate_dst (N := 8) rfl ?_); refine box_event ?hg (N := 8) ?hd (cs := #[.int .i16 0, .int .i16 0]) (t := 37) ?hr ?_; (case hd => rfl); (case hg => rfl); (case hr => first | (go_simp; done) | (go_simp; rfl)); intro gb241 hg w18 hbox hb; have n0_ := am (blk_below (g := gb239) (o := .cells #[.int .i16 ((rd_T37 l0 x6_1).f0), .int .i16 ((rd_T37 l0 x6_1).f1)] 37 (0, 0)) (by (with_reducible repeat (first | refine blk_drewN ?_ _ | refine blk_drew ?_ | refine blk_alloc ?_ _)); refine blk_put (cs := #[.int .i16 ((rd_T37 l0 x6_1).f0), .int .i16 0]) ?_ 1 _ rfl; (with_reducible repeat (first | refine blk_drewN ?_ _ | refine blk_drew ?_ | refine blk_alloc ?_ _)); refine blk_put (cs := #[.int .i16 0, .int .i16 0]) ?_ 0 _ rfl; (with_reducible repeat (first | refine blk_drewN ?_ _ | refine blk_drew ?_ | refine blk_alloc ?_ _)); exact BK239.out) hb); have n1_ := am (qs (by repeat (first | (with_reducible first | exact HB.out | apply qa | apply qn | apply qd | refine below_set ?_ GE239.out) | exact HB.out)) hb); have n2_ := am (hbox); have n3_ := am ((by rw [hg]; exact (qz (by repeat (first | (with_reducible first | exact HB.out | apply qa | apply qn | apply qd | refine below_set ?_ GE239.out) | exact HB.out))) : w.heap.size ≤ gb241)); have n4_ := am ((by rw [hg]; exact (qz (by repeat (first | (with_reducible first | exact HB.out | apply qa | apply qn | apply qd | refine below_set ?_ GE239.out) | exact HB.out))) : w.heap.size ≤ gb241)); have n5_ := am ((by rw [hg]; exact Nat.ne_of_lt (blk_lt (g := gb239) (o := .cells #[.int .i16 ((rd_T37 l0 x6_1).f0), .int .i16 ((rd_T37 l0 x6_1).f1)] 37 (0, 0)) (by (with_reducible repeat (first | refine blk_drewN ?_ _ | refine blk_drew ?_ | refine blk_alloc ?_ _)); refine blk_put (cs := #[.int .i16 ((rd_T37 l0 x6_1).f0), .int .i16 0]) ?_ 1 _ rfl; (with_reducible repeat (first | refine blk_drewN ?_ _ | refine blk_drew ?_ | refine blk_alloc ?_ _)); refine blk_put (cs := #[.int .i16 0, .int .i16 0]) ?_ 0 _ rfl; (with_reducible repeat (first | refine blk_drewN ?_ _ | refine blk_drew ?_ | refine blk_alloc ?_ _)); exact BK239.out)) : gb239 ≠ gb241)); have n6_ := am ((by rw [hg]; exact Nat.ne_of_gt (blk_lt (g := gb239) (o := .cells #[.int .i16 ((rd_T37 l0 x6_1).f0), .int .i16 ((rd_T37 l0 x6_1).f1)] 37 (0, 0)) (by (with_reducible repeat (first | refine blk_drewN ?_ _ | refine blk_drew ?_ | refine blk_alloc ?_ _)); refine blk_put (cs := #[.int .i16 ((rd_T37 l0 x6_1).f0), .int .i16 0]) ?_ 1 _ rfl; (with_reducible repeat (first | refine blk_drewN ?_ _ | refine blk_drew ?_ | refine blk_alloc ?_ _)); refine blk_put (cs := #[.int .i16 0, .int .i16 0]) ?_ 0 _ rfl; (with_reducible repeat (first | refine blk_drewN ?_ _ | refine blk_drew ?_ | refine blk_alloc ?_ _)); exact BK239.out)) : gb241 ≠ gb239)); clear BK239; clear HB; have BK239 := n0_; have HB := n1_; have BK241 := n2_; have GW241 := n3_; have GE241 := n4_; have NB239_241 := n5_; have NB241_239 := n6_; clear n0_ n1_ n2_ n3_ n4_ n5_ n6_; clear hb hbox hg; have hnb19 := NB241_239.out; have hnc19 := NB239_241.out; have hcz20_0 : w18.cell? ⟨gb241, 0, none⟩ = some (.int .i16 0) := (blk_cell BK241.out 0).trans rfl; have hcz20_1 : w18.cell? ⟨gb241, 1, none⟩ = some (.int .i16 0) := (blk_cell BK241.out 1).trans rfl; have hfz20_0 := blk_frozen BK241.out 0; have hfz20_1 := blk_frozen BK241.out 1; have hcz21_0 : w18.cell? ⟨gb239, 0, none⟩ = some (.int .i16 ((rd_T37 l0 x6_1).f0)) := (blk_cell BK239.out 0).trans rfl; have hcz21_1 : w18.cell? ⟨gb239, 1, none⟩ = some (.int .i16 ((rd_T37 l0 x6_1).f1)) := (blk_cell BK239.out 1).trans rfl; have hfz21_0 := blk_frozen BK239.out 0; have hfz21_1 := blk_frozen BK239.out 1))
                         repeat (go_quiet (first | ((with_reducible refine gate_dst (N := 7) rfl ?_); refine box_event ?hg (N := 7) ?hd (cs := #[.int .i16 0, .int .i16 0]) (t := 37) ?hr ?_; (case hd => rfl); (case hg => rfl); (case hr => first | (go_simp; done) | (go_simp; rfl)); intro gb239 hg w16 hbox hb; have n0_ := am (qS hb); have n1_ := am (hbox); have n2_ := am ((by rw [hg]; exact qZ : w.heap.size ≤ gb239)); have n3_ := am ((by rw [hg]; exact qZ : w.heap.size ≤ gb239)); clear HB; have HB := n0_; have BK239 := n1_; have GW239 := n2_; have GE239 := n3_; clear n0_ n1_ n2_ n3_; clear hb hbox hg; have hcz17_0 : w16.cell? ⟨gb239, 0, none⟩ = some (.int .i16 0) := (blk_cell BK239.out 0).trans rfl; have hcz17_1 : w16.cell? ⟨gb239, 1, none⟩ = some (.int .i16 0) := (blk_cell BK239.out 1).trans rfl; have hfz17_0 := blk_frozen BK239.out 0; have hfz17_1 := blk_frozen BK239.out 1; have p240 : 0 ≤ ((ji9) : Int) := od; have q240 : (ji9) < (l0.length : Int) := od; obtain ⟨ad240, e240, hx240_0, hx240_1⟩ := at_T37 HR0.out (ji9) p240 q240; obtain rfl : ad233 = ad240 := (by injection e240); have hn240_0 : ad233.block ≠ gb239 := Nat.ne_of_lt (Nat.lt_of_lt_of_le (by have := qwb _ _ hx240_0; first | rwa [add_block] at this | exact this) GW239.out); have hn240_1 : ad233.block ≠ gb239 := Nat.ne_of_lt (Nat.lt_of_lt_of_le (by have := qwb _ _ hx240_0; first | rwa [add_block] at this | exact this) GW239.out); replace hx240_0 := (HB.out.cell (qwb w _ hx240_0)).trans hx240_0; replace hx240_1 := (HB.out.cell (qwb w _ hx240_1)).trans hx240_1; replace hx240_0 := (cell_far (p := ⟨gb239, 0, none⟩) (by first | (rw [add_block]; exact hn240_0) | (show (Addr.add _ _).block ≠ _; rw [add_block]; exact hn240_0) | exact hn240_0) (.int .i16 ((rd_T37 l0 x6_1).f0))).trans hx240_0; replace hx240_1 := (cell_far (p := ⟨gb239, 0, none⟩) (by first | (rw [add_block]; exact hn240_0) | (show (Addr.add _ _).block ≠ _; rw [add_block]; exact hn240_0) | exact hn240_0) (.int .i16 ((rd_T37 l0 x6_1).f0))).trans hx240_1; replace hx240_0 := (cell_far (p := ⟨gb239, 1, none⟩) (by first | (rw [add_block]; exact hn240_1) | (show (Addr.add _ _).block ≠ _; rw [add_block]; exact hn240_1) | exact hn240_1) (.int .i16 ((rd_T37 l0 x6_1).f1))).trans hx240_0; replace hx240_1 := (cell_far (p := ⟨gb239, 1, none⟩) (by first | (rw [add_block]; exact hn240_1) | (show (Addr.add _ _).block ≠ _; rw [add_block]; exact hn240_1) | exact hn240_1) (.int .i16 ((rd_T37 l0 x6_1).f1))).trans hx240_1; (try have hy240_0 := fun (n_ : Nat) => (show ((((w16.drewN n_).setCell ⟨gb239, 0, none⟩ (.int .i16 ((rd_T37 l0 x6_1).f0))).setCell ⟨gb239, 1, none⟩ (.int .i16 ((rd_T37 l0 x6_1).f1)))).cell? _ = some _ from hx240_0)); (try have hy240_1 := fun (n_ : Nat) => (show ((((w16.drewN n_).setCell ⟨gb239, 0, none⟩ (.int .i16 ((rd_T37 l0 x6_1).f0))).setCell ⟨gb239, 1, none⟩ (.int .i16 ((rd_T37 l0 x6_1).f1)))).cell? _ = some _ from hx240_1)); clear hn240_0; clear hn240_1; replace p240 := eq_true p240; replace q240 := eq_true q240) | ((with_reducible refine gate_dst (N := 8) rfl ?_); refine box_event ?hg (N := 8) ?hd (cs := #[.int .i16 0, .int .i16 0]) (t := 37) ?hr ?_; (case hd => rfl); (case hg => rfl); (case hr => first | (go_simp; done) | (go_simp; rfl)); intro gb241 hg w18 hbox hb; have n0_ := am (blk_below (g := gb239) (o := .cells #[.int .i16 ((rd_T37 l0 x6_1).f0), .int .i16 ((rd_T37 l0 x6_1).f1)] 37 (0, 0)) (by (with_reducible repeat (first | refine blk_drewN ?_ _ | refine blk_drew ?_ | refine blk_alloc ?_ _)); refine blk_put (cs := #[.int .i16 ((rd_T37 l0 x6_1).f0), .int .i16 0]) ?_ 1 _ rfl; (with_reducible repeat (first | refine blk_drewN ?_ _ | refine blk_drew ?_ | refine blk_alloc ?_ _)); refine blk_put (cs := #[.int .i16 0, .int .i16 0]) ?_ 0 _ rfl; (with_reducible repeat (first | refine blk_drewN ?_ _ | refine blk_drew ?_ | refine blk_alloc ?_ _)); exact BK239.out) hb); have n1_ := am (qs (by repeat (first | (with_reducible first | exact HB.out | apply qa | apply qn | apply qd | refine below_set ?_ GE239.out) | exact HB.out)) hb); have n2_ := am (hbox); have n3_ := am ((by rw [hg]; exact (qz (by repeat (first | (with_reducible first | exact HB.out | apply qa | apply qn | apply qd | refine below_set ?_ GE239.out) | exact HB.out))) : w.heap.size ≤ gb241)); have n4_ := am ((by rw [hg]; exact (qz (by repeat (first | (with_reducible first | exact HB.out | apply qa | apply qn | apply qd | refine below_set ?_ GE239.out) | exact HB.out))) : w.heap.size ≤ gb241)); have n5_ := am ((by rw [hg]; exact Nat.ne_of_lt (blk_lt (g := gb239) (o := .cells #[.int .i16 ((rd_T37 l0 x6_1).f0), .int .i16 ((rd_T37 l0 x6_1).f1)] 37 (0, 0)) (by (with_reducible repeat (first | refine blk_drewN ?_ _ | refine blk_drew ?_ | refine blk_alloc ?_ _)); refine blk_put (cs := #[.int .i16 ((rd_T37 l0 x6_1).f0), .int .i16 0]) ?_ 1 _ rfl; (with_reducible repeat (first | refine blk_drewN ?_ _ | refine blk_drew ?_ | refine blk_alloc ?_ _)); refine blk_put (cs := #[.int .i16 0, .int .i16 0]) ?_ 0 _ rfl; (with_reducible repeat (first | refine blk_drewN ?_ _ | refine blk_drew ?_ | refine blk_alloc ?_ _)); exact BK239.out)) : gb239 ≠ gb241)); have n6_ := am ((by rw [hg]; exact Nat.ne_of_gt (blk_lt (g := gb239) (o := .cells #[.int .i16 ((rd_T37 l0 x6_1).f0), .int .i16 ((rd_T37 l0 x6_1).f1)] 37 (0, 0)) (by (with_reducible repeat (first | refine blk_drewN ?_ _ | refine blk_drew ?_ | refine blk_alloc ?_ _)); refine blk_put (cs := #[.int .i16 ((rd_T37 l0 x6_1).f0), .int .i16 0]) ?_ 1 _ rfl; (with_reducible repeat (first | refine blk_drewN ?_ _ | refine blk_drew ?_ | refine blk_alloc ?_ _)); refine blk_put (cs := #[.int .i16 0, .int .i16 0]) ?_ 0 _ rfl; (with_reducible repeat (first | refine blk_drewN ?_ _ | refine blk_drew ?_ | refine blk_alloc ?_ _)); exact BK239.out)) : gb241 ≠ gb239)); clear BK239; clear HB; have BK239 := n0_; have HB := n1_; have BK241 := n2_; have GW241 := n3_; have GE241 := n4_; have NB239_241 := n5_; have NB241_239 := n6_; clear n0_ n1_ n2_ n3_ n4_ n5_ n6_; clear hb hbox hg; have hnb19 := NB241_239.out; have hnc19 := NB239_241.out; have hcz20_0 : w18.cell? ⟨gb241, 0, none⟩ = some (.int .i16 0) := (blk_cell BK241.out 0).trans rfl; have hcz20_1 : w18.cell? ⟨gb241, 1, none⟩ = some (.int .i16 0) := (blk_cell BK241.out 1).trans rfl; have hfz20_0 := blk_frozen BK241.out 0; have hfz20_1 := blk_frozen BK241.out 1; have hcz21_0 : w18.cell? ⟨gb239, 0, none⟩ = some (.int .i16 ((rd_T37 l0 x6_1).f0)) := (blk_cell BK239.out 0).trans rfl; have hcz21_1 : w18.cell? ⟨gb239, 1, none⟩ = some (.int .i16 ((rd_T37 l0 x6_1).f1)) := (blk_cell BK239.out 1).trans rfl; have hfz21_0 := blk_frozen BK239.out 0; have hfz21_1 := blk_frozen BK239.out 1)); try go_wp2_with (first | ((with_reducible refine gate_dst (N := 7) rfl ?_); refine box_event ?hg (N := 7) ?hd (cs := #[.int .i16 0, .int .i16 0]) (t := 37) ?hr ?_; (case hd => rfl); (case hg => rfl); (case hr => first | (go_simp; done) | (go_simp; rfl)); intro gb239 hg w16 hbox hb; have n0_ := am (qS hb); have n1_ := am (hbox); have n2_ := am ((by rw [hg]; exact qZ : w.heap.size ≤ gb239)); have n3_ := am ((by rw [hg]; exact qZ : w.heap.size ≤ gb239)); clear HB; have HB := n0_; have BK239 := n1_; have GW239 := n2_; have GE239 := n3_; clear n0_ n1_ n2_ n3_; clear hb hbox hg; have hcz17_0 : w16.cell? ⟨gb239, 0, none⟩ = some (.int .i16 0) := (blk_cell BK239.out 0).trans rfl; have hcz17_1 : w16.cell? ⟨gb239, 1, none⟩ = some (.int .i16 0) := (blk_cell BK239.out 1).trans rfl; have hfz17_0 := blk_frozen BK239.out 0; have hfz17_1 := blk_frozen BK239.out 1; have p240 : 0 ≤ ((ji9) : Int) := od; have q240 : (ji9) < (l0.length : Int) := od; obtain ⟨ad240, e240, hx240_0, hx240_1⟩ := at_T37 HR0.out (ji9) p240 q240; obtain rfl : ad233 = ad240 := (by injection e240); have hn240_0 : ad233.block ≠ gb239 := Nat.ne_of_lt (Nat.lt_of_lt_of_le (by have := qwb _ _ hx240_0; first | rwa [add_block] at this | exact this) GW239.out); have hn240_1 : ad233.block ≠ gb239 := Nat.ne_of_lt (Nat.lt_of_lt_of_le (by have := qwb _ _ hx240_0; first | rwa [add_block] at this | exact this) GW239.out); replace hx240_0 := (HB.out.cell (qwb w _ hx240_0)).trans hx240_0; replace hx240_1 := (HB.out.cell (qwb w _ hx240_1)).trans hx240_1; replace hx240_0 := (cell_far (p := ⟨gb239, 0, none⟩) (by first | (rw [add_block]; exact hn240_0) | (show (Addr.add _ _).block ≠ _; rw [add_block]; exact hn240_0) | exact hn240_0) (.int .i16 ((rd_T37 l0 x6_1).f0))).trans hx240_0; replace hx240_1 := (cell_far (p := ⟨gb239, 0, none⟩) (by first | (rw [add_block]; exact hn240_0) | (show (Addr.add _ _).block ≠ _; rw [add_block]; exact hn240_0) | exact hn240_0) (.int .i16 ((rd_T37 l0 x6_1).f0))).trans hx240_1; replace hx240_0 := (cell_far (p := ⟨gb239, 1, none⟩) (by first | (rw [add_block]; exact hn240_1) | (show (Addr.add _ _).block ≠ _; rw [add_block]; exact hn240_1) | exact hn240_1) (.int .i16 ((rd_T37 l0 x6_1).f1))).trans hx240_0; replace hx240_1 := (cell_far (p := ⟨gb239, 1, none⟩) (by first | (rw [add_block]; exact hn240_1) | (show (Addr.add _ _).block ≠ _; rw [add_block]; exact hn240_1) | exact hn240_1) (.int .i16 ((rd_T37 l0 x6_1).f1))).trans hx240_1; (try have hy240_0 := fun (n_ : Nat) => (show ((((w16.drewN n_).setCell ⟨gb239, 0, none⟩ (.int .i16 ((rd_T37 l0 x6_1).f0))).setCell ⟨gb239, 1, none⟩ (.int .i16 ((rd_T37 l0 x6_1).f1)))).cell? _ = some _ from hx240_0)); (try have hy240_1 := fun (n_ : Nat) => (show ((((w16.drewN n_).setCell ⟨gb239, 0, none⟩ (.int .i16 ((rd_T37 l0 x6_1).f0))).setCell ⟨gb239, 1, none⟩ (.int .i16 ((rd_T37 l0 x6_1).f1)))).cell? _ = some _ from hx240_1)); clear hn240_0; clear hn240_1; replace p240 := eq_true p240; replace q240 := eq_true q240) | ((with_reducible refine gate_dst (N := 8) rfl ?_); refine box_event ?hg (N := 8) ?hd (cs := #[.int .i16 0, .int .i16 0]) (t := 37) ?hr ?_; (case hd => rfl); (case hg => rfl); (case hr => first | (go_simp; done) | (go_simp; rfl)); intro gb241 hg w18 hbox hb; have n0_ := am (blk_below (g := gb239) (o := .cells #[.int .i16 ((rd_T37 l0 x6_1).f0), .int .i16 ((rd_T37 l0 x6_1).f1)] 37 (0, 0)) (by (with_reducible repeat (first | refine blk_drewN ?_ _ | refine blk_drew ?_ | refine blk_alloc ?_ _)); refine blk_put (cs := #[.int .i16 ((rd_T37 l0 x6_1).f0), .int .i16 0]) ?_ 1 _ rfl; (with_reducible repeat (first | refine blk_drewN ?_ _ | refine blk_drew ?_ | refine blk_alloc ?_ _)); refine blk_put (cs := #[.int .i16 0, .int .i16 0]) ?_ 0 _ rfl; (with_reducible repeat (first | refine blk_drewN ?_ _ | refine blk_drew ?_ | refine blk_alloc ?_ _)); exact BK239.out) hb); have n1_ := am (qs (by repeat (first | (with_reducible first | exact HB.out | apply qa | apply qn | apply qd | refine below_set ?_ GE239.out) | exact HB.out)) hb); have n2_ := am (hbox); have n3_ := am ((by rw [hg]; exact (qz (by repeat (first | (with_reducible first | exact HB.out | apply qa | apply qn | apply qd | refine below_set ?_ GE239.out) | exact HB.out))) : w.heap.size ≤ gb241)); have n4_ := am ((by rw [hg]; exact (qz (by repeat (first | (with_reducible first | exact HB.out | apply qa | apply qn | apply qd | refine below_set ?_ GE239.out) | exact HB.out))) : w.heap.size ≤ gb241)); have n5_ := am ((by rw [hg]; exact Nat.ne_of_lt (blk_lt (g := gb239) (o := .cells #[.int .i16 ((rd_T37 l0 x6_1).f0), .int .i16 ((rd_T37 l0 x6_1).f1)] 37 (0, 0)) (by (with_reducible repeat (first | refine blk_drewN ?_ _ | refine blk_drew ?_ | refine blk_alloc ?_ _)); refine blk_put (cs := #[.int .i16 ((rd_T37 l0 x6_1).f0), .int .i16 0]) ?_ 1 _ rfl; (with_reducible repeat (first | refine blk_drewN ?_ _ | refine blk_drew ?_ | refine blk_alloc ?_ _)); refine blk_put (cs := #[.int .i16 0, .int .i16 0]) ?_ 0 _ rfl; (with_reducible repeat (first | refine blk_drewN ?_ _ | refine blk_drew ?_ | refine blk_alloc ?_ _)); exact BK239.out)) : gb239 ≠ gb241)); have n6_ := am ((by rw [hg]; exact Nat.ne_of_gt (blk_lt (g := gb239) (o := .cells #[.int .i16 ((rd_T37 l0 x6_1).f0), .int .i16 ((rd_T37 l0 x6_1).f1)] 37 (0, 0)) (by (with_reducible repeat (first | refine blk_drewN ?_ _ | refine blk_drew ?_ | refine blk_alloc ?_ _)); refine blk_put (cs := #[.int .i16 ((rd_T37 l0 x6_1).f0), .int .i16 0]) ?_ 1 _ rfl; (with_reducible repeat (first | refine blk_drewN ?_ _ | refine blk_drew ?_ | refine blk_alloc ?_ _)); refine blk_put (cs := #[.int .i16 0, .int .i16 0]) ?_ 0 _ rfl; (with_reducible repeat (first | refine blk_drewN ?_ _ | refine blk_drew ?_ | refine blk_alloc ?_ _)); exact BK239.out)) : gb241 ≠ gb239)); clear BK239; clear HB; have BK239 := n0_; have HB := n1_; have BK241 := n2_; have GW241 := n3_; have GE241 := n4_; have NB239_241 := n5_; have NB241_239 := n6_; clear n0_ n1_ n2_ n3_ n4_ n5_ n6_; clear hb hbox hg; have hnb19 := NB241_239.out; have hnc19 := NB239_241.out; have hcz20_0 : w18.cell? ⟨gb241, 0, none⟩ = some (.int .i16 0) := (blk_cell BK241.out 0).trans rfl; have hcz20_1 : w18.cell? ⟨gb241, 1, none⟩ = some (.int .i16 0) := (blk_cell BK241.out 1).trans rfl; have hfz20_0 := blk_frozen BK241.out 0; have hfz20_1 := blk_frozen BK241.out 1; have hcz21_0 : w18.cell? ⟨gb239, 0, none⟩ = some (.int .i16 ((rd_T37 l0 x6_1).f0)) := (blk_cell BK239.out 0).trans rfl; have hcz21_1 : w18.cell? ⟨gb239, 1, none⟩ = some (.int .i16 ((rd_T37 l0 x6_1).f1)) := (blk_cell BK239.out 1).trans rfl; have hfz21_0 := blk_frozen BK239.out 0; have hfz21_1 := blk_frozen BK239.out 1)))
                         go_ret; exact ⟨by first | rfl | (simp [errW_none, errW_some] <;> rfl) | (simp only [← hji5, ← hji9]; first | rfl | (simp [errW_none, errW_some] <;> rfl)) | (simp [*, errW_none, errW_some] <;> rfl), by repeat (first | (with_reducible first | exact HB.out | apply qa | apply qn | apply qd | refine below_set ?_ GE239.out | refine below_set ?_ GE241.out) | exact HB.out)⟩
                     · rw [if_neg c14] at H
                       exact absurd H (by simp)
                   · rw [if_neg c13] at H
                     exact absurd H (by simp)
               · rw [if_neg c11] at H
                 exact absurd H (by simp)
             · rw [if_neg c10] at H
               exact absurd H (by simp)
       · rw [if_neg c7] at H
         exact absurd H (by simp)
     · rw [if_neg c6] at H
       exact absurd H (by simp)
 · rw [if_neg c3] at H
   exact absurd H (by simp)

/-! ### spec_CurveAt: function 14 -/
def spec_CurveAt.f (k : Nat) (l0 : List (S37)) (a1 : Int) : Option (Int × Int) := (spec_l02Asked.f k l0 a1).bind fun t242 => (if t242 = 0 then ((spec_l02At.f k l0 a1).bind fun t243 => (some (t243, 0))) else (some (0, t242)))
theorem spec_CurveAt.mono : ∀ a0 a1 k, LeO (spec_CurveAt.f k a0 a1) (spec_CurveAt.f (k + 1) a0 a1) := by
 intro a0 a1 k
 unfold spec_CurveAt.f
 repeat' first | (with_reducible first | exact spec_l02Asked.mono _ _ _ | exact spec_l02At.mono _ _ _ | exact LeO.refl _ | exact LeO.none _ | refine LeO.ite ?_ ?_ | refine LeO.bind ?_ (fun _ => ?_)) | exact spec_l02Asked.mono _ _ _ | exact spec_l02At.mono _ _ _ | exact LeO.none _ | refine LeO.ite ?_ ?_ | refine LeO.bind ?_ (fun _ => ?_)
theorem spec_CurveAt.calls (k : Nat) (A0 : Option Addr) (c0 : Nat) (l0 : List (S37)) (a1 : Int) (r1 : Int) (r2 : Int) (w : World) (hr0 : Kd.C k37 w A0 l0.length l0) (hc0 : l0.length ≤ c0) (h : spec_CurveAt.f k l0 a1 = some (r1, r2)) :
 Calls Try.prog 14 #[.slice A0 l0.length c0, .int .i64 a1] w fun e w' => e = .returned (.tuple #[.int .i64 r1, .int .i64 r2]) ∧ Below w.heap.size w w' := by
 have HR0 := am hr0
 have HC0 := am hc0
 clear hr0 hc0
 have HB := am (Below.refl w.heap.size w)
 have H : ((spec_l02Asked.f k l0 a1).bind fun t242 => (if t242 = 0 then ((spec_l02At.f k l0 a1).bind fun t243 => (some (t243, 0))) else (some (0, t242)))) = some (r1, r2) := h
 clear h
 replace H := qob.mp H
 obtain ⟨t242, A30, H⟩ := H
 replace H : (if t242 = 0 then ((spec_l02At.f k l0 a1).bind fun t243 => (some (t243, 0))) else (some (0, t242))) = some (r1, r2) := H
 have A3 := am A30
 clear A30
 by_cases c4 : t242 = 0
 · rw [if_pos c4] at H
   have c4b0 : (t242 == 0) = true := beq_iff_eq.mpr c4; have c4b1 : (t242 != 0) = false := bne_eq_false_iff_eq.mpr c4; clear c4; replace H := qob.mp H; obtain ⟨t243, A50, H⟩ := H; replace H : (some (t243, 0)) = some (r1, r2) := H; have A5 := am A50; clear A50; simp only [Option.some.injEq, Prod.mk.injEq] at H; obtain ⟨rfl, rfl⟩ := H; go_enter Try.func14, Try.ntmps14; go_wp2_with (first | ((with_reducible refine gate_callee (f := 38) rfl ?_); refine gl (some 9) rfl rfl Try.func38 #[.slice A0 l0.length c0, .int .i64 a1] rfl ?_; (with_reducible refine (spec_l02Asked.calls k _ _ l0 a1 t242 _ ?side1 ?side2 A3.out).mono ?_); (case side1 => repeat (first | exact HR0.out | (with_reducible first | refine qca ?_ _ | refine qcn ?_ _ | refine qco ?_))); (case side2 => exact HC0.out); rintro e w6 ⟨rfl, hb⟩; refine ⟨_, rfl, ?_⟩; have n0_ := am (qS hb); clear HB; have HB := n0_; clear n0_; (try clear hb)) | ((with_reducible refine gate_callee (f := 39) rfl ?_); refine gl (some 15) rfl rfl Try.func39 #[.slice A0 l0.length c0, .int .i64 a1] rfl ?_; (with_reducible refine (spec_l02At.calls k _ _ l0 a1 t243 _ ?side1 ?side2 A5.out).mono ?_); (case side1 => repeat (first | exact (Kd.C_below HR0.out HB.out) | (with_reducible first | refine qca ?_ _ | refine qcn ?_ _ | refine qco ?_))); (case side2 => exact HC0.out); rintro e w7 ⟨rfl, hb⟩; refine ⟨_, rfl, ?_⟩; have n0_ := am (qS hb); clear HB; have HB := n0_; clear n0_; (try clear hb))); go_ret2; exact ⟨te, hB⟩
 · rw [if_neg c4] at H
   have c4b0 : (t242 == 0) = false := beq_eq_false_iff_ne.mpr c4; have c4b1 : (t242 != 0) = true := bne_iff_ne.mpr c4; simp only [Option.some.injEq, Prod.mk.injEq] at H; obtain ⟨rfl, rfl⟩ := H; go_enter Try.func14, Try.ntmps14; go_wp2_with (first | ((with_reducible refine gate_callee (f := 38) rfl ?_); refine gl (some 9) rfl rfl Try.func38 #[.slice A0 l0.length c0, .int .i64 a1] rfl ?_; (with_reducible refine (spec_l02Asked.calls k _ _ l0 a1 t242 _ ?side1 ?side2 A3.out).mono ?_); (case side1 => repeat (first | exact HR0.out | (with_reducible first | refine qca ?_ _ | refine qcn ?_ _ | refine qco ?_))); (case side2 => exact HC0.out); rintro e w8 ⟨rfl, hb⟩; refine ⟨_, rfl, ?_⟩; have n0_ := am (qS hb); clear HB; have HB := n0_; clear n0_; (try clear hb))); go_ret2; exact ⟨te, hB⟩

/-! ### impl_Point_41: function 41 -/
def impl_Point_41.f (l0 : List (S37)) : Option (Int) := some (l0.length : Int)
theorem impl_Point_41.calls (A0 : Option Addr) (c0 : Nat) (l0 : List (S37)) (r : Int) (w : World) (hr0 : Kd.C k37 w A0 l0.length l0) (hc0 : l0.length ≤ c0) (h : impl_Point_41.f l0 = some r) :
 Calls Try.prog 41 #[.slice A0 l0.length c0] w fun e w' => e = .returned (.int .i64 r) ∧ Drawn0 w w' := by
 have HR0 := am hr0
 have HC0 := am hc0
 clear hr0 hc0
 have H : (some (l0.length : Int)) = some r := h
 clear h
 obtain rfl := Option.some.inj H
 go_enter Try.func41, Try.ntmps41
 go_wp2
 go_ret
 exact ⟨tr, dr⟩

/-! ### impl_Point_61: function 61 -/
def impl_Point_61.l0 : Nat → List (S37) → (Int → Int → Option (Bool)) → Int → Int → Option (Int)
 | 0, _, _, _, _ => none
 | k + 1, x0, x1, x7, x8 => if x8 < x7 then (if 0 ≤ x8 then (if x8 < (x0.length : Int) then ((x1 ((rd_T37 x0 x8).f0) ((rd_T37 x0 x8).f1)).bind fun t245 => (if t245 = true then (some x8) else (impl_Point_61.l0 k x0 x1 x7 (wrap64 (x8 + 1))))) else (none)) else (none)) else (some (-1))
def impl_Point_61.f (k : Nat) (l0 : List (S37)) (a1 : (Int → Int → Option (Bool))) : Option (Int) := impl_Point_61.l0 k l0 a1 (l0.length : Int) 0
theorem impl_Point_61.mono_l : ∀ k, (∀ y0 y1 y2 y3, LeO (impl_Point_61.l0 k y0 y1 y2 y3) (impl_Point_61.l0 (k + 1) y0 y1 y2 y3))
 | 0 => fun _ _ _ _ r h => by simp [impl_Point_61.l0] at h
 | k + 1 => by
  have ih0 := impl_Point_61.mono_l k
  · intro y0 y1 y2 y3
    unfold impl_Point_61.l0
    repeat' first | (with_reducible first | exact ih0 _ _ _ _ | exact LeO.refl _ | exact LeO.none _ | refine LeO.ite ?_ ?_ | refine LeO.bind ?_ (fun _ => ?_)) | exact ih0 _ _ _ _ | exact LeO.none _ | refine LeO.ite ?_ ?_ | refine LeO.bind ?_ (fun _ => ?_)
theorem impl_Point_61.mono : ∀ a0 a1 k, LeO (impl_Point_61.f k a0 a1) (impl_Point_61.f (k + 1) a0 a1) := by
 intro a0 a1 k
 have ih0 := impl_Point_61.mono_l k
 unfold impl_Point_61.f
 repeat' first | (with_reducible first | exact ih0 _ _ _ _ | exact LeO.refl _ | exact LeO.none _ | refine LeO.ite ?_ ?_ | refine LeO.bind ?_ (fun _ => ?_)) | exact ih0 _ _ _ _ | exact LeO.none _ | refine LeO.ite ?_ ?_ | refine LeO.bind ?_ (fun _ => ?_)
theorem impl_Point_61.calls43 (k : Nat) (A0 : Option Addr) (c0 : Nat) (l0 : List (S37)) (a1 : (Int → Int → Option (Bool))) (r : Int) (w : World) (hr0 : Kd.C k37 w A0 l0.length l0) (hc0 : l0.length ≤ c0) (hF : ∀ (x0_ : Int) (x1_ : Int) (s0_ : Bool) (w' : World), Below w.heap.size w w' → a1 x0_ x1_ = some (s0_) → Calls Try.prog 43 #[.agg #[.int .i16 x0_, .int .i16 x1_]] w' fun e w'' => e = .returned (.bool s0_) ∧ Below w'.heap.size w' w'') (h : impl_Point_61.f k l0 a1 = some r) :
 Calls Try.prog 61 #[.slice A0 l0.length c0, .func (.func 43) #[] #[]] w fun e w' => e = .returned (.int .i64 r) ∧ Below w.heap.size w w' := by
 have hu37 := Try.underlying37
 have HF := am hF
 clear hF
 have HR0 := am hr0
 have HC0 := am hc0
 clear hr0 hc0
 have HB := am (Below.refl w.heap.size w)
 have H : (impl_Point_61.l0 k l0 a1 (l0.length : Int) 0) = some r := h
 clear h
 have H' := am H
 clear H
 go_enter Try.func61, Try.ntmps61
 go_wp2
 go_loopg [8] k (fun kq v8 w' => ∃ (x8_1 : Int), v8 = .int .i64 x8_1 ∧ Aside0 (impl_Point_61.l0 kq l0 a1 (l0.length : Int) x8_1 = some r) ∧ Aside0 (kq ≤ k) ∧ Aside0 (Below w.heap.size w w'))
 case atStart => exact ⟨(0), tr, H', ⟨Nat.le_refl _⟩, ⟨hB⟩⟩
 case round =>
  clear H'
  try clear p2
  obtain ⟨x8_1, rfl, HA, HK1, HB⟩ := hrel
  cases gk with
  | zero => exact absurd HA.out (by simp [impl_Point_61.l0])
  | succ k1 =>
   have H := HA.out; clear HA; simp only [impl_Point_61.l0] at H
   by_cases c3 : x8_1 < (l0.length : Int)
   · rw [if_pos c3] at H
     have c3b0 : decide (x8_1 < (l0.length : Int)) = true := decide_eq_true c3; clear c3
     by_cases c4 : 0 ≤ x8_1
     · rw [if_pos c4] at H
       have c4b0 : decide (0 ≤ x8_1) = true := decide_eq_true c4; clear c4
       by_cases c5 : x8_1 < (l0.length : Int)
       · rw [if_pos c5] at H
         have c5b0 : decide (x8_1 < (l0.length : Int)) = true := decide_eq_true c5; clear c5; replace H := qob.mp H; obtain ⟨t245, A60, H⟩ := H; replace H : (if t245 = true then (some x8_1) else (impl_Point_61.l0 k1 l0 a1 (l0.length : Int) (wrap64 (x8_1 + 1)))) = some r := H; have A6 := am A60; clear A60
         by_cases c7 : t245 = true
         · subst c7
           (have H1 : (some x8_1) = some r := by rw [if_pos rfl] at H; exact H); clear H; have H := H1; clear H1; obtain rfl := Option.some.inj H; have p244 : 0 ≤ (x8_1 : Int) := od; have q244 : x8_1 < (l0.length : Int) := od; obtain ⟨ad244, e244, hx244_0, hx244_1⟩ := at_T37 HR0.out x8_1 p244 q244
           cases e244
           replace hx244_0 := (HB.out.cell (qwb w _ hx244_0)).trans hx244_0; replace hx244_1 := (HB.out.cell (qwb w _ hx244_1)).trans hx244_1; replace p244 := eq_true p244; replace q244 := eq_true q244; go_wp2_with (first | (go_at_call 43; (refine (HF.out _ _ _ _ (by repeat (first | (with_reducible first | exact HB.out | apply qa | apply qn | apply qd) | exact HB.out | refine Below.setCell ?_ (Aside0.out (by assumption)) _)) A6.out).mono ?_); rintro e w8 ⟨rfl, hb⟩; have n0_ := am (qS hb); clear HB; have HB := n0_; clear n0_; (try clear hb))); go_ret; exact ⟨te, hB⟩
         · replace c7 := Bool.eq_false_iff.mpr c7
           subst c7; (have H1 : (impl_Point_61.l0 k1 l0 a1 (l0.length : Int) (wrap64 (x8_1 + 1))) = some r := by rw [if_neg (show ¬ (false = true) by decide)] at H; exact H); clear H; have H := H1; clear H1; have H' := am H; clear H; have p244 : 0 ≤ (x8_1 : Int) := od; have q244 : x8_1 < (l0.length : Int) := od; obtain ⟨ad244, e244, hx244_0, hx244_1⟩ := at_T37 HR0.out x8_1 p244 q244
           cases e244
           replace hx244_0 := (HB.out.cell (qwb w _ hx244_0)).trans hx244_0; replace hx244_1 := (HB.out.cell (qwb w _ hx244_1)).trans hx244_1; replace p244 := eq_true p244; replace q244 := eq_true q244; go_wp2_with (first | (go_at_call 43; (refine (HF.out _ _ _ _ (by repeat (first | (with_reducible first | exact HB.out | apply qa | apply qn | apply qd) | exact HB.out | refine Below.setCell ?_ (Aside0.out (by assumption)) _)) A6.out).mono ?_); rintro e w9 ⟨rfl, hb⟩; have n0_ := am (qS hb); clear HB; have HB := n0_; clear n0_; (try clear hb))); go_roundg k1
           case measure => have := HK1.out; omega
           case rel => exact ⟨(wrap64 (x8_1 + 1)), tr, H', ⟨by have := HK1.out; omega⟩, ⟨hB⟩⟩
       · rw [if_neg c5] at H
         exact absurd H (by simp)
     · rw [if_neg c4] at H
       exact absurd H (by simp)
   · rw [if_neg c3] at H
     have c3b0 : decide (x8_1 < (l0.length : Int)) = false := decide_eq_false c3; clear c3; obtain rfl := Option.some.inj H; go_wp2; go_ret; exact ⟨te, hB⟩

/-! ### impl_Point_42: function 42 -/
def impl_Point_42.f (k : Nat) (l0 : List (S37)) (a1 : (Int → Int → Option (Bool))) : Option (Bool) := (impl_Point_61.f k l0 a1).bind fun t246 => (some (decide (t246 ≥ 0)))
theorem impl_Point_42.mono : ∀ a0 a1 k, LeO (impl_Point_42.f k a0 a1) (impl_Point_42.f (k + 1) a0 a1) := by
 intro a0 a1 k
 unfold impl_Point_42.f
 repeat' first | (with_reducible first | exact impl_Point_61.mono _ _ _ | exact LeO.refl _ | exact LeO.none _ | refine LeO.ite ?_ ?_ | refine LeO.bind ?_ (fun _ => ?_)) | exact impl_Point_61.mono _ _ _ | exact LeO.none _ | refine LeO.ite ?_ ?_ | refine LeO.bind ?_ (fun _ => ?_)
theorem impl_Point_42.calls43 (k : Nat) (A0 : Option Addr) (c0 : Nat) (l0 : List (S37)) (a1 : (Int → Int → Option (Bool))) (r : Bool) (w : World) (hr0 : Kd.C k37 w A0 l0.length l0) (hc0 : l0.length ≤ c0) (hF : ∀ (x0_ : Int) (x1_ : Int) (s0_ : Bool) (w' : World), Below w.heap.size w w' → a1 x0_ x1_ = some (s0_) → Calls Try.prog 43 #[.agg #[.int .i16 x0_, .int .i16 x1_]] w' fun e w'' => e = .returned (.bool s0_) ∧ Below w'.heap.size w' w'') (h : impl_Point_42.f k l0 a1 = some r) :
 Calls Try.prog 42 #[.slice A0 l0.length c0, .func (.func 43) #[] #[]] w fun e w' => e = .returned (.bool r) ∧ Below w.heap.size w w' := by
 have HF := am hF
 clear hF
 have HR0 := am hr0
 have HC0 := am hc0
 clear hr0 hc0
 have HB := am (Below.refl w.heap.size w)
 have H : ((impl_Point_61.f k l0 a1).bind fun t246 => (some (decide (t246 ≥ 0)))) = some r := h
 clear h
 replace H := qob.mp H
 obtain ⟨t246, A30, H⟩ := H
 replace H : (some (decide (t246 ≥ 0))) = some r := H
 have A3 := am A30
 clear A30
 obtain rfl := Option.some.inj H
 go_enter Try.func42, Try.ntmps42
 go_wp2_with (first | ((with_reducible refine gate_callee (f := 61) rfl ?_); refine gl (some 7) rfl rfl Try.func61 #[.slice A0 l0.length c0, .func (.func 43) #[] #[]] rfl ?_; (with_reducible refine (impl_Point_61.calls43 k _ _ l0 a1 t246 _ ?side1 ?side2 (fun x0_ x1_ s0_ w_ hb_ h_ => HF.out x0_ x1_ s0_ w_ (qs (by repeat (first | (with_reducible first | exact HB.out | apply qa | apply qn | apply qd) | exact HB.out | refine Below.setCell ?_ (Aside0.out (by assumption)) _)) hb_) h_) A3.out).mono ?_); (case side1 => repeat (first | exact HR0.out | (with_reducible first | refine qca ?_ _ | refine qcn ?_ _ | refine qco ?_))); (case side2 => exact HC0.out); rintro e w4 ⟨rfl, hb⟩; refine ⟨_, rfl, ?_⟩; have n0_ := am (qS hb); clear HB; have HB := n0_; clear n0_; (try clear hb)))
 go_ret
 exact ⟨te, hB⟩

end Go.Proofs.Ytedheepkalbcfaa.PFnMovedCurves
