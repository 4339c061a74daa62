/- Proves what functions that a law reaches come to, one contract each; no conditions beyond those that each names. Printed by a program of this session (xprint) out of the translation. -/
import Derived.Test.YtedheepkalbcfaaPFnMovedCurvesx0
import Derived.Test.YtedheepkalbcfaaPFnMovedCurvesx2
import Derived.Test.YtedheepkalbcfaaPFnMovedCurvesx4
import Derived.Test.YtedheepkalbcfaaPFnMovedCurvesx8
import Derived.Test.YtedheepkalbcfaaPFnMovedCurvesx12
namespace Go.Proofs.Ytedheepkalbcfaa.PFnMovedCurves
open Go.RowKit Go.Proofs.YtedheepkalbcfaaW.PrintWords Go.Proofs.YtedheepkalbcfaaW.PrintLast Go.Proofs.YtedheepkalbcfaaW.PrintMore
attribute [local go_sem] max2_int min2_int max_two min_two max_three min_three max_four min_four
set_option maxHeartbeats 8000000
set_option maxRecDepth 100000
set_option linter.unusedVariables false
set_option linter.unusedSimpArgs false

/-! ### impl_SimplerCurve: function 23 -/
def impl_SimplerCurve.l0 : Nat → List (S37) → Int → List (S37) → Int → Option ((List (S37)) × Int × Int)
 | 0, _, _, _, _ => none
 | k + 1, x0, x1, x8, x9 => (impl_simpler.f k x0 x8 x1).bind fun bt359 => (if bt359.2 = true then (impl_SimplerCurve.l0 k x0 x1 bt359.1 (wrap64 (x9 + 1))) else (some (x8, x9, 0)))
def impl_SimplerCurve.f (k : Nat) (l0 : List (S37)) (a1 : Int) : Option ((List (S37)) × Int × Int) := (impl_isDensity.f a1).bind fun t354 => ((impl_curveCode.f k l0 t354).bind fun t355 => (if t355 = 0 then ((impl_Point_56.f l0).bind fun t356 => (impl_SimplerCurve.l0 k l0 a1 t356 0)) else (some (([] : List (S37)), 0, t355))))
theorem impl_SimplerCurve.mono_l : ∀ k, (∀ y0 y1 y2 y3, LeO (impl_SimplerCurve.l0 k y0 y1 y2 y3) (impl_SimplerCurve.l0 (k + 1) y0 y1 y2 y3))
 | 0 => fun _ _ _ _ r h => by simp [impl_SimplerCurve.l0] at h
 | k + 1 => by
  have ih0 := impl_SimplerCurve.mono_l k
  · intro y0 y1 y2 y3
    unfold impl_SimplerCurve.l0
    repeat' first | (with_reducible first | exact ih0 _ _ _ _ | exact impl_curveCode.mono _ _ _ | exact impl_simpler.mono _ _ _ _ | exact LeO.refl _ | exact LeO.none _ | refine LeO.ite ?_ ?_ | refine LeO.bind ?_ (fun _ => ?_)) | exact ih0 _ _ _ _ | exact impl_curveCode.mono _ _ _ | exact impl_simpler.mono _ _ _ _ | exact LeO.none _ | refine LeO.ite ?_ ?_ | refine LeO.bind ?_ (fun _ => ?_)
theorem impl_SimplerCurve.mono : ∀ a0 a1 k, LeO (impl_SimplerCurve.f k a0 a1) (impl_SimplerCurve.f (k + 1) a0 a1) := by
 intro a0 a1 k
 have ih0 := impl_SimplerCurve.mono_l k
 unfold impl_SimplerCurve.f
 repeat' first | (with_reducible first | exact ih0 _ _ _ _ | exact impl_curveCode.mono _ _ _ | exact impl_simpler.mono _ _ _ _ | exact LeO.refl _ | exact LeO.none _ | refine LeO.ite ?_ ?_ | refine LeO.bind ?_ (fun _ => ?_)) | exact ih0 _ _ _ _ | exact impl_curveCode.mono _ _ _ | exact impl_simpler.mono _ _ _ _ | exact LeO.none _ | refine LeO.ite ?_ ?_ | refine LeO.bind ?_ (fun _ => ?_)
theorem impl_SimplerCurve.calls (k : Nat) (A0 : Option Addr) (c0 : Nat) (l0 : List (S37)) (a1 : Int) (r1 : List (S37)) (r2 : Int) (r3 : Int) (w : World) (hr0 : Kd.C k37 w A0 l0.length l0) (hc0 : l0.length ≤ c0) (h : impl_SimplerCurve.f k l0 a1 = some (r1, r2, r3)) :
 Calls Try.prog 23 #[.slice A0 l0.length c0, .int .i64 a1] w fun e w' => ∃ v0_ : Value, e = .returned (.tuple #[v0_, .int .i64 r2, .int .i64 r3]) ∧ Kd.R k37 37 w' w.heap.size (fun _ => True) v0_ r1 ∧ Below w.heap.size w w' := by
 have HR0 := am hr0
 have HC0 := am hc0
 clear hr0 hc0
 have HB := am (Below.refl w.heap.size w)
 have H : ((impl_isDensity.f a1).bind fun t354 => ((impl_curveCode.f k l0 t354).bind fun t355 => (if t355 = 0 then ((impl_Point_56.f l0).bind fun t356 => (impl_SimplerCurve.l0 k l0 a1 t356 0)) else (some (([] : List (S37)), 0, t355))))) = some (r1, r2, r3) := h
 clear h
 replace H := qob.mp H
 obtain ⟨t354, A30, H⟩ := H
 replace H : ((impl_curveCode.f k l0 t354).bind fun t355 => (if t355 = 0 then ((impl_Point_56.f l0).bind fun t356 => (impl_SimplerCurve.l0 k l0 a1 t356 0)) else (some (([] : List (S37)), 0, t355)))) = some (r1, r2, r3) := H
 have A3 := am A30
 clear A30
 replace H := qob.mp H
 obtain ⟨t355, A40, H⟩ := H
 replace H : (if t355 = 0 then ((impl_Point_56.f l0).bind fun t356 => (impl_SimplerCurve.l0 k l0 a1 t356 0)) else (some (([] : List (S37)), 0, t355))) = some (r1, r2, r3) := H
 have A4 := am A40
 clear A40
 by_cases c5 : t355 = 0
 · rw [if_pos c5] at H
   have c5b0 : (t355 == 0) = true := beq_iff_eq.mpr c5; have c5b1 : (t355 != 0) = false := bne_eq_false_iff_eq.mpr c5; clear c5; replace H := qob.mp H; obtain ⟨t356, A60, H⟩ := H; replace H : (impl_SimplerCurve.l0 k l0 a1 t356 0) = some (r1, r2, r3) := H; have A6 := am A60; clear A60; have H' := am H; clear H; go_enter Try.func23, Try.ntmps23; go_wp2_with (first | ((with_reducible refine gate_callee (f := 55) rfl ?_); refine gl (some 14) rfl rfl Try.func55 #[.int .i64 a1] rfl ?_; (with_reducible refine (impl_isDensity.calls a1 t354 _ A3.out).mono ?_); rintro e w' ⟨rfl, ⟨nd, rfl⟩⟩; refine ⟨_, rfl, ?_⟩) | ((with_reducible refine gate_callee (f := 35) rfl ?_); refine gl (some 15) rfl rfl Try.func35 #[.slice A0 l0.length c0, .bool t354] rfl ?_; (with_reducible refine (impl_curveCode.calls k _ _ l0 t354 t355 _ ?side1 ?side2 A4.out).mono ?_); (case side1 => repeat (first | exact HR0.out | (with_reducible first | refine qca ?_ _ | refine qcn ?_ _ | refine qco ?_))); (case side2 => exact HC0.out); rintro e w7 ⟨rfl, hb⟩; refine ⟨_, rfl, ?_⟩; have n0_ := am (qS hb); clear HB; have HB := n0_; clear n0_; (try clear hb)) | ((with_reducible refine gate_callee (f := 56) rfl ?_); refine gl (some 20) rfl rfl Try.func56 #[.slice A0 l0.length c0] rfl ?_; (with_reducible refine (impl_Point_56.calls _ _ l0 t356 _ ?side1 ?side2 A6.out).mono ?_); (case side1 => repeat (first | exact (Kd.C_below HR0.out HB.out) | (with_reducible first | refine qca ?_ _ | refine qcn ?_ _ | refine qco ?_))); (case side2 => exact HC0.out); rintro e w8 ⟨v357, rfl, ho0, hb⟩; refine ⟨_, rfl, ?_⟩; have n0_ := am (Kd.R_lower ho0 qZ); have n1_ := am (qS hb); clear HB; have HO358 := n0_; have HB := n1_; clear n0_ n1_; (try clear hb); (try clear ho0))); go_loopg [8, 9] k (fun kq v8 v9 w' => ∃ (x8_1 : List (S37)) (x9_1 : Int), v9 = .int .i64 x9_1 ∧ Aside0 (impl_SimplerCurve.l0 kq l0 a1 x8_1 x9_1 = some (r1, r2, r3)) ∧ Aside0 (kq ≤ k) ∧ Aside0 (Kd.R k37 37 w' w.heap.size (fun _ => True) v8 x8_1) ∧ Aside0 (Below w.heap.size w w'))
   case atStart => exact ⟨(t356), (0), tr, H', ⟨Nat.le_refl _⟩, ⟨by (with_reducible repeat (first | apply qra | apply qrn | apply qro)); exact HO358.out⟩, ⟨hB⟩⟩
   case round =>
    clear H'; (try clear c2); (try clear p2); (try clear c3); (try clear c5); (try clear c5b0); (try clear c5b1); obtain ⟨x8_1, x9_1, rfl, HA, HK1, HO_8, HB⟩ := hrel
    cases gk with
    | zero => exact absurd HA.out (by simp [impl_SimplerCurve.l0])
    | succ k1 =>
     have H := HA.out; clear HA; simp only [impl_SimplerCurve.l0] at H; replace H := qob.mp H; obtain ⟨⟨t359, t360⟩, A90, H⟩ := H; replace H : (if t360 = true then (impl_SimplerCurve.l0 k1 l0 a1 t359 (wrap64 (x9_1 + 1))) else (some (x8_1, x9_1, 0))) = some (r1, r2, r3) := H; have A9 := am A90; clear A90
     by_cases c10 : t360 = true
     · subst c10
       (have H1 : (impl_SimplerCurve.l0 k1 l0 a1 t359 (wrap64 (x9_1 + 1))) = some (r1, r2, r3) := by rw [if_pos rfl] at H; exact H); clear H; have H := H1; clear H1; have H' := am H; clear H; obtain ⟨Ao11, co11, eo11⟩ := Kd.R_slice HO_8.out; subst eo11; go_wp2_with (first | ((with_reducible refine gate_callee (f := 57) rfl ?_); refine gl (some 25) rfl rfl Try.func57 #[.slice A0 l0.length c0, .slice Ao11 x8_1.length co11, .int .i64 a1] rfl ?_; (with_reducible refine (impl_simpler.calls k1 _ _ l0 _ _ x8_1 a1 t359 true _ ?side1 ?side2 ?side3 ?side4 A9.out).mono ?_); (case side1 => repeat (first | exact (Kd.C_below HR0.out HB.out) | (with_reducible first | refine qca ?_ _ | refine qcn ?_ _ | refine qco ?_))); (case side2 => exact HC0.out); (case side3 => repeat (first | exact (Kd.R_reads' HO_8.out).2.2 | (with_reducible first | refine qca ?_ _ | refine qcn ?_ _ | refine qco ?_))); (case side4 => exact (Kd.R_reads' HO_8.out).2.1); rintro e w12 ⟨v361, rfl, ho0, hb⟩; refine ⟨_, rfl, ?_⟩; have n0_ := am (Kd.R_elder' (by (with_reducible repeat (first | apply qra | apply qrn | apply qro)); exact HO_8.out) (Kd.R_base ho0) hb); have n1_ := am (Kd.R_lower (Kd.R_new' ho0 (Kd.R_lt (by (with_reducible repeat (first | apply qra | apply qrn | apply qro)); exact HO_8.out))) qZ); have n2_ := am (qS hb); clear HO_8; clear HB; have HO_8 := n0_; have HO362 := n1_; have HB := n2_; clear n0_ n1_ n2_; (try clear hb); (try clear ho0))); go_roundg k1
       case measure => have := HK1.out; omega
       case rel => exact ⟨(t359), (wrap64 (x9_1 + 1)), tr, H', ⟨by have := HK1.out; omega⟩, ⟨by (with_reducible repeat (first | apply qra | apply qrn | apply qro)); exact Kd.R_mono HO362.out (fun _ hk => trivial)⟩, ⟨hB⟩⟩
     · replace c10 := Bool.eq_false_iff.mpr c10
       subst c10; (have H1 : (some (x8_1, x9_1, 0)) = some (r1, r2, r3) := by rw [if_neg (show ¬ (false = true) by decide)] at H; exact H); clear H; have H := H1; clear H1; simp only [Option.some.injEq, Prod.mk.injEq] at H; obtain ⟨rfl, rfl, rfl⟩ := H; obtain ⟨Ao13, co13, eo13⟩ := Kd.R_slice HO_8.out; subst eo13; go_wp2_with (first | ((with_reducible refine gate_callee (f := 57) rfl ?_); refine gl (some 25) rfl rfl Try.func57 #[.slice A0 l0.length c0, .slice Ao13 x8_1.length co13, .int .i64 a1] rfl ?_; (with_reducible refine (impl_simpler.calls k1 _ _ l0 _ _ x8_1 a1 t359 false _ ?side1 ?side2 ?side3 ?side4 A9.out).mono ?_); (case side1 => repeat (first | exact (Kd.C_below HR0.out HB.out) | (with_reducible first | refine qca ?_ _ | refine qcn ?_ _ | refine qco ?_))); (case side2 => exact HC0.out); (case side3 => repeat (first | exact (Kd.R_reads' HO_8.out).2.2 | (with_reducible first | refine qca ?_ _ | refine qcn ?_ _ | refine qco ?_))); (case side4 => exact (Kd.R_reads' HO_8.out).2.1); rintro e w14 ⟨v361, rfl, ho0, hb⟩; refine ⟨_, rfl, ?_⟩; have n0_ := am (Kd.R_elder' (by (with_reducible repeat (first | apply qra | apply qrn | apply qro)); exact HO_8.out) (Kd.R_base ho0) hb); have n1_ := am (Kd.R_lower (Kd.R_new' ho0 (Kd.R_lt (by (with_reducible repeat (first | apply qra | apply qrn | apply qro)); exact HO_8.out))) qZ); have n2_ := am (qS hb); clear HO_8; clear HB; have HO_8 := n0_; have HO362 := n1_; have HB := n2_; clear n0_ n1_ n2_; (try clear hb); (try clear ho0))); go_ret3; exact ⟨_, te, by (with_reducible repeat (first | apply qra | apply qrn | apply qro)); exact Kd.R_mono HO_8.out (fun _ hk => trivial), hB⟩
 · rw [if_neg c5] at H
   have c5b0 : (t355 == 0) = false := beq_eq_false_iff_ne.mpr c5; have c5b1 : (t355 != 0) = true := bne_iff_ne.mpr c5; simp only [Option.some.injEq, Prod.mk.injEq] at H; obtain ⟨rfl, rfl, rfl⟩ := H; go_enter Try.func23, Try.ntmps23; go_wp2_with (first | ((with_reducible refine gate_callee (f := 55) rfl ?_); refine gl (some 14) rfl rfl Try.func55 #[.int .i64 a1] rfl ?_; (with_reducible refine (impl_isDensity.calls a1 t354 _ A3.out).mono ?_); rintro e w' ⟨rfl, ⟨nd, rfl⟩⟩; refine ⟨_, rfl, ?_⟩) | ((with_reducible refine gate_callee (f := 35) rfl ?_); refine gl (some 15) rfl rfl Try.func35 #[.slice A0 l0.length c0, .bool t354] rfl ?_; (with_reducible refine (impl_curveCode.calls k _ _ l0 t354 t355 _ ?side1 ?side2 A4.out).mono ?_); (case side1 => repeat (first | exact HR0.out | (with_reducible first | refine qca ?_ _ | refine qcn ?_ _ | refine qco ?_))); (case side2 => exact HC0.out); rintro e w15 ⟨rfl, hb⟩; refine ⟨_, rfl, ?_⟩; have n0_ := am (qS hb); clear HB; have HB := n0_; clear n0_; (try clear hb))); go_ret3; exact ⟨_, te, by first | exact Kd.R_nil _ _ _ _ _ | exact Kd.N_nil _ _ _ _ _ | exact Kd.V_nil _ _ _ _ _ | exact Kd.Q_nil _ _ _ _ _ | exact Kd.S_nil _ _ _ _ _, hB⟩

/-! ### spec_l01Size: function 59 -/
def spec_l01Size.f (a0 : Int) : Option (Int) := if a0 < 0 then (some (wrap64 (-a0))) else (some a0)
theorem spec_l01Size.calls (a0 : Int) (r : Int) (w : World) (h : spec_l01Size.f a0 = some r) :
 Calls Try.prog 59 #[.int .i64 a0] w fun e w' => e = .returned (.int .i64 r) ∧ Drawn0 w w' := by
 have H : (if a0 < 0 then (some (wrap64 (-a0))) else (some a0)) = some r := h
 clear h
 by_cases c2 : a0 < 0
 · rw [if_pos c2] at H
   have c2b0 : decide (a0 < 0) = true := decide_eq_true c2; clear c2; obtain rfl := Option.some.inj H; go_enter Try.func59, Try.ntmps59; go_wp2; go_ret; exact ⟨tr, dr⟩
 · rw [if_neg c2] at H
   have c2b0 : decide (a0 < 0) = false := decide_eq_false c2; clear c2; obtain rfl := Option.some.inj H; go_enter Try.func59, Try.ntmps59; go_wp2; go_ret; exact ⟨tr, dr⟩

/-! ### spec_l02Gap: function 58 -/
def spec_l02Gap.l0 : Nat → List (S37) → List (S37) → Int → Int → Int → Option (Int × Int)
 | 0, _, _, _, _, _ => none
 | k + 1, x0, x1, x6, x7, x8 => if x8 ≤ 200 then ((spec_l02At.f k x1 x8).bind fun t365 => ((spec_l02At.f k x0 x8).bind fun t366 => ((spec_l01Size.f (wrap64 (t365 - t366))).bind fun t367 => ((spec_l01Size.f x7).bind fun t368 => (if t367 > t368 then (spec_l02Gap.l0 k x0 x1 x8 (wrap64 (t365 - t366)) (wrap64 (x8 + 1))) else (spec_l02Gap.l0 k x0 x1 x6 x7 (wrap64 (x8 + 1)))))))) else (some (x6, x7))
def spec_l02Gap.f (k : Nat) (l0 : List (S37)) (l1 : List (S37)) : Option (Int × Int) := (spec_l02At.f k l1 (-200)).bind fun t363 => ((spec_l02At.f k l0 (-200)).bind fun t364 => (spec_l02Gap.l0 k l0 l1 (-200) (wrap64 (t363 - t364)) ((-200) + 1)))
theorem spec_l02Gap.mono_l : ∀ k, (∀ y0 y1 y2 y3 y4, LeO (spec_l02Gap.l0 k y0 y1 y2 y3 y4) (spec_l02Gap.l0 (k + 1) y0 y1 y2 y3 y4))
 | 0 => fun _ _ _ _ _ r h => by simp [spec_l02Gap.l0] at h
 | k + 1 => by
  have ih0 := spec_l02Gap.mono_l k
  · intro y0 y1 y2 y3 y4
    unfold spec_l02Gap.l0
    repeat' first | (with_reducible first | exact ih0 _ _ _ _ _ | exact spec_l02At.mono _ _ _ | exact LeO.refl _ | exact LeO.none _ | refine LeO.ite ?_ ?_ | refine LeO.bind ?_ (fun _ => ?_)) | exact ih0 _ _ _ _ _ | exact spec_l02At.mono _ _ _ | exact LeO.none _ | refine LeO.ite ?_ ?_ | refine LeO.bind ?_ (fun _ => ?_)
theorem spec_l02Gap.mono : ∀ a0 a1 k, LeO (spec_l02Gap.f k a0 a1) (spec_l02Gap.f (k + 1) a0 a1) := by
 intro a0 a1 k
 have ih0 := spec_l02Gap.mono_l k
 unfold spec_l02Gap.f
 repeat' first | (with_reducible first | exact ih0 _ _ _ _ _ | exact spec_l02At.mono _ _ _ | exact LeO.refl _ | exact LeO.none _ | refine LeO.ite ?_ ?_ | refine LeO.bind ?_ (fun _ => ?_)) | exact ih0 _ _ _ _ _ | exact spec_l02At.mono _ _ _ | exact LeO.none _ | refine LeO.ite ?_ ?_ | refine LeO.bind ?_ (fun _ => ?_)
theorem spec_l02Gap.calls (k : Nat) (A0 : Option Addr) (c0 : Nat) (l0 : List (S37)) (A1 : Option Addr) (c1 : Nat) (l1 : List (S37)) (r1 : Int) (r2 : Int) (w : World) (hr0 : Kd.C k37 w A0 l0.length l0) (hc0 : l0.length ≤ c0) (hr1 : Kd.C k37 w A1 l1.length l1) (hc1 : l1.length ≤ c1) (h : spec_l02Gap.f k l0 l1 = some (r1, r2)) :
 Calls Try.prog 58 #[.slice A0 l0.length c0, .slice A1 l1.length c1] w fun e w' => e = .returned (.tuple #[.int .i64 r1, .int .i64 r2]) ∧ Below w.heap.size w w' := by
 have HR0 := am hr0
 have HC0 := am hc0
 clear hr0 hc0
 have HR1 := am hr1
 have HC1 := am hc1
 clear hr1 hc1
 have HB := am (Below.refl w.heap.size w)
 have H : ((spec_l02At.f k l1 (-200)).bind fun t363 => ((spec_l02At.f k l0 (-200)).bind fun t364 => (spec_l02Gap.l0 k l0 l1 (-200) (wrap64 (t363 - t364)) ((-200) + 1)))) = some (r1, r2) := h
 clear h
 replace H := qob.mp H
 obtain ⟨t363, A30, H⟩ := H
 replace H : ((spec_l02At.f k l0 (-200)).bind fun t364 => (spec_l02Gap.l0 k l0 l1 (-200) (wrap64 (t363 - t364)) ((-200) + 1))) = some (r1, r2) := H
 have A3 := am A30
 clear A30
 replace H := qob.mp H
 obtain ⟨t364, A40, H⟩ := H
 replace H : (spec_l02Gap.l0 k l0 l1 (-200) (wrap64 (t363 - t364)) ((-200) + 1)) = some (r1, r2) := H
 have A4 := am A40
 clear A40
 have H' := am H
 clear H
 go_enter Try.func58, Try.ntmps58
 go_wp2_with (first | ((with_reducible refine gate_callee (f := 39) rfl ?_); refine gl (some 12) rfl rfl Try.func39 #[.slice A1 l1.length c1, .int .i64 (-200)] rfl ?_; (with_reducible refine (spec_l02At.calls k _ _ l1 (-200) t363 _ ?side1 ?side2 A3.out).mono ?_); (case side1 => repeat (first | exact HR1.out | (with_reducible first | refine qca ?_ _ | refine qcn ?_ _ | refine qco ?_))); (case side2 => exact HC1.out); rintro e w5 ⟨rfl, hb⟩; refine ⟨_, rfl, ?_⟩; have n0_ := am (qS hb); clear HB; have HB := n0_; clear n0_; (try clear hb)) | ((with_reducible refine gate_callee (f := 39) rfl ?_); refine gl (some 15) rfl rfl Try.func39 #[.slice A0 l0.length c0, .int .i64 (-200)] rfl ?_; (with_reducible refine (spec_l02At.calls k _ _ l0 (-200) t364 _ ?side1 ?side2 A4.out).mono ?_); (case side1 => repeat (first | exact (Kd.C_below HR0.out HB.out) | (with_reducible first | refine qca ?_ _ | refine qcn ?_ _ | refine qco ?_))); (case side2 => exact HC0.out); rintro e w6 ⟨rfl, hb⟩; refine ⟨_, rfl, ?_⟩; have n0_ := am (qS hb); clear HB; have HB := n0_; clear n0_; (try clear hb)))
 go_loopg [6, 7, 8] k (fun kq v6 v7 v8 w' => ∃ (x6_1 : Int) (x7_1 : Int) (x8_1 : Int), v6 = .int .i64 x6_1 ∧ v7 = .int .i64 x7_1 ∧ v8 = .int .i64 x8_1 ∧ Aside0 (spec_l02Gap.l0 kq l0 l1 x6_1 x7_1 x8_1 = some (r1, r2)) ∧ Aside0 (kq ≤ k) ∧ Aside0 (Below w.heap.size w w'))
 case atStart => exact ⟨((-200)), (wrap64 (t363 - t364)), ((-200) + 1), tr, tr, tr, H', ⟨Nat.le_refl _⟩, ⟨hB⟩⟩
 case round =>
  clear H'
  try clear c1
  try clear p2
  try clear c3
  try clear c5
  try clear p6
  obtain ⟨x6_1, x7_1, x8_1, rfl, rfl, rfl, HA, HK1, HB⟩ := hrel
  cases gk with
  | zero => exact absurd HA.out (by simp [spec_l02Gap.l0])
  | succ k1 =>
   have H := HA.out; clear HA; simp only [spec_l02Gap.l0] at H
   by_cases c7 : x8_1 ≤ 200
   · rw [if_pos c7] at H
     have c7b0 : decide (x8_1 ≤ 200) = true := decide_eq_true c7; clear c7; replace H := qob.mp H; obtain ⟨t365, A80, H⟩ := H; replace H : ((spec_l02At.f k1 l0 x8_1).bind fun t366 => ((spec_l01Size.f (wrap64 (t365 - t366))).bind fun t367 => ((spec_l01Size.f x7_1).bind fun t368 => (if t367 > t368 then (spec_l02Gap.l0 k1 l0 l1 x8_1 (wrap64 (t365 - t366)) (wrap64 (x8_1 + 1))) else (spec_l02Gap.l0 k1 l0 l1 x6_1 x7_1 (wrap64 (x8_1 + 1))))))) = some (r1, r2) := H; have A8 := am A80; clear A80; replace H := qob.mp H; obtain ⟨t366, A90, H⟩ := H; replace H : ((spec_l01Size.f (wrap64 (t365 - t366))).bind fun t367 => ((spec_l01Size.f x7_1).bind fun t368 => (if t367 > t368 then (spec_l02Gap.l0 k1 l0 l1 x8_1 (wrap64 (t365 - t366)) (wrap64 (x8_1 + 1))) else (spec_l02Gap.l0 k1 l0 l1 x6_1 x7_1 (wrap64 (x8_1 + 1)))))) = some (r1, r2) := H; have A9 := am A90; clear A90; replace H := qob.mp H; obtain ⟨t367, A100, H⟩ := H; replace H : ((spec_l01Size.f x7_1).bind fun t368 => (if t367 > t368 then (spec_l02Gap.l0 k1 l0 l1 x8_1 (wrap64 (t365 - t366)) (wrap64 (x8_1 + 1))) else (spec_l02Gap.l0 k1 l0 l1 x6_1 x7_1 (wrap64 (x8_1 + 1))))) = some (r1, r2) := H; have A10 := am A100; clear A100; replace H := qob.mp H; obtain ⟨t368, A110, H⟩ := H; replace H : (if t367 > t368 then (spec_l02Gap.l0 k1 l0 l1 x8_1 (wrap64 (t365 - t366)) (wrap64 (x8_1 + 1))) else (spec_l02Gap.l0 k1 l0 l1 x6_1 x7_1 (wrap64 (x8_1 + 1)))) = some (r1, r2) := H; have A11 := am A110; clear A110
     by_cases c12 : t367 > t368
     · rw [if_pos c12] at H
       have c12b0 : decide (t368 < t367) = true := decide_eq_true c12; clear c12; have H' := am H; clear H; go_wp2_with (first | ((with_reducible refine gate_callee (f := 39) rfl ?_); refine gl (some 25) rfl rfl Try.func39 #[.slice A1 l1.length c1, .int .i64 x8_1] rfl ?_; (with_reducible refine (spec_l02At.calls k1 _ _ l1 x8_1 t365 _ ?side1 ?side2 A8.out).mono ?_); (case side1 => repeat (first | exact (Kd.C_below HR1.out HB.out) | (with_reducible first | refine qca ?_ _ | refine qcn ?_ _ | refine qco ?_))); (case side2 => exact HC1.out); rintro e w13 ⟨rfl, hb⟩; refine ⟨_, rfl, ?_⟩; have n0_ := am (qS hb); clear HB; have HB := n0_; clear n0_; (try clear hb)) | ((with_reducible refine gate_callee (f := 39) rfl ?_); refine gl (some 28) rfl rfl Try.func39 #[.slice A0 l0.length c0, .int .i64 x8_1] rfl ?_; (with_reducible refine (spec_l02At.calls k1 _ _ l0 x8_1 t366 _ ?side1 ?side2 A9.out).mono ?_); (case side1 => repeat (first | exact (Kd.C_below HR0.out HB.out) | (with_reducible first | refine qca ?_ _ | refine qcn ?_ _ | refine qco ?_))); (case side2 => exact HC0.out); rintro e w14 ⟨rfl, hb⟩; refine ⟨_, rfl, ?_⟩; have n0_ := am (qS hb); clear HB; have HB := n0_; clear n0_; (try clear hb)) | ((with_reducible refine gate_callee (f := 59) rfl ?_); refine gl (some 31) rfl rfl Try.func59 #[.int .i64 (wrap64 (t365 - t366))] rfl ?_; (with_reducible refine (spec_l01Size.calls (wrap64 (t365 - t366)) t367 _ A10.out).mono ?_); rintro e w' ⟨rfl, ⟨nd, rfl⟩⟩; refine ⟨_, rfl, ?_⟩) | ((with_reducible refine gate_callee (f := 59) rfl ?_); refine gl (some 33) rfl rfl Try.func59 #[.int .i64 x7_1] rfl ?_; (with_reducible refine (spec_l01Size.calls x7_1 t368 _ A11.out).mono ?_); rintro e w' ⟨rfl, ⟨nd, rfl⟩⟩; refine ⟨_, rfl, ?_⟩)); go_roundg k1
       case measure => have := HK1.out; omega
       case rel => exact ⟨(x8_1), (wrap64 (t365 - t366)), (wrap64 (x8_1 + 1)), tr, tr, tr, H', ⟨by have := HK1.out; omega⟩, ⟨hB⟩⟩
     · rw [if_neg c12] at H
       have c12b0 : decide (t368 < t367) = false := decide_eq_false c12; clear c12; have H' := am H; clear H; go_wp2_with (first | ((with_reducible refine gate_callee (f := 39) rfl ?_); refine gl (some 25) rfl rfl Try.func39 #[.slice A1 l1.length c1, .int .i64 x8_1] rfl ?_; (with_reducible refine (spec_l02At.calls k1 _ _ l1 x8_1 t365 _ ?side1 ?side2 A8.out).mono ?_); (case side1 => repeat (first | exact (Kd.C_below HR1.out HB.out) | (with_reducible first | refine qca ?_ _ | refine qcn ?_ _ | refine qco ?_))); (case side2 => exact HC1.out); rintro e w15 ⟨rfl, hb⟩; refine ⟨_, rfl, ?_⟩; have n0_ := am (qS hb); clear HB; have HB := n0_; clear n0_; (try clear hb)) | ((with_reducible refine gate_callee (f := 39) rfl ?_); refine gl (some 28) rfl rfl Try.func39 #[.slice A0 l0.length c0, .int .i64 x8_1] rfl ?_; (with_reducible refine (spec_l02At.calls k1 _ _ l0 x8_1 t366 _ ?side1 ?side2 A9.out).mono ?_); (case side1 => repeat (first | exact (Kd.C_below HR0.out HB.out) | (with_reducible first | refine qca ?_ _ | refine qcn ?_ _ | refine qco ?_))); (case side2 => exact HC0.out); rintro e w16 ⟨rfl, hb⟩; refine ⟨_, rfl, ?_⟩; have n0_ := am (qS hb); clear HB; have HB := n0_; clear n0_; (try clear hb)) | ((with_reducible refine gate_callee (f := 59) rfl ?_); refine gl (some 31) rfl rfl Try.func59 #[.int .i64 (wrap64 (t365 - t366))] rfl ?_; (with_reducible refine (spec_l01Size.calls (wrap64 (t365 - t366)) t367 _ A10.out).mono ?_); rintro e w' ⟨rfl, ⟨nd, rfl⟩⟩; refine ⟨_, rfl, ?_⟩) | ((with_reducible refine gate_callee (f := 59) rfl ?_); refine gl (some 33) rfl rfl Try.func59 #[.int .i64 x7_1] rfl ?_; (with_reducible refine (spec_l01Size.calls x7_1 t368 _ A11.out).mono ?_); rintro e w' ⟨rfl, ⟨nd, rfl⟩⟩; refine ⟨_, rfl, ?_⟩)); go_roundg k1
       case measure => have := HK1.out; omega
       case rel => exact ⟨(x6_1), (x7_1), (wrap64 (x8_1 + 1)), tr, tr, tr, H', ⟨by have := HK1.out; omega⟩, ⟨hB⟩⟩
   · rw [if_neg c7] at H
     have c7b0 : decide (x8_1 ≤ 200) = false := decide_eq_false c7; clear c7; simp only [Option.some.injEq, Prod.mk.injEq] at H; obtain ⟨rfl, rfl⟩ := H; go_wp2; go_ret2; exact ⟨te, hB⟩

end Go.Proofs.Ytedheepkalbcfaa.PFnMovedCurves
