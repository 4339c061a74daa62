/- Proves what functions that a law reaches come to, one contract each; no conditions beyond those that each names. Printed by a program of this session (xprint) out of the translation. -/
import Derived.Test.YtedheepkalbcfaaPFnMovedCurvesx0
import Derived.Test.YtedheepkalbcfaaPFnMovedCurvesx2
import Derived.Test.YtedheepkalbcfaaPFnMovedCurvesx3
namespace Go.Proofs.Ytedheepkalbcfaa.PFnMovedCurves
open Go.RowKit Go.Proofs.YtedheepkalbcfaaW.PrintWords Go.Proofs.YtedheepkalbcfaaW.PrintLast Go.Proofs.YtedheepkalbcfaaW.PrintMore
attribute [local go_sem] max2_int min2_int max_two min_two max_three min_three max_four min_four
set_option maxHeartbeats 8000000
set_option maxRecDepth 100000
set_option linter.unusedVariables false
set_option linter.unusedSimpArgs false

/-! ### impl_ValidCurve: function 18 -/
def impl_ValidCurve.f (k : Nat) (l0 : List (S37)) : Option (Bool) := (impl_isCurve.f k l0).bind fun t150 => (if t150 = true then (some (decide ((l0.length : Int) ≤ 12))) else (some false))
theorem impl_ValidCurve.mono : ∀ a0 k, LeO (impl_ValidCurve.f k a0) (impl_ValidCurve.f (k + 1) a0) := by
 intro a0 k
 unfold impl_ValidCurve.f
 repeat' first | (with_reducible first | exact impl_isCurve.mono _ _ | exact LeO.refl _ | exact LeO.none _ | refine LeO.ite ?_ ?_ | refine LeO.bind ?_ (fun _ => ?_)) | exact impl_isCurve.mono _ _ | exact LeO.none _ | refine LeO.ite ?_ ?_ | refine LeO.bind ?_ (fun _ => ?_)
theorem impl_ValidCurve.calls (k : Nat) (A0 : Option Addr) (c0 : Nat) (l0 : List (S37)) (r : Bool) (w : World) (hr0 : Kd.C k37 w A0 l0.length l0) (hc0 : l0.length ≤ c0) (h : impl_ValidCurve.f k l0 = some r) :
 Calls Try.prog 18 #[.slice A0 l0.length c0] w fun e w' => e = .returned (.bool r) ∧ Below w.heap.size w w' := by
 have HR0 := am hr0
 have HC0 := am hc0
 clear hr0 hc0
 have HB := am (Below.refl w.heap.size w)
 have H : ((impl_isCurve.f k l0).bind fun t150 => (if t150 = true then (some (decide ((l0.length : Int) ≤ 12))) else (some false))) = some r := h
 clear h
 replace H := qob.mp H
 obtain ⟨t150, A20, H⟩ := H
 replace H : (if t150 = true then (some (decide ((l0.length : Int) ≤ 12))) else (some false)) = some r := H
 have A2 := am A20
 clear A20
 by_cases c3 : t150 = true
 · subst c3
   (have H1 : (some (decide ((l0.length : Int) ≤ 12))) = some r := by rw [if_pos rfl] at H; exact H); clear H; have H := H1; clear H1; obtain rfl := Option.some.inj H; go_enter Try.func18, Try.ntmps18; go_wp2_with (first | ((with_reducible refine gate_callee (f := 49) rfl ?_); refine gl (some 4) rfl rfl Try.func49 #[.slice A0 l0.length c0] rfl ?_; (with_reducible refine (impl_isCurve.calls k _ _ l0 true _ ?side1 ?side2 A2.out).mono ?_); (case side1 => repeat (first | exact HR0.out | (with_reducible first | refine qca ?_ _ | refine qcn ?_ _ | refine qco ?_))); (case side2 => exact HC0.out); rintro e w4 ⟨rfl, hb⟩; refine ⟨_, rfl, ?_⟩; have n0_ := am (qS hb); clear HB; have HB := n0_; clear n0_; (try clear hb))); go_ret; exact ⟨te, hB⟩
 · replace c3 := Bool.eq_false_iff.mpr c3
   subst c3; (have H1 : (some false) = some r := by rw [if_neg (show ¬ (false = true) by decide)] at H; exact H); clear H; have H := H1; clear H1; obtain rfl := Option.some.inj H; go_enter Try.func18, Try.ntmps18; go_wp2_with (first | ((with_reducible refine gate_callee (f := 49) rfl ?_); refine gl (some 4) rfl rfl Try.func49 #[.slice A0 l0.length c0] rfl ?_; (with_reducible refine (impl_isCurve.calls k _ _ l0 false _ ?side1 ?side2 A2.out).mono ?_); (case side1 => repeat (first | exact HR0.out | (with_reducible first | refine qca ?_ _ | refine qcn ?_ _ | refine qco ?_))); (case side2 => exact HC0.out); rintro e w5 ⟨rfl, hb⟩; refine ⟨_, rfl, ?_⟩; have n0_ := am (qS hb); clear HB; have HB := n0_; clear n0_; (try clear hb))); go_ret; exact ⟨te, hB⟩

/-! ### impl_curveCode: function 35 -/
def impl_curveCode.f (k : Nat) (l0 : List (S37)) (a1 : Bool) : Option (Int) := (impl_ValidCurve.f k l0).bind fun t151 => (if t151 = true then (if a1 = true then (some 0) else (some 2)) else (some 1))
theorem impl_curveCode.mono : ∀ a0 a1 k, LeO (impl_curveCode.f k a0 a1) (impl_curveCode.f (k + 1) a0 a1) := by
 intro a0 a1 k
 unfold impl_curveCode.f
 repeat' first | (with_reducible first | exact impl_ValidCurve.mono _ _ | exact LeO.refl _ | exact LeO.none _ | refine LeO.ite ?_ ?_ | refine LeO.bind ?_ (fun _ => ?_)) | exact impl_ValidCurve.mono _ _ | exact LeO.none _ | refine LeO.ite ?_ ?_ | refine LeO.bind ?_ (fun _ => ?_)
theorem impl_curveCode.calls (k : Nat) (A0 : Option Addr) (c0 : Nat) (l0 : List (S37)) (a1 : Bool) (r : Int) (w : World) (hr0 : Kd.C k37 w A0 l0.length l0) (hc0 : l0.length ≤ c0) (h : impl_curveCode.f k l0 a1 = some r) :
 Calls Try.prog 35 #[.slice A0 l0.length c0, .bool a1] w fun e w' => e = .returned (.int .i64 r) ∧ Below w.heap.size w w' := by
 have HR0 := am hr0
 have HC0 := am hc0
 clear hr0 hc0
 have HB := am (Below.refl w.heap.size w)
 have H : ((impl_ValidCurve.f k l0).bind fun t151 => (if t151 = true then (if a1 = true then (some 0) else (some 2)) else (some 1))) = some r := h
 clear h
 replace H := qob.mp H
 obtain ⟨t151, A30, H⟩ := H
 replace H : (if t151 = true then (if a1 = true then (some 0) else (some 2)) else (some 1)) = some r := H
 have A3 := am A30
 clear A30
 by_cases c4 : t151 = true
 · subst c4
   (have H1 : (if a1 = true then (some 0) else (some 2)) = some r := by rw [if_pos rfl] at H; exact H); clear H; have H := H1; clear H1
   by_cases c5 : a1 = true
   · subst c5
     (have H1 : (some 0) = some r := by rw [if_pos rfl] at H; exact H); clear H; have H := H1; clear H1; obtain rfl := Option.some.inj H; go_enter Try.func35, Try.ntmps35; go_wp2_with (first | ((with_reducible refine gate_callee (f := 18) rfl ?_); refine gl (some 7) rfl rfl Try.func18 #[.slice A0 l0.length c0] rfl ?_; (with_reducible refine (impl_ValidCurve.calls k _ _ l0 true _ ?side1 ?side2 A3.out).mono ?_); (case side1 => repeat (first | exact HR0.out | (with_reducible first | refine qca ?_ _ | refine qcn ?_ _ | refine qco ?_))); (case side2 => exact HC0.out); rintro e w6 ⟨rfl, hb⟩; refine ⟨_, rfl, ?_⟩; have n0_ := am (qS hb); clear HB; have HB := n0_; clear n0_; (try clear hb))); go_ret; exact ⟨te, hB⟩
   · replace c5 := Bool.eq_false_iff.mpr c5
     subst c5; (have H1 : (some 2) = some r := by rw [if_neg (show ¬ (false = true) by decide)] at H; exact H); clear H; have H := H1; clear H1; obtain rfl := Option.some.inj H; go_enter Try.func35, Try.ntmps35; go_wp2_with (first | ((with_reducible refine gate_callee (f := 18) rfl ?_); refine gl (some 7) rfl rfl Try.func18 #[.slice A0 l0.length c0] rfl ?_; (with_reducible refine (impl_ValidCurve.calls k _ _ l0 true _ ?side1 ?side2 A3.out).mono ?_); (case side1 => repeat (first | exact HR0.out | (with_reducible first | refine qca ?_ _ | refine qcn ?_ _ | refine qco ?_))); (case side2 => exact HC0.out); rintro e w7 ⟨rfl, hb⟩; refine ⟨_, rfl, ?_⟩; have n0_ := am (qS hb); clear HB; have HB := n0_; clear n0_; (try clear hb))); go_ret; exact ⟨te, hB⟩
 · replace c4 := Bool.eq_false_iff.mpr c4
   subst c4; (have H1 : (some 1) = some r := by rw [if_neg (show ¬ (false = true) by decide)] at H; exact H); clear H; have H := H1; clear H1; obtain rfl := Option.some.inj H; go_enter Try.func35, Try.ntmps35; go_wp2_with (first | ((with_reducible refine gate_callee (f := 18) rfl ?_); refine gl (some 7) rfl rfl Try.func18 #[.slice A0 l0.length c0] rfl ?_; (with_reducible refine (impl_ValidCurve.calls k _ _ l0 false _ ?side1 ?side2 A3.out).mono ?_); (case side1 => repeat (first | exact HR0.out | (with_reducible first | refine qca ?_ _ | refine qcn ?_ _ | refine qco ?_))); (case side2 => exact HC0.out); rintro e w8 ⟨rfl, hb⟩; refine ⟨_, rfl, ?_⟩; have n0_ := am (qS hb); clear HB; have HB := n0_; clear n0_; (try clear hb))); go_ret; exact ⟨te, hB⟩

/-! ### impl_changed: function 28 -/
def impl_changed.l0 : Nat → (Int → Int → Option (Int × Int)) → List (S37) → List (S37) → Int → Int → Option ((List (S37)) × Int)
 | 0, _, _, _, _, _ => none
 | k + 1, x2, x9, x21, x22, x23 => if x23 < x22 then (if 0 ≤ x23 then (if x23 < (x21.length : Int) then ((x2 (wrap64 ((rd_T37 x21 x23).f0)) (wrap64 ((rd_T37 x21 x23).f1))).bind fun bt158 => ((impl_isPlace.f bt158.1).bind fun t160 => (if t160 = true then ((impl_isDensity.f bt158.2).bind fun t161 => (if t161 = true then (if x9.length < 35184372088832 then (impl_changed.l0 k x2 (x9 ++ [(⟨IntKind.i16.wrap (bt158.1), IntKind.i16.wrap (bt158.2)⟩ : S37)]) x21 x22 (wrap64 (x23 + 1))) else (none)) else (some (([] : List (S37)), 4)))) else (some (([] : List (S37)), 4))))) else (none)) else (none)) else (some (x9, 0))
def impl_changed.f (k : Nat) (l0 : List (S37)) (a1 : Bool) (a2 : (Int → Int → Option (Int × Int))) : Option ((List (S37)) × Int) := (impl_curveCode.f k l0 a1).bind fun t152 => (if t152 = 0 then (impl_changed.l0 k a2 (([] : List (S37))) l0 (l0.length : Int) 0) else (some (([] : List (S37)), t152)))
theorem impl_changed.mono_l : ∀ k, (∀ y0 y1 y2 y3 y4, LeO (impl_changed.l0 k y0 y1 y2 y3 y4) (impl_changed.l0 (k + 1) y0 y1 y2 y3 y4))
 | 0 => fun _ _ _ _ _ r h => by simp [impl_changed.l0] at h
 | k + 1 => by
  have ih0 := impl_changed.mono_l k
  · intro y0 y1 y2 y3 y4
    unfold impl_changed.l0
    repeat' first | (with_reducible first | exact ih0 _ _ _ _ _ | exact impl_curveCode.mono _ _ _ | exact LeO.refl _ | exact LeO.none _ | refine LeO.ite ?_ ?_ | refine LeO.bind ?_ (fun _ => ?_)) | exact ih0 _ _ _ _ _ | exact impl_curveCode.mono _ _ _ | exact LeO.none _ | refine LeO.ite ?_ ?_ | refine LeO.bind ?_ (fun _ => ?_)
theorem impl_changed.mono : ∀ a0 a1 a2 k, LeO (impl_changed.f k a0 a1 a2) (impl_changed.f (k + 1) a0 a1 a2) := by
 intro a0 a1 a2 k
 have ih0 := impl_changed.mono_l k
 unfold impl_changed.f
 repeat' first | (with_reducible first | exact ih0 _ _ _ _ _ | exact impl_curveCode.mono _ _ _ | exact LeO.refl _ | exact LeO.none _ | refine LeO.ite ?_ ?_ | refine LeO.bind ?_ (fun _ => ?_)) | exact ih0 _ _ _ _ _ | exact impl_curveCode.mono _ _ _ | exact LeO.none _ | refine LeO.ite ?_ ?_ | refine LeO.bind ?_ (fun _ => ?_)
theorem impl_changed.calls30 (k : Nat) (A0 : Option Addr) (c0 : Nat) (l0 : List (S37)) (a1 : Bool) (a2 : (Int → Int → Option (Int × Int))) (r1 : List (S37)) (r2 : Int) (w : World) (hr0 : Kd.C k37 w A0 l0.length l0) (hc0 : l0.length ≤ c0) (gf0 : Nat) (hF : ∀ (x0_ : Int) (x1_ : Int) (s0_ : Int) (s1_ : Int) (w' : World), Below w.heap.size w w' → a2 x0_ x1_ = some (s0_, s1_) → Calls Try.prog 30 #[.int .i64 x0_, .int .i64 x1_, (.pointer (some ⟨gf0, 0, none⟩))] w' fun e w'' => e = .returned (.tuple #[.int .i64 s0_, .int .i64 s1_]) ∧ Drawn0 w' w'') (h : impl_changed.f k l0 a1 a2 = some (r1, r2)) :
 Calls Try.prog 28 #[.slice A0 l0.length c0, .bool a1, .func (.func 30) #[] #[.pointer (some ⟨gf0, 0, none⟩)]] w fun e w' => ∃ v0_ : Value, e = .returned (.tuple #[v0_, .int .i64 r2]) ∧ Kd.R k37 37 w' w.heap.size (fun _ => True) v0_ r1 ∧ Below w.heap.size w w' := by
 have hu37 := Try.underlying37
 have HF := am hF
 clear hF
 have HR0 := am hr0
 have HC0 := am hc0
 clear hr0 hc0
 have HB := am (Below.refl w.heap.size w)
 have H : ((impl_curveCode.f k l0 a1).bind fun t152 => (if t152 = 0 then (impl_changed.l0 k a2 (([] : List (S37))) l0 (l0.length : Int) 0) else (some (([] : List (S37)), t152)))) = some (r1, r2) := h
 clear h
 replace H := qob.mp H
 obtain ⟨t152, A40, H⟩ := H
 replace H : (if t152 = 0 then (impl_changed.l0 k a2 (([] : List (S37))) l0 (l0.length : Int) 0) else (some (([] : List (S37)), t152))) = some (r1, r2) := H
 have A4 := am A40
 clear A40
 by_cases c5 : t152 = 0
 · rw [if_pos c5] at H
   have c5b0 : (t152 == 0) = true := beq_iff_eq.mpr c5; have c5b1 : (t152 != 0) = false := bne_eq_false_iff_eq.mpr c5; clear c5; obtain ⟨y153, hy153⟩ : ∃ y_ : List (S37), y_ = (([] : List (S37))) := ⟨_, rfl⟩; (replace H : (impl_changed.l0 k a2 y153 l0 (l0.length : Int) 0) = some (r1, r2) := by first | (rw [hy153]; with_reducible exact H) | (have H2_ := (Option.bind_some _ _).symm.trans H; rw [hy153]; with_reducible exact H2_) | (have H2_ := (Option.bind_some _ _).symm.trans H; with_reducible exact H2_) | with_reducible exact H | (rw [hy153]; exact H) | exact H); have Ny153 := am hy153; clear hy153; have H' := am H; clear H; go_enter Try.func28, Try.ntmps28; go_wp2_with (first | ((with_reducible refine gate_callee (f := 35) rfl ?_); refine gl (some 16) rfl rfl Try.func35 #[.slice A0 l0.length c0, .bool a1] rfl ?_; (with_reducible refine (impl_curveCode.calls k _ _ l0 a1 t152 _ ?side1 ?side2 A4.out).mono ?_); (case side1 => repeat (first | exact HR0.out | (with_reducible first | refine qca ?_ _ | refine qcn ?_ _ | refine qco ?_))); (case side2 => exact HC0.out); rintro e w6 ⟨rfl, hb⟩; refine ⟨_, rfl, ?_⟩; have n0_ := am (qS hb); clear HB; have HB := n0_; clear n0_; (try clear hb)) | ((with_reducible refine gate_dst (N := 20) rfl ?_); refine Kd.R_lit k37 _ 37 ?hg (N := 20) ?hd (xs := ([] : List (S37))) (inner := []) (ok := fun _ => True) (okp := fun _ => True) ?hr ?hp (fun _ hk => hk) trivial (Below.refl _ _) (Nat.le_refl _) (by simp) ?_; (case hd => rfl); (case hg => rfl); (case hr => first | (go_simp; done) | (go_simp; rfl)); (case hp => exact (Reps.none _ _)); intro v154 w7 ho8 hb hg_ hnew_; clear hg_ hnew_; (first | rw [← Ny153.out] at ho8 | (simp only [Int.reduceToNat] at ho8; rw [← Ny153.out] at ho8)); have n0_ := am (Kd.R_lower ho8 qZ); have n1_ := am (qS hb); clear HB; have HO155 := n0_; have HB := n1_; clear n0_ n1_; clear hb ho8)); go_loopg [9, 23] k (fun kq v9 v23 w' => ∃ (x9_1 : List (S37)) (x23_1 : Int), v23 = .int .i64 x23_1 ∧ Aside0 (impl_changed.l0 kq a2 x9_1 l0 (l0.length : Int) x23_1 = some (r1, r2)) ∧ Aside0 (kq ≤ k) ∧ Aside0 (Kd.R k37 37 w' w.heap.size (fun _ => True) v9 x9_1) ∧ Aside0 (Below w.heap.size w w'))
   case atStart => exact ⟨(y153), (0), tr, H', ⟨Nat.le_refl _⟩, ⟨by (with_reducible repeat (first | apply qra | apply qrn | apply qro)); exact HO155.out⟩, ⟨hB⟩⟩
   case round =>
    clear H'; (try clear c2); (try clear p2); (try clear c3); (try clear c5); (try clear c5b0); (try clear c5b1); obtain ⟨x9_1, x23_1, rfl, HA, HK1, HO_9, HB⟩ := hrel
    cases gk with
    | zero => exact absurd HA.out (by simp [impl_changed.l0])
    | succ k1 =>
     have H := HA.out; clear HA; simp only [impl_changed.l0] at H
     by_cases c9 : x23_1 < (l0.length : Int)
     · rw [if_pos c9] at H
       have c9b0 : decide (x23_1 < (l0.length : Int)) = true := decide_eq_true c9; clear c9
       by_cases c10 : 0 ≤ x23_1
       · rw [if_pos c10] at H
         have c10b0 : decide (0 ≤ x23_1) = true := decide_eq_true c10; clear c10
         by_cases c11 : x23_1 < (l0.length : Int)
         · rw [if_pos c11] at H
           have c11b0 : decide (x23_1 < (l0.length : Int)) = true := decide_eq_true c11; clear c11; replace H := qob.mp H; obtain ⟨⟨t158, t159⟩, A120, H⟩ := H; replace H : ((impl_isPlace.f t158).bind fun t160 => (if t160 = true then ((impl_isDensity.f t159).bind fun t161 => (if t161 = true then (if x9_1.length < 35184372088832 then (impl_changed.l0 k1 a2 (x9_1 ++ [(⟨IntKind.i16.wrap (t158), IntKind.i16.wrap (t159)⟩ : S37)]) l0 (l0.length : Int) (wrap64 (x23_1 + 1))) else (none)) else (some (([] : List (S37)), 4)))) else (some (([] : List (S37)), 4)))) = some (r1, r2) := H; have A12 := am A120; clear A120; replace H := qob.mp H; obtain ⟨t160, A130, H⟩ := H; replace H : (if t160 = true then ((impl_isDensity.f t159).bind fun t161 => (if t161 = true then (if x9_1.length < 35184372088832 then (impl_changed.l0 k1 a2 (x9_1 ++ [(⟨IntKind.i16.wrap (t158), IntKind.i16.wrap (t159)⟩ : S37)]) l0 (l0.length : Int) (wrap64 (x23_1 + 1))) else (none)) else (some (([] : List (S37)), 4)))) else (some (([] : List (S37)), 4))) = some (r1, r2) := H; have A13 := am A130; clear A130
           by_cases c14 : t160 = true
           · subst c14
             (have H1 : ((impl_isDensity.f t159).bind fun t161 => (if t161 = true then (if x9_1.length < 35184372088832 then (impl_changed.l0 k1 a2 (x9_1 ++ [(⟨IntKind.i16.wrap (t158), IntKind.i16.wrap (t159)⟩ : S37)]) l0 (l0.length : Int) (wrap64 (x23_1 + 1))) else (none)) else (some (([] : List (S37)), 4)))) = some (r1, r2) := by rw [if_pos rfl] at H; exact H); clear H; have H := H1; clear H1; replace H := qob.mp H; obtain ⟨t161, A150, H⟩ := H; replace H : (if t161 = true then (if x9_1.length < 35184372088832 then (impl_changed.l0 k1 a2 (x9_1 ++ [(⟨IntKind.i16.wrap (t158), IntKind.i16.wrap (t159)⟩ : S37)]) l0 (l0.length : Int) (wrap64 (x23_1 + 1))) else (none)) else (some (([] : List (S37)), 4))) = some (r1, r2) := H; have A15 := am A150; clear A150
             by_cases c16 : t161 = true
             · subst c16
               (have H1 : (if x9_1.length < 35184372088832 then (impl_changed.l0 k1 a2 (x9_1 ++ [(⟨IntKind.i16.wrap (t158), IntKind.i16.wrap (t159)⟩ : S37)]) l0 (l0.length : Int) (wrap64 (x23_1 + 1))) else (none)) = some (r1, r2) := by rw [if_pos rfl] at H; exact H); clear H; have H := H1; clear H1
               by_cases c17 : x9_1.length < 35184372088832
               · rw [if_pos c17] at H
                 have LMc17 := am c17; clear c17; obtain ⟨y162, hy162⟩ : ∃ y_ : List (S37), y_ = (x9_1 ++ [(⟨IntKind.i16.wrap (t158), IntKind.i16.wrap (t159)⟩ : S37)]) := ⟨_, rfl⟩; (replace H : (impl_changed.l0 k1 a2 y162 l0 (l0.length : Int) (wrap64 (x23_1 + 1))) = some (r1, r2) := by first | (rw [hy162]; with_reducible exact H) | (have H2_ := (Option.bind_some _ _).symm.trans H; rw [hy162]; with_reducible exact H2_) | (have H2_ := (Option.bind_some _ _).symm.trans H; with_reducible exact H2_) | with_reducible exact H | (rw [hy162]; exact H) | exact H); have Ny162 := am hy162; clear hy162; have H' := am H; clear H; have p156 : 0 ≤ (x23_1 : Int) := od; have q156 : x23_1 < (l0.length : Int) := od; obtain ⟨ad156, e156, hx156_0, hx156_1⟩ := at_T37 HR0.out x23_1 p156 q156
                 cases e156
                 replace hx156_0 := (HB.out.cell (qwb w _ hx156_0)).trans hx156_0; replace hx156_1 := (HB.out.cell (qwb w _ hx156_1)).trans hx156_1; replace p156 := eq_true p156; replace q156 := eq_true q156; go_wp2_with (first | ((with_reducible refine gate_dst (N := 11) rfl ?_); refine box_event ?hg (N := 11) ?hd (cs := #[.int .i16 0, .int .i16 0]) (t := 37) ?hr ?_; (case hd => rfl); (case hg => rfl); (case hr => first | (go_simp; done) | (go_simp; rfl)); intro gb157 hg w18 hbox hb; have n0_ := am (Kd.R_below (Kd.R_elderB (by (with_reducible repeat (first | apply qra | apply qrn | apply qro)); exact HO_9.out) gb157 (Nat.le_of_eq hg.symm)) hb); have n1_ := am (qS hb); have n2_ := am (hbox); have n3_ := am ((by rw [hg]; exact qZ : w.heap.size ≤ gb157)); have n4_ := am ((by rw [hg]; exact qZ : w.heap.size ≤ gb157)); clear HO_9; clear HB; have HO_9 := n0_; have HB := n1_; have BK157 := n2_; have GW157 := n3_; have GE157 := n4_; clear n0_ n1_ n2_ n3_ n4_; clear hb hbox hg; have hcz19_0 : w18.cell? ⟨gb157, 0, none⟩ = some (.int .i16 0) := (blk_cell BK157.out 0).trans rfl; have hcz19_1 : w18.cell? ⟨gb157, 1, none⟩ = some (.int .i16 0) := (blk_cell BK157.out 1).trans rfl; have hfz19_0 := blk_frozen BK157.out 0; have hfz19_1 := blk_frozen BK157.out 1) | (go_at_call 30; (refine (HF.out _ _ _ _ _ (by repeat (first | (with_reducible first | exact HB.out | apply qa | apply qn | apply qd) | exact HB.out | refine Below.setCell ?_ (Aside0.out (by assumption)) _)) A12.out).mono ?_); rintro e w' ⟨rfl, ⟨nd, rfl⟩⟩) | ((with_reducible refine gate_callee (f := 36) rfl ?_); refine gl (some 39) rfl rfl Try.func36 #[.int .i64 t158] rfl ?_; (with_reducible refine (impl_isPlace.calls t158 true _ A13.out).mono ?_); rintro e w' ⟨rfl, ⟨nd, rfl⟩⟩; refine ⟨_, rfl, ?_⟩) | (go_at_call 55; (with_reducible refine (impl_isDensity.calls t159 true _ A15.out).mono ?_); rintro e w' ⟨rfl, ⟨nd, rfl⟩⟩) | ((with_reducible refine gate_builtin (b := .append) (xs := #[.tmp 46, .tmp 52]) rfl ?_); at_builtin; refine Kd.R_append k37 (w0 := w) w.heap.size rfl (.tmp 46) (.tmp 52) 25 37 (.agg #[(.int .i16 0), (.int .i16 0)]) 4 rfl Try.underlying25 info37 rfl (by decide) (by omega) u9 x9_1 (⟨IntKind.i16.wrap (t158), IntKind.i16.wrap (t159)⟩ : S37) [.int .i16 (IntKind.i16.wrap (t158)), .int .i16 (IntKind.i16.wrap (t159))] (fun k_ => k_ ≠ gb157) (fun _ => False) rfl (by first | (go_simp; done) | (go_simp; rfl)) ?aP (fun _ hk => hk.elim) ?aF ?aO ?aB ?aS ?aL ?_; (case aP => exact k37_mkM _ _ _ (⟨IntKind.i16.wrap (t158), IntKind.i16.wrap (t159)⟩ : S37)); (case aB => exact (by repeat (first | (with_reducible first | exact HB.out | apply qa | apply qn | apply qd | refine below_set ?_ GE157.out) | exact HB.out))); (case aF => exact (fun k_ hk => Kd.freshB (g := gb157) (o := .cells #[.int .i16 ((rd_T37 l0 x23_1).f0), .int .i16 ((rd_T37 l0 x23_1).f1)] 37 (0, 0)) (by (with_reducible repeat (first | refine blk_drewN ?_ _ | refine blk_drew ?_ | refine blk_alloc ?_ _)); refine blk_put (cs := #[.int .i16 ((rd_T37 l0 x23_1).f0), .int .i16 0]) ?_ 1 _ rfl; (with_reducible repeat (first | refine blk_drewN ?_ _ | refine blk_drew ?_ | refine blk_alloc ?_ _)); refine blk_put (cs := #[.int .i16 0, .int .i16 0]) ?_ 0 _ rfl; (with_reducible repeat (first | refine blk_drewN ?_ _ | refine blk_drew ?_ | refine blk_alloc ?_ _)); exact BK157.out) k_ hk)); (case aO => exact (by (with_reducible repeat (first | apply qra | apply qrn | apply qro)); exact Kd.R_mono (Kd.R_far (p := ⟨gb157, 1, none⟩) (Kd.R_far (p := ⟨gb157, 0, none⟩) (Kd.R_mono HO_9.out (fun k_ hk => (⟨hk, hk.2⟩ : _ ∧ k_ ≠ gb157))) (fun _ hk => hk.2) (.int .i16 ((rd_T37 l0 x23_1).f0))) (fun _ hk => hk.2) (.int .i16 ((rd_T37 l0 x23_1).f1))) (fun _ hk => hk.1.2))); (case aS => exact (qz (by repeat (first | (with_reducible first | exact HB.out | apply qa | apply qn | apply qd | refine below_set ?_ GE157.out) | exact HB.out)))); (case aL => have := LMc17.out; omega); intro v163 w20 ho hb hg hat; rw [← Ny162.out] at ho; have n0_ := am (blk_grown (g := gb157) (o := .cells #[.int .i16 ((rd_T37 l0 x23_1).f0), .int .i16 ((rd_T37 l0 x23_1).f1)] 37 (0, 0)) (by (with_reducible repeat (first | refine blk_drewN ?_ _ | refine blk_drew ?_ | refine blk_alloc ?_ _)); refine blk_put (cs := #[.int .i16 ((rd_T37 l0 x23_1).f0), .int .i16 0]) ?_ 1 _ rfl; (with_reducible repeat (first | refine blk_drewN ?_ _ | refine blk_drew ?_ | refine blk_alloc ?_ _)); refine blk_put (cs := #[.int .i16 0, .int .i16 0]) ?_ 0 _ rfl; (with_reducible repeat (first | refine blk_drewN ?_ _ | refine blk_drew ?_ | refine blk_alloc ?_ _)); exact BK157.out) hg (Kd.R_away HO_9.out (fun _ hk => hk.2))); have n1_ := am (hb); have n2_ := am (ho); clear BK157; clear HB; clear HO_9; have BK157 := n0_; have HB := n1_; have HO164 := n2_; clear n0_ n1_ n2_; clear ho hb hg hat)); go_roundg k1
                 case measure => have := HK1.out; omega
                 case rel => exact ⟨(y162), (wrap64 (x23_1 + 1)), tr, H', ⟨by have := HK1.out; omega⟩, ⟨by (with_reducible repeat (first | apply qra | apply qrn | apply qro)); exact Kd.R_mono HO164.out (fun _ hk => trivial)⟩, ⟨by repeat (first | (with_reducible first | exact HB.out | apply qa | apply qn | apply qd | refine below_set ?_ GE157.out) | exact HB.out)⟩⟩
               · rw [if_neg c17] at H
                 exact absurd H (by simp)
             · replace c16 := Bool.eq_false_iff.mpr c16
               subst c16; (have H1 : (some (([] : List (S37)), 4)) = some (r1, r2) := by rw [if_neg (show ¬ (false = true) by decide)] at H; exact H); clear H; have H := H1; clear H1; simp only [Option.some.injEq, Prod.mk.injEq] at H; obtain ⟨rfl, rfl⟩ := H; have p156 : 0 ≤ (x23_1 : Int) := od; have q156 : x23_1 < (l0.length : Int) := od; obtain ⟨ad156, e156, hx156_0, hx156_1⟩ := at_T37 HR0.out x23_1 p156 q156
               cases e156
               replace hx156_0 := (HB.out.cell (qwb w _ hx156_0)).trans hx156_0; replace hx156_1 := (HB.out.cell (qwb w _ hx156_1)).trans hx156_1; replace p156 := eq_true p156; replace q156 := eq_true q156; go_wp2_with (first | ((with_reducible refine gate_dst (N := 11) rfl ?_); refine box_event ?hg (N := 11) ?hd (cs := #[.int .i16 0, .int .i16 0]) (t := 37) ?hr ?_; (case hd => rfl); (case hg => rfl); (case hr => first | (go_simp; done) | (go_simp; rfl)); intro gb157 hg w21 hbox hb; have n0_ := am (Kd.R_below (Kd.R_elderB (by (with_reducible repeat (first | apply qra | apply qrn | apply qro)); exact HO_9.out) gb157 (Nat.le_of_eq hg.symm)) hb); have n1_ := am (qS hb); have n2_ := am (hbox); have n3_ := am ((by rw [hg]; exact qZ : w.heap.size ≤ gb157)); have n4_ := am ((by rw [hg]; exact qZ : w.heap.size ≤ gb157)); clear HO_9; clear HB; have HO_9 := n0_; have HB := n1_; have BK157 := n2_; have GW157 := n3_; have GE157 := n4_; clear n0_ n1_ n2_ n3_ n4_; clear hb hbox hg; have hcz22_0 : w21.cell? ⟨gb157, 0, none⟩ = some (.int .i16 0) := (blk_cell BK157.out 0).trans rfl; have hcz22_1 : w21.cell? ⟨gb157, 1, none⟩ = some (.int .i16 0) := (blk_cell BK157.out 1).trans rfl; have hfz22_0 := blk_frozen BK157.out 0; have hfz22_1 := blk_frozen BK157.out 1) | (go_at_call 30; (refine (HF.out _ _ _ _ _ (by repeat (first | (with_reducible first | exact HB.out | apply qa | apply qn | apply qd) | exact HB.out | refine Below.setCell ?_ (Aside0.out (by assumption)) _)) A12.out).mono ?_); rintro e w' ⟨rfl, ⟨nd, rfl⟩⟩) | ((with_reducible refine gate_callee (f := 36) rfl ?_); refine gl (some 39) rfl rfl Try.func36 #[.int .i64 t158] rfl ?_; (with_reducible refine (impl_isPlace.calls t158 true _ A13.out).mono ?_); rintro e w' ⟨rfl, ⟨nd, rfl⟩⟩; refine ⟨_, rfl, ?_⟩) | (go_at_call 55; (with_reducible refine (impl_isDensity.calls t159 false _ A15.out).mono ?_); rintro e w' ⟨rfl, ⟨nd, rfl⟩⟩)); go_ret2; exact ⟨_, te, by first | exact Kd.R_nil _ _ _ _ _ | exact Kd.N_nil _ _ _ _ _ | exact Kd.V_nil _ _ _ _ _ | exact Kd.Q_nil _ _ _ _ _ | exact Kd.S_nil _ _ _ _ _, by repeat (first | (with_reducible first | exact HB.out | apply qa | apply qn | apply qd | refine below_set ?_ GE157.out) | exact HB.out)⟩
           · replace c14 := Bool.eq_false_iff.mpr c14
             subst c14; (have H1 : (some (([] : List (S37)), 4)) = some (r1, r2) := by rw [if_neg (show ¬ (false = true) by decide)] at H; exact H); clear H; have H := H1; clear H1; simp only [Option.some.injEq, Prod.mk.injEq] at H; obtain ⟨rfl, rfl⟩ := H; have p156 : 0 ≤ (x23_1 : Int) := od; have q156 : x23_1 < (l0.length : Int) := od; obtain ⟨ad156, e156, hx156_0, hx156_1⟩ := at_T37 HR0.out x23_1 p156 q156
             cases e156
             replace hx156_0 := (HB.out.cell (qwb w _ hx156_0)).trans hx156_0; replace hx156_1 := (HB.out.cell (qwb w _ hx156_1)).trans hx156_1; replace p156 := eq_true p156; replace q156 := eq_true q156; go_wp2_with (first | ((with_reducible refine gate_dst (N := 11) rfl ?_); refine box_event ?hg (N := 11) ?hd (cs := #[.int .i16 0, .int .i16 0]) (t := 37) ?hr ?_; (case hd => rfl); (case hg => rfl); (case hr => first | (go_simp; done) | (go_simp; rfl)); intro gb157 hg w23 hbox hb; have n0_ := am (Kd.R_below (Kd.R_elderB (by (with_reducible repeat (first | apply qra | apply qrn | apply qro)); exact HO_9.out) gb157 (Nat.le_of_eq hg.symm)) hb); have n1_ := am (qS hb); have n2_ := am (hbox); have n3_ := am ((by rw [hg]; exact qZ : w.heap.size ≤ gb157)); have n4_ := am ((by rw [hg]; exact qZ : w.heap.size ≤ gb157)); clear HO_9; clear HB; have HO_9 := n0_; have HB := n1_; have BK157 := n2_; have GW157 := n3_; have GE157 := n4_; clear n0_ n1_ n2_ n3_ n4_; clear hb hbox hg; have hcz24_0 : w23.cell? ⟨gb157, 0, none⟩ = some (.int .i16 0) := (blk_cell BK157.out 0).trans rfl; have hcz24_1 : w23.cell? ⟨gb157, 1, none⟩ = some (.int .i16 0) := (blk_cell BK157.out 1).trans rfl; have hfz24_0 := blk_frozen BK157.out 0; have hfz24_1 := blk_frozen BK157.out 1) | (go_at_call 30; (refine (HF.out _ _ _ _ _ (by repeat (first | (with_reducible first | exact HB.out | apply qa | apply qn | apply qd) | exact HB.out | refine Below.setCell ?_ (Aside0.out (by assumption)) _)) A12.out).mono ?_); rintro e w' ⟨rfl, ⟨nd, rfl⟩⟩) | ((with_reducible refine gate_callee (f := 36) rfl ?_); refine gl (some 39) rfl rfl Try.func36 #[.int .i64 t158] rfl ?_; (with_reducible refine (impl_isPlace.calls t158 false _ A13.out).mono ?_); rintro e w' ⟨rfl, ⟨nd, rfl⟩⟩; refine ⟨_, rfl, ?_⟩)); go_ret2; exact ⟨_, te, by first | exact Kd.R_nil _ _ _ _ _ | exact Kd.N_nil _ _ _ _ _ | exact Kd.V_nil _ _ _ _ _ | exact Kd.Q_nil _ _ _ _ _ | exact Kd.S_nil _ _ _ _ _, by repeat (first | (with_reducible first | exact HB.out | apply qa | apply qn | apply qd | refine below_set ?_ GE157.out) | exact HB.out)⟩
         · rw [if_neg c11] at H
           exact absurd H (by simp)
       · rw [if_neg c10] at H
         exact absurd H (by simp)
     · rw [if_neg c9] at H
       have c9b0 : decide (x23_1 < (l0.length : Int)) = false := decide_eq_false c9; clear c9; simp only [Option.some.injEq, Prod.mk.injEq] at H; obtain ⟨rfl, rfl⟩ := H; go_wp2; go_ret2; exact ⟨_, te, by (with_reducible repeat (first | apply qra | apply qrn | apply qro)); exact HO_9.out, hB⟩
 · rw [if_neg c5] at H
   have c5b0 : (t152 == 0) = false := beq_eq_false_iff_ne.mpr c5; have c5b1 : (t152 != 0) = true := bne_iff_ne.mpr c5; simp only [Option.some.injEq, Prod.mk.injEq] at H; obtain ⟨rfl, rfl⟩ := H; go_enter Try.func28, Try.ntmps28; go_wp2_with (first | ((with_reducible refine gate_callee (f := 35) rfl ?_); refine gl (some 16) rfl rfl Try.func35 #[.slice A0 l0.length c0, .bool a1] rfl ?_; (with_reducible refine (impl_curveCode.calls k _ _ l0 a1 t152 _ ?side1 ?side2 A4.out).mono ?_); (case side1 => repeat (first | exact HR0.out | (with_reducible first | refine qca ?_ _ | refine qcn ?_ _ | refine qco ?_))); (case side2 => exact HC0.out); rintro e w25 ⟨rfl, hb⟩; refine ⟨_, rfl, ?_⟩; have n0_ := am (qS hb); clear HB; have HB := n0_; clear n0_; (try clear hb))); go_ret2; exact ⟨_, te, by first | exact Kd.R_nil _ _ _ _ _ | exact Kd.N_nil _ _ _ _ _ | exact Kd.V_nil _ _ _ _ _ | exact Kd.Q_nil _ _ _ _ _ | exact Kd.S_nil _ _ _ _ _, hB⟩

theorem impl_changed.calls33 (k : Nat) (A0 : Option Addr) (c0 : Nat) (l0 : List (S37)) (a1 : Bool) (a2 : (Int → Int → Option (Int × Int))) (r1 : List (S37)) (r2 : Int) (w : World) (hr0 : Kd.C k37 w A0 l0.length l0) (hc0 : l0.length ≤ c0) (gf0 : Nat) (hF : ∀ (x0_ : Int) (x1_ : Int) (s0_ : Int) (s1_ : Int) (w' : World), Below w.heap.size w w' → a2 x0_ x1_ = some (s0_, s1_) → Calls Try.prog 33 #[.int .i64 x0_, .int .i64 x1_, (.pointer (some ⟨gf0, 0, none⟩))] w' fun e w'' => e = .returned (.tuple #[.int .i64 s0_, .int .i64 s1_]) ∧ Drawn0 w' w'') (h : impl_changed.f k l0 a1 a2 = some (r1, r2)) :
 Calls Try.prog 28 #[.slice A0 l0.length c0, .bool a1, .func (.func 33) #[] #[.pointer (some ⟨gf0, 0, none⟩)]] w fun e w' => ∃ v0_ : Value, e = .returned (.tuple #[v0_, .int .i64 r2]) ∧ Kd.R k37 37 w' w.heap.size (fun _ => True) v0_ r1 ∧ Below w.heap.size w w' := by
 have hu37 := Try.underlying37
 have HF := am hF
 clear hF
 have HR0 := am hr0
 have HC0 := am hc0
 clear hr0 hc0
 have HB := am (Below.refl w.heap.size w)
 have H : ((impl_curveCode.f k l0 a1).bind fun t152 => (if t152 = 0 then (impl_changed.l0 k a2 (([] : List (S37))) l0 (l0.length : Int) 0) else (some (([] : List (S37)), t152)))) = some (r1, r2) := h
 clear h
 replace H := qob.mp H
 obtain ⟨t152, A40, H⟩ := H
 replace H : (if t152 = 0 then (impl_changed.l0 k a2 (([] : List (S37))) l0 (l0.length : Int) 0) else (some (([] : List (S37)), t152))) = some (r1, r2) := H
 have A4 := am A40
 clear A40
 by_cases c5 : t152 = 0
 · rw [if_pos c5] at H
   have c5b0 : (t152 == 0) = true := beq_iff_eq.mpr c5; have c5b1 : (t152 != 0) = false := bne_eq_false_iff_eq.mpr c5; clear c5; obtain ⟨y153, hy153⟩ : ∃ y_ : List (S37), y_ = (([] : List (S37))) := ⟨_, rfl⟩; (replace H : (impl_changed.l0 k a2 y153 l0 (l0.length : Int) 0) = some (r1, r2) := by first | (rw [hy153]; with_reducible exact H) | (have H2_ := (Option.bind_some _ _).symm.trans H; rw [hy153]; with_reducible exact H2_) | (have H2_ := (Option.bind_some _ _).symm.trans H; with_reducible exact H2_) | with_reducible exact H | (rw [hy153]; exact H) | exact H); have Ny153 := am hy153; clear hy153; have H' := am H; clear H; go_enter Try.func28, Try.ntmps28; go_wp2_with (first | ((with_reducible refine gate_callee (f := 35) rfl ?_); refine gl (some 16) rfl rfl Try.func35 #[.slice A0 l0.length c0, .bool a1] rfl ?_; (with_reducible refine (impl_curveCode.calls k _ _ l0 a1 t152 _ ?side1 ?side2 A4.out).mono ?_); (case side1 => repeat (first | exact HR0.out | (with_reducible first | refine qca ?_ _ | refine qcn ?_ _ | refine qco ?_))); (case side2 => exact HC0.out); rintro e w6 ⟨rfl, hb⟩; refine ⟨_, rfl, ?_⟩; have n0_ := am (qS hb); clear HB; have HB := n0_; clear n0_; (try clear hb)) | ((with_reducible refine gate_dst (N := 20) rfl ?_); refine Kd.R_lit k37 _ 37 ?hg (N := 20) ?hd (xs := ([] : List (S37))) (inner := []) (ok := fun _ => True) (okp := fun _ => True) ?hr ?hp (fun _ hk => hk) trivial (Below.refl _ _) (Nat.le_refl _) (by simp) ?_; (case hd => rfl); (case hg => rfl); (case hr => first | (go_simp; done) | (go_simp; rfl)); (case hp => exact (Reps.none _ _)); intro v154 w7 ho8 hb hg_ hnew_; clear hg_ hnew_; (first | rw [← Ny153.out] at ho8 | (simp only [Int.reduceToNat] at ho8; rw [← Ny153.out] at ho8)); have n0_ := am (Kd.R_lower ho8 qZ); have n1_ := am (qS hb); clear HB; have HO155 := n0_; have HB := n1_; clear n0_ n1_; clear hb ho8)); go_loopg [9, 23] k (fun kq v9 v23 w' => ∃ (x9_1 : List (S37)) (x23_1 : Int), v23 = .int .i64 x23_1 ∧ Aside0 (impl_changed.l0 kq a2 x9_1 l0 (l0.length : Int) x23_1 = some (r1, r2)) ∧ Aside0 (kq ≤ k) ∧ Aside0 (Kd.R k37 37 w' w.heap.size (fun _ => True) v9 x9_1) ∧ Aside0 (Below w.heap.size w w'))
   case atStart => exact ⟨(y153), (0), tr, H', ⟨Nat.le_refl _⟩, ⟨by (with_reducible repeat (first | apply qra | apply qrn | apply qro)); exact HO155.out⟩, ⟨hB⟩⟩
   case round =>
    clear H'; (try clear c2); (try clear p2); (try clear c3); (try clear c5); (try clear c5b0); (try clear c5b1); obtain ⟨x9_1, x23_1, rfl, HA, HK1, HO_9, HB⟩ := hrel
    cases gk with
    | zero => exact absurd HA.out (by simp [impl_changed.l0])
    | succ k1 =>
     have H := HA.out; clear HA; simp only [impl_changed.l0] at H
     by_cases c9 : x23_1 < (l0.length : Int)
     · rw [if_pos c9] at H
       have c9b0 : decide (x23_1 < (l0.length : Int)) = true := decide_eq_true c9; clear c9
       by_cases c10 : 0 ≤ x23_1
       · rw [if_pos c10] at H
         have c10b0 : decide (0 ≤ x23_1) = true := decide_eq_true c10; clear c10
         by_cases c11 : x23_1 < (l0.length : Int)
         · rw [if_pos c11] at H
           have c11b0 : decide (x23_1 < (l0.length : Int)) = true := decide_eq_true c11; clear c11; replace H := qob.mp H; obtain ⟨⟨t158, t159⟩, A120, H⟩ := H; replace H : ((impl_isPlace.f t158).bind fun t160 => (if t160 = true then ((impl_isDensity.f t159).bind fun t161 => (if t161 = true then (if x9_1.length < 35184372088832 then (impl_changed.l0 k1 a2 (x9_1 ++ [(⟨IntKind.i16.wrap (t158), IntKind.i16.wrap (t159)⟩ : S37)]) l0 (l0.length : Int) (wrap64 (x23_1 + 1))) else (none)) else (some (([] : List (S37)), 4)))) else (some (([] : List (S37)), 4)))) = some (r1, r2) := H; have A12 := am A120; clear A120; replace H := qob.mp H; obtain ⟨t160, A130, H⟩ := H; replace H : (if t160 = true then ((impl_isDensity.f t159).bind fun t161 => (if t161 = true then (if x9_1.length < 35184372088832 then (impl_changed.l0 k1 a2 (x9_1 ++ [(⟨IntKind.i16.wrap (t158), IntKind.i16.wrap (t159)⟩ : S37)]) l0 (l0.length : Int) (wrap64 (x23_1 + 1))) else (none)) else (some (([] : List (S37)), 4)))) else (some (([] : List (S37)), 4))) = some (r1, r2) := H; have A13 := am A130; clear A130
           by_cases c14 : t160 = true
           · subst c14
             (have H1 : ((impl_isDensity.f t159).bind fun t161 => (if t161 = true then (if x9_1.length < 35184372088832 then (impl_changed.l0 k1 a2 (x9_1 ++ [(⟨IntKind.i16.wrap (t158), IntKind.i16.wrap (t159)⟩ : S37)]) l0 (l0.length : Int) (wrap64 (x23_1 + 1))) else (none)) else (some (([] : List (S37)), 4)))) = some (r1, r2) := by rw [if_pos rfl] at H; exact H); clear H; have H := H1; clear H1; replace H := qob.mp H; obtain ⟨t161, A150, H⟩ := H; replace H : (if t161 = true then (if x9_1.length < 35184372088832 then (impl_changed.l0 k1 a2 (x9_1 ++ [(⟨IntKind.i16.wrap (t158), IntKind.i16.wrap (t159)⟩ : S37)]) l0 (l0.length : Int) (wrap64 (x23_1 + 1))) else (none)) else (some (([] : List (S37)), 4))) = some (r1, r2) := H; have A15 := am A150; clear A150
             by_cases c16 : t161 = true
             · subst c16
               (have H1 : (if x9_1.length < 35184372088832 then (impl_changed.l0 k1 a2 (x9_1 ++ [(⟨IntKind.i16.wrap (t158), IntKind.i16.wrap (t159)⟩ : S37)]) l0 (l0.length : Int) (wrap64 (x23_1 + 1))) else (none)) = some (r1, r2) := by rw [if_pos rfl] at H; exact H); clear H; have H := H1; clear H1
               by_cases c17 : x9_1.length < 35184372088832
               · rw [if_pos c17] at H
                 have LMc17 := am c17; clear c17; obtain ⟨y162, hy162⟩ : ∃ y_ : List (S37), y_ = (x9_1 ++ [(⟨IntKind.i16.wrap (t158), IntKind.i16.wrap (t159)⟩ : S37)]) := ⟨_, rfl⟩; (replace H : (impl_changed.l0 k1 a2 y162 l0 (l0.length : Int) (wrap64 (x23_1 + 1))) = some (r1, r2) := by first | (rw [hy162]; with_reducible exact H) | (have H2_ := (Option.bind_some _ _).symm.trans H; rw [hy162]; with_reducible exact H2_) | (have H2_ := (Option.bind_some _ _).symm.trans H; with_reducible exact H2_) | with_reducible exact H | (rw [hy162]; exact H) | exact H); have Ny162 := am hy162; clear hy162; have H' := am H; clear H; have p156 : 0 ≤ (x23_1 : Int) := od; have q156 : x23_1 < (l0.length : Int) := od; obtain ⟨ad156, e156, hx156_0, hx156_1⟩ := at_T37 HR0.out x23_1 p156 q156
                 cases e156
                 replace hx156_0 := (HB.out.cell (qwb w _ hx156_0)).trans hx156_0; replace hx156_1 := (HB.out.cell (qwb w _ hx156_1)).trans hx156_1; replace p156 := eq_true p156; replace q156 := eq_true q156; go_wp2_with (first | ((with_reducible refine gate_dst (N := 11) rfl ?_); refine box_event ?hg (N := 11) ?hd (cs := #[.int .i16 0, .int .i16 0]) (t := 37) ?hr ?_; (case hd => rfl); (case hg => rfl); (case hr => first | (go_simp; done) | (go_simp; rfl)); intro gb157 hg w18 hbox hb; have n0_ := am (Kd.R_below (Kd.R_elderB (by (with_reducible repeat (first | apply qra | apply qrn | apply qro)); exact HO_9.out) gb157 (Nat.le_of_eq hg.symm)) hb); have n1_ := am (qS hb); have n2_ := am (hbox); have n3_ := am ((by rw [hg]; exact qZ : w.heap.size ≤ gb157)); have n4_ := am ((by rw [hg]; exact qZ : w.heap.size ≤ gb157)); clear HO_9; clear HB; have HO_9 := n0_; have HB := n1_; have BK157 := n2_; have GW157 := n3_; have GE157 := n4_; clear n0_ n1_ n2_ n3_ n4_; clear hb hbox hg; have hcz19_0 : w18.cell? ⟨gb157, 0, none⟩ = some (.int .i16 0) := (blk_cell BK157.out 0).trans rfl; have hcz19_1 : w18.cell? ⟨gb157, 1, none⟩ = some (.int .i16 0) := (blk_cell BK157.out 1).trans rfl; have hfz19_0 := blk_frozen BK157.out 0; have hfz19_1 := blk_frozen BK157.out 1) | (go_at_call 33; (refine (HF.out _ _ _ _ _ (by repeat (first | (with_reducible first | exact HB.out | apply qa | apply qn | apply qd) | exact HB.out | refine Below.setCell ?_ (Aside0.out (by assumption)) _)) A12.out).mono ?_); rintro e w' ⟨rfl, ⟨nd, rfl⟩⟩) | ((with_reducible refine gate_callee (f := 36) rfl ?_); refine gl (some 39) rfl rfl Try.func36 #[.int .i64 t158] rfl ?_; (with_reducible refine (impl_isPlace.calls t158 true _ A13.out).mono ?_); rintro e w' ⟨rfl, ⟨nd, rfl⟩⟩; refine ⟨_, rfl, ?_⟩) | (go_at_call 55; (with_reducible refine (impl_isDensity.calls t159 true _ A15.out).mono ?_); rintro e w' ⟨rfl, ⟨nd, rfl⟩⟩) | ((with_reducible refine gate_builtin (b := .append) (xs := #[.tmp 46, .tmp 52]) rfl ?_); at_builtin; refine Kd.R_append k37 (w0 := w) w.heap.size rfl (.tmp 46) (.tmp 52) 25 37 (.agg #[(.int .i16 0), (.int .i16 0)]) 4 rfl Try.underlying25 info37 rfl (by decide) (by omega) u9 x9_1 (⟨IntKind.i16.wrap (t158), IntKind.i16.wrap (t159)⟩ : S37) [.int .i16 (IntKind.i16.wrap (t158)), .int .i16 (IntKind.i16.wrap (t159))] (fun k_ => k_ ≠ gb157) (fun _ => False) rfl (by first | (go_simp; done) | (go_simp; rfl)) ?aP (fun _ hk => hk.elim) ?aF ?aO ?aB ?aS ?aL ?_; (case aP => exact k37_mkM _ _ _ (⟨IntKind.i16.wrap (t158), IntKind.i16.wrap (t159)⟩ : S37)); (case aB => exact (by repeat (first | (with_reducible first | exact HB.out | apply qa | apply qn | apply qd | refine below_set ?_ GE157.out) | exact HB.out))); (case aF => exact (fun k_ hk => Kd.freshB (g := gb157) (o := .cells #[.int .i16 ((rd_T37 l0 x23_1).f0), .int .i16 ((rd_T37 l0 x23_1).f1)] 37 (0, 0)) (by (with_reducible repeat (first | refine blk_drewN ?_ _ | refine blk_drew ?_ | refine blk_alloc ?_ _)); refine blk_put (cs := #[.int .i16 ((rd_T37 l0 x23_1).f0), .int .i16 0]) ?_ 1 _ rfl; (with_reducible repeat (first | refine blk_drewN ?_ _ | refine blk_drew ?_ | refine blk_alloc ?_ _)); refine blk_put (cs := #[.int .i16 0, .int .i16 0]) ?_ 0 _ rfl; (with_reducible repeat (first | refine blk_drewN ?_ _ | refine blk_drew ?_ | refine blk_alloc ?_ _)); exact BK157.out) k_ hk)); (case aO => exact (by (with_reducible repeat (first | apply qra | apply qrn | apply qro)); exact Kd.R_mono (Kd.R_far (p := ⟨gb157, 1, none⟩) (Kd.R_far (p := ⟨gb157, 0, none⟩) (Kd.R_mono HO_9.out (fun k_ hk => (⟨hk, hk.2⟩ : _ ∧ k_ ≠ gb157))) (fun _ hk => hk.2) (.int .i16 ((rd_T37 l0 x23_1).f0))) (fun _ hk => hk.2) (.int .i16 ((rd_T37 l0 x23_1).f1))) (fun _ hk => hk.1.2))); (case aS => exact (qz (by repeat (first | (with_reducible first | exact HB.out | apply qa | apply qn | apply qd | refine below_set ?_ GE157.out) | exact HB.out)))); (case aL => have := LMc17.out; omega); intro v163 w20 ho hb hg hat; rw [← Ny162.out] at ho; have n0_ := am (blk_grown (g := gb157) (o := .cells #[.int .i16 ((rd_T37 l0 x23_1).f0), .int .i16 ((rd_T37 l0 x23_1).f1)] 37 (0, 0)) (by (with_reducible repeat (first | refine blk_drewN ?_ _ | refine blk_drew ?_ | refine blk_alloc ?_ _)); refine blk_put (cs := #[.int .i16 ((rd_T37 l0 x23_1).f0), .int .i16 0]) ?_ 1 _ rfl; (with_reducible repeat (first | refine blk_drewN ?_ _ | refine blk_drew ?_ | refine blk_alloc ?_ _)); refine blk_put (cs := #[.int .i16 0, .int .i16 0]) ?_ 0 _ rfl; (with_reducible repeat (first | refine blk_drewN ?_ _ | refine blk_drew ?_ | refine blk_alloc ?_ _)); exact BK157.out) hg (Kd.R_away HO_9.out (fun _ hk => hk.2))); have n1_ := am (hb); have n2_ := am (ho); clear BK157; clear HB; clear HO_9; have BK157 := n0_; have HB := n1_; have HO164 := n2_; clear n0_ n1_ n2_; clear ho hb hg hat)); go_roundg k1
                 case measure => have := HK1.out; omega
                 case rel => exact ⟨(y162), (wrap64 (x23_1 + 1)), tr, H', ⟨by have := HK1.out; omega⟩, ⟨by (with_reducible repeat (first | apply qra | apply qrn | apply qro)); exact Kd.R_mono HO164.out (fun _ hk => trivial)⟩, ⟨by repeat (first | (with_reducible first | exact HB.out | apply qa | apply qn | apply qd | refine below_set ?_ GE157.out) | exact HB.out)⟩⟩
               · rw [if_neg c17] at H
                 exact absurd H (by simp)
             · replace c16 := Bool.eq_false_iff.mpr c16
               subst c16; (have H1 : (some (([] : List (S37)), 4)) = some (r1, r2) := by rw [if_neg (show ¬ (false = true) by decide)] at H; exact H); clear H; have H := H1; clear H1; simp only [Option.some.injEq, Prod.mk.injEq] at H; obtain ⟨rfl, rfl⟩ := H; have p156 : 0 ≤ (x23_1 : Int) := od; have q156 : x23_1 < (l0.length : Int) := od; obtain ⟨ad156, e156, hx156_0, hx156_1⟩ := at_T37 HR0.out x23_1 p156 q156
               cases e156
               replace hx156_0 := (HB.out.cell (qwb w _ hx156_0)).trans hx156_0; replace hx156_1 := (HB.out.cell (qwb w _ hx156_1)).trans hx156_1; replace p156 := eq_true p156; replace q156 := eq_true q156; go_wp2_with (first | ((with_reducible refine gate_dst (N := 11) rfl ?_); refine box_event ?hg (N := 11) ?hd (cs := #[.int .i16 0, .int .i16 0]) (t := 37) ?hr ?_; (case hd => rfl); (case hg => rfl); (case hr => first | (go_simp; done) | (go_simp; rfl)); intro gb157 hg w21 hbox hb; have n0_ := am (Kd.R_below (Kd.R_elderB (by (with_reducible repeat (first | apply qra | apply qrn | apply qro)); exact HO_9.out) gb157 (Nat.le_of_eq hg.symm)) hb); have n1_ := am (qS hb); have n2_ := am (hbox); have n3_ := am ((by rw [hg]; exact qZ : w.heap.size ≤ gb157)); have n4_ := am ((by rw [hg]; exact qZ : w.heap.size ≤ gb157)); clear HO_9; clear HB; have HO_9 := n0_; have HB := n1_; have BK157 := n2_; have GW157 := n3_; have GE157 := n4_; clear n0_ n1_ n2_ n3_ n4_; clear hb hbox hg; have hcz22_0 : w21.cell? ⟨gb157, 0, none⟩ = some (.int .i16 0) := (blk_cell BK157.out 0).trans rfl; have hcz22_1 : w21.cell? ⟨gb157, 1, none⟩ = some (.int .i16 0) := (blk_cell BK157.out 1).trans rfl; have hfz22_0 := blk_frozen BK157.out 0; have hfz22_1 := blk_frozen BK157.out 1) | (go_at_call 33; (refine (HF.out _ _ _ _ _ (by repeat (first | (with_reducible first | exact HB.out | apply qa | apply qn | apply qd) | exact HB.out | refine Below.setCell ?_ (Aside0.out (by assumption)) _)) A12.out).mono ?_); rintro e w' ⟨rfl, ⟨nd, rfl⟩⟩) | ((with_reducible refine gate_callee (f := 36) rfl ?_); refine gl (some 39) rfl rfl Try.func36 #[.int .i64 t158] rfl ?_; (with_reducible refine (impl_isPlace.calls t158 true _ A13.out).mono ?_); rintro e w' ⟨rfl, ⟨nd, rfl⟩⟩; refine ⟨_, rfl, ?_⟩) | (go_at_call 55; (with_reducible refine (impl_isDensity.calls t159 false _ A15.out).mono ?_); rintro e w' ⟨rfl, ⟨nd, rfl⟩⟩)); go_ret2; exact ⟨_, te, by first | exact Kd.R_nil _ _ _ _ _ | exact Kd.N_nil _ _ _ _ _ | exact Kd.V_nil _ _ _ _ _ | exact Kd.Q_nil _ _ _ _ _ | exact Kd.S_nil _ _ _ _ _, by repeat (first | (with_reducible first | exact HB.out | apply qa | apply qn | apply qd | refine below_set ?_ GE157.out) | exact HB.out)⟩
           · replace c14 := Bool.eq_false_iff.mpr c14
             subst c14; (have H1 : (some (([] : List (S37)), 4)) = some (r1, r2) := by rw [if_neg (show ¬ (false = true) by decide)] at H; exact H); clear H; have H := H1; clear H1; simp only [Option.some.injEq, Prod.mk.injEq] at H; obtain ⟨rfl, rfl⟩ := H; have p156 : 0 ≤ (x23_1 : Int) := od; have q156 : x23_1 < (l0.length : Int) := od; obtain ⟨ad156, e156, hx156_0, hx156_1⟩ := at_T37 HR0.out x23_1 p156 q156
             cases e156
             replace hx156_0 := (HB.out.cell (qwb w _ hx156_0)).trans hx156_0; replace hx156_1 := (HB.out.cell (qwb w _ hx156_1)).trans hx156_1; replace p156 := eq_true p156; replace q156 := eq_true q156; go_wp2_with (first | ((with_reducible refine gate_dst (N := 11) rfl ?_); refine box_event ?hg (N := 11) ?hd (cs := #[.int .i16 0, .int .i16 0]) (t := 37) ?hr ?_; (case hd => rfl); (case hg => rfl); (case hr => first | (go_simp; done) | (go_simp; rfl)); intro gb157 hg w23 hbox hb; have n0_ := am (Kd.R_below (Kd.R_elderB (by (with_reducible repeat (first | apply qra | apply qrn | apply qro)); exact HO_9.out) gb157 (Nat.le_of_eq hg.symm)) hb); have n1_ := am (qS hb); have n2_ := am (hbox); have n3_ := am ((by rw [hg]; exact qZ : w.heap.size ≤ gb157)); have n4_ := am ((by rw [hg]; exact qZ : w.heap.size ≤ gb157)); clear HO_9; clear HB; have HO_9 := n0_; have HB := n1_; have BK157 := n2_; have GW157 := n3_; have GE157 := n4_; clear n0_ n1_ n2_ n3_ n4_; clear hb hbox hg; have hcz24_0 : w23.cell? ⟨gb157, 0, none⟩ = some (.int .i16 0) := (blk_cell BK157.out 0).trans rfl; have hcz24_1 : w23.cell? ⟨gb157, 1, none⟩ = some (.int .i16 0) := (blk_cell BK157.out 1).trans rfl; have hfz24_0 := blk_frozen BK157.out 0; have hfz24_1 := blk_frozen BK157.out 1) | (go_at_call 33; (refine (HF.out _ _ _ _ _ (by repeat (first | (with_reducible first | exact HB.out | apply qa | apply qn | apply qd) | exact HB.out | refine Below.setCell ?_ (Aside0.out (by assumption)) _)) A12.out).mono ?_); rintro e w' ⟨rfl, ⟨nd, rfl⟩⟩) | ((with_reducible refine gate_callee (f := 36) rfl ?_); refine gl (some 39) rfl rfl Try.func36 #[.int .i64 t158] rfl ?_; (with_reducible refine (impl_isPlace.calls t158 false _ A13.out).mono ?_); rintro e w' ⟨rfl, ⟨nd, rfl⟩⟩; refine ⟨_, rfl, ?_⟩)); go_ret2; exact ⟨_, te, by first | exact Kd.R_nil _ _ _ _ _ | exact Kd.N_nil _ _ _ _ _ | exact Kd.V_nil _ _ _ _ _ | exact Kd.Q_nil _ _ _ _ _ | exact Kd.S_nil _ _ _ _ _, by repeat (first | (with_reducible first | exact HB.out | apply qa | apply qn | apply qd | refine below_set ?_ GE157.out) | exact HB.out)⟩
         · rw [if_neg c11] at H
           exact absurd H (by simp)
       · rw [if_neg c10] at H
         exact absurd H (by simp)
     · rw [if_neg c9] at H
       have c9b0 : decide (x23_1 < (l0.length : Int)) = false := decide_eq_false c9; clear c9; simp only [Option.some.injEq, Prod.mk.injEq] at H; obtain ⟨rfl, rfl⟩ := H; go_wp2; go_ret2; exact ⟨_, te, by (with_reducible repeat (first | apply qra | apply qrn | apply qro)); exact HO_9.out, hB⟩
 · rw [if_neg c5] at H
   have c5b0 : (t152 == 0) = false := beq_eq_false_iff_ne.mpr c5; have c5b1 : (t152 != 0) = true := bne_iff_ne.mpr c5; simp only [Option.some.injEq, Prod.mk.injEq] at H; obtain ⟨rfl, rfl⟩ := H; go_enter Try.func28, Try.ntmps28; go_wp2_with (first | ((with_reducible refine gate_callee (f := 35) rfl ?_); refine gl (some 16) rfl rfl Try.func35 #[.slice A0 l0.length c0, .bool a1] rfl ?_; (with_reducible refine (impl_curveCode.calls k _ _ l0 a1 t152 _ ?side1 ?side2 A4.out).mono ?_); (case side1 => repeat (first | exact HR0.out | (with_reducible first | refine qca ?_ _ | refine qcn ?_ _ | refine qco ?_))); (case side2 => exact HC0.out); rintro e w25 ⟨rfl, hb⟩; refine ⟨_, rfl, ?_⟩; have n0_ := am (qS hb); clear HB; have HB := n0_; clear n0_; (try clear hb))); go_ret2; exact ⟨_, te, by first | exact Kd.R_nil _ _ _ _ _ | exact Kd.N_nil _ _ _ _ _ | exact Kd.V_nil _ _ _ _ _ | exact Kd.Q_nil _ _ _ _ _ | exact Kd.S_nil _ _ _ _ _, hB⟩

theorem impl_changed.calls50 (k : Nat) (A0 : Option Addr) (c0 : Nat) (l0 : List (S37)) (a1 : Bool) (a2 : (Int → Int → Option (Int × Int))) (r1 : List (S37)) (r2 : Int) (w : World) (hr0 : Kd.C k37 w A0 l0.length l0) (hc0 : l0.length ≤ c0) (gf0 gf1 : Nat) (hF : ∀ (x0_ : Int) (x1_ : Int) (s0_ : Int) (s1_ : Int) (w' : World), Below w.heap.size w w' → a2 x0_ x1_ = some (s0_, s1_) → Calls Try.prog 50 #[.int .i64 x0_, .int .i64 x1_, (.pointer (some ⟨gf0, 0, none⟩)), (.pointer (some ⟨gf1, 0, none⟩))] w' fun e w'' => e = .returned (.tuple #[.int .i64 s0_, .int .i64 s1_]) ∧ Drawn0 w' w'') (h : impl_changed.f k l0 a1 a2 = some (r1, r2)) :
 Calls Try.prog 28 #[.slice A0 l0.length c0, .bool a1, .func (.func 50) #[] #[.pointer (some ⟨gf0, 0, none⟩), .pointer (some ⟨gf1, 0, none⟩)]] w fun e w' => ∃ v0_ : Value, e = .returned (.tuple #[v0_, .int .i64 r2]) ∧ Kd.R k37 37 w' w.heap.size (fun _ => True) v0_ r1 ∧ Below w.heap.size w w' := by
 have hu37 := Try.underlying37
 have HF := am hF
 clear hF
 have HR0 := am hr0
 have HC0 := am hc0
 clear hr0 hc0
 have HB := am (Below.refl w.heap.size w)
 have H : ((impl_curveCode.f k l0 a1).bind fun t152 => (if t152 = 0 then (impl_changed.l0 k a2 (([] : List (S37))) l0 (l0.length : Int) 0) else (some (([] : List (S37)), t152)))) = some (r1, r2) := h
 clear h
 replace H := qob.mp H
 obtain ⟨t152, A40, H⟩ := H
 replace H : (if t152 = 0 then (impl_changed.l0 k a2 (([] : List (S37))) l0 (l0.length : Int) 0) else (some (([] : List (S37)), t152))) = some (r1, r2) := H
 have A4 := am A40
 clear A40
 by_cases c5 : t152 = 0
 · rw [if_pos c5] at H
   have c5b0 : (t152 == 0) = true := beq_iff_eq.mpr c5; have c5b1 : (t152 != 0) = false := bne_eq_false_iff_eq.mpr c5; clear c5; obtain ⟨y153, hy153⟩ : ∃ y_ : List (S37), y_ = (([] : List (S37))) := ⟨_, rfl⟩; (replace H : (impl_changed.l0 k a2 y153 l0 (l0.length : Int) 0) = some (r1, r2) := by first | (rw [hy153]; with_reducible exact H) | (have H2_ := (Option.bind_some _ _).symm.trans H; rw [hy153]; with_reducible exact H2_) | (have H2_ := (Option.bind_some _ _).symm.trans H; with_reducible exact H2_) | with_reducible exact H | (rw [hy153]; exact H) | exact H); have Ny153 := am hy153; clear hy153; have H' := am H; clear H; go_enter Try.func28, Try.ntmps28; go_wp2_with (first | ((with_reducible refine gate_callee (f := 35) rfl ?_); refine gl (some 16) rfl rfl Try.func35 #[.slice A0 l0.length c0, .bool a1] rfl ?_; (with_reducible refine (impl_curveCode.calls k _ _ l0 a1 t152 _ ?side1 ?side2 A4.out).mono ?_); (case side1 => repeat (first | exact HR0.out | (with_reducible first | refine qca ?_ _ | refine qcn ?_ _ | refine qco ?_))); (case side2 => exact HC0.out); rintro e w6 ⟨rfl, hb⟩; refine ⟨_, rfl, ?_⟩; have n0_ := am (qS hb); clear HB; have HB := n0_; clear n0_; (try clear hb)) | ((with_reducible refine gate_dst (N := 20) rfl ?_); refine Kd.R_lit k37 _ 37 ?hg (N := 20) ?hd (xs := ([] : List (S37))) (inner := []) (ok := fun _ => True) (okp := fun _ => True) ?hr ?hp (fun _ hk => hk) trivial (Below.refl _ _) (Nat.le_refl _) (by simp) ?_; (case hd => rfl); (case hg => rfl); (case hr => first | (go_simp; done) | (go_simp; rfl)); (case hp => exact (Reps.none _ _)); intro v154 w7 ho8 hb hg_ hnew_; clear hg_ hnew_; (first | rw [← Ny153.out] at ho8 | (simp only [Int.reduceToNat] at ho8; rw [← Ny153.out] at ho8)); have n0_ := am (Kd.R_lower ho8 qZ); have n1_ := am (qS hb); clear HB; have HO155 := n0_; have HB := n1_; clear n0_ n1_; clear hb ho8)); go_loopg [9, 23] k (fun kq v9 v23 w' => ∃ (x9_1 : List (S37)) (x23_1 : Int), v23 = .int .i64 x23_1 ∧ Aside0 (impl_changed.l0 kq a2 x9_1 l0 (l0.length : Int) x23_1 = some (r1, r2)) ∧ Aside0 (kq ≤ k) ∧ Aside0 (Kd.R k37 37 w' w.heap.size (fun _ => True) v9 x9_1) ∧ Aside0 (Below w.heap.size w w'))
   case atStart => exact ⟨(y153), (0), tr, H', ⟨Nat.le_refl _⟩, ⟨by (with_reducible repeat (first | apply qra | apply qrn | apply qro)); exact HO155.out⟩, ⟨hB⟩⟩
   case round =>
    clear H'; (try clear c2); (try clear p2); (try clear c3); (try clear c5); (try clear c5b0); (try clear c5b1); obtain ⟨x9_1, x23_1, rfl, HA, HK1, HO_9, HB⟩ := hrel
    cases gk with
    | zero => exact absurd HA.out (by simp [impl_changed.l0])
    | succ k1 =>
     have H := HA.out; clear HA; simp only [impl_changed.l0] at H
     by_cases c9 : x23_1 < (l0.length : Int)
     · rw [if_pos c9] at H
       have c9b0 : decide (x23_1 < (l0.length : Int)) = true := decide_eq_true c9; clear c9
       by_cases c10 : 0 ≤ x23_1
       · rw [if_pos c10] at H
         have c10b0 : decide (0 ≤ x23_1) = true := decide_eq_true c10; clear c10
         by_cases c11 : x23_1 < (l0.length : Int)
         · rw [if_pos c11] at H
           have c11b0 : decide (x23_1 < (l0.length : Int)) = true := decide_eq_true c11; clear c11; replace H := qob.mp H; obtain ⟨⟨t158, t159⟩, A120, H⟩ := H; replace H : ((impl_isPlace.f t158).bind fun t160 => (if t160 = true then ((impl_isDensity.f t159).bind fun t161 => (if t161 = true then (if x9_1.length < 35184372088832 then (impl_changed.l0 k1 a2 (x9_1 ++ [(⟨IntKind.i16.wrap (t158), IntKind.i16.wrap (t159)⟩ : S37)]) l0 (l0.length : Int) (wrap64 (x23_1 + 1))) else (none)) else (some (([] : List (S37)), 4)))) else (some (([] : List (S37)), 4)))) = some (r1, r2) := H; have A12 := am A120; clear A120; replace H := qob.mp H; obtain ⟨t160, A130, H⟩ := H; replace H : (if t160 = true then ((impl_isDensity.f t159).bind fun t161 => (if t161 = true then (if x9_1.length < 35184372088832 then (impl_changed.l0 k1 a2 (x9_1 ++ [(⟨IntKind.i16.wrap (t158), IntKind.i16.wrap (t159)⟩ : S37)]) l0 (l0.length : Int) (wrap64 (x23_1 + 1))) else (none)) else (some (([] : List (S37)), 4)))) else (some (([] : List (S37)), 4))) = some (r1, r2) := H; have A13 := am A130; clear A130
           by_cases c14 : t160 = true
           · subst c14
             (have H1 : ((impl_isDensity.f t159).bind fun t161 => (if t161 = true then (if x9_1.length < 35184372088832 then (impl_changed.l0 k1 a2 (x9_1 ++ [(⟨IntKind.i16.wrap (t158), IntKind.i16.wrap (t159)⟩ : S37)]) l0 (l0.length : Int) (wrap64 (x23_1 + 1))) else (none)) else (some (([] : List (S37)), 4)))) = some (r1, r2) := by rw [if_pos rfl] at H; exact H); clear H; have H := H1; clear H1; replace H := qob.mp H; obtain ⟨t161, A150, H⟩ := H; replace H : (if t161 = true then (if x9_1.length < 35184372088832 then (impl_changed.l0 k1 a2 (x9_1 ++ [(⟨IntKind.i16.wrap (t158), IntKind.i16.wrap (t159)⟩ : S37)]) l0 (l0.length : Int) (wrap64 (x23_1 + 1))) else (none)) else (some (([] : List (S37)), 4))) = some (r1, r2) := H; have A15 := am A150; clear A150
             by_cases c16 : t161 = true
             · subst c16
               (have H1 : (if x9_1.length < 35184372088832 then (impl_changed.l0 k1 a2 (x9_1 ++ [(⟨IntKind.i16.wrap (t158), IntKind.i16.wrap (t159)⟩ : S37)]) l0 (l0.length : Int) (wrap64 (x23_1 + 1))) else (none)) = some (r1, r2) := by rw [if_pos rfl] at H; exact H); clear H; have H := H1; clear H1
               by_cases c17 : x9_1.length < 35184372088832
               · rw [if_pos c17] at H
                 have LMc17 := am c17; clear c17; obtain ⟨y162, hy162⟩ : ∃ y_ : List (S37), y_ = (x9_1 ++ [(⟨IntKind.i16.wrap (t158), IntKind.i16.wrap (t159)⟩ : S37)]) := ⟨_, rfl⟩; (replace H : (impl_changed.l0 k1 a2 y162 l0 (l0.length : Int) (wrap64 (x23_1 + 1))) = some (r1, r2) := by first | (rw [hy162]; with_reducible exact H) | (have H2_ := (Option.bind_some _ _).symm.trans H; rw [hy162]; with_reducible exact H2_) | (have H2_ := (Option.bind_some _ _).symm.trans H; with_reducible exact H2_) | with_reducible exact H | (rw [hy162]; exact H) | exact H); have Ny162 := am hy162; clear hy162; have H' := am H; clear H; have p156 : 0 ≤ (x23_1 : Int) := od; have q156 : x23_1 < (l0.length : Int) := od; obtain ⟨ad156, e156, hx156_0, hx156_1⟩ := at_T37 HR0.out x23_1 p156 q156
                 cases e156
                 replace hx156_0 := (HB.out.cell (qwb w _ hx156_0)).trans hx156_0; replace hx156_1 := (HB.out.cell (qwb w _ hx156_1)).trans hx156_1; replace p156 := eq_true p156; replace q156 := eq_true q156; go_wp2_with (first | ((with_reducible refine gate_dst (N := 11) rfl ?_); refine box_event ?hg (N := 11) ?hd (cs := #[.int .i16 0, .int .i16 0]) (t := 37) ?hr ?_; (case hd => rfl); (case hg => rfl); (case hr => first | (go_simp; done) | (go_simp; rfl)); intro gb157 hg w18 hbox hb; have n0_ := am (Kd.R_below (Kd.R_elderB (by (with_reducible repeat (first | apply qra | apply qrn | apply qro)); exact HO_9.out) gb157 (Nat.le_of_eq hg.symm)) hb); have n1_ := am (qS hb); have n2_ := am (hbox); have n3_ := am ((by rw [hg]; exact qZ : w.heap.size ≤ gb157)); have n4_ := am ((by rw [hg]; exact qZ : w.heap.size ≤ gb157)); clear HO_9; clear HB; have HO_9 := n0_; have HB := n1_; have BK157 := n2_; have GW157 := n3_; have GE157 := n4_; clear n0_ n1_ n2_ n3_ n4_; clear hb hbox hg; have hcz19_0 : w18.cell? ⟨gb157, 0, none⟩ = some (.int .i16 0) := (blk_cell BK157.out 0).trans rfl; have hcz19_1 : w18.cell? ⟨gb157, 1, none⟩ = some (.int .i16 0) := (blk_cell BK157.out 1).trans rfl; have hfz19_0 := blk_frozen BK157.out 0; have hfz19_1 := blk_frozen BK157.out 1) | (go_at_call 50; (refine (HF.out _ _ _ _ _ (by repeat (first | (with_reducible first | exact HB.out | apply qa | apply qn | apply qd) | exact HB.out | refine Below.setCell ?_ (Aside0.out (by assumption)) _)) A12.out).mono ?_); rintro e w' ⟨rfl, ⟨nd, rfl⟩⟩) | ((with_reducible refine gate_callee (f := 36) rfl ?_); refine gl (some 39) rfl rfl Try.func36 #[.int .i64 t158] rfl ?_; (with_reducible refine (impl_isPlace.calls t158 true _ A13.out).mono ?_); rintro e w' ⟨rfl, ⟨nd, rfl⟩⟩; refine ⟨_, rfl, ?_⟩) | (go_at_call 55; (with_reducible refine (impl_isDensity.calls t159 true _ A15.out).mono ?_); rintro e w' ⟨rfl, ⟨nd, rfl⟩⟩) | ((with_reducible refine gate_builtin (b := .append) (xs := #[.tmp 46, .tmp 52]) rfl ?_); at_builtin; refine Kd.R_append k37 (w0 := w) w.heap.size rfl (.tmp 46) (.tmp 52) 25 37 (.agg #[(.int .i16 0), (.int .i16 0)]) 4 rfl Try.underlying25 info37 rfl (by decide) (by omega) u9 x9_1 (⟨IntKind.i16.wrap (t158), IntKind.i16.wrap (t159)⟩ : S37) [.int .i16 (IntKind.i16.wrap (t158)), .int .i16 (IntKind.i16.wrap (t159))] (fun k_ => k_ ≠ gb157) (fun _ => False) rfl (by first | (go_simp; done) | (go_simp; rfl)) ?aP (fun _ hk => hk.elim) ?aF ?aO ?aB ?aS ?aL ?_; (case aP => exact k37_mkM _ _ _ (⟨IntKind.i16.wrap (t158), IntKind.i16.wrap (t159)⟩ : S37)); (case aB => exact (by repeat (first | (with_reducible first | exact HB.out | apply qa | apply qn | apply qd | refine below_set ?_ GE157.out) | exact HB.out))); (case aF => exact (fun k_ hk => Kd.freshB (g := gb157) (o := .cells #[.int .i16 ((rd_T37 l0 x23_1).f0), .int .i16 ((rd_T37 l0 x23_1).f1)] 37 (0, 0)) (by (with_reducible repeat (first | refine blk_drewN ?_ _ | refine blk_drew ?_ | refine blk_alloc ?_ _)); refine blk_put (cs := #[.int .i16 ((rd_T37 l0 x23_1).f0), .int .i16 0]) ?_ 1 _ rfl; (with_reducible repeat (first | refine blk_drewN ?_ _ | refine blk_drew ?_ | refine blk_alloc ?_ _)); refine blk_put (cs := #[.int .i16 0, .int .i16 0]) ?_ 0 _ rfl; (with_reducible repeat (first | refine blk_drewN ?_ _ | refine blk_drew ?_ | refine blk_alloc ?_ _)); exact BK157.out) k_ hk)); (case aO => exact (by (with_reducible repeat (first | apply qra | apply qrn | apply qro)); exact Kd.R_mono (Kd.R_far (p := ⟨gb157, 1, none⟩) (Kd.R_far (p := ⟨gb157, 0, none⟩) (Kd.R_mono HO_9.out (fun k_ hk => (⟨hk, hk.2⟩ : _ ∧ k_ ≠ gb157))) (fun _ hk => hk.2) (.int .i16 ((rd_T37 l0 x23_1).f0))) (fun _ hk => hk.2) (.int .i16 ((rd_T37 l0 x23_1).f1))) (fun _ hk => hk.1.2))); (case aS => exact (qz (by repeat (first | (with_reducible first | exact HB.out | apply qa | apply qn | apply qd | refine below_set ?_ GE157.out) | exact HB.out)))); (case aL => have := LMc17.out; omega); intro v163 w20 ho hb hg hat; rw [← Ny162.out] at ho; have n0_ := am (blk_grown (g := gb157) (o := .cells #[.int .i16 ((rd_T37 l0 x23_1).f0), .int .i16 ((rd_T37 l0 x23_1).f1)] 37 (0, 0)) (by (with_reducible repeat (first | refine blk_drewN ?_ _ | refine blk_drew ?_ | refine blk_alloc ?_ _)); refine blk_put (cs := #[.int .i16 ((rd_T37 l0 x23_1).f0), .int .i16 0]) ?_ 1 _ rfl; (with_reducible repeat (first | refine blk_drewN ?_ _ | refine blk_drew ?_ | refine blk_alloc ?_ _)); refine blk_put (cs := #[.int .i16 0, .int .i16 0]) ?_ 0 _ rfl; (with_reducible repeat (first | refine blk_drewN ?_ _ | refine blk_drew ?_ | refine blk_alloc ?_ _)); exact BK157.out) hg (Kd.R_away HO_9.out (fun _ hk => hk.2))); have n1_ := am (hb); have n2_ := am (ho); clear BK157; clear HB; clear HO_9; have BK157 := n0_; have HB := n1_; have HO164 := n2_; clear n0_ n1_ n2_; clear ho hb hg hat)); go_roundg k1
                 case measure => have := HK1.out; omega
                 case rel => exact ⟨(y162), (wrap64 (x23_1 + 1)), tr, H', ⟨by have := HK1.out; omega⟩, ⟨by (with_reducible repeat (first | apply qra | apply qrn | apply qro)); exact Kd.R_mono HO164.out (fun _ hk => trivial)⟩, ⟨by repeat (first | (with_reducible first | exact HB.out | apply qa | apply qn | apply qd | refine below_set ?_ GE157.out) | exact HB.out)⟩⟩
               · rw [if_neg c17] at H
                 exact absurd H (by simp)
             · replace c16 := Bool.eq_false_iff.mpr c16
               subst c16; (have H1 : (some (([] : List (S37)), 4)) = some (r1, r2) := by rw [if_neg (show ¬ (false = true) by decide)] at H; exact H); clear H; have H := H1; clear H1; simp only [Option.some.injEq, Prod.mk.injEq] at H; obtain ⟨rfl, rfl⟩ := H; have p156 : 0 ≤ (x23_1 : Int) := od; have q156 : x23_1 < (l0.length : Int) := od; obtain ⟨ad156, e156, hx156_0, hx156_1⟩ := at_T37 HR0.out x23_1 p156 q156
               cases e156
               replace hx156_0 := (HB.out.cell (qwb w _ hx156_0)).trans hx156_0; replace hx156_1 := (HB.out.cell (qwb w _ hx156_1)).trans hx156_1; replace p156 := eq_true p156; replace q156 := eq_true q156; go_wp2_with (first | ((with_reducible refine gate_dst (N := 11) rfl ?_); refine box_event ?hg (N := 11) ?hd (cs := #[.int .i16 0, .int .i16 0]) (t := 37) ?hr ?_; (case hd => rfl); (case hg => rfl); (case hr => first | (go_simp; done) | (go_simp; rfl)); intro gb157 hg w21 hbox hb; have n0_ := am (Kd.R_below (Kd.R_elderB (by (with_reducible repeat (first | apply qra | apply qrn | apply qro)); exact HO_9.out) gb157 (Nat.le_of_eq hg.symm)) hb); have n1_ := am (qS hb); have n2_ := am (hbox); have n3_ := am ((by rw [hg]; exact qZ : w.heap.size ≤ gb157)); have n4_ := am ((by rw [hg]; exact qZ : w.heap.size ≤ gb157)); clear HO_9; clear HB; have HO_9 := n0_; have HB := n1_; have BK157 := n2_; have GW157 := n3_; have GE157 := n4_; clear n0_ n1_ n2_ n3_ n4_; clear hb hbox hg; have hcz22_0 : w21.cell? ⟨gb157, 0, none⟩ = some (.int .i16 0) := (blk_cell BK157.out 0).trans rfl; have hcz22_1 : w21.cell? ⟨gb157, 1, none⟩ = some (.int .i16 0) := (blk_cell BK157.out 1).trans rfl; have hfz22_0 := blk_frozen BK157.out 0; have hfz22_1 := blk_frozen BK157.out 1) | (go_at_call 50; (refine (HF.out _ _ _ _ _ (by repeat (first | (with_reducible first | exact HB.out | apply qa | apply qn | apply qd) | exact HB.out | refine Below.setCell ?_ (Aside0.out (by assumption)) _)) A12.out).mono ?_); rintro e w' ⟨rfl, ⟨nd, rfl⟩⟩) | ((with_reducible refine gate_callee (f := 36) rfl ?_); refine gl (some 39) rfl rfl Try.func36 #[.int .i64 t158] rfl ?_; (with_reducible refine (impl_isPlace.calls t158 true _ A13.out).mono ?_); rintro e w' ⟨rfl, ⟨nd, rfl⟩⟩; refine ⟨_, rfl, ?_⟩) | (go_at_call 55; (with_reducible refine (impl_isDensity.calls t159 false _ A15.out).mono ?_); rintro e w' ⟨rfl, ⟨nd, rfl⟩⟩)); go_ret2; exact ⟨_, te, by first | exact Kd.R_nil _ _ _ _ _ | exact Kd.N_nil _ _ _ _ _ | exact Kd.V_nil _ _ _ _ _ | exact Kd.Q_nil _ _ _ _ _ | exact Kd.S_nil _ _ _ _ _, by repeat (first | (with_reducible first | exact HB.out | apply qa | apply qn | apply qd | refine below_set ?_ GE157.out) | exact HB.out)⟩
           · replace c14 := Bool.eq_false_iff.mpr c14
             subst c14; (have H1 : (some (([] : List (S37)), 4)) = some (r1, r2) := by rw [if_neg (show ¬ (false = true) by decide)] at H; exact H); clear H; have H := H1; clear H1; simp only [Option.some.injEq, Prod.mk.injEq] at H; obtain ⟨rfl, rfl⟩ := H; have p156 : 0 ≤ (x23_1 : Int) := od; have q156 : x23_1 < (l0.length : Int) := od; obtain ⟨ad156, e156, hx156_0, hx156_1⟩ := at_T37 HR0.out x23_1 p156 q156
             cases e156
             replace hx156_0 := (HB.out.cell (qwb w _ hx156_0)).trans hx156_0; replace hx156_1 := (HB.out.cell (qwb w _ hx156_1)).trans hx156_1; replace p156 := eq_true p156; replace q156 := eq_true q156; go_wp2_with (first | ((with_reducible refine gate_dst (N := 11) rfl ?_); refine box_event ?hg (N := 11) ?hd (cs := #[.int .i16 0, .int .i16 0]) (t := 37) ?hr ?_; (case hd => rfl); (case hg => rfl); (case hr => first | (go_simp; done) | (go_simp; rfl)); intro gb157 hg w23 hbox hb; have n0_ := am (Kd.R_below (Kd.R_elderB (by (with_reducible repeat (first | apply qra | apply qrn | apply qro)); exact HO_9.out) gb157 (Nat.le_of_eq hg.symm)) hb); have n1_ := am (qS hb); have n2_ := am (hbox); have n3_ := am ((by rw [hg]; exact qZ : w.heap.size ≤ gb157)); have n4_ := am ((by rw [hg]; exact qZ : w.heap.size ≤ gb157)); clear HO_9; clear HB; have HO_9 := n0_; have HB := n1_; have BK157 := n2_; have GW157 := n3_; have GE157 := n4_; clear n0_ n1_ n2_ n3_ n4_; clear hb hbox hg; have hcz24_0 : w23.cell? ⟨gb157, 0, none⟩ = some (.int .i16 0) := (blk_cell BK157.out 0).trans rfl; have hcz24_1 : w23.cell? ⟨gb157, 1, none⟩ = some (.int .i16 0) := (blk_cell BK157.out 1).trans rfl; have hfz24_0 := blk_frozen BK157.out 0; have hfz24_1 := blk_frozen BK157.out 1) | (go_at_call 50; (refine (HF.out _ _ _ _ _ (by repeat (first | (with_reducible first | exact HB.out | apply qa | apply qn | apply qd) | exact HB.out | refine Below.setCell ?_ (Aside0.out (by assumption)) _)) A12.out).mono ?_); rintro e w' ⟨rfl, ⟨nd, rfl⟩⟩) | ((with_reducible refine gate_callee (f := 36) rfl ?_); refine gl (some 39) rfl rfl Try.func36 #[.int .i64 t158] rfl ?_; (with_reducible refine (impl_isPlace.calls t158 false _ A13.out).mono ?_); rintro e w' ⟨rfl, ⟨nd, rfl⟩⟩; refine ⟨_, rfl, ?_⟩)); go_ret2; exact ⟨_, te, by first | exact Kd.R_nil _ _ _ _ _ | exact Kd.N_nil _ _ _ _ _ | exact Kd.V_nil _ _ _ _ _ | exact Kd.Q_nil _ _ _ _ _ | exact Kd.S_nil _ _ _ _ _, by repeat (first | (with_reducible first | exact HB.out | apply qa | apply qn | apply qd | refine below_set ?_ GE157.out) | exact HB.out)⟩
         · rw [if_neg c11] at H
           exact absurd H (by simp)
       · rw [if_neg c10] at H
         exact absurd H (by simp)
     · rw [if_neg c9] at H
       have c9b0 : decide (x23_1 < (l0.length : Int)) = false := decide_eq_false c9; clear c9; simp only [Option.some.injEq, Prod.mk.injEq] at H; obtain ⟨rfl, rfl⟩ := H; go_wp2; go_ret2; exact ⟨_, te, by (with_reducible repeat (first | apply qra | apply qrn | apply qro)); exact HO_9.out, hB⟩
 · rw [if_neg c5] at H
   have c5b0 : (t152 == 0) = false := beq_eq_false_iff_ne.mpr c5; have c5b1 : (t152 != 0) = true := bne_iff_ne.mpr c5; simp only [Option.some.injEq, Prod.mk.injEq] at H; obtain ⟨rfl, rfl⟩ := H; go_enter Try.func28, Try.ntmps28; go_wp2_with (first | ((with_reducible refine gate_callee (f := 35) rfl ?_); refine gl (some 16) rfl rfl Try.func35 #[.slice A0 l0.length c0, .bool a1] rfl ?_; (with_reducible refine (impl_curveCode.calls k _ _ l0 a1 t152 _ ?side1 ?side2 A4.out).mono ?_); (case side1 => repeat (first | exact HR0.out | (with_reducible first | refine qca ?_ _ | refine qcn ?_ _ | refine qco ?_))); (case side2 => exact HC0.out); rintro e w25 ⟨rfl, hb⟩; refine ⟨_, rfl, ?_⟩; have n0_ := am (qS hb); clear HB; have HB := n0_; clear n0_; (try clear hb))); go_ret2; exact ⟨_, te, by first | exact Kd.R_nil _ _ _ _ _ | exact Kd.N_nil _ _ _ _ _ | exact Kd.V_nil _ _ _ _ _ | exact Kd.Q_nil _ _ _ _ _ | exact Kd.S_nil _ _ _ _ _, hB⟩

/-! ### impl_isBy: function 29 -/
def impl_isBy.f (a0 : Int) : Option (Bool) := (impl_within.f a0 (-400) 400).bind fun t165 => (some t165)
theorem impl_isBy.calls (a0 : Int) (r : Bool) (w : World) (h : impl_isBy.f a0 = some r) :
 Calls Try.prog 29 #[.int .i64 a0] w fun e w' => e = .returned (.bool r) ∧ Drawn0 w w' := by
 have H : ((impl_within.f a0 (-400) 400).bind fun t165 => (some t165)) = some r := h
 clear h
 replace H := qob.mp H
 obtain ⟨t165, A20, H⟩ := H
 replace H : (some t165) = some r := H
 have A2 := am A20
 clear A20
 obtain rfl := Option.some.inj H
 go_enter Try.func29, Try.ntmps29
 go_wp2_with (first | ((with_reducible refine gate_callee (f := 40) rfl ?_); refine gl (some 4) rfl rfl Try.func40 #[.int .i64 a0, .int .i64 (-400), .int .i64 400] rfl ?_; (with_reducible refine (impl_within.calls a0 (-400) 400 t165 _ A2.out).mono ?_); rintro e w' ⟨rfl, ⟨nd, rfl⟩⟩; refine ⟨_, rfl, ?_⟩))
 go_ret
 exact ⟨tr, dr⟩

-- NOT PRINTED: function 30 (impl_ShiftCurve_1)


/-! ### impl_ShiftCurve: function 7 -/
def impl_ShiftCurve.ch (a1 x y : Int) : Option (Int × Int) := some (wrap64 (x + a1), y)
def impl_ShiftCurve.f (k : Nat) (l0 : List (S37)) (a1 : Int) : Option ((List (S37)) × Int) := (impl_isBy.f a1).bind fun u => impl_changed.f k l0 u (impl_ShiftCurve.ch a1)
theorem impl_ShiftCurve.mono : ∀ l0 a1 k, LeO (impl_ShiftCurve.f k l0 a1) (impl_ShiftCurve.f (k + 1) l0 a1) := by
 intro l0 a1 k r h
 unfold impl_ShiftCurve.f at h ⊢
 obtain ⟨u, e1, h⟩ := qob.mp h
 exact qob.mpr ⟨u, e1, impl_changed.mono _ _ _ k _ h⟩
theorem impl_ShiftCurve.cells (w : World) (c0 : Value) (n : Nat) : w.heap.size < ((w.alloc (Obj.cells #[c0] 2)).drewN n).heap.size ∧ ((w.alloc (Obj.cells #[c0] 2)).drewN n).cell? ⟨w.heap.size, 0, none⟩ = some c0 := by
 refine ⟨?_, ?_⟩
 · show w.heap.size < ((w.heap.push _)).size
   rw [Array.size_push]; omega
 · simp
theorem impl_ShiftCurve.chcalls (a1 x y s1 s2 : Int) (gf0 : Nat) (w : World) (h0 : w.cell? ⟨gf0, 0, none⟩ = some (.int .i64 a1)) (h : impl_ShiftCurve.ch a1 x y = some (s1, s2)) :
 Calls Try.prog 30 #[.int .i64 x, .int .i64 y, .pointer (some ⟨gf0, 0, none⟩)] w fun e w' => e = .returned (.tuple #[.int .i64 s1, .int .i64 s2]) ∧ Drawn0 w w' := by
 unfold impl_ShiftCurve.ch at h
 simp only [Option.some.injEq, Prod.mk.injEq] at h
 obtain ⟨rfl, rfl⟩ := h
 go_enter Try.func30, Try.ntmps30
 go_wp2
 try go_region
 all_goals (try go_wp2)
 all_goals go_ret2
 all_goals exact ⟨rfl, dr⟩
theorem impl_ShiftCurve.calls (k : Nat) (A0 : Option Addr) (c0 : Nat) (l0 : List (S37)) (a1 : Int) (r1 : List (S37)) (r2 : Int) (w : World) (hr0 : Kd.C k37 w A0 l0.length l0) (hc0 : l0.length ≤ c0) (h : impl_ShiftCurve.f k l0 a1 = some (r1, r2)) :
 Calls Try.prog 7 #[.slice A0 l0.length c0, .int .i64 a1] w fun e w' => ∃ v0_ : Value, e = .returned (.tuple #[v0_, .int .i64 r2]) ∧ Kd.R k37 37 w' w.heap.size (fun _ => True) v0_ r1 ∧ Below w.heap.size w w' := by
 unfold impl_ShiftCurve.f at h
 obtain ⟨u, e1, h2⟩ := qob.mp h
 clear h
 have HR0 := am hr0
 have HC0 := am hc0
 clear hr0 hc0
 have HB := am (Below.refl w.heap.size w)
 have E1 := am e1
 have H := am h2
 clear e1 h2
 go_enter Try.func7, Try.ntmps7
 go_wp2_with (first | (go_at_call 29; (with_reducible refine (impl_isBy.calls a1 u _ E1.out).mono ?_); rintro e w' ⟨rfl, ⟨nd, rfl⟩⟩) | (go_at_call 28; (refine (impl_changed.calls30 k _ _ l0 u (impl_ShiftCurve.ch a1) r1 r2 _ ?side1 ?side2 w.heap.size ?side3 H.out).mono ?_); (case side1 => repeat (first | exact HR0.out | (with_reducible first | refine qca ?_ _ | refine qcn ?_ _ | refine qco ?_))); (case side2 => exact HC0.out); (case side3 => exact fun x y s1 s2 w' hb hc => impl_ShiftCurve.chcalls a1 x y s1 s2 _ w' ((hb.cell (impl_ShiftCurve.cells w _ _).1).trans (impl_ShiftCurve.cells w _ _).2) hc); rintro e w7 ⟨v5, rfl, ho, hb⟩; have n0_ := am (Kd.R_lower ho qZ); have n1_ := am (qS hb); clear HB; have HO := n0_; have HB := n1_; clear n0_ n1_; clear hb ho))
 go_ret2
 exact ⟨_, rfl, HO.out, hB⟩

/-! ### spec_l00In: function 46 -/
def spec_l00In.f (a0 : Int) (a1 : Int) (a2 : Int) : Option (Bool) := if a0 ≥ a1 then (some (decide (a0 ≤ a2))) else (some false)
theorem spec_l00In.calls (a0 : Int) (a1 : Int) (a2 : Int) (r : Bool) (w : World) (h : spec_l00In.f a0 a1 a2 = some r) :
 Calls Try.prog 46 #[.int .i64 a0, .int .i64 a1, .int .i64 a2] w fun e w' => e = .returned (.bool r) ∧ Drawn0 w w' := by
 have H : (if a0 ≥ a1 then (some (decide (a0 ≤ a2))) else (some false)) = some r := h
 clear h
 by_cases c4 : a0 ≥ a1
 · rw [if_pos c4] at H
   have c4b0 : decide (a1 ≤ a0) = true := decide_eq_true c4; clear c4; obtain rfl := Option.some.inj H; go_enter Try.func46, Try.ntmps46; go_wp2; go_ret; exact ⟨tr, dr⟩
 · rw [if_neg c4] at H
   have c4b0 : decide (a1 ≤ a0) = false := decide_eq_false c4; clear c4; obtain rfl := Option.some.inj H; go_enter Try.func46, Try.ntmps46; go_wp2; go_ret; exact ⟨tr, dr⟩

/-! ### spec_l02Density: function 52 -/
def spec_l02Density.f (a0 : Int) : Option (Bool) := (spec_l00In.f a0 0 400).bind fun t166 => (some t166)
theorem spec_l02Density.calls (a0 : Int) (r : Bool) (w : World) (h : spec_l02Density.f a0 = some r) :
 Calls Try.prog 52 #[.int .i64 a0] w fun e w' => e = .returned (.bool r) ∧ Drawn0 w w' := by
 have H : ((spec_l00In.f a0 0 400).bind fun t166 => (some t166)) = some r := h
 clear h
 replace H := qob.mp H
 obtain ⟨t166, A20, H⟩ := H
 replace H : (some t166) = some r := H
 have A2 := am A20
 clear A20
 obtain rfl := Option.some.inj H
 go_enter Try.func52, Try.ntmps52
 go_wp2_with (first | ((with_reducible refine gate_callee (f := 46) rfl ?_); refine gl (some 4) rfl rfl Try.func46 #[.int .i64 a0, .int .i64 0, .int .i64 400] rfl ?_; (with_reducible refine (spec_l00In.calls a0 0 400 t166 _ A2.out).mono ?_); rintro e w' ⟨rfl, ⟨nd, rfl⟩⟩; refine ⟨_, rfl, ?_⟩))
 go_ret
 exact ⟨tr, dr⟩

/-! ### spec_l02Place: function 53 -/
def spec_l02Place.f (a0 : Int) : Option (Bool) := (spec_l00In.f a0 (-200) 200).bind fun t167 => (some t167)
theorem spec_l02Place.calls (a0 : Int) (r : Bool) (w : World) (h : spec_l02Place.f a0 = some r) :
 Calls Try.prog 53 #[.int .i64 a0] w fun e w' => e = .returned (.bool r) ∧ Drawn0 w w' := by
 have H : ((spec_l00In.f a0 (-200) 200).bind fun t167 => (some t167)) = some r := h
 clear h
 replace H := qob.mp H
 obtain ⟨t167, A20, H⟩ := H
 replace H : (some t167) = some r := H
 have A2 := am A20
 clear A20
 obtain rfl := Option.some.inj H
 go_enter Try.func53, Try.ntmps53
 go_wp2_with (first | ((with_reducible refine gate_callee (f := 46) rfl ?_); refine gl (some 4) rfl rfl Try.func46 #[.int .i64 a0, .int .i64 (-200), .int .i64 200] rfl ?_; (with_reducible refine (spec_l00In.calls a0 (-200) 200 t167 _ A2.out).mono ?_); rintro e w' ⟨rfl, ⟨nd, rfl⟩⟩; refine ⟨_, rfl, ?_⟩))
 go_ret
 exact ⟨tr, dr⟩

/-! ### spec_l02Point: function 47 -/
def spec_l02Point.f (a0_0 : Int) (a0_1 : Int) : Option (Bool) := (spec_l02Place.f (wrap64 (a0_0))).bind fun t169 => (if t169 = true then ((spec_l02Density.f (wrap64 (a0_1))).bind fun t170 => (some t170)) else (some false))
theorem spec_l02Point.calls (a0_0 : Int) (a0_1 : Int) (r : Bool) (w : World) (h : spec_l02Point.f a0_0 a0_1 = some r) :
 Calls Try.prog 47 #[.agg #[.int .i16 a0_0, .int .i16 a0_1]] w fun e w' => e = .returned (.bool r) ∧ Below w.heap.size w w' := by
 have hu37 := Try.underlying37
 have HB := am (Below.refl w.heap.size w)
 have H : ((spec_l02Place.f (wrap64 (a0_0))).bind fun t169 => (if t169 = true then ((spec_l02Density.f (wrap64 (a0_1))).bind fun t170 => (some t170)) else (some false))) = some r := h
 clear h
 replace H := qob.mp H
 obtain ⟨t169, A20, H⟩ := H
 replace H : (if t169 = true then ((spec_l02Density.f (wrap64 (a0_1))).bind fun t170 => (some t170)) else (some false)) = some r := H
 have A2 := am A20
 clear A20
 by_cases c3 : t169 = true
 · subst c3
   (have H1 : ((spec_l02Density.f (wrap64 (a0_1))).bind fun t170 => (some t170)) = some r := by rw [if_pos rfl] at H; exact H); clear H; have H := H1; clear H1; replace H := qob.mp H; obtain ⟨t170, A40, H⟩ := H; replace H : (some t170) = some r := H; have A4 := am A40; clear A40; obtain rfl := Option.some.inj H; go_enter Try.func47, Try.ntmps47; go_wp2_with (first | ((with_reducible refine gate_dst (N := 1) rfl ?_); refine box_event ?hg (N := 1) ?hd (cs := #[.int .i16 a0_0, .int .i16 a0_1]) (t := 37) ?hr ?_; (case hd => rfl); (case hg => rfl); (case hr => first | (go_simp; done) | (go_simp; rfl)); intro gb168 hg w5 hbox hb; have n0_ := am (qS hb); have n1_ := am (hbox); have n2_ := am ((by rw [hg]; exact qZ : w.heap.size ≤ gb168)); have n3_ := am ((by rw [hg]; exact qZ : w.heap.size ≤ gb168)); clear HB; have HB := n0_; have BK168 := n1_; have GW168 := n2_; have GE168 := n3_; clear n0_ n1_ n2_ n3_; clear hb hbox hg; have hcz6_0 : w5.cell? ⟨gb168, 0, none⟩ = some (.int .i16 a0_0) := (blk_cell BK168.out 0).trans rfl; have hcz6_1 : w5.cell? ⟨gb168, 1, none⟩ = some (.int .i16 a0_1) := (blk_cell BK168.out 1).trans rfl; have hfz6_0 := blk_frozen BK168.out 0; have hfz6_1 := blk_frozen BK168.out 1) | ((with_reducible refine gate_callee (f := 53) rfl ?_); refine gl (some 6) rfl rfl Try.func53 #[.int .i64 (wrap64 (a0_0))] rfl ?_; (with_reducible refine (spec_l02Place.calls (wrap64 (a0_0)) true _ A2.out).mono ?_); rintro e w' ⟨rfl, ⟨nd, rfl⟩⟩; refine ⟨_, rfl, ?_⟩) | (go_at_call 52; (with_reducible refine (spec_l02Density.calls (wrap64 (a0_1)) t170 _ A4.out).mono ?_); rintro e w' ⟨rfl, ⟨nd, rfl⟩⟩)); go_ret; exact ⟨te, by repeat (first | (with_reducible first | exact HB.out | apply qa | apply qn | apply qd | refine below_set ?_ GE168.out) | exact HB.out)⟩
 · replace c3 := Bool.eq_false_iff.mpr c3
   subst c3; (have H1 : (some false) = some r := by rw [if_neg (show ¬ (false = true) by decide)] at H; exact H); clear H; have H := H1; clear H1; obtain rfl := Option.some.inj H; go_enter Try.func47, Try.ntmps47; go_wp2_with (first | ((with_reducible refine gate_dst (N := 1) rfl ?_); refine box_event ?hg (N := 1) ?hd (cs := #[.int .i16 a0_0, .int .i16 a0_1]) (t := 37) ?hr ?_; (case hd => rfl); (case hg => rfl); (case hr => first | (go_simp; done) | (go_simp; rfl)); intro gb168 hg w7 hbox hb; have n0_ := am (qS hb); have n1_ := am (hbox); have n2_ := am ((by rw [hg]; exact qZ : w.heap.size ≤ gb168)); have n3_ := am ((by rw [hg]; exact qZ : w.heap.size ≤ gb168)); clear HB; have HB := n0_; have BK168 := n1_; have GW168 := n2_; have GE168 := n3_; clear n0_ n1_ n2_ n3_; clear hb hbox hg; have hcz8_0 : w7.cell? ⟨gb168, 0, none⟩ = some (.int .i16 a0_0) := (blk_cell BK168.out 0).trans rfl; have hcz8_1 : w7.cell? ⟨gb168, 1, none⟩ = some (.int .i16 a0_1) := (blk_cell BK168.out 1).trans rfl; have hfz8_0 := blk_frozen BK168.out 0; have hfz8_1 := blk_frozen BK168.out 1) | ((with_reducible refine gate_callee (f := 53) rfl ?_); refine gl (some 6) rfl rfl Try.func53 #[.int .i64 (wrap64 (a0_0))] rfl ?_; (with_reducible refine (spec_l02Place.calls (wrap64 (a0_0)) false _ A2.out).mono ?_); rintro e w' ⟨rfl, ⟨nd, rfl⟩⟩; refine ⟨_, rfl, ?_⟩)); go_ret; exact ⟨te, by repeat (first | (with_reducible first | exact HB.out | apply qa | apply qn | apply qd | refine below_set ?_ GE168.out) | exact HB.out)⟩

end Go.Proofs.Ytedheepkalbcfaa.PFnMovedCurves
