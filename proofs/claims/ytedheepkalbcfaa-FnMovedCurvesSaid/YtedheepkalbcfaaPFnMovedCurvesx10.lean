/- Proves what functions that a law reaches come to, one contract each; no conditions beyond those that each names. Printed by a program of this session (xprint) out of the translation. -/
import Derived.Test.YtedheepkalbcfaaPFnMovedCurvesx0
import Derived.Test.YtedheepkalbcfaaPFnMovedCurvesx2
import Derived.Test.YtedheepkalbcfaaPFnMovedCurvesx4
import Derived.Test.YtedheepkalbcfaaPFnMovedCurvesx6
import Derived.Test.YtedheepkalbcfaaPFnMovedCurvesx9
namespace Go.Proofs.Ytedheepkalbcfaa.PFnMovedCurves
open Go.RowKit Go.Proofs.YtedheepkalbcfaaW.PrintWords Go.Proofs.YtedheepkalbcfaaW.PrintLast Go.Proofs.YtedheepkalbcfaaW.PrintMore
attribute [local go_sem] max2_int min2_int max_two min_two max_three min_three max_four min_four
set_option maxHeartbeats 8000000
set_option maxRecDepth 100000
set_option linter.unusedVariables false
set_option linter.unusedSimpArgs false

/-! ### spec_CurveThrough: function 17 -/
mutual
def spec_CurveThrough.j1 : Nat → List (S37) → Bool → Option ((List (S37)) × Int)
 | 0, _, _ => none
 | k + 1, x0, x4 => if x4 = true then (spec_CurveThrough.l1 k x0 (([] : List (S37))) 0 (-200)) else (some ((([] : List (S37))), 2))
def spec_CurveThrough.l1 : Nat → List (S37) → List (S37) → Int → Int → Option ((List (S37)) × Int)
 | 0, _, _, _, _ => none
 | k + 1, x0, x6, x7, x8 => if x8 ≤ 200 then (spec_CurveThrough.l2 k x0 x6 x7 x8 0 0 0) else (if (x6.length : Int) > 12 then (some ((([] : List (S37))), 3)) else (some (x6, 0)))
def spec_CurveThrough.l2 : Nat → List (S37) → List (S37) → Int → Int → Int → Int → Int → Option ((List (S37)) × Int)
 | 0, _, _, _, _, _, _, _ => none
 | k + 1, x0, x6, x7, x8, x9, x10, x11 => if x11 < (x0.length : Int) then (if 0 ≤ x11 then (if (wrap64 ((rd_T37 x0 x11).f0)) = x8 then (spec_CurveThrough.l2 k x0 x6 x7 x8 (wrap64 (x9 + (wrap64 ((rd_T37 x0 x11).f1)))) (wrap64 (x10 + 1)) (wrap64 (x11 + 1))) else (spec_CurveThrough.l2 k x0 x6 x7 x8 x9 x10 (wrap64 (x11 + 1)))) else (none)) else (if x10 > 0 then (if x10 = 0 then (none) else ((spec_l00Max.f x7 (wrap64 (Int.tdiv x9 x10))).bind fun t283 => (if x6.length < 35184372088832 then (spec_CurveThrough.l1 k x0 (x6 ++ [(⟨IntKind.i16.wrap (x8), IntKind.i16.wrap (t283)⟩ : S37)]) t283 (wrap64 (x8 + 1))) else (none)))) else (spec_CurveThrough.l1 k x0 x6 x7 (wrap64 (x8 + 1))))
def spec_CurveThrough.l0 : Nat → List (S37) → Bool → Int → Option ((List (S37)) × Int)
 | 0, _, _, _ => none
 | k + 1, x0, x4, x5 => if x5 < (x0.length : Int) then (if x4 = true then (if 0 ≤ x5 then ((spec_l02Point.f ((rd_T37 x0 x5).f0) ((rd_T37 x0 x5).f1)).bind fun t271 => (spec_CurveThrough.l0 k x0 t271 (wrap64 (x5 + 1)))) else (none)) else (spec_CurveThrough.j1 k x0 x4)) else (spec_CurveThrough.j1 k x0 x4)
end
def spec_CurveThrough.f (k : Nat) (l0 : List (S37)) : Option ((List (S37)) × Int) := (spec_l00In.f (l0.length : Int) 1 100).bind fun t269 => (spec_CurveThrough.l0 k l0 t269 0)
theorem spec_CurveThrough.mono_l : ∀ k, (∀ y0 y1, LeO (spec_CurveThrough.j1 k y0 y1) (spec_CurveThrough.j1 (k + 1) y0 y1)) ∧ (∀ y0 y1 y2 y3, LeO (spec_CurveThrough.l1 k y0 y1 y2 y3) (spec_CurveThrough.l1 (k + 1) y0 y1 y2 y3)) ∧ (∀ y0 y1 y2 y3 y4 y5 y6, LeO (spec_CurveThrough.l2 k y0 y1 y2 y3 y4 y5 y6) (spec_CurveThrough.l2 (k + 1) y0 y1 y2 y3 y4 y5 y6)) ∧ (∀ y0 y1 y2, LeO (spec_CurveThrough.l0 k y0 y1 y2) (spec_CurveThrough.l0 (k + 1) y0 y1 y2))
 | 0 => ⟨fun _ _ r h => by simp [spec_CurveThrough.j1] at h, fun _ _ _ _ r h => by simp [spec_CurveThrough.l1] at h, fun _ _ _ _ _ _ _ r h => by simp [spec_CurveThrough.l2] at h, fun _ _ _ r h => by simp [spec_CurveThrough.l0] at h⟩
 | k + 1 => by
  obtain ⟨ih0, ih1, ih2, ih3⟩ := spec_CurveThrough.mono_l k; refine ⟨?_, ?_, ?_, ?_⟩; intro y0 y1; unfold spec_CurveThrough.j1; rotate_left; intro y0 y1 y2 y3; unfold spec_CurveThrough.l1; rotate_left; intro y0 y1 y2 y3 y4 y5 y6; unfold spec_CurveThrough.l2; rotate_left; intro y0 y1 y2; unfold spec_CurveThrough.l0; rotate_left
  all_goals repeat' first | (with_reducible first | exact ih0 _ _ | exact ih1 _ _ _ _ | exact ih2 _ _ _ _ _ _ _ | exact ih3 _ _ _ | exact LeO.refl _ | exact LeO.none _ | refine LeO.ite ?_ ?_ | refine LeO.bind ?_ (fun _ => ?_)) | exact ih0 _ _ | exact ih1 _ _ _ _ | exact ih2 _ _ _ _ _ _ _ | exact ih3 _ _ _ | exact LeO.none _ | refine LeO.ite ?_ ?_ | refine LeO.bind ?_ (fun _ => ?_)
theorem spec_CurveThrough.mono : ∀ a0 k, LeO (spec_CurveThrough.f k a0) (spec_CurveThrough.f (k + 1) a0) := by
 intro a0 k
 obtain ⟨ih0, ih1, ih2, ih3⟩ := spec_CurveThrough.mono_l k
 unfold spec_CurveThrough.f
 repeat' first | (with_reducible first | exact ih0 _ _ | exact ih1 _ _ _ _ | exact ih2 _ _ _ _ _ _ _ | exact ih3 _ _ _ | exact LeO.refl _ | exact LeO.none _ | refine LeO.ite ?_ ?_ | refine LeO.bind ?_ (fun _ => ?_)) | exact ih0 _ _ | exact ih1 _ _ _ _ | exact ih2 _ _ _ _ _ _ _ | exact ih3 _ _ _ | exact LeO.none _ | refine LeO.ite ?_ ?_ | refine LeO.bind ?_ (fun _ => ?_)
theorem spec_CurveThrough.calls (k : Nat) (A0 : Option Addr) (c0 : Nat) (l0 : List (S37)) (r1 : List (S37)) (r2 : Int) (w : World) (hr0 : Kd.C k37 w A0 l0.length l0) (hc0 : l0.length ≤ c0) (h : spec_CurveThrough.f k l0 = some (r1, r2)) :
 Calls Try.prog 17 #[.slice A0 l0.length c0] w fun e w' => ∃ v0_ : Value, e = .returned (.tuple #[v0_, .int .i64 r2]) ∧ Kd.R k37 37 w' w.heap.size (fun _ => True) v0_ r1 ∧ Below w.heap.size w w' := by
 have hu37 := Try.underlying37
 have HR0 := am hr0
 have HC0 := am hc0
 clear hr0 hc0
 have HB := am (Below.refl w.heap.size w)
 have H : ((spec_l00In.f (l0.length : Int) 1 100).bind fun t269 => (spec_CurveThrough.l0 k l0 t269 0)) = some (r1, r2) := h
 clear h
 replace H := qob.mp H
 obtain ⟨t269, A20, H⟩ := H
 replace H : (spec_CurveThrough.l0 k l0 t269 0) = some (r1, r2) := H
 have A2 := am A20
 clear A20
 have HC3 := am H
 clear H
 go_enter Try.func17, Try.ntmps17
 go_upto_block 0 with (first | ((with_reducible refine gate_callee (f := 46) rfl ?_); refine gl (some 14) rfl rfl Try.func46 #[.int .i64 (l0.length : Int), .int .i64 1, .int .i64 100] rfl ?_; (with_reducible refine (spec_l00In.calls (l0.length : Int) 1 100 t269 _ A2.out).mono ?_); rintro e w' ⟨rfl, ⟨nd, rfl⟩⟩; refine ⟨_, rfl, ?_⟩))
 (try simp only [Act.put, sqA, sqZ, sqS])
 go_cut [4] (fun v4 wc => ∃ (kq : Nat) (x4_2 : Bool), v4 = .bool x4_2 ∧ Aside0 (spec_CurveThrough.j1 kq l0 x4_2 = some (r1, r2)) ∧ Aside0 (kq ≤ k) ∧ Aside0 (Below w.heap.size w wc))
 case first =>
  have H := HC3.out; clear HC3; have H' := am H; clear H; go_wp2; go_loopg [4, 5] k (fun kq v4 v5 w' => ∃ (x4_1 : Bool) (x5_1 : Int), v4 = .bool x4_1 ∧ v5 = .int .i64 x5_1 ∧ Aside0 (spec_CurveThrough.l0 kq l0 x4_1 x5_1 = some (r1, r2)) ∧ Aside0 (kq ≤ k) ∧ Aside0 (Below w.heap.size w w'))
  case atStart => exact ⟨(t269), (0), tr, tr, H', ⟨Nat.le_refl _⟩, ⟨hB⟩⟩
  case round =>
   clear H'; (try clear c1); (try clear p2); obtain ⟨x4_1, x5_1, rfl, rfl, HA, HK1, HB⟩ := hrel
   cases gk with
   | zero => exact absurd HA.out (by simp [spec_CurveThrough.l0])
   | succ k1 =>
    have H := HA.out; clear HA; simp only [spec_CurveThrough.l0] at H
    by_cases c4 : x5_1 < (l0.length : Int)
    · rw [if_pos c4] at H
      have c4b0 : decide (x5_1 < (l0.length : Int)) = true := decide_eq_true c4; clear c4; (first | rw [c4b0] | (simp only [i64_w, i32_w]; rw [c4b0]) | skip)
      by_cases c5 : x4_1 = true
      · subst c5
        (have H1 : (if 0 ≤ x5_1 then ((spec_l02Point.f ((rd_T37 l0 x5_1).f0) ((rd_T37 l0 x5_1).f1)).bind fun t271 => (spec_CurveThrough.l0 k1 l0 t271 (wrap64 (x5_1 + 1)))) else (none)) = some (r1, r2) := by rw [if_pos rfl] at H; exact H); clear H; have H := H1; clear H1
        by_cases c6 : 0 ≤ x5_1
        · rw [if_pos c6] at H
          have c6b0 : decide (0 ≤ x5_1) = true := decide_eq_true c6; clear c6; replace H := qob.mp H; obtain ⟨t271, A70, H⟩ := H; replace H : (spec_CurveThrough.l0 k1 l0 t271 (wrap64 (x5_1 + 1))) = some (r1, r2) := H; have A7 := am A70; clear A70; have H' := am H; clear H; have p270 : 0 ≤ (x5_1 : Int) := od; have q270 : x5_1 < (l0.length : Int) := od; obtain ⟨ad270, e270, hx270_0, hx270_1⟩ := at_T37 HR0.out x5_1 p270 q270
          cases e270
          replace hx270_0 := (HB.out.cell (qwb w _ hx270_0)).trans hx270_0; replace hx270_1 := (HB.out.cell (qwb w _ hx270_1)).trans hx270_1; replace p270 := eq_true p270; replace q270 := eq_true q270; go_wp2_with (first | ((with_reducible refine gate_callee (f := 47) rfl ?_); refine gl (some 28) rfl rfl Try.func47 #[.agg #[.int .i16 ((rd_T37 l0 x5_1).f0), .int .i16 ((rd_T37 l0 x5_1).f1)]] rfl ?_; (with_reducible refine (spec_l02Point.calls ((rd_T37 l0 x5_1).f0) ((rd_T37 l0 x5_1).f1) t271 _ A7.out).mono ?_); rintro e w8 ⟨rfl, hb⟩; refine ⟨_, rfl, ?_⟩; have n0_ := am (qS hb); clear HB; have HB := n0_; clear n0_; (try clear hb))); go_roundg k1
          case measure => have := HK1.out; omega
          case rel => exact ⟨(t271), (wrap64 (x5_1 + 1)), tr, tr, H', ⟨by have := HK1.out; omega⟩, ⟨hB⟩⟩
        · rw [if_neg c6] at H
          exact absurd H (by simp)
      · replace c5 := Bool.eq_false_iff.mpr c5
        subst c5; (have H1 : (spec_CurveThrough.j1 k1 l0 false) = some (r1, r2) := by rw [if_neg (show ¬ (false = true) by decide)] at H; exact H); clear H; have H := H1; clear H1; have H' := am H; clear H; go_wp2; go_meet
        case rel => exact ⟨_, (false), tr, H', ⟨by have := HK1.out; first | omega | exact Nat.le_refl _⟩, ⟨hB⟩⟩
    · rw [if_neg c4] at H
      have c4b0 : decide (x5_1 < (l0.length : Int)) = false := decide_eq_false c4; clear c4; (first | rw [c4b0] | (simp only [i64_w, i32_w]; rw [c4b0]) | skip); have H' := am H; clear H; go_wp2; go_meet
      case rel => exact ⟨_, (x4_1), tr, H', ⟨by have := HK1.out; first | omega | exact Nat.le_refl _⟩, ⟨hB⟩⟩
 case rest => as_aux_lemma =>
  clear HC3
  try clear c1
  try clear p2
  try clear q2
  try clear hx2
  try clear c4
  try clear c4b0
  try clear c5
  try clear c6
  try clear c6b0
  try clear p6
  try clear hx270_0
  try clear hx270_1
  try clear p2
  try clear p270
  try clear q270
  obtain ⟨kq, x4_2, rfl, HA, HJ2, HB⟩ := hcut
  cases kq with
  | zero => exact absurd HA.out (by simp [spec_CurveThrough.j1])
  | succ kj2 =>
   have H := HA.out; clear HA; simp only [spec_CurveThrough.j1] at H
   by_cases c9 : x4_2 = true
   · subst c9
     (have H1 : (spec_CurveThrough.l1 kj2 l0 (([] : List (S37))) 0 (-200)) = some (r1, r2) := by rw [if_pos rfl] at H; exact H); clear H; have H := H1; clear H1; obtain ⟨y275, hy275⟩ : ∃ y_ : List (S37), y_ = (([] : List (S37))) := ⟨_, rfl⟩; (replace H : (spec_CurveThrough.l1 kj2 l0 y275 0 (-200)) = some (r1, r2) := by first | (rw [hy275]; with_reducible exact H) | (have H2_ := (Option.bind_some _ _).symm.trans H; rw [hy275]; with_reducible exact H2_) | (have H2_ := (Option.bind_some _ _).symm.trans H; with_reducible exact H2_) | with_reducible exact H | (rw [hy275]; exact H) | exact H); have Ny275 := am hy275; clear hy275; have H' := am H; clear H; go_wp2_with (first | ((with_reducible refine gate_dst (N := 32) rfl ?_); refine Kd.R_lit k37 _ 37 ?hg (N := 32) ?hd (xs := ([] : List (S37))) (inner := []) (ok := fun _ => True) (okp := fun _ => True) ?hr ?hp (fun _ hk => hk) trivial (Below.refl _ _) (Nat.le_refl _) (by simp) ?_; (case hd => rfl); (case hg => rfl); (case hr => first | (go_simp; done) | (go_simp; rfl)); (case hp => exact (Reps.none _ _)); intro v276 w10 ho11 hb hg_ hnew_; clear hg_ hnew_; (first | rw [← Ny275.out] at ho11 | (simp only [Int.reduceToNat] at ho11; rw [← Ny275.out] at ho11)); have n0_ := am (Kd.R_lower ho11 qZ); have n1_ := am (qS hb); clear HB; have HO277 := n0_; have HB := n1_; clear n0_ n1_; clear hb ho11)); go_loopg [6, 7, 8] kj2 (fun kq v6 v7 v8 w' => ∃ (x6_2 : List (S37)) (x7_2 : Int) (x8_2 : Int), v7 = .int .i64 x7_2 ∧ v8 = .int .i64 x8_2 ∧ Aside0 (spec_CurveThrough.l1 kq l0 x6_2 x7_2 x8_2 = some (r1, r2)) ∧ Aside0 (kq ≤ kj2) ∧ Aside0 (Kd.R k37 37 w' w.heap.size (fun _ => True) v6 x6_2) ∧ Aside0 (Below w.heap.size w w'))
     case atStart => exact ⟨(y275), (0), ((-200)), tr, tr, H', ⟨Nat.le_refl _⟩, ⟨by (with_reducible repeat (first | apply qra | apply qrn | apply qro)); exact HO277.out⟩, ⟨hB⟩⟩
     case round =>
      clear H'; (try clear c1); (try clear p2); (try clear q2); (try clear hx2); (try clear c4); (try clear c4b0); (try clear c5); (try clear c6); (try clear c6b0); (try clear p6); (try clear c9); (try clear hx270_0); (try clear hx270_1); (try clear p2); (try clear p270); (try clear p6); (try clear q2); (try clear q270); obtain ⟨x6_2, x7_2, x8_2, rfl, rfl, HA, HK2, HO_6, HB⟩ := hrel
      cases gk with
      | zero => exact absurd HA.out (by simp [spec_CurveThrough.l1])
      | succ k2 =>
       have H := HA.out; clear HA; simp only [spec_CurveThrough.l1] at H
       by_cases c12 : x8_2 ≤ 200
       · rw [if_pos c12] at H
         have c12b0 : decide (x8_2 ≤ 200) = true := decide_eq_true c12; clear c12; have H' := am H; clear H; go_wp2; go_loopg [9, 10, 11] k2 (fun kq v9 v10 v11 w' => ∃ (x9_3 : Int) (x10_3 : Int) (x11_3 : Int), v9 = .int .i64 x9_3 ∧ v10 = .int .i64 x10_3 ∧ v11 = .int .i64 x11_3 ∧ Aside0 (spec_CurveThrough.l2 kq l0 x6_2 x7_2 x8_2 x9_3 x10_3 x11_3 = some (r1, r2)) ∧ Aside0 (kq ≤ k2) ∧ Aside0 (Kd.R k37 37 w' w.heap.size (fun _ => True) u6 x6_2) ∧ Aside0 (Below w.heap.size w w'))
         case atStart => exact ⟨(0), (0), (0), tr, tr, tr, H', ⟨Nat.le_refl _⟩, ⟨by (with_reducible repeat (first | apply qra | apply qrn | apply qro)); exact HO_6.out⟩, ⟨hB⟩⟩
         case round =>
          clear H'; (try clear c1); (try clear p2); (try clear q2); (try clear hx2); (try clear c4); (try clear c4b0); (try clear c5); (try clear c6); (try clear c6b0); (try clear p6); (try clear c9); (try clear c12); (try clear c12b0); (try clear hx270_0); (try clear hx270_1); (try clear p2); (try clear p270); (try clear p6); (try clear q2); (try clear q270); obtain ⟨x9_3, x10_3, x11_3, rfl, rfl, rfl, HA, HK3, HO_6, HB⟩ := hrel
          cases gk with
          | zero => exact absurd HA.out (by simp [spec_CurveThrough.l2])
          | succ k3 =>
           have H := HA.out; clear HA; simp only [spec_CurveThrough.l2] at H
           by_cases c13 : x11_3 < (l0.length : Int)
           · rw [if_pos c13] at H
             have c13b0 : decide (x11_3 < (l0.length : Int)) = true := decide_eq_true c13; clear c13
             by_cases c14 : 0 ≤ x11_3
             · rw [if_pos c14] at H
               have c14b0 : decide (0 ≤ x11_3) = true := decide_eq_true c14; clear c14
               by_cases c15 : (wrap64 ((rd_T37 l0 x11_3).f0)) = x8_2
               · rw [if_pos c15] at H
                 have c15b0 : ((wrap64 ((rd_T37 l0 x11_3).f0)) == x8_2) = true := beq_iff_eq.mpr c15; have c15b1 : ((wrap64 ((rd_T37 l0 x11_3).f0)) != x8_2) = false := bne_eq_false_iff_eq.mpr c15; clear c15; have H' := am H; clear H; have p281 : 0 ≤ (x11_3 : Int) := od; have q281 : x11_3 < (l0.length : Int) := od; obtain ⟨ad281, e281, hx281_0, hx281_1⟩ := at_T37 HR0.out x11_3 p281 q281
                 cases e281
                 replace hx281_0 := (HB.out.cell (qwb w _ hx281_0)).trans hx281_0; replace hx281_1 := (HB.out.cell (qwb w _ hx281_1)).trans hx281_1; replace p281 := eq_true p281; replace q281 := eq_true q281; have p282 : 0 ≤ (x11_3 : Int) := od; have q282 : x11_3 < (l0.length : Int) := od; obtain ⟨ad282, e282, hx282_0, hx282_1⟩ := at_T37 HR0.out x11_3 p282 q282; obtain rfl : ad281 = ad282 := (by injection e282); replace hx282_0 := (HB.out.cell (qwb w _ hx282_0)).trans hx282_0; replace hx282_1 := (HB.out.cell (qwb w _ hx282_1)).trans hx282_1; replace p282 := eq_true p282; replace q282 := eq_true q282; go_wp2; go_roundg k3
                 case measure => have := HJ2.out; have := HK2.out; have := HK3.out; omega
                 case rel => exact ⟨(wrap64 (x9_3 + (wrap64 ((rd_T37 l0 x11_3).f1)))), (wrap64 (x10_3 + 1)), (wrap64 (x11_3 + 1)), tr, tr, tr, H', ⟨by have := HJ2.out; have := HK2.out; have := HK3.out; omega⟩, ⟨by (with_reducible repeat (first | apply qra | apply qrn | apply qro)); exact HO_6.out⟩, ⟨hB⟩⟩
               · rw [if_neg c15] at H
                 have c15b0 : ((wrap64 ((rd_T37 l0 x11_3).f0)) == x8_2) = false := beq_eq_false_iff_ne.mpr c15; have c15b1 : ((wrap64 ((rd_T37 l0 x11_3).f0)) != x8_2) = true := bne_iff_ne.mpr c15; have H' := am H; clear H; have p281 : 0 ≤ (x11_3 : Int) := od; have q281 : x11_3 < (l0.length : Int) := od; obtain ⟨ad281, e281, hx281_0, hx281_1⟩ := at_T37 HR0.out x11_3 p281 q281
                 cases e281
                 replace hx281_0 := (HB.out.cell (qwb w _ hx281_0)).trans hx281_0; replace hx281_1 := (HB.out.cell (qwb w _ hx281_1)).trans hx281_1; replace p281 := eq_true p281; replace q281 := eq_true q281; go_wp2; go_roundg k3
                 case measure => have := HJ2.out; have := HK2.out; have := HK3.out; omega
                 case rel => exact ⟨(x9_3), (x10_3), (wrap64 (x11_3 + 1)), tr, tr, tr, H', ⟨by have := HJ2.out; have := HK2.out; have := HK3.out; omega⟩, ⟨by (with_reducible repeat (first | apply qra | apply qrn | apply qro)); exact HO_6.out⟩, ⟨hB⟩⟩
             · rw [if_neg c14] at H
               exact absurd H (by simp)
           · rw [if_neg c13] at H
             have c13b0 : decide (x11_3 < (l0.length : Int)) = false := decide_eq_false c13; clear c13
             by_cases c16 : x10_3 > 0
             · rw [if_pos c16] at H
               have c16b0 : decide (0 < x10_3) = true := decide_eq_true c16; clear c16
               by_cases c17 : x10_3 = 0
               · rw [if_pos c17] at H
                 exact absurd H (by simp)
               · rw [if_neg c17] at H
                 have c17b0 : (x10_3 == 0) = false := beq_eq_false_iff_ne.mpr c17; have c17b1 : (x10_3 != 0) = true := bne_iff_ne.mpr c17; replace H := qob.mp H; obtain ⟨t283, A180, H⟩ := H; replace H : (if x6_2.length < 35184372088832 then (spec_CurveThrough.l1 k3 l0 (x6_2 ++ [(⟨IntKind.i16.wrap (x8_2), IntKind.i16.wrap (t283)⟩ : S37)]) t283 (wrap64 (x8_2 + 1))) else (none)) = some (r1, r2) := H; have A18 := am A180; clear A180
                 by_cases c19 : x6_2.length < 35184372088832
                 · rw [if_pos c19] at H
                   have LMc19 := am c19; clear c19; obtain ⟨y284, hy284⟩ : ∃ y_ : List (S37), y_ = (x6_2 ++ [(⟨IntKind.i16.wrap (x8_2), IntKind.i16.wrap (t283)⟩ : S37)]) := ⟨_, rfl⟩; (replace H : (spec_CurveThrough.l1 k3 l0 y284 t283 (wrap64 (x8_2 + 1))) = some (r1, r2) := by first | (rw [hy284]; with_reducible exact H) | (have H2_ := (Option.bind_some _ _).symm.trans H; rw [hy284]; with_reducible exact H2_) | (have H2_ := (Option.bind_some _ _).symm.trans H; with_reducible exact H2_) | with_reducible exact H | (rw [hy284]; exact H) | exact H); have Ny284 := am hy284; clear hy284; have H' := am H; clear H; go_wp2_with (first | ((with_reducible refine gate_callee (f := 48) rfl ?_); refine gl (some 67) rfl rfl Try.func48 #[.int .i64 x7_2, .int .i64 (wrap64 (Int.tdiv x9_3 x10_3))] rfl ?_; (with_reducible refine (spec_l00Max.calls x7_2 (wrap64 (Int.tdiv x9_3 x10_3)) t283 _ A18.out).mono ?_); rintro e w' ⟨rfl, ⟨nd, rfl⟩⟩; refine ⟨_, rfl, ?_⟩) | ((with_reducible refine gate_builtin (b := .append) (xs := #[.tmp 68, .tmp 74]) rfl ?_); at_builtin; refine Kd.R_append k37 (w0 := w) w.heap.size rfl (.tmp 68) (.tmp 74) 25 37 (.agg #[(.int .i16 0), (.int .i16 0)]) 4 rfl Try.underlying25 info37 rfl (by decide) (by omega) u6 x6_2 (⟨IntKind.i16.wrap (x8_2), IntKind.i16.wrap (t283)⟩ : S37) [.int .i16 (IntKind.i16.wrap (x8_2)), .int .i16 (IntKind.i16.wrap (t283))] (fun _ => True) (fun _ => False) rfl rfl ?aP (fun _ hk => hk.elim) ?aF ?aO ?aB ?aS ?aL ?_; (case aP => exact k37_mkM _ _ _ (⟨IntKind.i16.wrap (x8_2), IntKind.i16.wrap (t283)⟩ : S37)); (case aB => exact hB); (case aF => exact (fun _ _ => trivial)); (case aO => exact (by (with_reducible repeat (first | apply qra | apply qrn | apply qro)); exact HO_6.out)); (case aS => exact qZ); (case aL => have := LMc19.out; omega); intro v285 w20 ho hb hg hat; rw [← Ny284.out] at ho; have n0_ := am (hb); have n1_ := am (ho); clear HB; clear HO_6; have HB := n0_; have HO286 := n1_; clear n0_ n1_; clear ho hb hg hat)); go_roundg k3
                   case measure => have := HJ2.out; have := HK2.out; have := HK3.out; omega
                   case rel => exact ⟨(y284), (t283), (wrap64 (x8_2 + 1)), tr, tr, H', ⟨by have := HJ2.out; have := HK2.out; have := HK3.out; omega⟩, ⟨by (with_reducible repeat (first | apply qra | apply qrn | apply qro)); exact HO286.out⟩, ⟨hB⟩⟩
                 · rw [if_neg c19] at H
                   exact absurd H (by simp)
             · rw [if_neg c16] at H
               have c16b0 : decide (0 < x10_3) = false := decide_eq_false c16; clear c16; have H' := am H; clear H; go_wp2; go_roundg k3
               case measure => have := HJ2.out; have := HK2.out; have := HK3.out; omega
               case rel => exact ⟨(x6_2), (x7_2), (wrap64 (x8_2 + 1)), tr, tr, H', ⟨by have := HJ2.out; have := HK2.out; have := HK3.out; omega⟩, ⟨by (with_reducible repeat (first | apply qra | apply qrn | apply qro)); exact HO_6.out⟩, ⟨hB⟩⟩
       · rw [if_neg c12] at H
         have c12b0 : decide (x8_2 ≤ 200) = false := decide_eq_false c12; clear c12
         by_cases c21 : (x6_2.length : Int) > 12
         · rw [if_pos c21] at H
           have c21b0 : decide (12 < (x6_2.length : Int)) = true := decide_eq_true c21; have c21b1 : decide (12 < x6_2.length) = true := decide_eq_true (by omega); clear c21; obtain ⟨y278, hy278⟩ : ∃ y_ : List (S37), y_ = (([] : List (S37))) := ⟨_, rfl⟩; (replace H : (some (y278, 3)) = some (r1, r2) := by first | (rw [hy278]; with_reducible exact H) | (have H2_ := (Option.bind_some _ _).symm.trans H; rw [hy278]; with_reducible exact H2_) | (have H2_ := (Option.bind_some _ _).symm.trans H; with_reducible exact H2_) | with_reducible exact H | (rw [hy278]; exact H) | exact H); have Ny278 := am hy278; clear hy278; simp only [Option.some.injEq, Prod.mk.injEq] at H; obtain ⟨rfl, rfl⟩ := H; obtain ⟨Ao22, co22, eo22⟩ := Kd.R_slice HO_6.out; subst eo22; go_wp2_with (first | ((with_reducible refine gate_dst (N := 79) rfl ?_); refine Kd.R_lit k37 _ 37 ?hg (N := 79) ?hd (xs := ([] : List (S37))) (inner := []) (ok := fun _ => True) (okp := fun _ => True) ?hr ?hp (fun _ hk => hk) trivial (Below.refl _ _) (Nat.le_refl _) (by simp) ?_; (case hd => rfl); (case hg => rfl); (case hr => first | (go_simp; done) | (go_simp; rfl)); (case hp => exact (Reps.none _ _)); intro v279 w23 ho24 hb hg_ hnew_; clear hg_ hnew_; (first | rw [← Ny278.out] at ho24 | (simp only [Int.reduceToNat] at ho24; rw [← Ny278.out] at ho24)); have n0_ := am (Kd.R_elder' (by (with_reducible repeat (first | apply qra | apply qrn | apply qro)); exact HO_6.out) (Kd.R_base ho24) hb); have n1_ := am (Kd.R_lower (Kd.R_new' ho24 (Kd.R_lt (by (with_reducible repeat (first | apply qra | apply qrn | apply qro)); exact HO_6.out))) qZ); have n2_ := am (qS hb); clear HO_6; clear HB; have HO_6 := n0_; have HO280 := n1_; have HB := n2_; clear n0_ n1_ n2_; clear hb ho24)); go_ret2; exact ⟨_, te, by (with_reducible repeat (first | apply qra | apply qrn | apply qro)); exact Kd.R_mono HO280.out (fun _ hk => trivial), hB⟩
         · rw [if_neg c21] at H
           have c21b0 : decide (12 < (x6_2.length : Int)) = false := decide_eq_false c21; have c21b1 : decide (12 < x6_2.length) = false := decide_eq_false (by omega); clear c21; simp only [Option.some.injEq, Prod.mk.injEq] at H; obtain ⟨rfl, rfl⟩ := H; obtain ⟨Ao25, co25, eo25⟩ := Kd.R_slice HO_6.out; subst eo25; go_wp2; go_ret2; exact ⟨_, te, by (with_reducible repeat (first | apply qra | apply qrn | apply qro)); exact HO_6.out, hB⟩
   · replace c9 := Bool.eq_false_iff.mpr c9
     subst c9; (have H1 : (some ((([] : List (S37))), 2)) = some (r1, r2) := by rw [if_neg (show ¬ (false = true) by decide)] at H; exact H); clear H; have H := H1; clear H1; obtain ⟨y272, hy272⟩ : ∃ y_ : List (S37), y_ = (([] : List (S37))) := ⟨_, rfl⟩; (replace H : (some (y272, 2)) = some (r1, r2) := by first | (rw [hy272]; with_reducible exact H) | (have H2_ := (Option.bind_some _ _).symm.trans H; rw [hy272]; with_reducible exact H2_) | (have H2_ := (Option.bind_some _ _).symm.trans H; with_reducible exact H2_) | with_reducible exact H | (rw [hy272]; exact H) | exact H); have Ny272 := am hy272; clear hy272; simp only [Option.some.injEq, Prod.mk.injEq] at H; obtain ⟨rfl, rfl⟩ := H; go_wp2_with (first | ((with_reducible refine gate_dst (N := 31) rfl ?_); refine Kd.R_lit k37 _ 37 ?hg (N := 31) ?hd (xs := ([] : List (S37))) (inner := []) (ok := fun _ => True) (okp := fun _ => True) ?hr ?hp (fun _ hk => hk) trivial (Below.refl _ _) (Nat.le_refl _) (by simp) ?_; (case hd => rfl); (case hg => rfl); (case hr => first | (go_simp; done) | (go_simp; rfl)); (case hp => exact (Reps.none _ _)); intro v273 w26 ho27 hb hg_ hnew_; clear hg_ hnew_; (first | rw [← Ny272.out] at ho27 | (simp only [Int.reduceToNat] at ho27; rw [← Ny272.out] at ho27)); have n0_ := am (Kd.R_lower ho27 qZ); have n1_ := am (qS hb); clear HB; have HO274 := n0_; have HB := n1_; clear n0_ n1_; clear hb ho27)); go_ret2; exact ⟨_, te, by (with_reducible repeat (first | apply qra | apply qrn | apply qro)); exact HO274.out, hB⟩

-- NOT PRINTED: function 50 (impl_StretchCurve_1)


/-! ### impl_StretchCurve: function 19 -/
def impl_StretchCurve.ch (a1 a2 x y : Int) : Option (Int × Int) := if a2 = 0 then none else some (x, wrap64 (Int.tdiv (wrap64 (y * a1)) a2))
def impl_StretchCurve.f (k : Nat) (l0 : List (S37)) (a1 a2 : Int) : Option ((List (S37)) × Int) := (impl_within.f a1 0 100).bind fun t => (if t = true then impl_within.f a2 1 100 else some false).bind fun u => impl_changed.f k l0 u (impl_StretchCurve.ch a1 a2)
theorem impl_StretchCurve.mono : ∀ l0 a1 a2 k, LeO (impl_StretchCurve.f k l0 a1 a2) (impl_StretchCurve.f (k + 1) l0 a1 a2) := by
 intro l0 a1 a2 k r h
 unfold impl_StretchCurve.f at h ⊢
 obtain ⟨t, e0, h⟩ := qob.mp h
 obtain ⟨u, e1, h⟩ := qob.mp h
 exact qob.mpr ⟨t, e0, qob.mpr ⟨u, e1, impl_changed.mono _ _ _ k _ h⟩⟩
theorem impl_StretchCurve.cells (w : World) (c0 c1 : Value) (n : Nat) : w.heap.size < (((w.alloc (Obj.cells #[c0] 2)).alloc (Obj.cells #[c1] 2)).drewN n).heap.size ∧ w.heap.size + 1 < (((w.alloc (Obj.cells #[c0] 2)).alloc (Obj.cells #[c1] 2)).drewN n).heap.size ∧ (((w.alloc (Obj.cells #[c0] 2)).alloc (Obj.cells #[c1] 2)).drewN n).cell? ⟨w.heap.size, 0, none⟩ = some c0 ∧ (((w.alloc (Obj.cells #[c0] 2)).alloc (Obj.cells #[c1] 2)).drewN n).cell? ⟨(w.heap.size + 1), 0, none⟩ = some c1 := by
 refine ⟨?_, ?_, ?_, ?_⟩
 · show w.heap.size < (((w.heap.push _).push _)).size
   rw [Array.size_push, Array.size_push]; omega
 · show (w.heap.size + 1) < (((w.heap.push _).push _)).size
   rw [Array.size_push, Array.size_push]; omega
 · simp
 · simp
theorem impl_StretchCurve.chcalls (a1 a2 x y s1 s2 : Int) (gf0 gf1 : Nat) (w : World) (h0 : w.cell? ⟨gf0, 0, none⟩ = some (.int .i64 a1)) (h1 : w.cell? ⟨gf1, 0, none⟩ = some (.int .i64 a2)) (h : impl_StretchCurve.ch a1 a2 x y = some (s1, s2)) :
 Calls Try.prog 50 #[.int .i64 x, .int .i64 y, .pointer (some ⟨gf0, 0, none⟩), .pointer (some ⟨gf1, 0, none⟩)] w fun e w' => e = .returned (.tuple #[.int .i64 s1, .int .i64 s2]) ∧ Drawn0 w w' := by
 unfold impl_StretchCurve.ch at h
 by_cases z : a2 = 0
 · rw [if_pos z] at h
   exact absurd h (by simp)
 rw [if_neg z] at h
 simp only [Option.some.injEq, Prod.mk.injEq] at h
 obtain ⟨rfl, rfl⟩ := h
 have z0 : (a2 == 0) = false := beq_eq_false_iff_ne.mpr z
 have z1 : (a2 != 0) = true := bne_iff_ne.mpr z
 go_enter Try.func50, Try.ntmps50
 go_wp2
 try go_region
 all_goals (try go_wp2)
 all_goals go_ret2
 all_goals exact ⟨rfl, dr⟩
theorem impl_StretchCurve.calls (k : Nat) (A0 : Option Addr) (c0 : Nat) (l0 : List (S37)) (a1 a2 : Int) (r1 : List (S37)) (r2 : Int) (w : World) (hr0 : Kd.C k37 w A0 l0.length l0) (hc0 : l0.length ≤ c0) (h : impl_StretchCurve.f k l0 a1 a2 = some (r1, r2)) :
 Calls Try.prog 19 #[.slice A0 l0.length c0, .int .i64 a1, .int .i64 a2] w fun e w' => ∃ v0_ : Value, e = .returned (.tuple #[v0_, .int .i64 r2]) ∧ Kd.R k37 37 w' w.heap.size (fun _ => True) v0_ r1 ∧ Below w.heap.size w w' := by
 unfold impl_StretchCurve.f at h
 obtain ⟨t, e0, h1⟩ := qob.mp h
 obtain ⟨u, e1, h2⟩ := qob.mp h1
 clear h h1
 have HR0 := am hr0
 have HC0 := am hc0
 clear hr0 hc0
 have HB := am (Below.refl w.heap.size w)
 cases t with
 | true =>
  rw [if_pos rfl] at e1; have E0 := am e0; have E1 := am e1; have H := am h2; clear e0 e1 h2; go_enter Try.func19, Try.ntmps19; go_wp2_with (first | (go_at_call 40; (with_reducible refine (impl_within.calls a1 0 100 true _ E0.out).mono ?_); rintro e w' ⟨rfl, ⟨nd, rfl⟩⟩) | (go_at_call 40; (with_reducible refine (impl_within.calls a2 1 100 u _ E1.out).mono ?_); rintro e w' ⟨rfl, ⟨nd, rfl⟩⟩) | (go_at_call 28; (refine (impl_changed.calls50 k _ _ l0 u (impl_StretchCurve.ch a1 a2) r1 r2 _ ?side1 ?side2 w.heap.size (w.heap.size + 1) ?side3 H.out).mono ?_); (case side1 => repeat (first | exact HR0.out | (with_reducible first | refine qca ?_ _ | refine qcn ?_ _ | refine qco ?_))); (case side2 => exact HC0.out); (case side3 => exact fun x y s1 s2 w' hb hc => impl_StretchCurve.chcalls a1 a2 x y s1 s2 _ _ w' ((hb.cell (impl_StretchCurve.cells w _ _ _).1).trans (impl_StretchCurve.cells w _ _ _).2.2.1) ((hb.cell (impl_StretchCurve.cells w _ _ _).2.1).trans (impl_StretchCurve.cells w _ _ _).2.2.2) hc); rintro e w7 ⟨v5, rfl, ho, hb⟩; have n0_ := am (Kd.R_lower ho qZ); have n1_ := am (qS hb); clear HB; have HO := n0_; have HB := n1_; clear n0_ n1_; clear hb ho)); go_ret2; exact ⟨_, rfl, HO.out, hB⟩
 | false =>
  rw [if_neg (by decide)] at e1; obtain rfl := Option.some.inj e1; have E0 := am e0; have H := am h2; clear e0 e1 h2; go_enter Try.func19, Try.ntmps19; go_wp2_with (first | (go_at_call 40; (with_reducible refine (impl_within.calls a1 0 100 false _ E0.out).mono ?_); rintro e w' ⟨rfl, ⟨nd, rfl⟩⟩) | (go_at_call 28; (refine (impl_changed.calls50 k _ _ l0 false (impl_StretchCurve.ch a1 a2) r1 r2 _ ?side1 ?side2 w.heap.size (w.heap.size + 1) ?side3 H.out).mono ?_); (case side1 => repeat (first | exact HR0.out | (with_reducible first | refine qca ?_ _ | refine qcn ?_ _ | refine qco ?_))); (case side2 => exact HC0.out); (case side3 => exact fun x y s1 s2 w' hb hc => impl_StretchCurve.chcalls a1 a2 x y s1 s2 _ _ w' ((hb.cell (impl_StretchCurve.cells w _ _ _).1).trans (impl_StretchCurve.cells w _ _ _).2.2.1) ((hb.cell (impl_StretchCurve.cells w _ _ _).2.1).trans (impl_StretchCurve.cells w _ _ _).2.2.2) hc); rintro e w7 ⟨v5, rfl, ho, hb⟩; have n0_ := am (Kd.R_lower ho qZ); have n1_ := am (qS hb); clear HB; have HO := n0_; have HB := n1_; clear n0_ n1_; clear hb ho)); go_ret2; exact ⟨_, rfl, HO.out, hB⟩

/-! ### spec_StretchCurve: function 20 -/
mutual
def spec_StretchCurve.j0 : Nat → List (S37) → Int → Int → Bool → Option ((List (S37)) × Int)
 | 0, _, _, _, _ => none
 | k + 1, x0, x1, x2, x22 => if x22 = true then (some ((([] : List (S37))), 2)) else (spec_StretchCurve.l0 k x0 x1 x2 (([] : List (S37))) 0)
def spec_StretchCurve.l0 : Nat → List (S37) → Int → Int → List (S37) → Int → Option ((List (S37)) × Int)
 | 0, _, _, _, _, _ => none
 | k + 1, x0, x1, x2, x8, x9 => if x9 < (x0.length : Int) then (if 0 ≤ x9 then (if x2 = 0 then (none) else ((spec_l02Density.f (wrap64 (Int.tdiv (wrap64 ((wrap64 ((rd_T37 x0 x9).f1)) * x1)) x2))).bind fun t300 => (if t300 = true then (if x8.length < 35184372088832 then (spec_StretchCurve.l0 k x0 x1 x2 (x8 ++ [(⟨(rd_T37 x0 x9).f0, IntKind.i16.wrap (wrap64 (Int.tdiv (wrap64 ((wrap64 ((rd_T37 x0 x9).f1)) * x1)) x2))⟩ : S37)]) (wrap64 (x9 + 1))) else (none)) else (some ((([] : List (S37))), 4))))) else (none)) else (some (x8, 0))
end
def spec_StretchCurve.f (k : Nat) (l0 : List (S37)) (a1 : Int) (a2 : Int) : Option ((List (S37)) × Int) := (spec_l02Ok.f k l0).bind fun t287 => (if t287 = true then ((spec_l00In.f a1 0 100).bind fun t291 => (if t291 = true then ((spec_l00In.f a2 1 100).bind fun t292 => (spec_StretchCurve.j0 k l0 a1 a2 (!t292))) else (spec_StretchCurve.j0 k l0 a1 a2 true))) else (some ((([] : List (S37))), 1)))
theorem spec_StretchCurve.mono_l : ∀ k, (∀ y0 y1 y2 y3, LeO (spec_StretchCurve.j0 k y0 y1 y2 y3) (spec_StretchCurve.j0 (k + 1) y0 y1 y2 y3)) ∧ (∀ y0 y1 y2 y3 y4, LeO (spec_StretchCurve.l0 k y0 y1 y2 y3 y4) (spec_StretchCurve.l0 (k + 1) y0 y1 y2 y3 y4))
 | 0 => ⟨fun _ _ _ _ r h => by simp [spec_StretchCurve.j0] at h, fun _ _ _ _ _ r h => by simp [spec_StretchCurve.l0] at h⟩
 | k + 1 => by
  obtain ⟨ih0, ih1⟩ := spec_StretchCurve.mono_l k; refine ⟨?_, ?_⟩; intro y0 y1 y2 y3; unfold spec_StretchCurve.j0; rotate_left; intro y0 y1 y2 y3 y4; unfold spec_StretchCurve.l0; rotate_left
  all_goals repeat' first | (with_reducible first | exact ih0 _ _ _ _ | exact ih1 _ _ _ _ _ | exact spec_l02Ok.mono _ _ | exact LeO.refl _ | exact LeO.none _ | refine LeO.ite ?_ ?_ | refine LeO.bind ?_ (fun _ => ?_)) | exact ih0 _ _ _ _ | exact ih1 _ _ _ _ _ | exact spec_l02Ok.mono _ _ | exact LeO.none _ | refine LeO.ite ?_ ?_ | refine LeO.bind ?_ (fun _ => ?_)
theorem spec_StretchCurve.mono : ∀ a0 a1 a2 k, LeO (spec_StretchCurve.f k a0 a1 a2) (spec_StretchCurve.f (k + 1) a0 a1 a2) := by
 intro a0 a1 a2 k
 obtain ⟨ih0, ih1⟩ := spec_StretchCurve.mono_l k
 unfold spec_StretchCurve.f
 repeat' first | (with_reducible first | exact ih0 _ _ _ _ | exact ih1 _ _ _ _ _ | exact spec_l02Ok.mono _ _ | exact LeO.refl _ | exact LeO.none _ | refine LeO.ite ?_ ?_ | refine LeO.bind ?_ (fun _ => ?_)) | exact ih0 _ _ _ _ | exact ih1 _ _ _ _ _ | exact spec_l02Ok.mono _ _ | exact LeO.none _ | refine LeO.ite ?_ ?_ | refine LeO.bind ?_ (fun _ => ?_)
theorem spec_StretchCurve.calls (k : Nat) (A0 : Option Addr) (c0 : Nat) (l0 : List (S37)) (a1 : Int) (a2 : Int) (r1 : List (S37)) (r2 : Int) (w : World) (hr0 : Kd.C k37 w A0 l0.length l0) (hc0 : l0.length ≤ c0) (h : spec_StretchCurve.f k l0 a1 a2 = some (r1, r2)) :
 Calls Try.prog 20 #[.slice A0 l0.length c0, .int .i64 a1, .int .i64 a2] w fun e w' => ∃ v0_ : Value, e = .returned (.tuple #[v0_, .int .i64 r2]) ∧ Kd.R k37 37 w' w.heap.size (fun _ => True) v0_ r1 ∧ Below w.heap.size w w' := by
 have hu37 := Try.underlying37
 have HR0 := am hr0
 have HC0 := am hc0
 clear hr0 hc0
 have HB := am (Below.refl w.heap.size w)
 have H : ((spec_l02Ok.f k l0).bind fun t287 => (if t287 = true then ((spec_l00In.f a1 0 100).bind fun t291 => (if t291 = true then ((spec_l00In.f a2 1 100).bind fun t292 => (spec_StretchCurve.j0 k l0 a1 a2 (!t292))) else (spec_StretchCurve.j0 k l0 a1 a2 true))) else (some ((([] : List (S37))), 1)))) = some (r1, r2) := h
 clear h
 replace H := qob.mp H
 obtain ⟨t287, A40, H⟩ := H
 replace H : (if t287 = true then ((spec_l00In.f a1 0 100).bind fun t291 => (if t291 = true then ((spec_l00In.f a2 1 100).bind fun t292 => (spec_StretchCurve.j0 k l0 a1 a2 (!t292))) else (spec_StretchCurve.j0 k l0 a1 a2 true))) else (some ((([] : List (S37))), 1))) = some (r1, r2) := H
 have A4 := am A40
 clear A40
 by_cases c5 : t287 = true
 · subst c5
   (have H1 : ((spec_l00In.f a1 0 100).bind fun t291 => (if t291 = true then ((spec_l00In.f a2 1 100).bind fun t292 => (spec_StretchCurve.j0 k l0 a1 a2 (!t292))) else (spec_StretchCurve.j0 k l0 a1 a2 true))) = some (r1, r2) := by rw [if_pos rfl] at H; exact H); clear H; have H := H1; clear H1; have HC6 := am H; clear H; go_enter Try.func20, Try.ntmps20; go_upto_region 3 with (first | ((with_reducible refine gate_callee (f := 51) rfl ?_); refine gl (some 12) rfl rfl Try.func51 #[.slice A0 l0.length c0] rfl ?_; (with_reducible refine (spec_l02Ok.calls k _ _ l0 true _ ?side1 ?side2 A4.out).mono ?_); (case side1 => repeat (first | exact HR0.out | (with_reducible first | refine qca ?_ _ | refine qcn ?_ _ | refine qco ?_))); (case side2 => exact HC0.out); rintro e w7 ⟨rfl, hb⟩; refine ⟨_, rfl, ?_⟩; have n0_ := am (qS hb); clear HB; have HB := n0_; clear n0_; (try clear hb))); (try simp only [Act.put, sqA, sqZ, sqS]); go_cut [22] (fun v22 wc => ∃ (kq : Nat) (x22_5 : Bool), v22 = .bool x22_5 ∧ Aside0 (spec_StretchCurve.j0 kq l0 a1 a2 x22_5 = some (r1, r2)) ∧ Aside0 (kq ≤ k) ∧ Aside0 (Below w.heap.size w wc))
   case first =>
    have H := HC6.out; clear HC6; replace H := qob.mp H; obtain ⟨t291, A80, H⟩ := H; replace H : (if t291 = true then ((spec_l00In.f a2 1 100).bind fun t292 => (spec_StretchCurve.j0 k l0 a1 a2 (!t292))) else (spec_StretchCurve.j0 k l0 a1 a2 true)) = some (r1, r2) := H; have A8 := am A80; clear A80
    by_cases c9 : t291 = true
    · subst c9
      (have H1 : ((spec_l00In.f a2 1 100).bind fun t292 => (spec_StretchCurve.j0 k l0 a1 a2 (!t292))) = some (r1, r2) := by rw [if_pos rfl] at H; exact H); clear H; have H := H1; clear H1; replace H := qob.mp H; obtain ⟨t292, A100, H⟩ := H; replace H : (spec_StretchCurve.j0 k l0 a1 a2 (!t292)) = some (r1, r2) := H; have A10 := am A100; clear A100; have H' := am H; clear H; go_wp2_with (first | ((with_reducible refine gate_callee (f := 46) rfl ?_); refine gl (some 16) rfl rfl Try.func46 #[.int .i64 a1, .int .i64 0, .int .i64 100] rfl ?_; (with_reducible refine (spec_l00In.calls a1 0 100 true _ A8.out).mono ?_); rintro e w' ⟨rfl, ⟨nd, rfl⟩⟩; refine ⟨_, rfl, ?_⟩) | (go_at_call 46; (with_reducible refine (spec_l00In.calls a2 1 100 t292 _ A10.out).mono ?_); rintro e w' ⟨rfl, ⟨nd, rfl⟩⟩)); go_meet
      case rel => exact ⟨_, (!t292), tr, H', ⟨by first | omega | exact Nat.le_refl _⟩, ⟨hB⟩⟩
    · replace c9 := Bool.eq_false_iff.mpr c9
      subst c9; (have H1 : (spec_StretchCurve.j0 k l0 a1 a2 true) = some (r1, r2) := by rw [if_neg (show ¬ (false = true) by decide)] at H; exact H); clear H; have H := H1; clear H1; have H' := am H; clear H; go_wp2_with (first | ((with_reducible refine gate_callee (f := 46) rfl ?_); refine gl (some 16) rfl rfl Try.func46 #[.int .i64 a1, .int .i64 0, .int .i64 100] rfl ?_; (with_reducible refine (spec_l00In.calls a1 0 100 false _ A8.out).mono ?_); rintro e w' ⟨rfl, ⟨nd, rfl⟩⟩; refine ⟨_, rfl, ?_⟩)); go_meet
      case rel => exact ⟨_, (true), tr, H', ⟨by first | omega | exact Nat.le_refl _⟩, ⟨hB⟩⟩
   case rest => as_aux_lemma =>
    clear HC6; (try clear c2); (try clear p2); (try clear c4); (try clear c5); (try clear c9); obtain ⟨kq, x22_5, rfl, HA, HJ5, HB⟩ := hcut
    cases kq with
    | zero => exact absurd HA.out (by simp [spec_StretchCurve.j0])
    | succ kj5 =>
     have H := HA.out; clear HA; simp only [spec_StretchCurve.j0] at H
     by_cases c11 : x22_5 = true
     · subst c11
       (have H1 : (some ((([] : List (S37))), 2)) = some (r1, r2) := by rw [if_pos rfl] at H; exact H); clear H; have H := H1; clear H1; obtain ⟨y293, hy293⟩ : ∃ y_ : List (S37), y_ = (([] : List (S37))) := ⟨_, rfl⟩; (replace H : (some (y293, 2)) = some (r1, r2) := by first | (rw [hy293]; with_reducible exact H) | (have H2_ := (Option.bind_some _ _).symm.trans H; rw [hy293]; with_reducible exact H2_) | (have H2_ := (Option.bind_some _ _).symm.trans H; with_reducible exact H2_) | with_reducible exact H | (rw [hy293]; exact H) | exact H); have Ny293 := am hy293; clear hy293; simp only [Option.some.injEq, Prod.mk.injEq] at H; obtain ⟨rfl, rfl⟩ := H; go_wp2_with (first | ((with_reducible refine gate_dst (N := 23) rfl ?_); refine Kd.R_lit k37 _ 37 ?hg (N := 23) ?hd (xs := ([] : List (S37))) (inner := []) (ok := fun _ => True) (okp := fun _ => True) ?hr ?hp (fun _ hk => hk) trivial (Below.refl _ _) (Nat.le_refl _) (by simp) ?_; (case hd => rfl); (case hg => rfl); (case hr => first | (go_simp; done) | (go_simp; rfl)); (case hp => exact (Reps.none _ _)); intro v294 w12 ho13 hb hg_ hnew_; clear hg_ hnew_; (first | rw [← Ny293.out] at ho13 | (simp only [Int.reduceToNat] at ho13; rw [← Ny293.out] at ho13)); have n0_ := am (Kd.R_lower ho13 qZ); have n1_ := am (qS hb); clear HB; have HO295 := n0_; have HB := n1_; clear n0_ n1_; clear hb ho13)); go_ret2; exact ⟨_, te, by (with_reducible repeat (first | apply qra | apply qrn | apply qro)); exact HO295.out, hB⟩
     · replace c11 := Bool.eq_false_iff.mpr c11
       subst c11; (have H1 : (spec_StretchCurve.l0 kj5 l0 a1 a2 (([] : List (S37))) 0) = some (r1, r2) := by rw [if_neg (show ¬ (false = true) by decide)] at H; exact H); clear H; have H := H1; clear H1; obtain ⟨y296, hy296⟩ : ∃ y_ : List (S37), y_ = (([] : List (S37))) := ⟨_, rfl⟩; (replace H : (spec_StretchCurve.l0 kj5 l0 a1 a2 y296 0) = some (r1, r2) := by first | (rw [hy296]; with_reducible exact H) | (have H2_ := (Option.bind_some _ _).symm.trans H; rw [hy296]; with_reducible exact H2_) | (have H2_ := (Option.bind_some _ _).symm.trans H; with_reducible exact H2_) | with_reducible exact H | (rw [hy296]; exact H) | exact H); have Ny296 := am hy296; clear hy296; have H' := am H; clear H; go_wp2_with (first | ((with_reducible refine gate_dst (N := 24) rfl ?_); refine Kd.R_lit k37 _ 37 ?hg (N := 24) ?hd (xs := ([] : List (S37))) (inner := []) (ok := fun _ => True) (okp := fun _ => True) ?hr ?hp (fun _ hk => hk) trivial (Below.refl _ _) (Nat.le_refl _) (by simp) ?_; (case hd => rfl); (case hg => rfl); (case hr => first | (go_simp; done) | (go_simp; rfl)); (case hp => exact (Reps.none _ _)); intro v297 w14 ho15 hb hg_ hnew_; clear hg_ hnew_; (first | rw [← Ny296.out] at ho15 | (simp only [Int.reduceToNat] at ho15; rw [← Ny296.out] at ho15)); have n0_ := am (Kd.R_lower ho15 qZ); have n1_ := am (qS hb); clear HB; have HO298 := n0_; have HB := n1_; clear n0_ n1_; clear hb ho15)); go_loopg [8, 9] kj5 (fun kq v8 v9 w' => ∃ (x8_2 : List (S37)) (x9_2 : Int), v9 = .int .i64 x9_2 ∧ Aside0 (spec_StretchCurve.l0 kq l0 a1 a2 x8_2 x9_2 = some (r1, r2)) ∧ Aside0 (kq ≤ kj5) ∧ Aside0 (Kd.R k37 37 w' w.heap.size (fun _ => True) v8 x8_2) ∧ Aside0 (Below w.heap.size w w'))
       case atStart => exact ⟨(y296), (0), tr, H', ⟨Nat.le_refl _⟩, ⟨by (with_reducible repeat (first | apply qra | apply qrn | apply qro)); exact HO298.out⟩, ⟨hB⟩⟩
       case round =>
        clear H'; (try clear c1); (try clear c2); (try clear p2); (try clear c4); (try clear c5); (try clear c9); (try clear c11); (try clear p2); obtain ⟨x8_2, x9_2, rfl, HA, HK2, HO_8, HB⟩ := hrel
        cases gk with
        | zero => exact absurd HA.out (by simp [spec_StretchCurve.l0])
        | succ k2 =>
         have H := HA.out; clear HA; simp only [spec_StretchCurve.l0] at H
         by_cases c16 : x9_2 < (l0.length : Int)
         · rw [if_pos c16] at H
           have c16b0 : decide (x9_2 < (l0.length : Int)) = true := decide_eq_true c16; clear c16
           by_cases c17 : 0 ≤ x9_2
           · rw [if_pos c17] at H
             have c17b0 : decide (0 ≤ x9_2) = true := decide_eq_true c17; clear c17
             by_cases c18 : a2 = 0
             · rw [if_pos c18] at H
               exact absurd H (by simp)
             · rw [if_neg c18] at H
               have c18b0 : (a2 == 0) = false := beq_eq_false_iff_ne.mpr c18; have c18b1 : (a2 != 0) = true := bne_iff_ne.mpr c18; replace H := qob.mp H; obtain ⟨t300, A190, H⟩ := H; replace H : (if t300 = true then (if x8_2.length < 35184372088832 then (spec_StretchCurve.l0 k2 l0 a1 a2 (x8_2 ++ [(⟨(rd_T37 l0 x9_2).f0, IntKind.i16.wrap (wrap64 (Int.tdiv (wrap64 ((wrap64 ((rd_T37 l0 x9_2).f1)) * a1)) a2))⟩ : S37)]) (wrap64 (x9_2 + 1))) else (none)) else (some ((([] : List (S37))), 4))) = some (r1, r2) := H; have A19 := am A190; clear A190
               by_cases c20 : t300 = true
               · subst c20
                 (have H1 : (if x8_2.length < 35184372088832 then (spec_StretchCurve.l0 k2 l0 a1 a2 (x8_2 ++ [(⟨(rd_T37 l0 x9_2).f0, IntKind.i16.wrap (wrap64 (Int.tdiv (wrap64 ((wrap64 ((rd_T37 l0 x9_2).f1)) * a1)) a2))⟩ : S37)]) (wrap64 (x9_2 + 1))) else (none)) = some (r1, r2) := by rw [if_pos rfl] at H; exact H); clear H; have H := H1; clear H1
                 by_cases c21 : x8_2.length < 35184372088832
                 · rw [if_pos c21] at H
                   have LMc21 := am c21; clear c21; obtain ⟨y302, hy302⟩ : ∃ y_ : List (S37), y_ = (x8_2 ++ [(⟨(rd_T37 l0 x9_2).f0, IntKind.i16.wrap (wrap64 (Int.tdiv (wrap64 ((wrap64 ((rd_T37 l0 x9_2).f1)) * a1)) a2))⟩ : S37)]) := ⟨_, rfl⟩; (replace H : (spec_StretchCurve.l0 k2 l0 a1 a2 y302 (wrap64 (x9_2 + 1))) = some (r1, r2) := by first | (rw [hy302]; with_reducible exact H) | (have H2_ := (Option.bind_some _ _).symm.trans H; rw [hy302]; with_reducible exact H2_) | (have H2_ := (Option.bind_some _ _).symm.trans H; with_reducible exact H2_) | with_reducible exact H | (rw [hy302]; exact H) | exact H); have Ny302 := am hy302; clear hy302; have H' := am H; clear H; have p299 : 0 ≤ (x9_2 : Int) := od; have q299 : x9_2 < (l0.length : Int) := od; obtain ⟨ad299, e299, hx299_0, hx299_1⟩ := at_T37 HR0.out x9_2 p299 q299
                   cases e299
                   replace hx299_0 := (HB.out.cell (qwb w _ hx299_0)).trans hx299_0; replace hx299_1 := (HB.out.cell (qwb w _ hx299_1)).trans hx299_1; replace p299 := eq_true p299; replace q299 := eq_true q299; have p301 : 0 ≤ (x9_2 : Int) := od; have q301 : x9_2 < (l0.length : Int) := od; obtain ⟨ad301, e301, hx301_0, hx301_1⟩ := at_T37 HR0.out x9_2 p301 q301; obtain rfl : ad299 = ad301 := (by injection e301); replace hx301_0 := (HB.out.cell (qwb w _ hx301_0)).trans hx301_0; replace hx301_1 := (HB.out.cell (qwb w _ hx301_1)).trans hx301_1; replace p301 := eq_true p301; replace q301 := eq_true q301; go_wp2_with (first | ((with_reducible refine gate_callee (f := 52) rfl ?_); refine gl (some 42) rfl rfl Try.func52 #[.int .i64 (wrap64 (Int.tdiv (wrap64 ((wrap64 ((rd_T37 l0 x9_2).f1)) * a1)) a2))] rfl ?_; (with_reducible refine (spec_l02Density.calls (wrap64 (Int.tdiv (wrap64 ((wrap64 ((rd_T37 l0 x9_2).f1)) * a1)) a2)) true _ A19.out).mono ?_); rintro e w' ⟨rfl, ⟨nd, rfl⟩⟩; refine ⟨_, rfl, ?_⟩) | ((with_reducible refine gate_builtin (b := .append) (xs := #[.tmp 45, .tmp 54]) rfl ?_); at_builtin; refine Kd.R_append k37 (w0 := w) w.heap.size rfl (.tmp 45) (.tmp 54) 25 37 (.agg #[(.int .i16 0), (.int .i16 0)]) 4 rfl Try.underlying25 info37 rfl (by decide) (by omega) u8 x8_2 (⟨(rd_T37 l0 x9_2).f0, IntKind.i16.wrap (wrap64 (Int.tdiv (wrap64 ((wrap64 ((rd_T37 l0 x9_2).f1)) * a1)) a2))⟩ : S37) [.int .i16 ((rd_T37 l0 x9_2).f0), .int .i16 (IntKind.i16.wrap (wrap64 (Int.tdiv (wrap64 ((wrap64 ((rd_T37 l0 x9_2).f1)) * a1)) a2)))] (fun _ => True) (fun _ => False) rfl rfl ?aP (fun _ hk => hk.elim) ?aF ?aO ?aB ?aS ?aL ?_; (case aP => exact k37_mkM _ _ _ (⟨(rd_T37 l0 x9_2).f0, IntKind.i16.wrap (wrap64 (Int.tdiv (wrap64 ((wrap64 ((rd_T37 l0 x9_2).f1)) * a1)) a2))⟩ : S37)); (case aB => exact hB); (case aF => exact (fun _ _ => trivial)); (case aO => exact (by (with_reducible repeat (first | apply qra | apply qrn | apply qro)); exact HO_8.out)); (case aS => exact qZ); (case aL => have := LMc21.out; omega); intro v303 w22 ho hb hg hat; rw [← Ny302.out] at ho; have n0_ := am (hb); have n1_ := am (ho); clear HB; clear HO_8; have HB := n0_; have HO304 := n1_; clear n0_ n1_; clear ho hb hg hat)); go_roundg k2
                   case measure => have := HJ5.out; have := HK2.out; omega
                   case rel => exact ⟨(y302), (wrap64 (x9_2 + 1)), tr, H', ⟨by have := HJ5.out; have := HK2.out; omega⟩, ⟨by (with_reducible repeat (first | apply qra | apply qrn | apply qro)); exact HO304.out⟩, ⟨hB⟩⟩
                 · rw [if_neg c21] at H
                   exact absurd H (by simp)
               · replace c20 := Bool.eq_false_iff.mpr c20
                 subst c20; (have H1 : (some ((([] : List (S37))), 4)) = some (r1, r2) := by rw [if_neg (show ¬ (false = true) by decide)] at H; exact H); clear H; have H := H1; clear H1; obtain ⟨y305, hy305⟩ : ∃ y_ : List (S37), y_ = (([] : List (S37))) := ⟨_, rfl⟩; (replace H : (some (y305, 4)) = some (r1, r2) := by first | (rw [hy305]; with_reducible exact H) | (have H2_ := (Option.bind_some _ _).symm.trans H; rw [hy305]; with_reducible exact H2_) | (have H2_ := (Option.bind_some _ _).symm.trans H; with_reducible exact H2_) | with_reducible exact H | (rw [hy305]; exact H) | exact H); have Ny305 := am hy305; clear hy305; simp only [Option.some.injEq, Prod.mk.injEq] at H; obtain ⟨rfl, rfl⟩ := H; have p299 : 0 ≤ (x9_2 : Int) := od; have q299 : x9_2 < (l0.length : Int) := od; obtain ⟨ad299, e299, hx299_0, hx299_1⟩ := at_T37 HR0.out x9_2 p299 q299
                 cases e299
                 replace hx299_0 := (HB.out.cell (qwb w _ hx299_0)).trans hx299_0; replace hx299_1 := (HB.out.cell (qwb w _ hx299_1)).trans hx299_1; replace p299 := eq_true p299; replace q299 := eq_true q299; go_wp2_with (first | ((with_reducible refine gate_callee (f := 52) rfl ?_); refine gl (some 42) rfl rfl Try.func52 #[.int .i64 (wrap64 (Int.tdiv (wrap64 ((wrap64 ((rd_T37 l0 x9_2).f1)) * a1)) a2))] rfl ?_; (with_reducible refine (spec_l02Density.calls (wrap64 (Int.tdiv (wrap64 ((wrap64 ((rd_T37 l0 x9_2).f1)) * a1)) a2)) false _ A19.out).mono ?_); rintro e w' ⟨rfl, ⟨nd, rfl⟩⟩; refine ⟨_, rfl, ?_⟩) | ((with_reducible refine gate_dst (N := 44) rfl ?_); refine Kd.R_lit k37 _ 37 ?hg (N := 44) ?hd (xs := ([] : List (S37))) (inner := []) (ok := fun _ => True) (okp := fun _ => True) ?hr ?hp (fun _ hk => hk) trivial (Below.refl _ _) (Nat.le_refl _) (by simp) ?_; (case hd => rfl); (case hg => rfl); (case hr => first | (go_simp; done) | (go_simp; rfl)); (case hp => exact (Reps.none _ _)); intro v306 w23 ho24 hb hg_ hnew_; clear hg_ hnew_; (first | rw [← Ny305.out] at ho24 | (simp only [Int.reduceToNat] at ho24; rw [← Ny305.out] at ho24)); have n0_ := am (Kd.R_elder' (by (with_reducible repeat (first | apply qra | apply qrn | apply qro)); exact HO_8.out) (Kd.R_base ho24) hb); have n1_ := am (Kd.R_lower (Kd.R_new' ho24 (Kd.R_lt (by (with_reducible repeat (first | apply qra | apply qrn | apply qro)); exact HO_8.out))) qZ); have n2_ := am (qS hb); clear HO_8; clear HB; have HO_8 := n0_; have HO307 := n1_; have HB := n2_; clear n0_ n1_ n2_; clear hb ho24)); go_ret2; exact ⟨_, te, by (with_reducible repeat (first | apply qra | apply qrn | apply qro)); exact Kd.R_mono HO307.out (fun _ hk => trivial), hB⟩
           · rw [if_neg c17] at H
             exact absurd H (by simp)
         · rw [if_neg c16] at H
           have c16b0 : decide (x9_2 < (l0.length : Int)) = false := decide_eq_false c16; clear c16; simp only [Option.some.injEq, Prod.mk.injEq] at H; obtain ⟨rfl, rfl⟩ := H; go_wp2; go_ret2; exact ⟨_, te, by (with_reducible repeat (first | apply qra | apply qrn | apply qro)); exact HO_8.out, hB⟩
 · replace c5 := Bool.eq_false_iff.mpr c5
   subst c5; (have H1 : (some ((([] : List (S37))), 1)) = some (r1, r2) := by rw [if_neg (show ¬ (false = true) by decide)] at H; exact H); clear H; have H := H1; clear H1; obtain ⟨y288, hy288⟩ : ∃ y_ : List (S37), y_ = (([] : List (S37))) := ⟨_, rfl⟩; (replace H : (some (y288, 1)) = some (r1, r2) := by first | (rw [hy288]; with_reducible exact H) | (have H2_ := (Option.bind_some _ _).symm.trans H; rw [hy288]; with_reducible exact H2_) | (have H2_ := (Option.bind_some _ _).symm.trans H; with_reducible exact H2_) | with_reducible exact H | (rw [hy288]; exact H) | exact H); have Ny288 := am hy288; clear hy288; simp only [Option.some.injEq, Prod.mk.injEq] at H; obtain ⟨rfl, rfl⟩ := H; go_enter Try.func20, Try.ntmps20; go_wp2_with (first | ((with_reducible refine gate_callee (f := 51) rfl ?_); refine gl (some 12) rfl rfl Try.func51 #[.slice A0 l0.length c0] rfl ?_; (with_reducible refine (spec_l02Ok.calls k _ _ l0 false _ ?side1 ?side2 A4.out).mono ?_); (case side1 => repeat (first | exact HR0.out | (with_reducible first | refine qca ?_ _ | refine qcn ?_ _ | refine qco ?_))); (case side2 => exact HC0.out); rintro e w25 ⟨rfl, hb⟩; refine ⟨_, rfl, ?_⟩; have n0_ := am (qS hb); clear HB; have HB := n0_; clear n0_; (try clear hb)) | ((with_reducible refine gate_dst (N := 14) rfl ?_); refine Kd.R_lit k37 _ 37 ?hg (N := 14) ?hd (xs := ([] : List (S37))) (inner := []) (ok := fun _ => True) (okp := fun _ => True) ?hr ?hp (fun _ hk => hk) trivial (Below.refl _ _) (Nat.le_refl _) (by simp) ?_; (case hd => rfl); (case hg => rfl); (case hr => first | (go_simp; done) | (go_simp; rfl)); (case hp => exact (Reps.none _ _)); intro v289 w26 ho27 hb hg_ hnew_; clear hg_ hnew_; (first | rw [← Ny288.out] at ho27 | (simp only [Int.reduceToNat] at ho27; rw [← Ny288.out] at ho27)); have n0_ := am (Kd.R_lower ho27 qZ); have n1_ := am (qS hb); clear HB; have HO290 := n0_; have HB := n1_; clear n0_ n1_; clear hb ho27)); go_ret2; exact ⟨_, te, by (with_reducible repeat (first | apply qra | apply qrn | apply qro)); exact HO290.out, hB⟩

end Go.Proofs.Ytedheepkalbcfaa.PFnMovedCurves
