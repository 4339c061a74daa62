/- Proves what functions that a law reaches come to, one contract each; no conditions beyond those that each names. Printed by a program of this session (xprint) out of the translation. -/
import Derived.Test.YtedheepkalbcfaaPFnMovedCurvesx0
import Derived.Test.YtedheepkalbcfaaPFnMovedCurvesx4
import Derived.Test.YtedheepkalbcfaaPFnMovedCurvesx5
import Derived.Test.YtedheepkalbcfaaPFnMovedCurvesx6
import Derived.Test.YtedheepkalbcfaaPFnMovedCurvesx7
import Derived.Test.YtedheepkalbcfaaPFnMovedCurvesx8
import Derived.Test.YtedheepkalbcfaaPFnMovedCurvesx9
namespace Go.Proofs.Ytedheepkalbcfaa.PFnMovedCurves
open Go.RowKit Go.Proofs.YtedheepkalbcfaaW.PrintWords Go.Proofs.YtedheepkalbcfaaW.PrintLast Go.Proofs.YtedheepkalbcfaaW.PrintMore
attribute [local go_sem] max2_int min2_int max_two min_two max_three min_three max_four min_four
set_option maxHeartbeats 8000000
set_option maxRecDepth 100000
set_option linter.unusedVariables false
set_option linter.unusedSimpArgs false

/-! ### spec_JoinCurves: function 22 -/
mutual
def spec_JoinCurves.j0 : Nat → List (S37) → List (S37) → Int → Bool → Option ((List (S37)) × Int)
 | 0, _, _, _, _ => none
 | k + 1, x0, x1, x2, x18 => if x18 = true then (some ((([] : List (S37))), 1)) else ((spec_l02Place.f x2).bind fun t330 => (if t330 = true then (spec_JoinCurves.l0 k x0 x1 x2 (([] : List (S37))) 0) else (some ((([] : List (S37))), 2))))
def spec_JoinCurves.l0 : Nat → List (S37) → List (S37) → Int → List (S37) → Int → Option ((List (S37)) × Int)
 | 0, _, _, _, _, _ => none
 | k + 1, x0, x1, x2, x8, x9 => if x9 < (x0.length : Int) then (if 0 ≤ x9 then (if (wrap64 ((rd_T37 x0 x9).f0)) < x2 then (if x8.length < 35184372088832 then (spec_JoinCurves.l0 k x0 x1 x2 (x8 ++ [(⟨(rd_T37 x0 x9).f0, (rd_T37 x0 x9).f1⟩ : S37)]) (wrap64 (x9 + 1))) else (none)) else (spec_JoinCurves.l0 k x0 x1 x2 x8 (wrap64 (x9 + 1)))) else (none)) else (spec_JoinCurves.l1 k x1 x2 x8 0)
def spec_JoinCurves.l1 : Nat → List (S37) → Int → List (S37) → Int → Option ((List (S37)) × Int)
 | 0, _, _, _, _ => none
 | k + 1, x1, x2, x8, x10 => if x10 < (x1.length : Int) then (if 0 ≤ x10 then (if (wrap64 ((rd_T37 x1 x10).f0)) ≥ x2 then (if x8.length < 35184372088832 then (spec_JoinCurves.l1 k x1 x2 (x8 ++ [(⟨(rd_T37 x1 x10).f0, (rd_T37 x1 x10).f1⟩ : S37)]) (wrap64 (x10 + 1))) else (none)) else (spec_JoinCurves.l1 k x1 x2 x8 (wrap64 (x10 + 1)))) else (none)) else ((spec_l02Shape.f k x8).bind fun t347 => (if t347 = true then (if (x8.length : Int) > 12 then (some ((([] : List (S37))), 3)) else (some (x8, 0))) else (some ((([] : List (S37))), 4))))
end
def spec_JoinCurves.f (k : Nat) (l0 : List (S37)) (l1 : List (S37)) (a2 : Int) : Option ((List (S37)) × Int) := (spec_l02Ok.f k l0).bind fun t325 => (if t325 = true then ((spec_l02Ok.f k l1).bind fun t326 => (spec_JoinCurves.j0 k l0 l1 a2 (!t326))) else (spec_JoinCurves.j0 k l0 l1 a2 true))
theorem spec_JoinCurves.mono_l : ∀ k, (∀ y0 y1 y2 y3, LeO (spec_JoinCurves.j0 k y0 y1 y2 y3) (spec_JoinCurves.j0 (k + 1) y0 y1 y2 y3)) ∧ (∀ y0 y1 y2 y3 y4, LeO (spec_JoinCurves.l0 k y0 y1 y2 y3 y4) (spec_JoinCurves.l0 (k + 1) y0 y1 y2 y3 y4)) ∧ (∀ y0 y1 y2 y3, LeO (spec_JoinCurves.l1 k y0 y1 y2 y3) (spec_JoinCurves.l1 (k + 1) y0 y1 y2 y3))
 | 0 => ⟨fun _ _ _ _ r h => by simp [spec_JoinCurves.j0] at h, fun _ _ _ _ _ r h => by simp [spec_JoinCurves.l0] at h, fun _ _ _ _ r h => by simp [spec_JoinCurves.l1] at h⟩
 | k + 1 => by
  obtain ⟨ih0, ih1, ih2⟩ := spec_JoinCurves.mono_l k; refine ⟨?_, ?_, ?_⟩; intro y0 y1 y2 y3; unfold spec_JoinCurves.j0; rotate_left; intro y0 y1 y2 y3 y4; unfold spec_JoinCurves.l0; rotate_left; intro y0 y1 y2 y3; unfold spec_JoinCurves.l1; rotate_left
  all_goals repeat' first | (with_reducible first | exact ih0 _ _ _ _ | exact ih1 _ _ _ _ _ | exact ih2 _ _ _ _ | exact spec_l02Ok.mono _ _ | exact spec_l02Shape.mono _ _ | exact LeO.refl _ | exact LeO.none _ | refine LeO.ite ?_ ?_ | refine LeO.bind ?_ (fun _ => ?_)) | exact ih0 _ _ _ _ | exact ih1 _ _ _ _ _ | exact ih2 _ _ _ _ | exact spec_l02Ok.mono _ _ | exact spec_l02Shape.mono _ _ | exact LeO.none _ | refine LeO.ite ?_ ?_ | refine LeO.bind ?_ (fun _ => ?_)
theorem spec_JoinCurves.mono : ∀ a0 a1 a2 k, LeO (spec_JoinCurves.f k a0 a1 a2) (spec_JoinCurves.f (k + 1) a0 a1 a2) := by
 intro a0 a1 a2 k
 obtain ⟨ih0, ih1, ih2⟩ := spec_JoinCurves.mono_l k
 unfold spec_JoinCurves.f
 repeat' first | (with_reducible first | exact ih0 _ _ _ _ | exact ih1 _ _ _ _ _ | exact ih2 _ _ _ _ | exact spec_l02Ok.mono _ _ | exact spec_l02Shape.mono _ _ | exact LeO.refl _ | exact LeO.none _ | refine LeO.ite ?_ ?_ | refine LeO.bind ?_ (fun _ => ?_)) | exact ih0 _ _ _ _ | exact ih1 _ _ _ _ _ | exact ih2 _ _ _ _ | exact spec_l02Ok.mono _ _ | exact spec_l02Shape.mono _ _ | exact LeO.none _ | refine LeO.ite ?_ ?_ | refine LeO.bind ?_ (fun _ => ?_)
theorem spec_JoinCurves.calls (k : Nat) (A0 : Option Addr) (c0 : Nat) (l0 : List (S37)) (A1 : Option Addr) (c1 : Nat) (l1 : List (S37)) (a2 : Int) (r1 : List (S37)) (r2 : Int) (w : World) (hr0 : Kd.C k37 w A0 l0.length l0) (hc0 : l0.length ≤ c0) (hr1 : Kd.C k37 w A1 l1.length l1) (hc1 : l1.length ≤ c1) (h : spec_JoinCurves.f k l0 l1 a2 = some (r1, r2)) :
 Calls Try.prog 22 #[.slice A0 l0.length c0, .slice A1 l1.length c1, .int .i64 a2] w fun e w' => ∃ v0_ : Value, e = .returned (.tuple #[v0_, .int .i64 r2]) ∧ Kd.R k37 37 w' w.heap.size (fun _ => True) v0_ r1 ∧ Below w.heap.size w w' := by
 have hu37 := Try.underlying37
 have HR0 := am hr0
 have HC0 := am hc0
 clear hr0 hc0
 have HR1 := am hr1
 have HC1 := am hc1
 clear hr1 hc1
 have HB := am (Below.refl w.heap.size w)
 have H : ((spec_l02Ok.f k l0).bind fun t325 => (if t325 = true then ((spec_l02Ok.f k l1).bind fun t326 => (spec_JoinCurves.j0 k l0 l1 a2 (!t326))) else (spec_JoinCurves.j0 k l0 l1 a2 true))) = some (r1, r2) := h
 clear h
 have HC4 := am H
 clear H
 go_enter Try.func22, Try.ntmps22
 go_upto_region 1 with (fail)
 go_cut [18] (fun v18 wc => ∃ (kq : Nat) (x18_3 : Bool), v18 = .bool x18_3 ∧ Aside0 (spec_JoinCurves.j0 kq l0 l1 a2 x18_3 = some (r1, r2)) ∧ Aside0 (kq ≤ k) ∧ Aside0 (Below w.heap.size w wc))
 case first =>
  have H := HC4.out; clear HC4; replace H := qob.mp H; obtain ⟨t325, A50, H⟩ := H; replace H : (if t325 = true then ((spec_l02Ok.f k l1).bind fun t326 => (spec_JoinCurves.j0 k l0 l1 a2 (!t326))) else (spec_JoinCurves.j0 k l0 l1 a2 true)) = some (r1, r2) := H; have A5 := am A50; clear A50
  by_cases c6 : t325 = true
  · subst c6
    (have H1 : ((spec_l02Ok.f k l1).bind fun t326 => (spec_JoinCurves.j0 k l0 l1 a2 (!t326))) = some (r1, r2) := by rw [if_pos rfl] at H; exact H); clear H; have H := H1; clear H1; replace H := qob.mp H; obtain ⟨t326, A70, H⟩ := H; replace H : (spec_JoinCurves.j0 k l0 l1 a2 (!t326)) = some (r1, r2) := H; have A7 := am A70; clear A70; have H' := am H; clear H; go_wp2_with (first | ((with_reducible refine gate_callee (f := 51) rfl ?_); refine gl (some 12) rfl rfl Try.func51 #[.slice A0 l0.length c0] rfl ?_; (with_reducible refine (spec_l02Ok.calls k _ _ l0 true _ ?side1 ?side2 A5.out).mono ?_); (case side1 => repeat (first | exact (Kd.C_below HR0.out HB.out) | (with_reducible first | refine qca ?_ _ | refine qcn ?_ _ | refine qco ?_))); (case side2 => exact HC0.out); rintro e w8 ⟨rfl, hb⟩; refine ⟨_, rfl, ?_⟩; have n0_ := am (qS hb); clear HB; have HB := n0_; clear n0_; (try clear hb)) | (go_at_call 51; (with_reducible refine (spec_l02Ok.calls k _ _ l1 t326 _ ?side1 ?side2 A7.out).mono ?_); (case side1 => repeat (first | exact (Kd.C_below HR1.out HB.out) | (with_reducible first | refine qca ?_ _ | refine qcn ?_ _ | refine qco ?_))); (case side2 => exact HC1.out); rintro e w9 ⟨rfl, hb⟩; have n0_ := am (qS hb); clear HB; have HB := n0_; clear n0_; (try clear hb))); go_meet
    case rel => exact ⟨_, (!t326), tr, H', ⟨by first | omega | exact Nat.le_refl _⟩, ⟨hB⟩⟩
  · replace c6 := Bool.eq_false_iff.mpr c6
    subst c6; (have H1 : (spec_JoinCurves.j0 k l0 l1 a2 true) = some (r1, r2) := by rw [if_neg (show ¬ (false = true) by decide)] at H; exact H); clear H; have H := H1; clear H1; have H' := am H; clear H; go_wp2_with (first | ((with_reducible refine gate_callee (f := 51) rfl ?_); refine gl (some 12) rfl rfl Try.func51 #[.slice A0 l0.length c0] rfl ?_; (with_reducible refine (spec_l02Ok.calls k _ _ l0 false _ ?side1 ?side2 A5.out).mono ?_); (case side1 => repeat (first | exact (Kd.C_below HR0.out HB.out) | (with_reducible first | refine qca ?_ _ | refine qcn ?_ _ | refine qco ?_))); (case side2 => exact HC0.out); rintro e w10 ⟨rfl, hb⟩; refine ⟨_, rfl, ?_⟩; have n0_ := am (qS hb); clear HB; have HB := n0_; clear n0_; (try clear hb))); go_meet
    case rel => exact ⟨_, (true), tr, H', ⟨by first | omega | exact Nat.le_refl _⟩, ⟨hB⟩⟩
 case rest => as_aux_lemma =>
  clear HC4
  try clear c1
  try clear c2
  try clear p2
  try clear c5
  try clear c6
  obtain ⟨kq, x18_3, rfl, HA, HJ3, HB⟩ := hcut
  cases kq with
  | zero => exact absurd HA.out (by simp [spec_JoinCurves.j0])
  | succ kj3 =>
   have H := HA.out; clear HA; simp only [spec_JoinCurves.j0] at H
   by_cases c11 : x18_3 = true
   · subst c11
     (have H1 : (some ((([] : List (S37))), 1)) = some (r1, r2) := by rw [if_pos rfl] at H; exact H); clear H; have H := H1; clear H1; obtain ⟨y327, hy327⟩ : ∃ y_ : List (S37), y_ = (([] : List (S37))) := ⟨_, rfl⟩; (replace H : (some (y327, 1)) = some (r1, r2) := by first | (rw [hy327]; with_reducible exact H) | (have H2_ := (Option.bind_some _ _).symm.trans H; rw [hy327]; with_reducible exact H2_) | (have H2_ := (Option.bind_some _ _).symm.trans H; with_reducible exact H2_) | with_reducible exact H | (rw [hy327]; exact H) | exact H); have Ny327 := am hy327; clear hy327; simp only [Option.some.injEq, Prod.mk.injEq] at H; obtain ⟨rfl, rfl⟩ := H; go_wp2_with (first | ((with_reducible refine gate_dst (N := 19) rfl ?_); refine Kd.R_lit k37 _ 37 ?hg (N := 19) ?hd (xs := ([] : List (S37))) (inner := []) (ok := fun _ => True) (okp := fun _ => True) ?hr ?hp (fun _ hk => hk) trivial (Below.refl _ _) (Nat.le_refl _) (by simp) ?_; (case hd => rfl); (case hg => rfl); (case hr => first | (go_simp; done) | (go_simp; rfl)); (case hp => exact (Reps.none _ _)); intro v328 w12 ho13 hb hg_ hnew_; clear hg_ hnew_; (first | rw [← Ny327.out] at ho13 | (simp only [Int.reduceToNat] at ho13; rw [← Ny327.out] at ho13)); have n0_ := am (Kd.R_lower ho13 qZ); have n1_ := am (qS hb); clear HB; have HO329 := n0_; have HB := n1_; clear n0_ n1_; clear hb ho13)); go_ret2; exact ⟨_, te, by (with_reducible repeat (first | apply qra | apply qrn | apply qro)); exact HO329.out, hB⟩
   · replace c11 := Bool.eq_false_iff.mpr c11
     subst c11; (have H1 : ((spec_l02Place.f a2).bind fun t330 => (if t330 = true then (spec_JoinCurves.l0 kj3 l0 l1 a2 (([] : List (S37))) 0) else (some ((([] : List (S37))), 2)))) = some (r1, r2) := by rw [if_neg (show ¬ (false = true) by decide)] at H; exact H); clear H; have H := H1; clear H1; replace H := qob.mp H; obtain ⟨t330, A140, H⟩ := H; replace H : (if t330 = true then (spec_JoinCurves.l0 kj3 l0 l1 a2 (([] : List (S37))) 0) else (some ((([] : List (S37))), 2))) = some (r1, r2) := H; have A14 := am A140; clear A140
     by_cases c15 : t330 = true
     · subst c15
       (have H1 : (spec_JoinCurves.l0 kj3 l0 l1 a2 (([] : List (S37))) 0) = some (r1, r2) := by rw [if_pos rfl] at H; exact H); clear H; have H := H1; clear H1; obtain ⟨y334, hy334⟩ : ∃ y_ : List (S37), y_ = (([] : List (S37))) := ⟨_, rfl⟩; (replace H : (spec_JoinCurves.l0 kj3 l0 l1 a2 y334 0) = some (r1, r2) := by first | (rw [hy334]; with_reducible exact H) | (have H2_ := (Option.bind_some _ _).symm.trans H; rw [hy334]; with_reducible exact H2_) | (have H2_ := (Option.bind_some _ _).symm.trans H; with_reducible exact H2_) | with_reducible exact H | (rw [hy334]; exact H) | exact H); have Ny334 := am hy334; clear hy334; have H' := am H; clear H; go_wp2_with (first | ((with_reducible refine gate_callee (f := 53) rfl ?_); refine gl (some 21) rfl rfl Try.func53 #[.int .i64 a2] rfl ?_; (with_reducible refine (spec_l02Place.calls a2 true _ A14.out).mono ?_); rintro e w' ⟨rfl, ⟨nd, rfl⟩⟩; refine ⟨_, rfl, ?_⟩) | ((with_reducible refine gate_dst (N := 24) rfl ?_); refine Kd.R_lit k37 _ 37 ?hg (N := 24) ?hd (xs := ([] : List (S37))) (inner := []) (ok := fun _ => True) (okp := fun _ => True) ?hr ?hp (fun _ hk => hk) trivial (Below.refl _ _) (Nat.le_refl _) (by simp) ?_; (case hd => rfl); (case hg => rfl); (case hr => first | (go_simp; done) | (go_simp; rfl)); (case hp => exact (Reps.none _ _)); intro v335 w16 ho17 hb hg_ hnew_; clear hg_ hnew_; (first | rw [← Ny334.out] at ho17 | (simp only [Int.reduceToNat] at ho17; rw [← Ny334.out] at ho17)); have n0_ := am (Kd.R_lower ho17 qZ); have n1_ := am (qS hb); clear HB; have HO336 := n0_; have HB := n1_; clear n0_ n1_; clear hb ho17)); go_loopg [8, 9] kj3 (fun kq v8 v9 w' => ∃ (x8_2 : List (S37)) (x9_2 : Int), v9 = .int .i64 x9_2 ∧ Aside0 (spec_JoinCurves.l0 kq l0 l1 a2 x8_2 x9_2 = some (r1, r2)) ∧ Aside0 (kq ≤ kj3) ∧ Aside0 (Kd.R k37 37 w' w.heap.size (fun _ => True) v8 x8_2) ∧ Aside0 (Below w.heap.size w w'))
       case atStart => exact ⟨(y334), (0), tr, H', ⟨Nat.le_refl _⟩, ⟨by (with_reducible repeat (first | apply qra | apply qrn | apply qro)); exact HO336.out⟩, ⟨hB⟩⟩
       case round =>
        clear H'; (try clear c1); (try clear c2); (try clear p2); (try clear c5); (try clear c6); (try clear c11); (try clear c15); (try clear p2); obtain ⟨x8_2, x9_2, rfl, HA, HK2, HO_8, HB⟩ := hrel
        cases gk with
        | zero => exact absurd HA.out (by simp [spec_JoinCurves.l0])
        | succ k2 =>
         have H := HA.out; clear HA; simp only [spec_JoinCurves.l0] at H
         by_cases c18 : x9_2 < (l0.length : Int)
         · rw [if_pos c18] at H
           have c18b0 : decide (x9_2 < (l0.length : Int)) = true := decide_eq_true c18; clear c18
           by_cases c19 : 0 ≤ x9_2
           · rw [if_pos c19] at H
             have c19b0 : decide (0 ≤ x9_2) = true := decide_eq_true c19; clear c19
             by_cases c20 : (wrap64 ((rd_T37 l0 x9_2).f0)) < a2
             · rw [if_pos c20] at H
               have c20b0 : decide ((wrap64 ((rd_T37 l0 x9_2).f0)) < a2) = true := decide_eq_true c20; clear c20
               by_cases c21 : x8_2.length < 35184372088832
               · rw [if_pos c21] at H
                 have LMc21 := am c21; clear c21; obtain ⟨y339, hy339⟩ : ∃ y_ : List (S37), y_ = (x8_2 ++ [(⟨(rd_T37 l0 x9_2).f0, (rd_T37 l0 x9_2).f1⟩ : S37)]) := ⟨_, rfl⟩; (replace H : (spec_JoinCurves.l0 k2 l0 l1 a2 y339 (wrap64 (x9_2 + 1))) = some (r1, r2) := by first | (rw [hy339]; with_reducible exact H) | (have H2_ := (Option.bind_some _ _).symm.trans H; rw [hy339]; with_reducible exact H2_) | (have H2_ := (Option.bind_some _ _).symm.trans H; with_reducible exact H2_) | with_reducible exact H | (rw [hy339]; exact H) | exact H); have Ny339 := am hy339; clear hy339; have H' := am H; clear H; have p337 : 0 ≤ (x9_2 : Int) := od; have q337 : x9_2 < (l0.length : Int) := od; obtain ⟨ad337, e337, hx337_0, hx337_1⟩ := at_T37 HR0.out x9_2 p337 q337
                 cases e337
                 replace hx337_0 := (HB.out.cell (qwb w _ hx337_0)).trans hx337_0; replace hx337_1 := (HB.out.cell (qwb w _ hx337_1)).trans hx337_1; replace p337 := eq_true p337; replace q337 := eq_true q337; have p338 : 0 ≤ (x9_2 : Int) := od; have q338 : x9_2 < (l0.length : Int) := od; obtain ⟨ad338, e338, hx338_0, hx338_1⟩ := at_T37 HR0.out x9_2 p338 q338; obtain rfl : ad337 = ad338 := (by injection e338); replace hx338_0 := (HB.out.cell (qwb w _ hx338_0)).trans hx338_0; replace hx338_1 := (HB.out.cell (qwb w _ hx338_1)).trans hx338_1; replace p338 := eq_true p338; replace q338 := eq_true q338; go_wp2_with (first | ((with_reducible refine gate_builtin (b := .append) (xs := #[.tmp 39, .tmp 44]) rfl ?_); at_builtin; refine Kd.R_append k37 (w0 := w) w.heap.size rfl (.tmp 39) (.tmp 44) 25 37 (.agg #[(.int .i16 0), (.int .i16 0)]) 4 rfl Try.underlying25 info37 rfl (by decide) (by omega) u8 x8_2 (⟨(rd_T37 l0 x9_2).f0, (rd_T37 l0 x9_2).f1⟩ : S37) [.int .i16 ((rd_T37 l0 x9_2).f0), .int .i16 ((rd_T37 l0 x9_2).f1)] (fun _ => True) (fun _ => False) rfl rfl ?aP (fun _ hk => hk.elim) ?aF ?aO ?aB ?aS ?aL ?_; (case aP => exact k37_mkM _ _ _ (⟨(rd_T37 l0 x9_2).f0, (rd_T37 l0 x9_2).f1⟩ : S37)); (case aB => exact hB); (case aF => exact (fun _ _ => trivial)); (case aO => exact (by (with_reducible repeat (first | apply qra | apply qrn | apply qro)); exact HO_8.out)); (case aS => exact qZ); (case aL => have := LMc21.out; omega); intro v340 w22 ho hb hg hat; rw [← Ny339.out] at ho; have n0_ := am (hb); have n1_ := am (ho); clear HB; clear HO_8; have HB := n0_; have HO341 := n1_; clear n0_ n1_; clear ho hb hg hat)); go_roundg k2
                 case measure => have := HJ3.out; have := HK2.out; omega
                 case rel => exact ⟨(y339), (wrap64 (x9_2 + 1)), tr, H', ⟨by have := HJ3.out; have := HK2.out; omega⟩, ⟨by (with_reducible repeat (first | apply qra | apply qrn | apply qro)); exact HO341.out⟩, ⟨hB⟩⟩
               · rw [if_neg c21] at H
                 exact absurd H (by simp)
             · rw [if_neg c20] at H
               have c20b0 : decide ((wrap64 ((rd_T37 l0 x9_2).f0)) < a2) = false := decide_eq_false c20; clear c20; have H' := am H; clear H; have p337 : 0 ≤ (x9_2 : Int) := od; have q337 : x9_2 < (l0.length : Int) := od; obtain ⟨ad337, e337, hx337_0, hx337_1⟩ := at_T37 HR0.out x9_2 p337 q337
               cases e337
               replace hx337_0 := (HB.out.cell (qwb w _ hx337_0)).trans hx337_0; replace hx337_1 := (HB.out.cell (qwb w _ hx337_1)).trans hx337_1; replace p337 := eq_true p337; replace q337 := eq_true q337; go_wp2; go_roundg k2
               case measure => have := HJ3.out; have := HK2.out; omega
               case rel => exact ⟨(x8_2), (wrap64 (x9_2 + 1)), tr, H', ⟨by have := HJ3.out; have := HK2.out; omega⟩, ⟨by (with_reducible repeat (first | apply qra | apply qrn | apply qro)); exact HO_8.out⟩, ⟨hB⟩⟩
           · rw [if_neg c19] at H
             exact absurd H (by simp)
         · rw [if_neg c18] at H
           have c18b0 : decide (x9_2 < (l0.length : Int)) = false := decide_eq_false c18; clear c18; have H' := am H; clear H; go_wp2; go_loopg [8, 10] k2 (fun kq v8 v10 w' => ∃ (x8_3 : List (S37)) (x10_3 : Int), v10 = .int .i64 x10_3 ∧ Aside0 (spec_JoinCurves.l1 kq l1 a2 x8_3 x10_3 = some (r1, r2)) ∧ Aside0 (kq ≤ k2) ∧ Aside0 (Kd.R k37 37 w' w.heap.size (fun _ => True) v8 x8_3) ∧ Aside0 (Below w.heap.size w w'))
           case atStart => exact ⟨(x8_2), (0), tr, H', ⟨Nat.le_refl _⟩, ⟨by (with_reducible repeat (first | apply qra | apply qrn | apply qro)); exact HO_8.out⟩, ⟨hB⟩⟩
           case round =>
            clear H'; (try clear c1); (try clear c2); (try clear p2); (try clear p3); (try clear q3); (try clear hx3); (try clear c5); (try clear c6); (try clear p6); (try clear c11); (try clear c15); (try clear c18); (try clear c18b0); (try clear c19); (try clear c19b0); (try clear c20); (try clear c20b0); (try clear c21); (try clear c22); (try clear hx337_0); (try clear hx337_1); (try clear hx338_0); (try clear hx338_1); (try clear p2); (try clear p337); (try clear p338); (try clear q337); (try clear q338); obtain ⟨x8_3, x10_3, rfl, HA, HK3, HO_8, HB⟩ := hrel
            cases gk with
            | zero => exact absurd HA.out (by simp [spec_JoinCurves.l1])
            | succ k3 =>
             have H := HA.out; clear HA; simp only [spec_JoinCurves.l1] at H
             by_cases c23 : x10_3 < (l1.length : Int)
             · rw [if_pos c23] at H
               have c23b0 : decide (x10_3 < (l1.length : Int)) = true := decide_eq_true c23; clear c23
               by_cases c24 : 0 ≤ x10_3
               · rw [if_pos c24] at H
                 have c24b0 : decide (0 ≤ x10_3) = true := decide_eq_true c24; clear c24
                 by_cases c25 : (wrap64 ((rd_T37 l1 x10_3).f0)) ≥ a2
                 · rw [if_pos c25] at H
                   have c25b0 : decide (a2 ≤ (wrap64 ((rd_T37 l1 x10_3).f0))) = true := decide_eq_true c25; clear c25
                   by_cases c26 : x8_3.length < 35184372088832
                   · rw [if_pos c26] at H
                     have LMc26 := am c26; clear c26; obtain ⟨y344, hy344⟩ : ∃ y_ : List (S37), y_ = (x8_3 ++ [(⟨(rd_T37 l1 x10_3).f0, (rd_T37 l1 x10_3).f1⟩ : S37)]) := ⟨_, rfl⟩; (replace H : (spec_JoinCurves.l1 k3 l1 a2 y344 (wrap64 (x10_3 + 1))) = some (r1, r2) := by first | (rw [hy344]; with_reducible exact H) | (have H2_ := (Option.bind_some _ _).symm.trans H; rw [hy344]; with_reducible exact H2_) | (have H2_ := (Option.bind_some _ _).symm.trans H; with_reducible exact H2_) | with_reducible exact H | (rw [hy344]; exact H) | exact H); have Ny344 := am hy344; clear hy344; have H' := am H; clear H; have p342 : 0 ≤ (x10_3 : Int) := od; have q342 : x10_3 < (l1.length : Int) := od; obtain ⟨ad342, e342, hx342_0, hx342_1⟩ := at_T37 HR1.out x10_3 p342 q342
                     cases e342
                     replace hx342_0 := (HB.out.cell (qwb w _ hx342_0)).trans hx342_0; replace hx342_1 := (HB.out.cell (qwb w _ hx342_1)).trans hx342_1; replace p342 := eq_true p342; replace q342 := eq_true q342; have p343 : 0 ≤ (x10_3 : Int) := od; have q343 : x10_3 < (l1.length : Int) := od; obtain ⟨ad343, e343, hx343_0, hx343_1⟩ := at_T37 HR1.out x10_3 p343 q343; obtain rfl : ad342 = ad343 := (by injection e343); replace hx343_0 := (HB.out.cell (qwb w _ hx343_0)).trans hx343_0; replace hx343_1 := (HB.out.cell (qwb w _ hx343_1)).trans hx343_1; replace p343 := eq_true p343; replace q343 := eq_true q343; go_wp2_with (first | ((with_reducible refine gate_builtin (b := .append) (xs := #[.tmp 60, .tmp 65]) rfl ?_); at_builtin; refine Kd.R_append k37 (w0 := w) w.heap.size rfl (.tmp 60) (.tmp 65) 25 37 (.agg #[(.int .i16 0), (.int .i16 0)]) 4 rfl Try.underlying25 info37 rfl (by decide) (by omega) u8 x8_3 (⟨(rd_T37 l1 x10_3).f0, (rd_T37 l1 x10_3).f1⟩ : S37) [.int .i16 ((rd_T37 l1 x10_3).f0), .int .i16 ((rd_T37 l1 x10_3).f1)] (fun _ => True) (fun _ => False) rfl rfl ?aP (fun _ hk => hk.elim) ?aF ?aO ?aB ?aS ?aL ?_; (case aP => exact k37_mkM _ _ _ (⟨(rd_T37 l1 x10_3).f0, (rd_T37 l1 x10_3).f1⟩ : S37)); (case aB => exact hB); (case aF => exact (fun _ _ => trivial)); (case aO => exact (by (with_reducible repeat (first | apply qra | apply qrn | apply qro)); exact HO_8.out)); (case aS => exact qZ); (case aL => have := LMc26.out; omega); intro v345 w27 ho hb hg hat; rw [← Ny344.out] at ho; have n0_ := am (hb); have n1_ := am (ho); clear HB; clear HO_8; have HB := n0_; have HO346 := n1_; clear n0_ n1_; clear ho hb hg hat)); go_roundg k3
                     case measure => have := HJ3.out; have := HK2.out; have := HK3.out; omega
                     case rel => exact ⟨(y344), (wrap64 (x10_3 + 1)), tr, H', ⟨by have := HJ3.out; have := HK2.out; have := HK3.out; omega⟩, ⟨by (with_reducible repeat (first | apply qra | apply qrn | apply qro)); exact HO346.out⟩, ⟨hB⟩⟩
                   · rw [if_neg c26] at H
                     exact absurd H (by simp)
                 · rw [if_neg c25] at H
                   have c25b0 : decide (a2 ≤ (wrap64 ((rd_T37 l1 x10_3).f0))) = false := decide_eq_false c25; clear c25; have H' := am H; clear H; have p342 : 0 ≤ (x10_3 : Int) := od; have q342 : x10_3 < (l1.length : Int) := od; obtain ⟨ad342, e342, hx342_0, hx342_1⟩ := at_T37 HR1.out x10_3 p342 q342
                   cases e342
                   replace hx342_0 := (HB.out.cell (qwb w _ hx342_0)).trans hx342_0; replace hx342_1 := (HB.out.cell (qwb w _ hx342_1)).trans hx342_1; replace p342 := eq_true p342; replace q342 := eq_true q342; go_wp2; go_roundg k3
                   case measure => have := HJ3.out; have := HK2.out; have := HK3.out; omega
                   case rel => exact ⟨(x8_3), (wrap64 (x10_3 + 1)), tr, H', ⟨by have := HJ3.out; have := HK2.out; have := HK3.out; omega⟩, ⟨by (with_reducible repeat (first | apply qra | apply qrn | apply qro)); exact HO_8.out⟩, ⟨hB⟩⟩
               · rw [if_neg c24] at H
                 exact absurd H (by simp)
             · rw [if_neg c23] at H
               have c23b0 : decide (x10_3 < (l1.length : Int)) = false := decide_eq_false c23; clear c23; replace H := qob.mp H; obtain ⟨t347, A280, H⟩ := H; replace H : (if t347 = true then (if (x8_3.length : Int) > 12 then (some ((([] : List (S37))), 3)) else (some (x8_3, 0))) else (some ((([] : List (S37))), 4))) = some (r1, r2) := H; have A28 := am A280; clear A280
               by_cases c29 : t347 = true
               · subst c29
                 (have H1 : (if (x8_3.length : Int) > 12 then (some ((([] : List (S37))), 3)) else (some (x8_3, 0))) = some (r1, r2) := by rw [if_pos rfl] at H; exact H); clear H; have H := H1; clear H1
                 by_cases c30 : (x8_3.length : Int) > 12
                 · rw [if_pos c30] at H
                   have c30b0 : decide (12 < (x8_3.length : Int)) = true := decide_eq_true c30; have c30b1 : decide (12 < x8_3.length) = true := decide_eq_true (by omega); clear c30; obtain ⟨y348, hy348⟩ : ∃ y_ : List (S37), y_ = (([] : List (S37))) := ⟨_, rfl⟩; (replace H : (some (y348, 3)) = some (r1, r2) := by first | (rw [hy348]; with_reducible exact H) | (have H2_ := (Option.bind_some _ _).symm.trans H; rw [hy348]; with_reducible exact H2_) | (have H2_ := (Option.bind_some _ _).symm.trans H; with_reducible exact H2_) | with_reducible exact H | (rw [hy348]; exact H) | exact H); have Ny348 := am hy348; clear hy348; simp only [Option.some.injEq, Prod.mk.injEq] at H; obtain ⟨rfl, rfl⟩ := H; obtain ⟨Ao31, co31, eo31⟩ := Kd.R_slice HO_8.out; subst eo31; go_wp2_with (first | ((with_reducible refine gate_callee (f := 54) rfl ?_); refine gl (some 68) rfl rfl Try.func54 #[.slice Ao31 x8_3.length co31] rfl ?_; (with_reducible refine (spec_l02Shape.calls k3 _ _ x8_3 true _ ?side1 ?side2 A28.out).mono ?_); (case side1 => repeat (first | exact (Kd.R_reads' HO_8.out).2.2 | (with_reducible first | refine qca ?_ _ | refine qcn ?_ _ | refine qco ?_))); (case side2 => exact (Kd.R_reads' HO_8.out).2.1); rintro e w32 ⟨rfl, hb⟩; refine ⟨_, rfl, ?_⟩; have n0_ := am (Kd.R_below (by (with_reducible repeat (first | apply qra | apply qrn | apply qro)); exact HO_8.out) hb); have n1_ := am (qS hb); clear HO_8; clear HB; have HO_8 := n0_; have HB := n1_; clear n0_ n1_; (try clear hb)) | ((with_reducible refine gate_dst (N := 74) rfl ?_); refine Kd.R_lit k37 _ 37 ?hg (N := 74) ?hd (xs := ([] : List (S37))) (inner := []) (ok := fun _ => True) (okp := fun _ => True) ?hr ?hp (fun _ hk => hk) trivial (Below.refl _ _) (Nat.le_refl _) (by simp) ?_; (case hd => rfl); (case hg => rfl); (case hr => first | (go_simp; done) | (go_simp; rfl)); (case hp => exact (Reps.none _ _)); intro v349 w33 ho34 hb hg_ hnew_; clear hg_ hnew_; (first | rw [← Ny348.out] at ho34 | (simp only [Int.reduceToNat] at ho34; rw [← Ny348.out] at ho34)); have n0_ := am (Kd.R_elder' (by (with_reducible repeat (first | apply qra | apply qrn | apply qro)); exact HO_8.out) (Kd.R_base ho34) hb); have n1_ := am (Kd.R_lower (Kd.R_new' ho34 (Kd.R_lt (by (with_reducible repeat (first | apply qra | apply qrn | apply qro)); exact HO_8.out))) qZ); have n2_ := am (qS hb); clear HO_8; clear HB; have HO_8 := n0_; have HO350 := n1_; have HB := n2_; clear n0_ n1_ n2_; clear hb ho34)); go_ret2; exact ⟨_, te, by (with_reducible repeat (first | apply qra | apply qrn | apply qro)); exact Kd.R_mono HO350.out (fun _ hk => trivial), hB⟩
                 · rw [if_neg c30] at H
                   have c30b0 : decide (12 < (x8_3.length : Int)) = false := decide_eq_false c30; have c30b1 : decide (12 < x8_3.length) = false := decide_eq_false (by omega); clear c30; simp only [Option.some.injEq, Prod.mk.injEq] at H; obtain ⟨rfl, rfl⟩ := H; obtain ⟨Ao35, co35, eo35⟩ := Kd.R_slice HO_8.out; subst eo35; go_wp2_with (first | ((with_reducible refine gate_callee (f := 54) rfl ?_); refine gl (some 68) rfl rfl Try.func54 #[.slice Ao35 x8_3.length co35] rfl ?_; (with_reducible refine (spec_l02Shape.calls k3 _ _ x8_3 true _ ?side1 ?side2 A28.out).mono ?_); (case side1 => repeat (first | exact (Kd.R_reads' HO_8.out).2.2 | (with_reducible first | refine qca ?_ _ | refine qcn ?_ _ | refine qco ?_))); (case side2 => exact (Kd.R_reads' HO_8.out).2.1); rintro e w36 ⟨rfl, hb⟩; refine ⟨_, rfl, ?_⟩; have n0_ := am (Kd.R_below (by (with_reducible repeat (first | apply qra | apply qrn | apply qro)); exact HO_8.out) hb); have n1_ := am (qS hb); clear HO_8; clear HB; have HO_8 := n0_; have HB := n1_; clear n0_ n1_; (try clear hb))); go_ret2; exact ⟨_, te, by (with_reducible repeat (first | apply qra | apply qrn | apply qro)); exact HO_8.out, hB⟩
               · replace c29 := Bool.eq_false_iff.mpr c29
                 subst c29; (have H1 : (some ((([] : List (S37))), 4)) = some (r1, r2) := by rw [if_neg (show ¬ (false = true) by decide)] at H; exact H); clear H; have H := H1; clear H1; obtain ⟨y351, hy351⟩ : ∃ y_ : List (S37), y_ = (([] : List (S37))) := ⟨_, rfl⟩; (replace H : (some (y351, 4)) = some (r1, r2) := by first | (rw [hy351]; with_reducible exact H) | (have H2_ := (Option.bind_some _ _).symm.trans H; rw [hy351]; with_reducible exact H2_) | (have H2_ := (Option.bind_some _ _).symm.trans H; with_reducible exact H2_) | with_reducible exact H | (rw [hy351]; exact H) | exact H); have Ny351 := am hy351; clear hy351; simp only [Option.some.injEq, Prod.mk.injEq] at H; obtain ⟨rfl, rfl⟩ := H; obtain ⟨Ao37, co37, eo37⟩ := Kd.R_slice HO_8.out; subst eo37; go_wp2_with (first | ((with_reducible refine gate_callee (f := 54) rfl ?_); refine gl (some 68) rfl rfl Try.func54 #[.slice Ao37 x8_3.length co37] rfl ?_; (with_reducible refine (spec_l02Shape.calls k3 _ _ x8_3 false _ ?side1 ?side2 A28.out).mono ?_); (case side1 => repeat (first | exact (Kd.R_reads' HO_8.out).2.2 | (with_reducible first | refine qca ?_ _ | refine qcn ?_ _ | refine qco ?_))); (case side2 => exact (Kd.R_reads' HO_8.out).2.1); rintro e w38 ⟨rfl, hb⟩; refine ⟨_, rfl, ?_⟩; have n0_ := am (Kd.R_below (by (with_reducible repeat (first | apply qra | apply qrn | apply qro)); exact HO_8.out) hb); have n1_ := am (qS hb); clear HO_8; clear HB; have HO_8 := n0_; have HB := n1_; clear n0_ n1_; (try clear hb)) | ((with_reducible refine gate_dst (N := 70) rfl ?_); refine Kd.R_lit k37 _ 37 ?hg (N := 70) ?hd (xs := ([] : List (S37))) (inner := []) (ok := fun _ => True) (okp := fun _ => True) ?hr ?hp (fun _ hk => hk) trivial (Below.refl _ _) (Nat.le_refl _) (by simp) ?_; (case hd => rfl); (case hg => rfl); (case hr => first | (go_simp; done) | (go_simp; rfl)); (case hp => exact (Reps.none _ _)); intro v352 w39 ho40 hb hg_ hnew_; clear hg_ hnew_; (first | rw [← Ny351.out] at ho40 | (simp only [Int.reduceToNat] at ho40; rw [← Ny351.out] at ho40)); have n0_ := am (Kd.R_elder' (by (with_reducible repeat (first | apply qra | apply qrn | apply qro)); exact HO_8.out) (Kd.R_base ho40) hb); have n1_ := am (Kd.R_lower (Kd.R_new' ho40 (Kd.R_lt (by (with_reducible repeat (first | apply qra | apply qrn | apply qro)); exact HO_8.out))) qZ); have n2_ := am (qS hb); clear HO_8; clear HB; have HO_8 := n0_; have HO353 := n1_; have HB := n2_; clear n0_ n1_ n2_; clear hb ho40)); go_ret2; exact ⟨_, te, by (with_reducible repeat (first | apply qra | apply qrn | apply qro)); exact Kd.R_mono HO353.out (fun _ hk => trivial), hB⟩
     · replace c15 := Bool.eq_false_iff.mpr c15
       subst c15; (have H1 : (some ((([] : List (S37))), 2)) = some (r1, r2) := by rw [if_neg (show ¬ (false = true) by decide)] at H; exact H); clear H; have H := H1; clear H1; obtain ⟨y331, hy331⟩ : ∃ y_ : List (S37), y_ = (([] : List (S37))) := ⟨_, rfl⟩; (replace H : (some (y331, 2)) = some (r1, r2) := by first | (rw [hy331]; with_reducible exact H) | (have H2_ := (Option.bind_some _ _).symm.trans H; rw [hy331]; with_reducible exact H2_) | (have H2_ := (Option.bind_some _ _).symm.trans H; with_reducible exact H2_) | with_reducible exact H | (rw [hy331]; exact H) | exact H); have Ny331 := am hy331; clear hy331; simp only [Option.some.injEq, Prod.mk.injEq] at H; obtain ⟨rfl, rfl⟩ := H; go_wp2_with (first | ((with_reducible refine gate_callee (f := 53) rfl ?_); refine gl (some 21) rfl rfl Try.func53 #[.int .i64 a2] rfl ?_; (with_reducible refine (spec_l02Place.calls a2 false _ A14.out).mono ?_); rintro e w' ⟨rfl, ⟨nd, rfl⟩⟩; refine ⟨_, rfl, ?_⟩) | ((with_reducible refine gate_dst (N := 23) rfl ?_); refine Kd.R_lit k37 _ 37 ?hg (N := 23) ?hd (xs := ([] : List (S37))) (inner := []) (ok := fun _ => True) (okp := fun _ => True) ?hr ?hp (fun _ hk => hk) trivial (Below.refl _ _) (Nat.le_refl _) (by simp) ?_; (case hd => rfl); (case hg => rfl); (case hr => first | (go_simp; done) | (go_simp; rfl)); (case hp => exact (Reps.none _ _)); intro v332 w41 ho42 hb hg_ hnew_; clear hg_ hnew_; (first | rw [← Ny331.out] at ho42 | (simp only [Int.reduceToNat] at ho42; rw [← Ny331.out] at ho42)); have n0_ := am (Kd.R_lower ho42 qZ); have n1_ := am (qS hb); clear HB; have HO333 := n0_; have HB := n1_; clear n0_ n1_; clear hb ho42)); go_ret2; exact ⟨_, te, by (with_reducible repeat (first | apply qra | apply qrn | apply qro)); exact HO333.out, hB⟩


/-! ### impl_Point_56: function 56 -/
def impl_Point_56.f (l0 : List S37) : Option (List S37) := if l0.length < 35184372088832 then some l0 else none
theorem impl_Point_56.calls (A0 : Option Addr) (c0 : Nat) (l0 : List S37) (r : List S37) (w : World) (hr0 : Kd.C k37 w A0 l0.length l0) (hc0 : l0.length ≤ c0) (h : impl_Point_56.f l0 = some r) :
 Calls Try.prog 56 #[.slice A0 l0.length c0] w fun e w' => ∃ v0_ : Value, e = .returned (v0_) ∧ Kd.R k37 37 w' w.heap.size (fun _ => True) v0_ r ∧ Below w.heap.size w w' := by
 have hu37 := Try.underlying37
 have qC : ∀ (w : World) (a : Option Addr) (n c n' c' : Nat), (binOp .eql 25 (.slice a n c) (.slice none n' c')).run Try.prog w = .ok (.bool a.isNone) w := fun w a n c n' c' => Lib.run_eql_slice_nil w _ _ a n c n' c' Try.underlying25
 unfold impl_Point_56.f at h
 by_cases c : l0.length < 35184372088832
 · rw [if_pos c] at h
   obtain rfl := Option.some.inj h; have LM := am c; clear c h; have HB := am (Below.refl w.heap.size w)
   cases A0 with
   | none =>
    have h0 : l0.length = 0 := by
     have := hr0.2.2
     by_cases q : 0 < l0.length
     · obtain ⟨ad, e, _⟩ := this q
       cases e
     · omega
    obtain rfl := List.eq_nil_of_length_eq_zero h0; clear hr0 hc0; go_enter Try.func56, Try.ntmps56; go_wp2; go_ret; exact ⟨_, rfl, Kd.R_nil _ _ _ _ _, hB⟩
   | some ad =>
    have HR0 := am hr0; have HC0 := am hc0; clear hr0 hc0; go_enter Try.func56, Try.ntmps56; go_wp2_with (first | ((with_reducible refine gate_dst (N := 5) rfl ?_); refine Kd.R_lit k37 _ 37 ?hg (N := 5) ?hd (xs := ([] : List (S37))) (inner := []) (ok := fun _ => True) (okp := fun _ => True) ?hr ?hp (fun _ hk => hk) trivial (Below.refl _ _) (Nat.le_refl _) (by simp) ?_; (case hd => rfl); (case hg => rfl); (case hr => first | (go_simp; done) | (go_simp; rfl)); (case hp => exact (Reps.none _ _)); intro v176 w14 ho15 hb hg_ hnew_; clear hg_ hnew_; have n0_ := am (Kd.R_lower ho15 qZ); have n1_ := am (qS hb); clear HB; have HO := n0_; have HB := n1_; clear n0_ n1_; clear hb ho15) | ((with_reducible refine gate_builtin (b := .append) (xs := #[.tmp 5, .tmp 6]) rfl ?_); at_builtin; refine Kd.R_append_rows k37 (w0 := w) w.heap.size rfl (.tmp 5) (.tmp 6) 25 37 (.agg #[(.int .i16 0), (.int .i16 0)]) 4 rfl Try.underlying25 info37 rfl (by decide) (by omega) _ [] l0 _ _ _ (fun _ => True) (fun _ => False) rfl rfl ?aO ?aR (fun _ _ h => h) (fun _ h => h.elim) ?aF ?aB ?aS ?aL ?_; (case aR => repeat (first | exact (Kd.C_below HR0.out HB.out) | (with_reducible first | refine qca ?_ _ | refine qcn ?_ _ | refine qco ?_))); (case aB => exact hB); (case aF => exact (fun _ _ => trivial)); (case aO => exact (by (with_reducible repeat (first | apply qra | apply qrn | apply qro)); exact HO.out)); (case aS => exact qZ); (case aL => have := LM.out; simp only [List.length_nil]; omega); intro v168 w11 ho hb hg hat; have n0_ := am (hb); have n1_ := am (ho); clear HB; clear HO; have HB := n0_; have HO := n1_; clear n0_ n1_; clear ho hb hg hat)); go_ret; exact ⟨_, rfl, HO.out, hB⟩
 · rw [if_neg c] at h
   cases h

-- NOT PRINTED: function 63 (impl_Point_63)


/-! ### impl_simpler: function 57 -/
def dl_lay (cs : Array Value) : Nat → List Value → Array Value
 | _, [] => cs
 | o, v :: r => dl_lay (cs.setIfInBounds o v) (o + 1) r
theorem dl_size (cs : Array Value) (vs : List Value) : ∀ o, (dl_lay cs o vs).size = cs.size := by
 induction vs generalizing cs with
 | nil => intro o; rfl
 | cons v r ih => intro o; simp only [dl_lay]; rw [ih, Array.size_setIfInBounds]
theorem dl_get (vs : List Value) : ∀ (cs : Array Value) (o j : Nat), o + vs.length ≤ cs.size → (dl_lay cs o vs)[j]? = if o ≤ j ∧ j < o + vs.length then vs[j - o]? else cs[j]? := by
 induction vs with
 | nil => intro cs o j h; simp only [dl_lay, List.length_nil]; rw [if_neg (by omega)]
 | cons v r ih =>
  intro cs o j h; simp only [List.length_cons] at h; simp only [dl_lay]; rw [ih _ _ _ (by rw [Array.size_setIfInBounds]; omega), List.length_cons]
  by_cases c : o + 1 ≤ j ∧ j < o + 1 + r.length
  · rw [if_pos c, if_pos (by omega), show j - o = (j - (o + 1)) + 1 by omega, List.getElem?_cons_succ]
  · rw [if_neg c]
    by_cases e : o = j
    · subst e
      rw [if_pos (by omega), Nat.sub_self]; simp [Array.getElem?_setIfInBounds, show o < cs.size by omega]
    · rw [if_neg (by omega)]
      simp [Array.getElem?_setIfInBounds, e]
theorem dl_heap (g : Nat) (t : TypeId) : ∀ (vs : List Value) (o : Nat) (w : World) (cs : Array Value), w.heap[g]? = some (.cells cs t (0, 0)) → (w.setCells g o vs).heap[g]? = some (.cells (dl_lay cs o vs) t (0, 0))
 | [], _, _, _, h => h
 | v :: r, o, w, cs, h => dl_heap g t r (o + 1) _ _ (heap_setCell_same w g o cs t v h)
theorem dl_below {B g : Nat} {a : World} (hg : B ≤ g) : ∀ (vs : List Value) (o : Nat) (w : World), Below B a w → Below B a (w.setCells g o vs)
 | [], _, _, h => h
 | v :: r, o, w, h => dl_below hg r (o + 1) _ (Below.setCell h hg v)
def z2_ : List Value := [.int .i16 0, .int .i16 0]
theorem clear_one_run (w : World) (ty : TypeId) (b o c : Nat) (hc : ∀ j, j < 2 → (w.cell? ⟨b, o + j, none⟩).isSome = true) (hf : ∀ j, j < 2 → w.frozen? ⟨b, o + j, none⟩ = false) :
 (Builtin.clear_ #[25] ty #[.slice (some ⟨b, o, none⟩) 1 c]).run Try.prog w = .ok (.tuple #[]) (w.setCells b o z2_) := by
 have hv : ∀ w, (zeroValue 37).run Try.prog w = .ok (.agg #[.int .i16 0, .int .i16 0]) w := fun w => by kernel_rfl
 have hst := run_storeCells_cells (P := Try.prog) b o z2_ 0 w (fun j hj => by rw [Nat.add_zero]; exact hc j hj) (fun j hj => by rw [Nat.add_zero]; exact hf j hj) (by intro v hv'; simp [z2_] at hv'; subst hv'; rfl)
 simp only [Nat.add_zero] at hst
 have hzc : (Builtin.zeroCells (Value.cells (.agg #[.int .i16 0, .int .i16 0])) 1).toList = z2_ := by kernel_rfl
 simp [Builtin.clear_, run_underlying Try.underlying25, hv, hzc, hst]
theorem dl_walk (g cap m i : Nat) (cur : Array Value) (w : World) (hi : i ≤ m) (hcap : m + 1 ≤ cap) (hm : cap ≤ 9223372036854775807) (hsz : cur.size = cap * 2) (hh : w.heap[g]? = some (.cells cur 37 (0, 0))) (h1 : ∀ u ∈ cur.toList.take ((m + 1) * 2), u.oneCell' = true) :
 Calls Try.prog 63 #[.slice (some ⟨g, 0, none⟩) (m + 1) cap, .int .i64 i, .int .i64 ((i : Int) + 1)] w fun e w' => e = .returned (.slice (some ⟨g, 0, none⟩) m cap) ∧ w' = (w.drew.setCells g (0 + i * 2) ((cur.toList.drop ((i + 1) * 2)).take ((m - i) * 2))).setCells g (m * 2) z2_ := by
 obtain ⟨i0, hi0, hz0, hz1, hz2⟩ := info_parts info37
 obtain ⟨news, hnews⟩ : ∃ news, news = (cur.toList.drop ((i + 1) * 2)).take ((m - i) * 2) := ⟨_, rfl⟩
 have hlen : news.length = (m - i) * 2 := by rw [hnews]; simp; omega
 have hget : ∀ t, t < (m - i) * 2 → ∃ u, news[t]? = some u ∧ cur[(i + 1) * 2 + t]? = some u := by
  intro t ht; (have hb : (i + 1) * 2 + t < cur.size := by omega); refine ⟨cur[(i + 1) * 2 + t], ?_, Array.getElem?_eq_getElem hb⟩; rw [hnews, List.getElem?_take_of_lt ht, List.getElem?_drop, Array.getElem?_toList, Array.getElem?_eq_getElem hb]
 obtain ⟨A, hA, hsrc⟩ : ∃ A : Addr, (if cap = i + 1 then some (⟨g, 0, none⟩ : Addr) else some ⟨g, (i + 1) * 2, none⟩) = some A ∧ Hid (∀ t u, news[t]? = some u → w.drew.cell? (A.add t) = some u) := by
  by_cases h : cap = i + 1
  · refine ⟨⟨g, 0, none⟩, by simp [h], fun t u hu => ?_⟩
    (have h0 : news.length = 0 := by rw [hlen]; omega); rw [List.length_eq_zero_iff.1 h0] at hu; simp at hu
  · refine ⟨⟨g, (i + 1) * 2, none⟩, by simp [h], fun t u hu => ?_⟩
    have ht : t < (m - i) * 2 := by
     have := (List.getElem?_eq_some_iff.1 hu).1
     rwa [hlen] at this
    obtain ⟨u', e1, e2⟩ := hget t ht; rw [e1] at hu; obtain rfl := Option.some.inj hu; rw [Addr.add_lit]; exact (cell_of_row w g _ _ _ _ hh).trans e2
 have s1 : Hid (news.length = (m - i) * 2) := hlen
 have s2 : Hid (∀ u ∈ news, u.oneCell' = true) := by
  intro u hu; obtain ⟨t, ht, e⟩ := List.getElem_of_mem hu; obtain ⟨u', e1, e2⟩ := hget t (by omega); rw [List.getElem?_eq_getElem ht, e] at e1; obtain rfl := Option.some.inj e1; refine h1 _ ?_; refine List.mem_iff_getElem?.2 ⟨(i + 1) * 2 + t, ?_⟩; rw [List.getElem?_take_of_lt (by omega), Array.getElem?_toList]; exact e2
 have s3 : Hid (∀ t, t < news.length → (w.drew.cell? ⟨g, 0 + i * 2 + t, none⟩).isSome = true ∧ w.drew.frozen? ⟨g, 0 + i * 2 + t, none⟩ = false) := by
  intro t ht; rw [hlen] at ht; refine ⟨?_, frozen_of_row w g _ _ _ hh⟩; have := cell_of_row w g (0 + i * 2 + t) _ _ _ hh; rw [Array.getElem?_eq_getElem (by omega)] at this; show (w.cell? _).isSome = true; rw [this]; rfl
 obtain ⟨W1, hW1⟩ : ∃ W1, W1 = w.drew.setCells g (0 + i * 2) news := ⟨_, rfl⟩
 have hh1 : W1.heap[g]? = some (.cells (dl_lay cur (0 + i * 2) news) 37 (0, 0)) := by rw [hW1]; exact dl_heap g 37 news _ _ _ hh
 have hcl : ∀ ty c, (Builtin.clear_ #[25] ty #[.slice (some ⟨g, m * 2, none⟩) 1 c]).run Try.prog W1 = .ok (.tuple #[]) (W1.setCells g (m * 2) z2_) :=
  fun ty c => clear_one_run W1 ty g (m * 2) c (fun j hj => by
   rw [cell_of_row W1 g _ _ _ _ hh1, Array.getElem?_eq_getElem (by rw [dl_size]; omega)]; rfl) (fun j hj => frozen_of_row W1 g _ _ _ hh1)
 have hW : Hid (W1 = w.drew.setCells g (0 + i * 2) news) := hW1
 rw [← hnews, ← hW1]
 have hic : i ≤ cap := by omega
 have hjc : i + 1 ≤ cap := by omega
 have him : i ≤ m + 1 := by omega
 have n1 : ¬ ((i : Int) = (i : Int) + 1) := by omega
 have n2 : ((i : Int) == (i : Int) + 1) = false := beq_eq_false_iff_ne.mpr n1
 have hp0 : (0 : Int) ≤ (i : Int) + 1 := by omega
 have hp2 : ((i : Int) + 1).toNat = i + 1 := by omega
 have hmi : i + (m - i) = m := by omega
 have hm1 : m ≤ cap := by omega
 clear hW1 hh1 hh hget hnews hlen h1
 go_enter Try.func63, Try.ntmps63
 go_wp2_with fail
 go_region_law (refine step_append_room rfl (.tmp 22) (.tmp 25) 25 rfl 37 i0 2 Try.underlying25 hi0 hz1 g 0 i cap (by simp [Act.eval, Act.put]) A (m - i) (cap - (i + 1)) news (by simp [Act.eval, Act.put]) s1.out hsrc.out s2.out (by omega) s3.out ?_; rw [← hW.out])
 go_wp2
 go_ret
 exact ⟨rfl, rfl⟩
theorem dl_two {xs : List Value} {n : Nat} {a b : Value} (h : (xs.drop n).take 2 = [a, b]) : xs[n]? = some a ∧ xs[n + 1]? = some b := by
 have e0 := congrArg (fun l : List Value => l[0]?) h
 have e1 := congrArg (fun l : List Value => l[1]?) h
 simp [List.getElem?_take, List.getElem?_drop] at e0 e1
 exact ⟨e0, e1⟩
theorem dl_mk {xs : List Value} {n : Nat} {a b : Value} (h0 : xs[n]? = some a) (h1 : xs[n + 1]? = some b) : (xs.drop n).take 2 = [a, b] := by
 apply List.ext_getElem?
 intro t
 rcases t with _ | _ | t
 · simp [List.getElem?_take, List.getElem?_drop, h0]
 · simp [List.getElem?_take, List.getElem?_drop, h1]
 · simp [List.getElem?_take]
   omega
theorem dl_R (l : List S37) (i : Nat) (hi : i < l.length) (v : Value) (base : Nat) (w : World) (HO : Kd.R k37 37 w base (fun _ => True) v l) :
 Calls Try.prog 63 #[v, .int .i64 i, .int .i64 ((i : Int) + 1)] w fun e w' => ∃ v', e = .returned v' ∧ Kd.R k37 37 w' base (fun _ => True) v' (l.eraseIdx i) ∧ Below base w w' := by
 obtain ⟨hok, inner, ⟨hin, hown⟩, hr⟩ := HO
 rcases hown with ⟨_, h0⟩ | ⟨g, cap, cur, rfl, hg, hh, hcap, hmax, hsz, htk⟩
 · omega
 replace hsz : cur.size = cap * 2 := hsz
 obtain ⟨m, hm⟩ : ∃ m, l.length = m + 1 := ⟨l.length - 1, by omega⟩
 rw [hm] at hcap htk
 have hcell : ∀ j p, l[j]? = some p → cur[j * 2]? = some (.int .i16 p.f0) ∧ cur[j * 2 + 1]? = some (.int .i16 p.f1) := by
  intro j p hp; have hj : j < l.length := (List.getElem?_eq_some_iff.1 hp).1; obtain ⟨a, b⟩ := dl_two (k37_openM (hr.2 j p hp)); rw [← htk] at a b; rw [show k37.sz = 2 from rfl] at a b; rw [List.getElem?_take_of_lt (show j * 2 < (m + 1) * 2 by omega), Array.getElem?_toList] at a; rw [List.getElem?_take_of_lt (show j * 2 + 1 < (m + 1) * 2 by omega), Array.getElem?_toList] at b; exact ⟨a, b⟩
 have h1 : ∀ u ∈ cur.toList.take ((m + 1) * 2), u.oneCell' = true := by
  intro u hu
  obtain ⟨t, ht, e⟩ := List.getElem_of_mem hu
  have ht' : t < (m + 1) * 2 := by rw [List.length_take] at ht; omega
  have e2 : cur[t]? = some u := by
   have := List.getElem?_eq_getElem ht; rw [e, List.getElem?_take_of_lt ht', Array.getElem?_toList] at this; exact this
  have hj : t / 2 < l.length := by omega
  obtain ⟨a, b⟩ := hcell (t / 2) _ (List.getElem?_eq_getElem hj)
  by_cases par : t % 2 = 0
  · rw [show t / 2 * 2 = t by omega, e2] at a
    cases a
    rfl
  · rw [show t / 2 * 2 + 1 = t by omega, e2] at b
    cases b
    rfl
 rw [hm]
 refine (dl_walk g cap m i cur w (by omega) hcap (by simpa [maxLen] using hmax) hsz hh h1).mono ?_
 rintro e w' ⟨rfl, rfl⟩
 obtain ⟨news, hnews⟩ : ∃ news, news = (cur.toList.drop ((i + 1) * 2)).take ((m - i) * 2) := ⟨_, rfl⟩
 rw [← hnews]
 have hlen : news.length = (m - i) * 2 := by rw [hnews]; simp; omega
 have hh1 : (w.drew.setCells g (0 + i * 2) news).heap[g]? = some (.cells (dl_lay cur (0 + i * 2) news) 37 (0, 0)) := dl_heap g 37 news _ _ _ hh
 have hh2 : ((w.drew.setCells g (0 + i * 2) news).setCells g (m * 2) z2_).heap[g]? = some (.cells (dl_lay (dl_lay cur (0 + i * 2) news) (m * 2) z2_) 37 (0, 0)) := dl_heap g 37 z2_ _ _ _ hh1
 have hz : z2_.length = 2 := rfl
 have hget : ∀ t, t < m * 2 → (dl_lay (dl_lay cur (0 + i * 2) news) (m * 2) z2_)[t]? = if t < i * 2 then cur[t]? else cur[t + 2]? := by
  intro t ht; rw [dl_get _ _ _ _ (by rw [dl_size, hz]; omega), if_neg (by omega), dl_get _ _ _ _ (by omega)]
  by_cases c : t < i * 2
  · rw [if_neg (by omega), if_pos c]
  · rw [if_pos (by omega), if_neg c, hnews, List.getElem?_take_of_lt (by omega), List.getElem?_drop, Array.getElem?_toList, show (i + 1) * 2 + (t - (0 + i * 2)) = t + 2 by omega]
 have hel : (l.eraseIdx i).length = m := by rw [List.length_eraseIdx_of_lt hi]; omega
 refine ⟨_, rfl, ⟨fun _ _ => trivial, (dl_lay (dl_lay cur (0 + i * 2) news) (m * 2) z2_).toList.take (m * 2), ⟨?_, .inr ⟨g, cap, _, ?_, hg, hh2, by omega, hmax, ?_, ?_⟩⟩, ?_, ?_⟩, dl_below hg _ _ _ (dl_below hg _ _ _ (qd (Below.refl base w)))⟩
 · rw [List.length_take, Array.length_toList, dl_size, dl_size, hel, show k37.sz = 2 from rfl]; omega
 · rw [hel]
 · rw [dl_size, dl_size]; exact hsz
 · rw [hel]; rfl
 · rw [List.length_take, Array.length_toList, dl_size, dl_size, hel, show k37.sz = 2 from rfl]; omega
 · intro j p hp
   have hj : j < m := by rw [← hel]; exact (List.getElem?_eq_some_iff.1 hp).1
   rw [show k37.sz = 2 from rfl]
   have two : ((dl_lay (dl_lay cur (0 + i * 2) news) (m * 2) z2_).toList.take (m * 2))[j * 2]? = some (.int .i16 p.f0) ∧ ((dl_lay (dl_lay cur (0 + i * 2) news) (m * 2) z2_).toList.take (m * 2))[j * 2 + 1]? = some (.int .i16 p.f1) := by
    rw [List.getElem?_take_of_lt (show j * 2 < m * 2 by omega), List.getElem?_take_of_lt (show j * 2 + 1 < m * 2 by omega), Array.getElem?_toList, Array.getElem?_toList, hget _ (by omega), hget _ (by omega)]; rw [List.getElem?_eraseIdx] at hp
    by_cases c : j < i
    · rw [if_pos c] at hp
      rw [if_pos (by omega), if_pos (by omega)]; exact hcell j p hp
    · rw [if_neg c] at hp
      rw [if_neg (by omega), if_neg (by omega)]; have := hcell (j + 1) p hp; rw [show (j + 1) * 2 = j * 2 + 2 by omega] at this; exact ⟨this.1, by rw [show j * 2 + 1 + 2 = j * 2 + 2 + 1 by omega]; exact this.2⟩
   rw [dl_mk two.1 two.2]; exact k37_mkM _ _ _ p
def impl_simpler.l0 : Nat → List S37 → List S37 → Int → Nat → Option (List S37 × Bool)
 | 0, _, _, _, _ => none
 | k + 1, l0, l1, a2, i => if i < l1.length then (impl_Point_56.f l1).bind fun y => (if (y.eraseIdx i).length = 0 then some ([], false) else (impl_gap.f k l0 (y.eraseIdx i)).bind fun g => (impl_size.f g.2).bind fun s => if s ≤ a2 then some (y.eraseIdx i, true) else impl_simpler.l0 k l0 l1 a2 (i + 1)) else some ([], false)
def impl_simpler.f (k : Nat) (l0 l1 : List S37) (a2 : Int) : Option (List S37 × Bool) := impl_simpler.l0 k l0 l1 a2 0
theorem impl_simpler.mono_l : ∀ k l0 l1 a2 i, LeO (impl_simpler.l0 k l0 l1 a2 i) (impl_simpler.l0 (k + 1) l0 l1 a2 i)
 | 0, _, _, _, _ => fun r h => by simp [impl_simpler.l0] at h
 | k + 1, l0, l1, a2, i => by
  unfold impl_simpler.l0; refine LeO.ite (LeO.bind (LeO.refl _) fun y => LeO.ite (LeO.refl _) (LeO.bind (impl_gap.mono _ _ _) fun g => LeO.bind (LeO.refl _) fun s => LeO.ite (LeO.refl _) (impl_simpler.mono_l k _ _ _ _))) (LeO.refl _)
theorem impl_simpler.mono : ∀ l0 l1 a2 k, LeO (impl_simpler.f k l0 l1 a2) (impl_simpler.f (k + 1) l0 l1 a2) := fun l0 l1 a2 k => impl_simpler.mono_l k l0 l1 a2 0
theorem impl_simpler.calls (k : Nat) (A0 : Option Addr) (c0 : Nat) (l0 : List S37) (A1 : Option Addr) (c1 : Nat) (l1 : List S37) (a2 : Int) (r1 : List S37) (r2 : Bool) (w : World) (hr0 : Kd.C k37 w A0 l0.length l0) (hc0 : l0.length ≤ c0) (hr1 : Kd.C k37 w A1 l1.length l1) (hc1 : l1.length ≤ c1) (h : impl_simpler.f k l0 l1 a2 = some (r1, r2)) :
 Calls Try.prog 57 #[.slice A0 l0.length c0, .slice A1 l1.length c1, .int .i64 a2] w fun e w' => ∃ v0_ : Value, e = .returned (.tuple #[v0_, .bool r2]) ∧ Kd.R k37 37 w' w.heap.size (fun _ => True) v0_ r1 ∧ Below w.heap.size w w' := by
 have hu37 := Try.underlying37
 have HR0 := am hr0
 have HC0 := am hc0
 have HR1 := am hr1
 have HC1 := am hc1
 have LB := am hr1.2.1
 clear hr0 hc0 hr1 hc1
 have HB := am (Below.refl w.heap.size w)
 have H : impl_simpler.l0 k l0 l1 a2 0 = some (r1, r2) := h
 clear h
 have H' := am H
 clear H
 go_enter Try.func57, Try.ntmps57
 go_wp2
 go_loopg [14] k (fun kq v14 w' => ∃ i : Nat, v14 = .int .i64 (i : Int) ∧ Aside0 (impl_simpler.l0 kq l0 l1 a2 i = some (r1, r2)) ∧ i ≤ l1.length ∧ Aside0 (Below w.heap.size w w'))
 case atStart => exact ⟨0, rfl, H', by omega, ⟨hB⟩⟩
 case round =>
  clear H' HB; obtain ⟨i, rfl, HA, hi, HB⟩ := hrel
  cases gk with
  | zero => exact absurd HA.out (by simp [impl_simpler.l0])
  | succ k2 =>
   have H := HA.out; clear HA; simp only [impl_simpler.l0] at H
   by_cases c : i < l1.length
   · rw [if_pos c] at H
     have c0b : decide ((i : Int) < (l1.length : Int)) = true := decide_eq_true (by omega); have c0c : decide (i < l1.length) = true := decide_eq_true c; have lm := LB.out; (have wi : IntKind.i64.wrap ((i : Int) + 1) = (i : Int) + 1 := by rw [IntKind.wrap_i64]; omega); (have wi' : wrap64 ((i : Int) + 1) = (i : Int) + 1 := by unfold wrap64; omega); replace H := qob.mp H; obtain ⟨y, e1, H⟩ := H
     have ey : y = l1 := by
      unfold impl_Point_56.f at e1
      by_cases q : l1.length < 35184372088832
      · rw [if_pos q] at e1; exact (Option.some.inj e1).symm
      · rw [if_neg q] at e1; cases e1
     subst ey; have E1 := am e1; have Hc := am c; clear e1 lm c; obtain ⟨less, hless⟩ : ∃ less, less = y.eraseIdx i := ⟨_, rfl⟩; rw [← hless] at H; have HL := am hless; clear hless
     by_cases z : less.length = 0
     · rw [if_pos z] at H
       (have z0 : (((less.length : Int)) == 0) = true := by rw [z]; rfl); (have z1 : (less.length == 0) = true := by rw [z]; rfl); simp only [Option.some.injEq, Prod.mk.injEq] at H; obtain ⟨rfl, rfl⟩ := H; go_wp2_with (first | (go_at_call 56; (refine (impl_Point_56.calls _ _ y y _ ?s1 ?s2 E1.out).mono ?_); (case s1 => repeat (first | exact (Kd.C_below HR1.out HB.out) | (with_reducible first | refine qca ?_ _ | refine qcn ?_ _ | refine qco ?_))); (case s2 => exact HC1.out); rintro e w' ⟨v5, rfl, ho, hb⟩; have n0_ := am (Kd.R_lower ho qZ); have n1_ := am (qS hb); clear HB; have HOC := n0_; have HB := n1_; clear n0_ n1_; clear hb ho) | (go_at_call 63; (refine (dl_R y i Hc.out _ w.heap.size _ HOC.out).mono ?_); rintro e w' ⟨v6, rfl, ho, hb⟩; rw [← HL.out] at ho; (obtain ⟨A6, c6, e6⟩ := Kd.R_slice ho); subst e6; have n0_ := am ho; have n1_ := am (HB.out.trans hb); clear HB HOC; have HO := n0_; have HB := n1_; clear n0_ n1_; clear hb ho)); go_ret2; exact ⟨_, by first | rfl | (simp; done), Kd.R_nil _ _ _ _ _, hB⟩
     · rw [if_neg z] at H
       have z0 : (((less.length : Int)) == 0) = false := beq_eq_false_iff_ne.mpr (by omega); have z1 : (less.length == 0) = false := beq_eq_false_iff_ne.mpr z; replace H := qob.mp H; obtain ⟨⟨g1, g2⟩, e2, H⟩ := H; replace H := qob.mp H; obtain ⟨s, e3, H⟩ := H; have E2 := am e2; have E3 := am e3; clear e2 e3
       by_cases q : s ≤ a2
       · rw [if_pos q] at H
         have q0 : decide (s ≤ a2) = true := decide_eq_true q; simp only [Option.some.injEq, Prod.mk.injEq] at H; obtain ⟨rfl, rfl⟩ := H; clear q; go_wp2_with (first | (go_at_call 56; (refine (impl_Point_56.calls _ _ y y _ ?s1 ?s2 E1.out).mono ?_); (case s1 => repeat (first | exact (Kd.C_below HR1.out HB.out) | (with_reducible first | refine qca ?_ _ | refine qcn ?_ _ | refine qco ?_))); (case s2 => exact HC1.out); rintro e w' ⟨v5, rfl, ho, hb⟩; have n0_ := am (Kd.R_lower ho qZ); have n1_ := am (qS hb); clear HB; have HOC := n0_; have HB := n1_; clear n0_ n1_; clear hb ho) | (go_at_call 63; (refine (dl_R y i Hc.out _ w.heap.size _ HOC.out).mono ?_); rintro e w' ⟨v6, rfl, ho, hb⟩; rw [← HL.out] at ho; (obtain ⟨A6, c6, e6⟩ := Kd.R_slice ho); subst e6; have n0_ := am ho; have n1_ := am (HB.out.trans hb); clear HB HOC; have HO := n0_; have HB := n1_; clear n0_ n1_; clear hb ho) | (go_at_call 34; (refine (impl_gap.calls k2 _ _ l0 _ _ less g1 g2 _ ?s1 ?s2 ?s3 ?s4 E2.out).mono ?_); (case s1 => repeat (first | exact (Kd.C_below HR0.out HB.out) | (with_reducible first | refine qca ?_ _ | refine qcn ?_ _ | refine qco ?_))); (case s2 => exact HC0.out); (case s3 => repeat (first | exact (Kd.R_reads' HO.out).2.2 | (with_reducible first | refine qca ?_ _ | refine qcn ?_ _ | refine qco ?_))); (case s4 => exact (Kd.R_reads' HO.out).2.1); rintro e w' ⟨rfl, hb⟩; have n0_ := am (Kd.R_below (by (with_reducible repeat (first | apply qra | apply qrn | apply qro)); exact HO.out) hb); have n1_ := am (qS hb); clear HB HO; have HO := n0_; have HB := n1_; clear n0_ n1_; clear hb) | (go_at_call 60; (refine (impl_size.calls _ s _ E3.out).mono ?_); rintro e w' ⟨rfl, hb⟩; have n0_ := am (Kd.R_below (by (with_reducible repeat (first | apply qra | apply qrn | apply qro)); exact HO.out) hb); have n1_ := am (qS hb); clear HB HO; have HO := n0_; have HB := n1_; clear n0_ n1_; clear hb)); go_ret2; exact ⟨_, by first | rfl | (simp; done), (by (with_reducible repeat (first | apply qra | apply qrn | apply qro)); exact HO.out), hB⟩
       · rw [if_neg q] at H
         have q0 : decide (s ≤ a2) = false := decide_eq_false q; have H' := am H; clear H q; go_wp2_with (first | (go_at_call 56; (refine (impl_Point_56.calls _ _ y y _ ?s1 ?s2 E1.out).mono ?_); (case s1 => repeat (first | exact (Kd.C_below HR1.out HB.out) | (with_reducible first | refine qca ?_ _ | refine qcn ?_ _ | refine qco ?_))); (case s2 => exact HC1.out); rintro e w' ⟨v5, rfl, ho, hb⟩; have n0_ := am (Kd.R_lower ho qZ); have n1_ := am (qS hb); clear HB; have HOC := n0_; have HB := n1_; clear n0_ n1_; clear hb ho) | (go_at_call 63; (refine (dl_R y i Hc.out _ w.heap.size _ HOC.out).mono ?_); rintro e w' ⟨v6, rfl, ho, hb⟩; rw [← HL.out] at ho; (obtain ⟨A6, c6, e6⟩ := Kd.R_slice ho); subst e6; have n0_ := am ho; have n1_ := am (HB.out.trans hb); clear HB HOC; have HO := n0_; have HB := n1_; clear n0_ n1_; clear hb ho) | (go_at_call 34; (refine (impl_gap.calls k2 _ _ l0 _ _ less g1 g2 _ ?s1 ?s2 ?s3 ?s4 E2.out).mono ?_); (case s1 => repeat (first | exact (Kd.C_below HR0.out HB.out) | (with_reducible first | refine qca ?_ _ | refine qcn ?_ _ | refine qco ?_))); (case s2 => exact HC0.out); (case s3 => repeat (first | exact (Kd.R_reads' HO.out).2.2 | (with_reducible first | refine qca ?_ _ | refine qcn ?_ _ | refine qco ?_))); (case s4 => exact (Kd.R_reads' HO.out).2.1); rintro e w' ⟨rfl, hb⟩; have n0_ := am (Kd.R_below (by (with_reducible repeat (first | apply qra | apply qrn | apply qro)); exact HO.out) hb); have n1_ := am (qS hb); clear HB HO; have HO := n0_; have HB := n1_; clear n0_ n1_; clear hb) | (go_at_call 60; (refine (impl_size.calls _ s _ E3.out).mono ?_); rintro e w' ⟨rfl, hb⟩; have n0_ := am (Kd.R_below (by (with_reducible repeat (first | apply qra | apply qrn | apply qro)); exact HO.out) hb); have n1_ := am (qS hb); clear HB HO; have HO := n0_; have HB := n1_; clear n0_ n1_; clear hb)); go_roundg k2
         case measure => omega
         case rel => exact ⟨i + 1, by simp [wi'], H', by have := Hc.out; omega, ⟨hB⟩⟩
   · rw [if_neg c] at H
     have c0b : decide ((i : Int) < (l1.length : Int)) = false := decide_eq_false (by omega); have c0c : decide (i < l1.length) = false := decide_eq_false c; simp only [Option.some.injEq, Prod.mk.injEq] at H; obtain ⟨rfl, rfl⟩ := H; go_wp2; go_ret2; exact ⟨_, by first | rfl | (simp; done), Kd.R_nil _ _ _ _ _, hB⟩

end Go.Proofs.Ytedheepkalbcfaa.PFnMovedCurves
