/- Proves what functions that a law reaches come to, one contract each; no conditions beyond those that each names. Printed by a program of this session (xprint) out of the translation. -/
import Derived.Test.YtedheepkalbcfaaPFnMovedCurvesx0
import Derived.Test.YtedheepkalbcfaaPFnMovedCurvesx1
import Derived.Test.YtedheepkalbcfaaPFnMovedCurvesx4
import Derived.Test.YtedheepkalbcfaaPFnMovedCurvesx5
namespace Go.Proofs.Ytedheepkalbcfaa.PFnMovedCurves
open Go.RowKit Go.Proofs.YtedheepkalbcfaaW.PrintWords Go.Proofs.YtedheepkalbcfaaW.PrintLast Go.Proofs.YtedheepkalbcfaaW.PrintMore
attribute [local go_sem] max2_int min2_int max_two min_two max_three min_three max_four min_four
set_option maxHeartbeats 8000000
set_option maxRecDepth 100000
set_option linter.unusedVariables false
set_option linter.unusedSimpArgs false

attribute [local go_sem high] eqA37
/-! ### spec_l02Ok: function 51 -/
def spec_l02Ok.f (k : Nat) (l0 : List (S37)) : Option (Bool) := (spec_l02Shape.f k l0).bind fun t177 => (if t177 = true then (some (decide ((l0.length : Int) ≤ 12))) else (some false))
theorem spec_l02Ok.mono : ∀ a0 k, LeO (spec_l02Ok.f k a0) (spec_l02Ok.f (k + 1) a0) := by
 intro a0 k
 unfold spec_l02Ok.f
 repeat' first | (with_reducible first | exact spec_l02Shape.mono _ _ | exact LeO.refl _ | exact LeO.none _ | refine LeO.ite ?_ ?_ | refine LeO.bind ?_ (fun _ => ?_)) | exact spec_l02Shape.mono _ _ | exact LeO.none _ | refine LeO.ite ?_ ?_ | refine LeO.bind ?_ (fun _ => ?_)
theorem spec_l02Ok.calls (k : Nat) (A0 : Option Addr) (c0 : Nat) (l0 : List (S37)) (r : Bool) (w : World) (hr0 : Kd.C k37 w A0 l0.length l0) (hc0 : l0.length ≤ c0) (h : spec_l02Ok.f k l0 = some r) :
 Calls Try.prog 51 #[.slice A0 l0.length c0] w fun e w' => e = .returned (.bool r) ∧ Below w.heap.size w w' := by
 have HR0 := am hr0
 have HC0 := am hc0
 clear hr0 hc0
 have HB := am (Below.refl w.heap.size w)
 have H : ((spec_l02Shape.f k l0).bind fun t177 => (if t177 = true then (some (decide ((l0.length : Int) ≤ 12))) else (some false))) = some r := h
 clear h
 replace H := qob.mp H
 obtain ⟨t177, A20, H⟩ := H
 replace H : (if t177 = true then (some (decide ((l0.length : Int) ≤ 12))) else (some false)) = some r := H
 have A2 := am A20
 clear A20
 by_cases c3 : t177 = true
 · subst c3
   (have H1 : (some (decide ((l0.length : Int) ≤ 12))) = some r := by rw [if_pos rfl] at H; exact H); clear H; have H := H1; clear H1; obtain rfl := Option.some.inj H; go_enter Try.func51, Try.ntmps51; go_wp2_with (first | ((with_reducible refine gate_callee (f := 54) rfl ?_); refine gl (some 4) rfl rfl Try.func54 #[.slice A0 l0.length c0] rfl ?_; (with_reducible refine (spec_l02Shape.calls k _ _ l0 true _ ?side1 ?side2 A2.out).mono ?_); (case side1 => repeat (first | exact HR0.out | (with_reducible first | refine qca ?_ _ | refine qcn ?_ _ | refine qco ?_))); (case side2 => exact HC0.out); rintro e w4 ⟨rfl, hb⟩; refine ⟨_, rfl, ?_⟩; have n0_ := am (qS hb); clear HB; have HB := n0_; clear n0_; (try clear hb))); go_ret; exact ⟨te, hB⟩
 · replace c3 := Bool.eq_false_iff.mpr c3
   subst c3; (have H1 : (some false) = some r := by rw [if_neg (show ¬ (false = true) by decide)] at H; exact H); clear H; have H := H1; clear H1; obtain rfl := Option.some.inj H; go_enter Try.func51, Try.ntmps51; go_wp2_with (first | ((with_reducible refine gate_callee (f := 54) rfl ?_); refine gl (some 4) rfl rfl Try.func54 #[.slice A0 l0.length c0] rfl ?_; (with_reducible refine (spec_l02Shape.calls k _ _ l0 false _ ?side1 ?side2 A2.out).mono ?_); (case side1 => repeat (first | exact HR0.out | (with_reducible first | refine qca ?_ _ | refine qcn ?_ _ | refine qco ?_))); (case side2 => exact HC0.out); rintro e w5 ⟨rfl, hb⟩; refine ⟨_, rfl, ?_⟩; have n0_ := am (qS hb); clear HB; have HB := n0_; clear n0_; (try clear hb))); go_ret; exact ⟨te, hB⟩

/-! ### spec_l02Moved: function 31 -/
mutual
def spec_l02Moved.j0 : Nat → List (S37) → Int → Int → Bool → Option ((List (S37)) × Int)
 | 0, _, _, _, _ => none
 | k + 1, x0, x1, x2, x21 => if x21 = true then (some ((([] : List (S37))), 2)) else (spec_l02Moved.l0 k x0 x1 x2 (([] : List (S37))) 0)
def spec_l02Moved.l0 : Nat → List (S37) → Int → Int → List (S37) → Int → Option ((List (S37)) × Int)
 | 0, _, _, _, _, _ => none
 | k + 1, x0, x1, x2, x8, x9 => if x9 < (x0.length : Int) then (if 0 ≤ x9 then (if x8.length < 35184372088832 then (spec_l02Moved.l0 k x0 x1 x2 (x8 ++ [(⟨IntKind.i16.wrap (((rd_T37 x0 x9).f0) + (IntKind.i16.wrap (x1))), IntKind.i16.wrap (((rd_T37 x0 x9).f1) + (IntKind.i16.wrap (x2)))⟩ : S37)]) (wrap64 (x9 + 1))) else (none)) else (none)) else ((spec_l02Ok.f k x8).bind fun t195 => (if t195 = true then (some (x8, 0)) else (some ((([] : List (S37))), 4))))
end
def spec_l02Moved.f (k : Nat) (l0 : List (S37)) (a1 : Int) (a2 : Int) : Option ((List (S37)) × Int) := (spec_l02Ok.f k l0).bind fun t178 => (if t178 = true then ((spec_l00In.f a1 (-400) 400).bind fun t182 => (if t182 = true then ((spec_l00In.f a2 (-400) 400).bind fun t183 => (spec_l02Moved.j0 k l0 a1 a2 (!t183))) else (spec_l02Moved.j0 k l0 a1 a2 true))) else (some ((([] : List (S37))), 1)))
theorem spec_l02Moved.mono_l : ∀ k, (∀ y0 y1 y2 y3, LeO (spec_l02Moved.j0 k y0 y1 y2 y3) (spec_l02Moved.j0 (k + 1) y0 y1 y2 y3)) ∧ (∀ y0 y1 y2 y3 y4, LeO (spec_l02Moved.l0 k y0 y1 y2 y3 y4) (spec_l02Moved.l0 (k + 1) y0 y1 y2 y3 y4))
 | 0 => ⟨fun _ _ _ _ r h => by simp [spec_l02Moved.j0] at h, fun _ _ _ _ _ r h => by simp [spec_l02Moved.l0] at h⟩
 | k + 1 => by
  obtain ⟨ih0, ih1⟩ := spec_l02Moved.mono_l k; refine ⟨?_, ?_⟩; intro y0 y1 y2 y3; unfold spec_l02Moved.j0; rotate_left; intro y0 y1 y2 y3 y4; unfold spec_l02Moved.l0; rotate_left
  all_goals repeat' first | (with_reducible first | exact ih0 _ _ _ _ | exact ih1 _ _ _ _ _ | exact spec_l02Ok.mono _ _ | exact LeO.refl _ | exact LeO.none _ | refine LeO.ite ?_ ?_ | refine LeO.bind ?_ (fun _ => ?_)) | exact ih0 _ _ _ _ | exact ih1 _ _ _ _ _ | exact spec_l02Ok.mono _ _ | exact LeO.none _ | refine LeO.ite ?_ ?_ | refine LeO.bind ?_ (fun _ => ?_)
theorem spec_l02Moved.mono : ∀ a0 a1 a2 k, LeO (spec_l02Moved.f k a0 a1 a2) (spec_l02Moved.f (k + 1) a0 a1 a2) := by
 intro a0 a1 a2 k
 obtain ⟨ih0, ih1⟩ := spec_l02Moved.mono_l k
 unfold spec_l02Moved.f
 repeat' first | (with_reducible first | exact ih0 _ _ _ _ | exact ih1 _ _ _ _ _ | exact spec_l02Ok.mono _ _ | exact LeO.refl _ | exact LeO.none _ | refine LeO.ite ?_ ?_ | refine LeO.bind ?_ (fun _ => ?_)) | exact ih0 _ _ _ _ | exact ih1 _ _ _ _ _ | exact spec_l02Ok.mono _ _ | exact LeO.none _ | refine LeO.ite ?_ ?_ | refine LeO.bind ?_ (fun _ => ?_)
def spec_l02Moved.T9 : Bool × List (List Nat × List Nat) := (true, [([], []), ([], []), ([], []), ([1, 2], [1, 2]), ([3], [3]), ([4], [4]), ([], []), ([6], [6]), ([5, 7], [5, 7]), ([], []), ([], []), ([9, 10], [9, 10]), ([11], [11]), ([12], [12]), ([], []), ([14], [14]), ([13, 15], [13, 15]), ([8, 16], [8, 16]), ([17], [17]), ([0, 18], [0, 18]), ([19, 19, 0, 1, 2, 3, 4, 5, 6, 7, 8, 9, 10, 11, 12, 13, 14, 15, 16, 17, 18, 19], [0, 19])])
def spec_l02Moved.B9 : List Nat := [0, 0, 0, 6, 14, 30, 0, 64, 254, 0, 0, 1536, 3584, 7680, 0, 16384, 65024, 131070, 262142, 524287, 1048575]
theorem spec_l02Moved.tab9 : rtab .any (opsOf Try.f31 9) = spec_l02Moved.T9 := by kernel_rfl
theorem spec_l02Moved.bits9 : waitsOk spec_l02Moved.T9.2 spec_l02Moved.B9 = true := by kernel_rfl
theorem spec_l02Moved.calls (k : Nat) (A0 : Option Addr) (c0 : Nat) (l0 : List (S37)) (a1 : Int) (a2 : Int) (r1 : List (S37)) (r2 : Int) (w : World) (hr0 : Kd.C k37 w A0 l0.length l0) (hc0 : l0.length ≤ c0) (h : spec_l02Moved.f k l0 a1 a2 = some (r1, r2)) :
 Calls Try.prog 31 #[.slice A0 l0.length c0, .int .i64 a1, .int .i64 a2] w fun e w' => ∃ v0_ : Value, e = .returned (.tuple #[v0_, .int .i64 r2]) ∧ Kd.R k37 37 w' w.heap.size (fun _ => True) v0_ r1 ∧ Below w.heap.size w w' := by
 have hu37 := Try.underlying37
 have HR0 := am hr0
 have HC0 := am hc0
 clear hr0 hc0
 have HB := am (Below.refl w.heap.size w)
 have H : ((spec_l02Ok.f k l0).bind fun t178 => (if t178 = true then ((spec_l00In.f a1 (-400) 400).bind fun t182 => (if t182 = true then ((spec_l00In.f a2 (-400) 400).bind fun t183 => (spec_l02Moved.j0 k l0 a1 a2 (!t183))) else (spec_l02Moved.j0 k l0 a1 a2 true))) else (some ((([] : List (S37))), 1)))) = some (r1, r2) := h
 clear h
 replace H := qob.mp H
 obtain ⟨t178, A40, H⟩ := H
 replace H : (if t178 = true then ((spec_l00In.f a1 (-400) 400).bind fun t182 => (if t182 = true then ((spec_l00In.f a2 (-400) 400).bind fun t183 => (spec_l02Moved.j0 k l0 a1 a2 (!t183))) else (spec_l02Moved.j0 k l0 a1 a2 true))) else (some ((([] : List (S37))), 1))) = some (r1, r2) := H
 have A4 := am A40
 clear A40
 by_cases c5 : t178 = true
 · subst c5
   (have H1 : ((spec_l00In.f a1 (-400) 400).bind fun t182 => (if t182 = true then ((spec_l00In.f a2 (-400) 400).bind fun t183 => (spec_l02Moved.j0 k l0 a1 a2 (!t183))) else (spec_l02Moved.j0 k l0 a1 a2 true))) = some (r1, r2) := by rw [if_pos rfl] at H; exact H); clear H; have H := H1; clear H1; have HC6 := am H; clear H; go_enter Try.func31, Try.ntmps31; go_upto_region 3 with (first | ((with_reducible refine gate_callee (f := 51) rfl ?_); refine gl (some 11) rfl rfl Try.func51 #[.slice A0 l0.length c0] rfl ?_; (with_reducible refine (spec_l02Ok.calls k _ _ l0 true _ ?side1 ?side2 A4.out).mono ?_); (case side1 => repeat (first | exact HR0.out | (with_reducible first | refine qca ?_ _ | refine qcn ?_ _ | refine qco ?_))); (case side2 => exact HC0.out); rintro e w7 ⟨rfl, hb⟩; refine ⟨_, rfl, ?_⟩; have n0_ := am (qS hb); clear HB; have HB := n0_; clear n0_; (try clear hb))); (try simp only [Act.put, sqA, sqZ, sqS]); go_cut [21] (fun v21 wc => ∃ (kq : Nat) (x21_5 : Bool), v21 = .bool x21_5 ∧ Aside0 (spec_l02Moved.j0 kq l0 a1 a2 x21_5 = some (r1, r2)) ∧ Aside0 (kq ≤ k) ∧ Aside0 (Below w.heap.size w wc))
   case first =>
    have H := HC6.out; clear HC6; replace H := qob.mp H; obtain ⟨t182, A80, H⟩ := H; replace H : (if t182 = true then ((spec_l00In.f a2 (-400) 400).bind fun t183 => (spec_l02Moved.j0 k l0 a1 a2 (!t183))) else (spec_l02Moved.j0 k l0 a1 a2 true)) = some (r1, r2) := H; have A8 := am A80; clear A80
    by_cases c9 : t182 = true
    · subst c9
      (have H1 : ((spec_l00In.f a2 (-400) 400).bind fun t183 => (spec_l02Moved.j0 k l0 a1 a2 (!t183))) = some (r1, r2) := by rw [if_pos rfl] at H; exact H); clear H; have H := H1; clear H1; replace H := qob.mp H; obtain ⟨t183, A100, H⟩ := H; replace H : (spec_l02Moved.j0 k l0 a1 a2 (!t183)) = some (r1, r2) := H; have A10 := am A100; clear A100; have H' := am H; clear H; go_wp2_with (first | ((with_reducible refine gate_callee (f := 46) rfl ?_); refine gl (some 15) rfl rfl Try.func46 #[.int .i64 a1, .int .i64 (-400), .int .i64 400] rfl ?_; (with_reducible refine (spec_l00In.calls a1 (-400) 400 true _ A8.out).mono ?_); rintro e w' ⟨rfl, ⟨nd, rfl⟩⟩; refine ⟨_, rfl, ?_⟩) | (go_at_call 46; (with_reducible refine (spec_l00In.calls a2 (-400) 400 t183 _ A10.out).mono ?_); rintro e w' ⟨rfl, ⟨nd, rfl⟩⟩)); go_meet
      case rel => exact ⟨_, (!t183), tr, H', ⟨by first | omega | exact Nat.le_refl _⟩, ⟨hB⟩⟩
    · replace c9 := Bool.eq_false_iff.mpr c9
      subst c9; (have H1 : (spec_l02Moved.j0 k l0 a1 a2 true) = some (r1, r2) := by rw [if_neg (show ¬ (false = true) by decide)] at H; exact H); clear H; have H := H1; clear H1; have H' := am H; clear H; go_wp2_with (first | ((with_reducible refine gate_callee (f := 46) rfl ?_); refine gl (some 15) rfl rfl Try.func46 #[.int .i64 a1, .int .i64 (-400), .int .i64 400] rfl ?_; (with_reducible refine (spec_l00In.calls a1 (-400) 400 false _ A8.out).mono ?_); rintro e w' ⟨rfl, ⟨nd, rfl⟩⟩; refine ⟨_, rfl, ?_⟩)); go_meet
      case rel => exact ⟨_, (true), tr, H', ⟨by first | omega | exact Nat.le_refl _⟩, ⟨hB⟩⟩
   case rest => as_aux_lemma =>
    clear HC6; (try clear p2); (try clear c3); (try clear c4); (try clear c5); (try clear c9); obtain ⟨kq, x21_5, rfl, HA, HJ5, HB⟩ := hcut
    cases kq with
    | zero => exact absurd HA.out (by simp [spec_l02Moved.j0])
    | succ kj5 =>
     have H := HA.out; clear HA; simp only [spec_l02Moved.j0] at H
     by_cases c11 : x21_5 = true
     · subst c11
       (have H1 : (some ((([] : List (S37))), 2)) = some (r1, r2) := by rw [if_pos rfl] at H; exact H); clear H; have H := H1; clear H1; obtain ⟨y184, hy184⟩ : ∃ y_ : List (S37), y_ = (([] : List (S37))) := ⟨_, rfl⟩; (replace H : (some (y184, 2)) = some (r1, r2) := by first | (rw [hy184]; with_reducible exact H) | (have H2_ := (Option.bind_some _ _).symm.trans H; rw [hy184]; with_reducible exact H2_) | (have H2_ := (Option.bind_some _ _).symm.trans H; with_reducible exact H2_) | with_reducible exact H | (rw [hy184]; exact H) | exact H); have Ny184 := am hy184; clear hy184; simp only [Option.some.injEq, Prod.mk.injEq] at H; obtain ⟨rfl, rfl⟩ := H; go_wp2_with (first | ((with_reducible refine gate_dst (N := 22) rfl ?_); refine Kd.R_lit k37 _ 37 ?hg (N := 22) ?hd (xs := ([] : List (S37))) (inner := []) (ok := fun _ => True) (okp := fun _ => True) ?hr ?hp (fun _ hk => hk) trivial (Below.refl _ _) (Nat.le_refl _) (by simp) ?_; (case hd => rfl); (case hg => rfl); (case hr => first | (go_simp; done) | (go_simp; rfl)); (case hp => exact (Reps.none _ _)); intro v185 w12 ho13 hb hg_ hnew_; clear hg_ hnew_; (first | rw [← Ny184.out] at ho13 | (simp only [Int.reduceToNat] at ho13; rw [← Ny184.out] at ho13)); have n0_ := am (Kd.R_lower ho13 qZ); have n1_ := am (qS hb); clear HB; have HO186 := n0_; have HB := n1_; clear n0_ n1_; clear hb ho13)); go_ret2; exact ⟨_, te, by (with_reducible repeat (first | apply qra | apply qrn | apply qro)); exact HO186.out, hB⟩
     · replace c11 := Bool.eq_false_iff.mpr c11
       subst c11; (have H1 : (spec_l02Moved.l0 kj5 l0 a1 a2 (([] : List (S37))) 0) = some (r1, r2) := by rw [if_neg (show ¬ (false = true) by decide)] at H; exact H); clear H; have H := H1; clear H1; obtain ⟨y187, hy187⟩ : ∃ y_ : List (S37), y_ = (([] : List (S37))) := ⟨_, rfl⟩; (replace H : (spec_l02Moved.l0 kj5 l0 a1 a2 y187 0) = some (r1, r2) := by first | (rw [hy187]; with_reducible exact H) | (have H2_ := (Option.bind_some _ _).symm.trans H; rw [hy187]; with_reducible exact H2_) | (have H2_ := (Option.bind_some _ _).symm.trans H; with_reducible exact H2_) | with_reducible exact H | (rw [hy187]; exact H) | exact H); have Ny187 := am hy187; clear hy187; have H' := am H; clear H; go_wp2_with (first | ((with_reducible refine gate_dst (N := 23) rfl ?_); refine Kd.R_lit k37 _ 37 ?hg (N := 23) ?hd (xs := ([] : List (S37))) (inner := []) (ok := fun _ => True) (okp := fun _ => True) ?hr ?hp (fun _ hk => hk) trivial (Below.refl _ _) (Nat.le_refl _) (by simp) ?_; (case hd => rfl); (case hg => rfl); (case hr => first | (go_simp; done) | (go_simp; rfl)); (case hp => exact (Reps.none _ _)); intro v188 w14 ho15 hb hg_ hnew_; clear hg_ hnew_; (first | rw [← Ny187.out] at ho15 | (simp only [Int.reduceToNat] at ho15; rw [← Ny187.out] at ho15)); have n0_ := am (Kd.R_lower ho15 qZ); have n1_ := am (qS hb); clear HB; have HO189 := n0_; have HB := n1_; clear n0_ n1_; clear hb ho15)); go_loopg [8, 9] kj5 (fun kq v8 v9 w' => ∃ (x8_2 : List (S37)) (x9_2 : Int), v9 = .int .i64 x9_2 ∧ Aside0 (spec_l02Moved.l0 kq l0 a1 a2 x8_2 x9_2 = some (r1, r2)) ∧ Aside0 (kq ≤ kj5) ∧ Aside0 (Kd.R k37 37 w' w.heap.size (fun _ => True) v8 x8_2) ∧ Aside0 (Below w.heap.size w w'))
       case atStart => exact ⟨(y187), (0), tr, H', ⟨Nat.le_refl _⟩, ⟨by (with_reducible repeat (first | apply qra | apply qrn | apply qro)); exact HO189.out⟩, ⟨hB⟩⟩
       case round =>
        clear H'; (try clear c1); (try clear p2); (try clear c3); (try clear c4); (try clear c5); (try clear c9); (try clear c11); (try clear p2); obtain ⟨x8_2, x9_2, rfl, HA, HK2, HO_8, HB⟩ := hrel
        cases gk with
        | zero => exact absurd HA.out (by simp [spec_l02Moved.l0])
        | succ k2 =>
         have H := HA.out; clear HA; simp only [spec_l02Moved.l0] at H
         by_cases c16 : x9_2 < (l0.length : Int)
         · rw [if_pos c16] at H
           have c16b0 : decide (x9_2 < (l0.length : Int)) = true := decide_eq_true c16; clear c16
           by_cases c17 : 0 ≤ x9_2
           · rw [if_pos c17] at H
             have c17b0 : decide (0 ≤ x9_2) = true := decide_eq_true c17; clear c17
             by_cases c18 : x8_2.length < 35184372088832
             · rw [if_pos c18] at H
               have LMc18 := am c18; clear c18; obtain ⟨y192, hy192⟩ : ∃ y_ : List (S37), y_ = (x8_2 ++ [(⟨IntKind.i16.wrap (((rd_T37 l0 x9_2).f0) + (IntKind.i16.wrap (a1))), IntKind.i16.wrap (((rd_T37 l0 x9_2).f1) + (IntKind.i16.wrap (a2)))⟩ : S37)]) := ⟨_, rfl⟩; (replace H : (spec_l02Moved.l0 k2 l0 a1 a2 y192 (wrap64 (x9_2 + 1))) = some (r1, r2) := by first | (rw [hy192]; with_reducible exact H) | (have H2_ := (Option.bind_some _ _).symm.trans H; rw [hy192]; with_reducible exact H2_) | (have H2_ := (Option.bind_some _ _).symm.trans H; with_reducible exact H2_) | with_reducible exact H | (rw [hy192]; exact H) | exact H); have Ny192 := am hy192; clear hy192; have H' := am H; clear H; (try go_wp2); have n0_ := am (qro HO_8.out); have n1_ := am (qd HB.out); clear HO_8; clear HB; have HO_8 := n0_; have HB := n1_; clear n0_ n1_; have p190 : 0 ≤ (x9_2 : Int) := od; have q190 : x9_2 < (l0.length : Int) := od; obtain ⟨ad190, e190, hx190_0, hx190_1⟩ := at_T37 HR0.out x9_2 p190 q190; have hw190_1 := hx190_1; have hw190_0 := hx190_0
               cases e190
               replace hx190_0 := (HB.out.cell (qwb w _ hx190_0)).trans hx190_0; replace hx190_1 := (HB.out.cell (qwb w _ hx190_1)).trans hx190_1; replace p190 := eq_true p190; replace q190 := eq_true q190; have p191 : 0 ≤ (x9_2 : Int) := od; have q191 : x9_2 < (l0.length : Int) := od; obtain ⟨ad191, e191, hx191_0, hx191_1⟩ := at_T37 HR0.out x9_2 p191 q191; have hw191_1 := hx191_1; have hw191_0 := hx191_0; obtain rfl : ad190 = ad191 := (by injection e191); replace hx191_0 := (HB.out.cell (qwb w _ hx191_0)).trans hx191_0; replace hx191_1 := (HB.out.cell (qwb w _ hx191_1)).trans hx191_1; replace p191 := eq_true p191; replace q191 := eq_true q191; refine start_ (n := 21) (S := fun w' => w'.cell? (ad190.add ((x9_2).toNat * 2)) = some (.int .i16 ((rd_T37 l0 x9_2).f0)) ∧ w'.cell? ⟨(ad190.add ((x9_2).toNat * 2)).block, (ad190.add ((x9_2).toNat * 2)).off + 1, none⟩ = some (.int .i16 ((rd_T37 l0 x9_2).f1)) ∧ w'.cell? (ad190.add ((x9_2).toNat * 2)) = some (.int .i16 ((rd_T37 l0 x9_2).f0)) ∧ w'.cell? ⟨(ad190.add ((x9_2).toNat * 2)).block, (ad190.add ((x9_2).toNat * 2)).off + 1, none⟩ = some (.int .i16 ((rd_T37 l0 x9_2).f1))) (ds := []) (bs 0 21) (by kernel_rfl) rfl rfl ⟨((HB.out.cell (qwb w _ hw190_0)).trans hw190_0), ((HB.out.cell (qwb w _ hw190_1)).trans hw190_1), ((HB.out.cell (qwb w _ hw191_0)).trans hw191_0), ((HB.out.cell (qwb w _ hw191_1)).trans hw191_1)⟩ (fun hHeld => ?_); refine with_tabW spec_l02Moved.tab9 spec_l02Moved.bits9 (fun HT_ HW_ => ?_)
               generalize wr.drew = w19 at HO_8 HB hx190_0 hx190_1 hx191_0 hx191_1 hHeld ⊢
               refine pv 0 (some 30) (bs 1 20) ?_; refine pv 1 (some 31) (bs 2 19) ?_; refine pv 2 (some 32) (bs 3 18) ?_; refine pv 3 (some 33) (bs 4 17) ?_; refine pv 4 (some 34) (bs 5 16) ?_; refine pv 6 (some 36) #[true, true, true, true, true, false, true, false, false, false, false, false, false, false, false, false, false, false, false, false, false] ?_; refine pv 7 (some 37) #[true, true, true, true, true, false, true, true, false, false, false, false, false, false, false, false, false, false, false, false, false] ?_; refine pv 9 (some 39) #[true, true, true, true, true, false, true, true, false, true, false, false, false, false, false, false, false, false, false, false, false] ?_; refine pv 10 (some 40) #[true, true, true, true, true, false, true, true, false, true, true, false, false, false, false, false, false, false, false, false, false] ?_; refine pv 11 (some 41) #[true, true, true, true, true, false, true, true, false, true, true, true, false, false, false, false, false, false, false, false, false] ?_; refine pv 12 (some 42) #[true, true, true, true, true, false, true, true, false, true, true, true, true, false, false, false, false, false, false, false, false] ?_; refine pv 14 (some 44) #[true, true, true, true, true, false, true, true, false, true, true, true, true, false, true, false, false, false, false, false, false] ?_; refine pv 15 (some 45) #[true, true, true, true, true, false, true, true, false, true, true, true, true, false, true, true, false, false, false, false, false] ?_; refine take_ (i := 5) (N := some 35) (v := ?_) (a' := ?_) #[true, true, true, true, true, true, true, true, false, true, true, true, true, false, true, true, false, false, false, false, false] rfl rfl (take_ofW HT_.out HW_.out (by kernel_rfl)) (fun _ _ _ h => h) (Or.inl ⟨by rfl, ?_⟩) hHeld ?_ ?_; rotate_left
               · rintro w' ⟨s0, s1, s2, s3⟩
                 go_simp; (with_reducible rfl)
               (rotate_left; · simp only [Act.put, sqA, sqZ, sqS, i64_w, i32_w]; rfl); refine pv 8 (some 38) #[true, true, true, true, true, true, true, true, true, true, true, true, true, false, true, true, false, false, false, false, false] ?_; refine take_ (i := 13) (N := some 43) (v := ?_) (a' := ?_) (bs 16 5) rfl rfl (take_ofW HT_.out HW_.out (by kernel_rfl)) (fun _ _ _ h => h) (Or.inl ⟨by rfl, ?_⟩) hHeld ?_ ?_; rotate_left
               · rintro w' ⟨s0, s1, s2, s3⟩
                 go_simp; (with_reducible rfl)
               (rotate_left; · simp only [Act.put, sqA, sqZ, sqS, i64_w, i32_w]; rfl); refine pv 16 (some 46) (bs 17 4) ?_; refine pv 17 (some 47) (bs 18 3) ?_; refine one_ (i := 18) (N := some 48) (bs 19 2) rfl rfl (one_of HT_.out (by kernel_rfl)) (by decide) (fun K hK => ?_); refine value_ (w1 := ?_) (v := ?_) (by rfl) rfl ?_ ?_; rotate_left 2
               · go_simp
                 constructor
                 · rfl
                 · rfl
               refine hK.out _ _ ⟨(World.cell?_alloc_lt _ _ _ (qwb _ _ (((HB.out.cell (qwb w _ hw190_0)).trans hw190_0)))).trans (((HB.out.cell (qwb w _ hw190_0)).trans hw190_0)), (World.cell?_alloc_lt _ _ _ (qwb _ _ (((HB.out.cell (qwb w _ hw190_1)).trans hw190_1)))).trans (((HB.out.cell (qwb w _ hw190_1)).trans hw190_1)), (World.cell?_alloc_lt _ _ _ (qwb _ _ (((HB.out.cell (qwb w _ hw191_0)).trans hw191_0)))).trans (((HB.out.cell (qwb w _ hw191_0)).trans hw191_0)), (World.cell?_alloc_lt _ _ _ (qwb _ _ (((HB.out.cell (qwb w _ hw191_1)).trans hw191_1)))).trans (((HB.out.cell (qwb w _ hw191_1)).trans hw191_1))⟩ (fun hHeld => ?_); clear hK K; refine norm_ (a' := ?_) ?_ ?_; rotate_left
               · show Act.put _ (some 48) _ = _
                 simp only [Act.put, sqA, sqZ, sqS, i64_w, i32_w]; rfl
               refine one_ (i := 19) (N := some 49) (bs 20 1) rfl rfl (one_of HT_.out (by kernel_rfl)) (by decide) (fun K hK => ?_); refine Kd.R_append_step k37 (w0 := w) w.heap.size (by rfl) (.tmp 30) (.tmp 48) 25 37 (.agg #[(.int .i16 0), (.int .i16 0)]) 4 rfl Try.underlying25 info37 rfl (by decide) (by omega) u8 x8_2 (⟨IntKind.i16.wrap (((rd_T37 l0 x9_2).f0) + (IntKind.i16.wrap (a1))), IntKind.i16.wrap (((rd_T37 l0 x9_2).f1) + (IntKind.i16.wrap (a2)))⟩ : S37) [.int .i16 (IntKind.i16.wrap (((rd_T37 l0 x9_2).f0) + (IntKind.i16.wrap (a1)))), .int .i16 (IntKind.i16.wrap (((rd_T37 l0 x9_2).f1) + (IntKind.i16.wrap (a2))))] (fun _ => True) (fun _ => False) rfl rfl ?aP (fun _ hk => hk.elim) ?aF ?aO ?aB ?aS ?aL ?_; (case aP => exact k37_mkM _ _ _ (⟨IntKind.i16.wrap (((rd_T37 l0 x9_2).f0) + (IntKind.i16.wrap (a1))), IntKind.i16.wrap (((rd_T37 l0 x9_2).f1) + (IntKind.i16.wrap (a2)))⟩ : S37)); (case aB => exact hB); (case aF => exact (fun _ _ => trivial)); (case aO => exact (by (with_reducible repeat (first | apply qra | apply qrn | apply qro)); exact HO_8.out)); (case aS => exact qZ); (case aL => have := LMc18.out; omega); intro v193 w20 ho hb hg hat; rw [← Ny192.out] at ho; have n0_ := am (hb); have n1_ := am (ho); clear HB; clear HO_8; have HB := n0_; have HO194 := n1_; clear n0_ n1_; clear ho hb hg hat; refine hK.out _ _ ⟨((HB.out.cell (qwb w _ hw190_0)).trans hw190_0), ((HB.out.cell (qwb w _ hw190_1)).trans hw190_1), ((HB.out.cell (qwb w _ hw191_0)).trans hw191_0), ((HB.out.cell (qwb w _ hw191_1)).trans hw191_1)⟩ (fun hHeld => ?_); clear hK K; refine norm_ (a' := ?_) ?_ ?_; rotate_left
               · show Act.put _ (some 49) _ = _
                 simp only [Act.put, sqA, sqZ, sqS, i64_w, i32_w]; rfl
               refine pv 20 (some 8) (bs 21 0) ?_; refine done_ (done_of HT_.out (by kernel_rfl)) ?_; (try go_wp2); go_roundg k2
               case measure => have := HJ5.out; have := HK2.out; omega
               case rel => exact ⟨(y192), (wrap64 (x9_2 + 1)), tr, H', ⟨by have := HJ5.out; have := HK2.out; omega⟩, ⟨by (with_reducible repeat (first | apply qra | apply qrn | apply qro)); exact HO194.out⟩, ⟨hB⟩⟩
             · rw [if_neg c18] at H
               exact absurd H (by simp)
           · rw [if_neg c17] at H
             exact absurd H (by simp)
         · rw [if_neg c16] at H
           have c16b0 : decide (x9_2 < (l0.length : Int)) = false := decide_eq_false c16; clear c16; replace H := qob.mp H; obtain ⟨t195, A210, H⟩ := H; replace H : (if t195 = true then (some (x8_2, 0)) else (some ((([] : List (S37))), 4))) = some (r1, r2) := H; have A21 := am A210; clear A210
           by_cases c22 : t195 = true
           · subst c22
             (have H1 : (some (x8_2, 0)) = some (r1, r2) := by rw [if_pos rfl] at H; exact H); clear H; have H := H1; clear H1; simp only [Option.some.injEq, Prod.mk.injEq] at H; obtain ⟨rfl, rfl⟩ := H; obtain ⟨Ao23, co23, eo23⟩ := Kd.R_slice HO_8.out; subst eo23; go_wp2_with (first | ((with_reducible refine gate_callee (f := 51) rfl ?_); refine gl (some 51) rfl rfl Try.func51 #[.slice Ao23 x8_2.length co23] rfl ?_; (with_reducible refine (spec_l02Ok.calls k2 _ _ x8_2 true _ ?side1 ?side2 A21.out).mono ?_); (case side1 => repeat (first | exact (Kd.R_reads' HO_8.out).2.2 | (with_reducible first | refine qca ?_ _ | refine qcn ?_ _ | refine qco ?_))); (case side2 => exact (Kd.R_reads' HO_8.out).2.1); rintro e w24 ⟨rfl, hb⟩; refine ⟨_, rfl, ?_⟩; have n0_ := am (Kd.R_below (by (with_reducible repeat (first | apply qra | apply qrn | apply qro)); exact HO_8.out) hb); have n1_ := am (qS hb); clear HO_8; clear HB; have HO_8 := n0_; have HB := n1_; clear n0_ n1_; (try clear hb))); go_ret2; exact ⟨_, te, by (with_reducible repeat (first | apply qra | apply qrn | apply qro)); exact HO_8.out, hB⟩
           · replace c22 := Bool.eq_false_iff.mpr c22
             subst c22; (have H1 : (some ((([] : List (S37))), 4)) = some (r1, r2) := by rw [if_neg (show ¬ (false = true) by decide)] at H; exact H); clear H; have H := H1; clear H1; obtain ⟨y196, hy196⟩ : ∃ y_ : List (S37), y_ = (([] : List (S37))) := ⟨_, rfl⟩; (replace H : (some (y196, 4)) = some (r1, r2) := by first | (rw [hy196]; with_reducible exact H) | (have H2_ := (Option.bind_some _ _).symm.trans H; rw [hy196]; with_reducible exact H2_) | (have H2_ := (Option.bind_some _ _).symm.trans H; with_reducible exact H2_) | with_reducible exact H | (rw [hy196]; exact H) | exact H); have Ny196 := am hy196; clear hy196; simp only [Option.some.injEq, Prod.mk.injEq] at H; obtain ⟨rfl, rfl⟩ := H; obtain ⟨Ao25, co25, eo25⟩ := Kd.R_slice HO_8.out; subst eo25; go_wp2_with (first | ((with_reducible refine gate_callee (f := 51) rfl ?_); refine gl (some 51) rfl rfl Try.func51 #[.slice Ao25 x8_2.length co25] rfl ?_; (with_reducible refine (spec_l02Ok.calls k2 _ _ x8_2 false _ ?side1 ?side2 A21.out).mono ?_); (case side1 => repeat (first | exact (Kd.R_reads' HO_8.out).2.2 | (with_reducible first | refine qca ?_ _ | refine qcn ?_ _ | refine qco ?_))); (case side2 => exact (Kd.R_reads' HO_8.out).2.1); rintro e w26 ⟨rfl, hb⟩; refine ⟨_, rfl, ?_⟩; have n0_ := am (Kd.R_below (by (with_reducible repeat (first | apply qra | apply qrn | apply qro)); exact HO_8.out) hb); have n1_ := am (qS hb); clear HO_8; clear HB; have HO_8 := n0_; have HB := n1_; clear n0_ n1_; (try clear hb)) | ((with_reducible refine gate_dst (N := 53) rfl ?_); refine Kd.R_lit k37 _ 37 ?hg (N := 53) ?hd (xs := ([] : List (S37))) (inner := []) (ok := fun _ => True) (okp := fun _ => True) ?hr ?hp (fun _ hk => hk) trivial (Below.refl _ _) (Nat.le_refl _) (by simp) ?_; (case hd => rfl); (case hg => rfl); (case hr => first | (go_simp; done) | (go_simp; rfl)); (case hp => exact (Reps.none _ _)); intro v197 w27 ho28 hb hg_ hnew_; clear hg_ hnew_; (first | rw [← Ny196.out] at ho28 | (simp only [Int.reduceToNat] at ho28; rw [← Ny196.out] at ho28)); have n0_ := am (Kd.R_elder' (by (with_reducible repeat (first | apply qra | apply qrn | apply qro)); exact HO_8.out) (Kd.R_base ho28) hb); have n1_ := am (Kd.R_lower (Kd.R_new' ho28 (Kd.R_lt (by (with_reducible repeat (first | apply qra | apply qrn | apply qro)); exact HO_8.out))) qZ); have n2_ := am (qS hb); clear HO_8; clear HB; have HO_8 := n0_; have HO198 := n1_; have HB := n2_; clear n0_ n1_ n2_; clear hb ho28)); go_ret2; exact ⟨_, te, by (with_reducible repeat (first | apply qra | apply qrn | apply qro)); exact Kd.R_mono HO198.out (fun _ hk => trivial), hB⟩
 · replace c5 := Bool.eq_false_iff.mpr c5
   subst c5; (have H1 : (some ((([] : List (S37))), 1)) = some (r1, r2) := by rw [if_neg (show ¬ (false = true) by decide)] at H; exact H); clear H; have H := H1; clear H1; obtain ⟨y179, hy179⟩ : ∃ y_ : List (S37), y_ = (([] : List (S37))) := ⟨_, rfl⟩; (replace H : (some (y179, 1)) = some (r1, r2) := by first | (rw [hy179]; with_reducible exact H) | (have H2_ := (Option.bind_some _ _).symm.trans H; rw [hy179]; with_reducible exact H2_) | (have H2_ := (Option.bind_some _ _).symm.trans H; with_reducible exact H2_) | with_reducible exact H | (rw [hy179]; exact H) | exact H); have Ny179 := am hy179; clear hy179; simp only [Option.some.injEq, Prod.mk.injEq] at H; obtain ⟨rfl, rfl⟩ := H; go_enter Try.func31, Try.ntmps31; go_wp2_with (first | ((with_reducible refine gate_callee (f := 51) rfl ?_); refine gl (some 11) rfl rfl Try.func51 #[.slice A0 l0.length c0] rfl ?_; (with_reducible refine (spec_l02Ok.calls k _ _ l0 false _ ?side1 ?side2 A4.out).mono ?_); (case side1 => repeat (first | exact HR0.out | (with_reducible first | refine qca ?_ _ | refine qcn ?_ _ | refine qco ?_))); (case side2 => exact HC0.out); rintro e w29 ⟨rfl, hb⟩; refine ⟨_, rfl, ?_⟩; have n0_ := am (qS hb); clear HB; have HB := n0_; clear n0_; (try clear hb)) | ((with_reducible refine gate_dst (N := 13) rfl ?_); refine Kd.R_lit k37 _ 37 ?hg (N := 13) ?hd (xs := ([] : List (S37))) (inner := []) (ok := fun _ => True) (okp := fun _ => True) ?hr ?hp (fun _ hk => hk) trivial (Below.refl _ _) (Nat.le_refl _) (by simp) ?_; (case hd => rfl); (case hg => rfl); (case hr => first | (go_simp; done) | (go_simp; rfl)); (case hp => exact (Reps.none _ _)); intro v180 w30 ho31 hb hg_ hnew_; clear hg_ hnew_; (first | rw [← Ny179.out] at ho31 | (simp only [Int.reduceToNat] at ho31; rw [← Ny179.out] at ho31)); have n0_ := am (Kd.R_lower ho31 qZ); have n1_ := am (qS hb); clear HB; have HO181 := n0_; have HB := n1_; clear n0_ n1_; clear hb ho31)); go_ret2; exact ⟨_, te, by (with_reducible repeat (first | apply qra | apply qrn | apply qro)); exact HO181.out, hB⟩

/-! ### spec_ShiftCurve: function 8 -/
def spec_ShiftCurve.f (k : Nat) (l0 : List (S37)) (a1 : Int) : Option ((List (S37)) × Int) := (spec_l02Moved.f k l0 a1 0).bind fun bt199 => (some (bt199.1, bt199.2))
theorem spec_ShiftCurve.mono : ∀ a0 a1 k, LeO (spec_ShiftCurve.f k a0 a1) (spec_ShiftCurve.f (k + 1) a0 a1) := by
 intro a0 a1 k
 unfold spec_ShiftCurve.f
 repeat' first | (with_reducible first | exact spec_l02Moved.mono _ _ _ _ | exact LeO.refl _ | exact LeO.none _ | refine LeO.ite ?_ ?_ | refine LeO.bind ?_ (fun _ => ?_)) | exact spec_l02Moved.mono _ _ _ _ | exact LeO.none _ | refine LeO.ite ?_ ?_ | refine LeO.bind ?_ (fun _ => ?_)
theorem spec_ShiftCurve.calls (k : Nat) (A0 : Option Addr) (c0 : Nat) (l0 : List (S37)) (a1 : Int) (r1 : List (S37)) (r2 : Int) (w : World) (hr0 : Kd.C k37 w A0 l0.length l0) (hc0 : l0.length ≤ c0) (h : spec_ShiftCurve.f k l0 a1 = some (r1, r2)) :
 Calls Try.prog 8 #[.slice A0 l0.length c0, .int .i64 a1] w fun e w' => ∃ v0_ : Value, e = .returned (.tuple #[v0_, .int .i64 r2]) ∧ Kd.R k37 37 w' w.heap.size (fun _ => True) v0_ r1 ∧ Below w.heap.size w w' := by
 have HR0 := am hr0
 have HC0 := am hc0
 clear hr0 hc0
 have HB := am (Below.refl w.heap.size w)
 have H : ((spec_l02Moved.f k l0 a1 0).bind fun bt199 => (some (bt199.1, bt199.2))) = some (r1, r2) := h
 clear h
 replace H := qob.mp H
 obtain ⟨⟨t199, t200⟩, A30, H⟩ := H
 replace H : (some (t199, t200)) = some (r1, r2) := H
 have A3 := am A30
 clear A30
 simp only [Option.some.injEq, Prod.mk.injEq] at H
 obtain ⟨rfl, rfl⟩ := H
 go_enter Try.func8, Try.ntmps8
 go_wp2_with (first | ((with_reducible refine gate_callee (f := 31) rfl ?_); refine gl (some 8) rfl rfl Try.func31 #[.slice A0 l0.length c0, .int .i64 a1, .int .i64 0] rfl ?_; (with_reducible refine (spec_l02Moved.calls k _ _ l0 a1 0 t199 t200 _ ?side1 ?side2 A3.out).mono ?_); (case side1 => repeat (first | exact HR0.out | (with_reducible first | refine qca ?_ _ | refine qcn ?_ _ | refine qco ?_))); (case side2 => exact HC0.out); rintro e w4 ⟨v201, rfl, ho0, hb⟩; refine ⟨_, rfl, ?_⟩; have n0_ := am (Kd.R_lower ho0 qZ); have n1_ := am (qS hb); clear HB; have HO202 := n0_; have HB := n1_; clear n0_ n1_; (try clear hb); (try clear ho0)))
 go_ret2
 exact ⟨_, te, by (with_reducible repeat (first | apply qra | apply qrn | apply qro)); exact HO202.out, hB⟩

/-! ### spec_l02Same: function 32 -/
def spec_l02Same.l0 : Nat → List (S37) → List (S37) → Int → Option (Bool)
 | 0, _, _, _ => none
 | k + 1, x0, x1, x5 => if x5 < (x0.length : Int) then (if 0 ≤ x5 then (if x5 < (x1.length : Int) then (if (!(((rd_T37 x0 x5).f0) == ((rd_T37 x1 x5).f0)) || (!(((rd_T37 x0 x5).f1) == ((rd_T37 x1 x5).f1)))) = true then (some false) else (spec_l02Same.l0 k x0 x1 (wrap64 (x5 + 1)))) else (none)) else (none)) else (some true)
def spec_l02Same.f (k : Nat) (l0 : List (S37)) (l1 : List (S37)) : Option (Bool) := if (l0.length : Int) = (l1.length : Int) then (spec_l02Same.l0 k l0 l1 0) else (some false)
theorem spec_l02Same.mono_l : ∀ k, (∀ y0 y1 y2, LeO (spec_l02Same.l0 k y0 y1 y2) (spec_l02Same.l0 (k + 1) y0 y1 y2))
 | 0 => fun _ _ _ r h => by simp [spec_l02Same.l0] at h
 | k + 1 => by
  have ih0 := spec_l02Same.mono_l k
  · intro y0 y1 y2
    unfold spec_l02Same.l0
    repeat' first | (with_reducible first | exact ih0 _ _ _ | exact LeO.refl _ | exact LeO.none _ | refine LeO.ite ?_ ?_ | refine LeO.bind ?_ (fun _ => ?_)) | exact ih0 _ _ _ | exact LeO.none _ | refine LeO.ite ?_ ?_ | refine LeO.bind ?_ (fun _ => ?_)
theorem spec_l02Same.mono : ∀ a0 a1 k, LeO (spec_l02Same.f k a0 a1) (spec_l02Same.f (k + 1) a0 a1) := by
 intro a0 a1 k
 have ih0 := spec_l02Same.mono_l k
 unfold spec_l02Same.f
 repeat' first | (with_reducible first | exact ih0 _ _ _ | exact LeO.refl _ | exact LeO.none _ | refine LeO.ite ?_ ?_ | refine LeO.bind ?_ (fun _ => ?_)) | exact ih0 _ _ _ | exact LeO.none _ | refine LeO.ite ?_ ?_ | refine LeO.bind ?_ (fun _ => ?_)
theorem spec_l02Same.calls (k : Nat) (A0 : Option Addr) (c0 : Nat) (l0 : List (S37)) (A1 : Option Addr) (c1 : Nat) (l1 : List (S37)) (r : Bool) (w : World) (hr0 : Kd.C k37 w A0 l0.length l0) (hc0 : l0.length ≤ c0) (hr1 : Kd.C k37 w A1 l1.length l1) (hc1 : l1.length ≤ c1) (h : spec_l02Same.f k l0 l1 = some r) :
 Calls Try.prog 32 #[.slice A0 l0.length c0, .slice A1 l1.length c1] w fun e w' => e = .returned (.bool r) ∧ Drawn0 w w' := by
 have hu37 := Try.underlying37
 have HR0 := am hr0
 have HC0 := am hc0
 clear hr0 hc0
 have HR1 := am hr1
 have HC1 := am hc1
 clear hr1 hc1
 have H : (if (l0.length : Int) = (l1.length : Int) then (spec_l02Same.l0 k l0 l1 0) else (some false)) = some r := h
 clear h
 by_cases c3 : (l0.length : Int) = (l1.length : Int)
 · rw [if_pos c3] at H
   have c3b0 : ((l0.length : Int) == (l1.length : Int)) = true := beq_iff_eq.mpr c3; have c3b1 : ((l0.length : Int) != (l1.length : Int)) = false := bne_eq_false_iff_eq.mpr c3; (have c3b2 : (l0.length == l1.length) = true := by first | simpa using c3 | (simp at c3 ⊢; omega)); clear c3; have H' := am H; clear H; go_enter Try.func32, Try.ntmps32; go_wp2
   repeat (go_quiet (fail); try go_wp2)
   go_loopg [5] k (fun kq v5 w' => ∃ (x5_1 : Int), v5 = .int .i64 x5_1 ∧ Aside0 (spec_l02Same.l0 kq l0 l1 x5_1 = some r) ∧ Aside0 (kq ≤ k) ∧ Drawn0 w w')
   case atStart => exact ⟨(0), tr, H', ⟨Nat.le_refl _⟩, dr⟩
   case round =>
    clear H'; (try clear c1); (try clear p2); (try clear c3); (try clear c3b0); (try clear c3b1); (try clear c3b2); obtain ⟨x5_1, rfl, HA, HK1, ⟨m1, rfl⟩⟩ := hrel
    cases gk with
    | zero => exact absurd HA.out (by simp [spec_l02Same.l0])
    | succ k1 =>
     have H := HA.out; clear HA; simp only [spec_l02Same.l0] at H
     by_cases c4 : x5_1 < (l0.length : Int)
     · rw [if_pos c4] at H
       have c4b0 : decide (x5_1 < (l0.length : Int)) = true := decide_eq_true c4; clear c4
       by_cases c5 : 0 ≤ x5_1
       · rw [if_pos c5] at H
         have c5b0 : decide (0 ≤ x5_1) = true := decide_eq_true c5; clear c5
         by_cases c6 : x5_1 < (l1.length : Int)
         · rw [if_pos c6] at H
           have c6b0 : decide (x5_1 < (l1.length : Int)) = true := decide_eq_true c6; clear c6
           by_cases c7 : (!(((rd_T37 l0 x5_1).f0) == ((rd_T37 l1 x5_1).f0)) || (!(((rd_T37 l0 x5_1).f1) == ((rd_T37 l1 x5_1).f1)))) = true
           · rw [if_pos c7] at H
             have c7b0 : (!(((rd_T37 l0 x5_1).f0) == ((rd_T37 l1 x5_1).f0)) || (!(((rd_T37 l0 x5_1).f1) == ((rd_T37 l1 x5_1).f1)))) = true := c7; clear c7; obtain rfl := Option.some.inj H; have p203 : 0 ≤ (x5_1 : Int) := od; have q203 : x5_1 < (l0.length : Int) := od; obtain ⟨ad203, e203, hx203_0, hx203_1⟩ := at_T37 HR0.out x5_1 p203 q203
             cases e203
             replace p203 := eq_true p203; replace q203 := eq_true q203; have p204 : 0 ≤ (x5_1 : Int) := od; have q204 : x5_1 < (l1.length : Int) := od; obtain ⟨ad204, e204, hx204_0, hx204_1⟩ := at_T37 HR1.out x5_1 p204 q204
             cases e204
             replace p204 := eq_true p204; replace q204 := eq_true q204; go_wp2
             repeat (go_quiet (fail); try go_wp2)
             go_ret; exact ⟨tr, dr⟩
           · rw [if_neg c7] at H
             (have c7b0 : (!(((rd_T37 l0 x5_1).f0) == ((rd_T37 l1 x5_1).f0)) || (!(((rd_T37 l0 x5_1).f1) == ((rd_T37 l1 x5_1).f1)))) = false := by simpa using c7); clear c7; have H' := am H; clear H; have p203 : 0 ≤ (x5_1 : Int) := od; have q203 : x5_1 < (l0.length : Int) := od; obtain ⟨ad203, e203, hx203_0, hx203_1⟩ := at_T37 HR0.out x5_1 p203 q203
             cases e203
             replace p203 := eq_true p203; replace q203 := eq_true q203; have p204 : 0 ≤ (x5_1 : Int) := od; have q204 : x5_1 < (l1.length : Int) := od; obtain ⟨ad204, e204, hx204_0, hx204_1⟩ := at_T37 HR1.out x5_1 p204 q204
             cases e204
             replace p204 := eq_true p204; replace q204 := eq_true q204; go_wp2
             repeat (go_quiet (fail); try go_wp2)
             go_roundg k1
             case measure => have := HK1.out; omega
             case rel => exact ⟨(wrap64 (x5_1 + 1)), tr, H', ⟨by have := HK1.out; omega⟩, dr⟩
         · rw [if_neg c6] at H
           exact absurd H (by simp)
       · rw [if_neg c5] at H
         exact absurd H (by simp)
     · rw [if_neg c4] at H
       have c4b0 : decide (x5_1 < (l0.length : Int)) = false := decide_eq_false c4; clear c4; obtain rfl := Option.some.inj H; go_wp2
       repeat (go_quiet (fail); try go_wp2)
       go_ret; exact ⟨tr, dr⟩
 · rw [if_neg c3] at H
   have c3b0 : ((l0.length : Int) == (l1.length : Int)) = false := beq_eq_false_iff_ne.mpr c3; have c3b1 : ((l0.length : Int) != (l1.length : Int)) = true := bne_iff_ne.mpr c3; (have c3b2 : (l0.length == l1.length) = false := by first | simpa using c3 | (simp at c3 ⊢; omega)); obtain rfl := Option.some.inj H; go_enter Try.func32, Try.ntmps32; go_wp2
   repeat (go_quiet (fail); try go_wp2)
   go_ret; exact ⟨tr, dr⟩

/-! ### spec_SameCurve: function 9 -/
def spec_SameCurve.f (k : Nat) (l0 : List (S37)) (l1 : List (S37)) : Option (Bool) := (spec_l02Same.f k l0 l1).bind fun t205 => (some t205)
theorem spec_SameCurve.mono : ∀ a0 a1 k, LeO (spec_SameCurve.f k a0 a1) (spec_SameCurve.f (k + 1) a0 a1) := by
 intro a0 a1 k
 unfold spec_SameCurve.f
 repeat' first | (with_reducible first | exact spec_l02Same.mono _ _ _ | exact LeO.refl _ | exact LeO.none _ | refine LeO.ite ?_ ?_ | refine LeO.bind ?_ (fun _ => ?_)) | exact spec_l02Same.mono _ _ _ | exact LeO.none _ | refine LeO.ite ?_ ?_ | refine LeO.bind ?_ (fun _ => ?_)
theorem spec_SameCurve.calls (k : Nat) (A0 : Option Addr) (c0 : Nat) (l0 : List (S37)) (A1 : Option Addr) (c1 : Nat) (l1 : List (S37)) (r : Bool) (w : World) (hr0 : Kd.C k37 w A0 l0.length l0) (hc0 : l0.length ≤ c0) (hr1 : Kd.C k37 w A1 l1.length l1) (hc1 : l1.length ≤ c1) (h : spec_SameCurve.f k l0 l1 = some r) :
 Calls Try.prog 9 #[.slice A0 l0.length c0, .slice A1 l1.length c1] w fun e w' => e = .returned (.bool r) ∧ Drawn0 w w' := by
 have HR0 := am hr0
 have HC0 := am hc0
 clear hr0 hc0
 have HR1 := am hr1
 have HC1 := am hc1
 clear hr1 hc1
 have H : ((spec_l02Same.f k l0 l1).bind fun t205 => (some t205)) = some r := h
 clear h
 replace H := qob.mp H
 obtain ⟨t205, A30, H⟩ := H
 replace H : (some t205) = some r := H
 have A3 := am A30
 clear A30
 obtain rfl := Option.some.inj H
 go_enter Try.func9, Try.ntmps9
 go_wp2_with (first | ((with_reducible refine gate_callee (f := 32) rfl ?_); refine gl (some 7) rfl rfl Try.func32 #[.slice A0 l0.length c0, .slice A1 l1.length c1] rfl ?_; (with_reducible refine (spec_l02Same.calls k _ _ l0 _ _ l1 t205 _ ?side1 ?side2 ?side3 ?side4 A3.out).mono ?_); (case side1 => repeat (first | exact HR0.out | (with_reducible first | refine qca ?_ _ | refine qcn ?_ _ | refine qco ?_))); (case side2 => exact HC0.out); (case side3 => repeat (first | exact HR1.out | (with_reducible first | refine qca ?_ _ | refine qcn ?_ _ | refine qco ?_))); (case side4 => exact HC1.out); rintro e w' ⟨rfl, ⟨nd, rfl⟩⟩; refine ⟨_, rfl, ?_⟩))
 go_ret
 exact ⟨tr, dr⟩

-- NOT PRINTED: function 33 (impl_LiftCurve_1)


/-! ### impl_LiftCurve: function 10 -/
def impl_LiftCurve.ch (a1 x y : Int) : Option (Int × Int) := some (x, wrap64 (y + a1))
def impl_LiftCurve.f (k : Nat) (l0 : List (S37)) (a1 : Int) : Option ((List (S37)) × Int) := (impl_isBy.f a1).bind fun u => impl_changed.f k l0 u (impl_LiftCurve.ch a1)
theorem impl_LiftCurve.mono : ∀ l0 a1 k, LeO (impl_LiftCurve.f k l0 a1) (impl_LiftCurve.f (k + 1) l0 a1) := by
 intro l0 a1 k r h
 unfold impl_LiftCurve.f at h ⊢
 obtain ⟨u, e1, h⟩ := qob.mp h
 exact qob.mpr ⟨u, e1, impl_changed.mono _ _ _ k _ h⟩
theorem impl_LiftCurve.cells (w : World) (c0 : Value) (n : Nat) : w.heap.size < ((w.alloc (Obj.cells #[c0] 2)).drewN n).heap.size ∧ ((w.alloc (Obj.cells #[c0] 2)).drewN n).cell? ⟨w.heap.size, 0, none⟩ = some c0 := by
 refine ⟨?_, ?_⟩
 · show w.heap.size < ((w.heap.push _)).size
   rw [Array.size_push]; omega
 · simp
theorem impl_LiftCurve.chcalls (a1 x y s1 s2 : Int) (gf0 : Nat) (w : World) (h0 : w.cell? ⟨gf0, 0, none⟩ = some (.int .i64 a1)) (h : impl_LiftCurve.ch a1 x y = some (s1, s2)) :
 Calls Try.prog 33 #[.int .i64 x, .int .i64 y, .pointer (some ⟨gf0, 0, none⟩)] w fun e w' => e = .returned (.tuple #[.int .i64 s1, .int .i64 s2]) ∧ Drawn0 w w' := by
 unfold impl_LiftCurve.ch at h
 simp only [Option.some.injEq, Prod.mk.injEq] at h
 obtain ⟨rfl, rfl⟩ := h
 go_enter Try.func33, Try.ntmps33
 go_wp2
 try go_region
 all_goals (try go_wp2)
 all_goals go_ret2
 all_goals exact ⟨rfl, dr⟩
theorem impl_LiftCurve.calls (k : Nat) (A0 : Option Addr) (c0 : Nat) (l0 : List (S37)) (a1 : Int) (r1 : List (S37)) (r2 : Int) (w : World) (hr0 : Kd.C k37 w A0 l0.length l0) (hc0 : l0.length ≤ c0) (h : impl_LiftCurve.f k l0 a1 = some (r1, r2)) :
 Calls Try.prog 10 #[.slice A0 l0.length c0, .int .i64 a1] w fun e w' => ∃ v0_ : Value, e = .returned (.tuple #[v0_, .int .i64 r2]) ∧ Kd.R k37 37 w' w.heap.size (fun _ => True) v0_ r1 ∧ Below w.heap.size w w' := by
 unfold impl_LiftCurve.f at h
 obtain ⟨u, e1, h2⟩ := qob.mp h
 clear h
 have HR0 := am hr0
 have HC0 := am hc0
 clear hr0 hc0
 have HB := am (Below.refl w.heap.size w)
 have E1 := am e1
 have H := am h2
 clear e1 h2
 go_enter Try.func10, Try.ntmps10
 go_wp2_with (first | (go_at_call 29; (with_reducible refine (impl_isBy.calls a1 u _ E1.out).mono ?_); rintro e w' ⟨rfl, ⟨nd, rfl⟩⟩) | (go_at_call 28; (refine (impl_changed.calls33 k _ _ l0 u (impl_LiftCurve.ch a1) r1 r2 _ ?side1 ?side2 w.heap.size ?side3 H.out).mono ?_); (case side1 => repeat (first | exact HR0.out | (with_reducible first | refine qca ?_ _ | refine qcn ?_ _ | refine qco ?_))); (case side2 => exact HC0.out); (case side3 => exact fun x y s1 s2 w' hb hc => impl_LiftCurve.chcalls a1 x y s1 s2 _ w' ((hb.cell (impl_LiftCurve.cells w _ _).1).trans (impl_LiftCurve.cells w _ _).2) hc); rintro e w7 ⟨v5, rfl, ho, hb⟩; have n0_ := am (Kd.R_lower ho qZ); have n1_ := am (qS hb); clear HB; have HO := n0_; have HB := n1_; clear n0_ n1_; clear hb ho))
 go_ret2
 exact ⟨_, rfl, HO.out, hB⟩

/-! ### spec_LiftCurve: function 11 -/
def spec_LiftCurve.f (k : Nat) (l0 : List (S37)) (a1 : Int) : Option ((List (S37)) × Int) := (spec_l02Moved.f k l0 0 a1).bind fun bt206 => (some (bt206.1, bt206.2))
theorem spec_LiftCurve.mono : ∀ a0 a1 k, LeO (spec_LiftCurve.f k a0 a1) (spec_LiftCurve.f (k + 1) a0 a1) := by
 intro a0 a1 k
 unfold spec_LiftCurve.f
 repeat' first | (with_reducible first | exact spec_l02Moved.mono _ _ _ _ | exact LeO.refl _ | exact LeO.none _ | refine LeO.ite ?_ ?_ | refine LeO.bind ?_ (fun _ => ?_)) | exact spec_l02Moved.mono _ _ _ _ | exact LeO.none _ | refine LeO.ite ?_ ?_ | refine LeO.bind ?_ (fun _ => ?_)
theorem spec_LiftCurve.calls (k : Nat) (A0 : Option Addr) (c0 : Nat) (l0 : List (S37)) (a1 : Int) (r1 : List (S37)) (r2 : Int) (w : World) (hr0 : Kd.C k37 w A0 l0.length l0) (hc0 : l0.length ≤ c0) (h : spec_LiftCurve.f k l0 a1 = some (r1, r2)) :
 Calls Try.prog 11 #[.slice A0 l0.length c0, .int .i64 a1] w fun e w' => ∃ v0_ : Value, e = .returned (.tuple #[v0_, .int .i64 r2]) ∧ Kd.R k37 37 w' w.heap.size (fun _ => True) v0_ r1 ∧ Below w.heap.size w w' := by
 have HR0 := am hr0
 have HC0 := am hc0
 clear hr0 hc0
 have HB := am (Below.refl w.heap.size w)
 have H : ((spec_l02Moved.f k l0 0 a1).bind fun bt206 => (some (bt206.1, bt206.2))) = some (r1, r2) := h
 clear h
 replace H := qob.mp H
 obtain ⟨⟨t206, t207⟩, A30, H⟩ := H
 replace H : (some (t206, t207)) = some (r1, r2) := H
 have A3 := am A30
 clear A30
 simp only [Option.some.injEq, Prod.mk.injEq] at H
 obtain ⟨rfl, rfl⟩ := H
 go_enter Try.func11, Try.ntmps11
 go_wp2_with (first | ((with_reducible refine gate_callee (f := 31) rfl ?_); refine gl (some 8) rfl rfl Try.func31 #[.slice A0 l0.length c0, .int .i64 0, .int .i64 a1] rfl ?_; (with_reducible refine (spec_l02Moved.calls k _ _ l0 0 a1 t206 t207 _ ?side1 ?side2 A3.out).mono ?_); (case side1 => repeat (first | exact HR0.out | (with_reducible first | refine qca ?_ _ | refine qcn ?_ _ | refine qco ?_))); (case side2 => exact HC0.out); rintro e w4 ⟨v208, rfl, ho0, hb⟩; refine ⟨_, rfl, ?_⟩; have n0_ := am (Kd.R_lower ho0 qZ); have n1_ := am (qS hb); clear HB; have HO209 := n0_; have HB := n1_; clear n0_ n1_; (try clear hb); (try clear ho0)))
 go_ret2
 exact ⟨_, te, by (with_reducible repeat (first | apply qra | apply qrn | apply qro)); exact HO209.out, hB⟩

end Go.Proofs.Ytedheepkalbcfaa.PFnMovedCurves
