/- Proves what functions that a law reaches come to, one contract each; no conditions beyond those that each names. Printed by a program of this session (xprint) out of the translation. -/
import Derived.Test.YtcgahnmdaelngaaPFnExactCurveThroughx0
namespace Go.Proofs.Ytcgahnmdaelngaa.PFnExactCurveThrough
open Go.RowKit Go.Proofs.YtcgahnmdaelngaaW.PrintWords Go.Proofs.YtcgahnmdaelngaaW.PrintLast Go.Proofs.YtcgahnmdaelngaaW.PrintMore
attribute [local go_sem] max2_int min2_int max_two min_two max_three min_three max_four min_four   -- for this text's walks alone
set_option linter.unusedVariables false
set_option linter.unusedSimpArgs false

/-! ### impl_within: function 63 -/
def impl_within.f (a0 : Int) (a1 : Int) (a2 : Int) : Option (Bool) := if a0 ≥ a1 then (some (decide (a0 ≤ a2))) else (some false)
set_option maxHeartbeats 8000000 in
set_option maxRecDepth 100000 in
theorem impl_within.calls (a0 : Int) (a1 : Int) (a2 : Int) (r : Bool) (w : World) (h : impl_within.f a0 a1 a2 = some r) :
    Calls Try.prog 63 #[.int .i64 a0, .int .i64 a1, .int .i64 a2] w fun e w' => e = .returned (.bool r) ∧ Drawn0 w w' := by
  have H : (if a0 ≥ a1 then (some (decide (a0 ≤ a2))) else (some false)) = some r := h
  clear h
  by_cases c4 : a0 ≥ a1
  · rw [if_pos c4] at H
    have c4b0 : decide (a1 ≤ a0) = true := decide_eq_true c4
    clear c4
    obtain rfl := Option.some.inj H
    go_enter Try.func63, Try.ntmps63
    go_wp2
    go_ret
    exact ⟨by first | rfl | (simp; done) | (simp [*]; done), by repeat (first | exact Drawn0.refl _ | apply Drawn0.step)⟩
  · rw [if_neg c4] at H
    have c4b0 : decide (a1 ≤ a0) = false := decide_eq_false c4
    clear c4
    obtain rfl := Option.some.inj H
    go_enter Try.func63, Try.ntmps63
    go_wp2
    go_ret
    exact ⟨by first | rfl | (simp; done) | (simp [*]; done), by repeat (first | exact Drawn0.refl _ | apply Drawn0.step)⟩

/-! ### impl_Point_64: function 64 -/
def impl_Point_64.f (l0 : List (S37)) : Option (Int) := some (l0.length : Int)
set_option maxHeartbeats 8000000 in
set_option maxRecDepth 100000 in
theorem impl_Point_64.calls (A0 : Option Addr) (c0 : Nat) (l0 : List (S37)) (r : Int) (w : World) (hr0 : Kd.C k37 w A0 l0.length l0) (hc0 : l0.length ≤ c0) (h : impl_Point_64.f l0 = some r) :
    Calls Try.prog 64 #[.slice A0 l0.length c0] w fun e w' => e = .returned (.int .i64 r) ∧ Drawn0 w w' := by
  have HR0 := Aside0.mk hr0
  have HC0 := Aside0.mk hc0
  clear hr0 hc0
  have H : (some (l0.length : Int)) = some r := h
  clear h
  obtain rfl := Option.some.inj H
  go_enter Try.func64, Try.ntmps64
  go_wp2
  go_ret
  exact ⟨by first | rfl | (simp; done) | (simp [*]; done), by repeat (first | exact Drawn0.refl _ | apply Drawn0.step)⟩

/-! ### impl_Point_91: function 91 -/
def impl_Point_91.l0 : Nat → List (S37) → (Int → Int → Option (Bool)) → Int → Int → Option (Int)
  | 0, _, _, _, _ => none
  | k + 1, x0, x1, x7, x8 => if x8 < x7 then (if 0 ≤ x8 then (if x8 < (x0.length : Int) then ((x1 ((rd_T37 x0 x8).f0) ((rd_T37 x0 x8).f1)).bind fun t102 => (if t102 = true then (some x8) else (impl_Point_91.l0 k x0 x1 x7 (wrap64 (x8 + 1))))) else (none)) else (none)) else (some (-1))
def impl_Point_91.f (k : Nat) (l0 : List (S37)) (a1 : (Int → Int → Option (Bool))) : Option (Int) := impl_Point_91.l0 k l0 a1 (l0.length : Int) 0
theorem impl_Point_91.mono_l : ∀ k, (∀ y0 y1 y2 y3, LeO (impl_Point_91.l0 k y0 y1 y2 y3) (impl_Point_91.l0 (k + 1) y0 y1 y2 y3))
  | 0 => fun _ _ _ _ r h => by simp [impl_Point_91.l0] at h
  | k + 1 => by
    have ih0 := impl_Point_91.mono_l k
    · intro y0 y1 y2 y3
      unfold impl_Point_91.l0
      repeat' first
      | (with_reducible exact ih0 _ _ _ _)
      | (with_reducible exact LeO.refl _)
      | (with_reducible exact LeO.none _)
      | (with_reducible refine LeO.ite ?_ ?_)
      | (with_reducible refine LeO.bind ?_ (fun _ => ?_))
      | exact ih0 _ _ _ _
      | exact LeO.none _
      | refine LeO.ite ?_ ?_
      | refine LeO.bind ?_ (fun _ => ?_)
theorem impl_Point_91.mono : ∀ a0 a1 k, LeO (impl_Point_91.f k a0 a1) (impl_Point_91.f (k + 1) a0 a1) := by
  intro a0 a1 k
  have ih0 := impl_Point_91.mono_l k
  unfold impl_Point_91.f
  repeat' first
      | (with_reducible exact ih0 _ _ _ _)
      | (with_reducible exact LeO.refl _)
      | (with_reducible exact LeO.none _)
      | (with_reducible refine LeO.ite ?_ ?_)
      | (with_reducible refine LeO.bind ?_ (fun _ => ?_))
      | exact ih0 _ _ _ _
      | exact LeO.none _
      | refine LeO.ite ?_ ?_
      | refine LeO.bind ?_ (fun _ => ?_)
set_option maxHeartbeats 8000000 in
set_option maxRecDepth 100000 in
theorem impl_Point_91.calls66 (k : Nat) (A0 : Option Addr) (c0 : Nat) (l0 : List (S37)) (a1 : (Int → Int → Option (Bool))) (r : Int) (w : World) (hr0 : Kd.C k37 w A0 l0.length l0) (hc0 : l0.length ≤ c0) (hF : ∀ (x0_ : Int) (x1_ : Int) (s0_ : Bool) (w' : World), Below w.heap.size w w' → a1 x0_ x1_ = some (s0_) → Calls Try.prog 66 #[.agg #[.int .i16 x0_, .int .i16 x1_]] w' fun e w'' => e = .returned (.bool s0_) ∧ Below w'.heap.size w' w'') (h : impl_Point_91.f k l0 a1 = some r) :
    Calls Try.prog 91 #[.slice A0 l0.length c0, .func (.func 66) #[] #[]] w fun e w' => e = .returned (.int .i64 r) ∧ Below w.heap.size w w' := by
  have hu37 := Try.underlying37
  have HF := Aside0.mk hF
  clear hF
  have HR0 := Aside0.mk hr0
  have HC0 := Aside0.mk hc0
  clear hr0 hc0
  have HB := Aside0.mk (Below.refl w.heap.size w)
  have H : (impl_Point_91.l0 k l0 a1 (l0.length : Int) 0) = some r := h
  clear h
  have H' := Aside0.mk H
  clear H
  go_enter Try.func91, Try.ntmps91
  go_wp2
  go_loopg [8] k (fun kq v8 w' => ∃ (x8_1 : Int), v8 = .int .i64 x8_1 ∧ Aside0 (impl_Point_91.l0 kq l0 a1 (l0.length : Int) x8_1 = some r) ∧ Aside0 (kq ≤ k) ∧ Aside0 (Below w.heap.size w w'))
  case atStart => exact ⟨(0), (by first | rfl | (simp; done) | (simp [*]; done)), H', ⟨Nat.le_refl _⟩, ⟨by repeat (first | (with_reducible first | exact HB.out | apply below_alloc | apply pw_below_drewN | apply below_drew1) | exact HB.out)⟩⟩
  case round =>
    clear H'
    try clear p2
    obtain ⟨x8_1, rfl, HA, HK1, HB⟩ := hrel
    cases gk with
    | zero => exact absurd HA.out (by simp [impl_Point_91.l0])
    | succ k1 =>
      have H := HA.out
      clear HA
      simp only [impl_Point_91.l0] at H
      by_cases c3 : x8_1 < (l0.length : Int)
      · rw [if_pos c3] at H
        have c3b0 : decide (x8_1 < (l0.length : Int)) = true := decide_eq_true c3
        clear c3
        by_cases c4 : 0 ≤ x8_1
        · rw [if_pos c4] at H
          have c4b0 : decide (0 ≤ x8_1) = true := decide_eq_true c4
          clear c4
          by_cases c5 : x8_1 < (l0.length : Int)
          · rw [if_pos c5] at H
            have c5b0 : decide (x8_1 < (l0.length : Int)) = true := decide_eq_true c5
            clear c5
            replace H := Option.bind_eq_some_iff.mp H
            obtain ⟨t102, A60, H⟩ := H
            replace H : (if t102 = true then (some x8_1) else (impl_Point_91.l0 k1 l0 a1 (l0.length : Int) (wrap64 (x8_1 + 1)))) = some r := H
            have A6 := Aside0.mk A60
            clear A60
            by_cases c7 : t102 = true
            · subst c7
              have H1 : (some x8_1) = some r := by rw [if_pos rfl] at H; exact H
              clear H
              have H := H1
              clear H1
              obtain rfl := Option.some.inj H
              have p101 : 0 ≤ (x8_1 : Int) := of_decide_eq_true (by first | (with_reducible assumption) | assumption)
              have q101 : x8_1 < (l0.length : Int) := of_decide_eq_true (by first | (with_reducible assumption) | assumption)
              obtain ⟨ad101, e101, hx101_0, hx101_1⟩ := at_T37 HR0.out x8_1 p101 q101
              cases e101
              replace hx101_0 := (HB.out.cell (World.block_lt_of_cell? w _ hx101_0)).trans hx101_0
              replace hx101_1 := (HB.out.cell (World.block_lt_of_cell? w _ hx101_1)).trans hx101_1
              replace p101 := eq_true p101
              replace q101 := eq_true q101
              go_wp2_with (first | (go_at_call 66; (refine (HF.out _ _ _ _ (by repeat (first | (with_reducible first | exact HB.out | apply below_alloc | apply pw_below_drewN | apply below_drew1) | exact HB.out | refine Below.setCell ?_ (Aside0.out (by assumption)) _)) A6.out).mono ?_); rintro e w8 ⟨rfl, hb⟩; have n0_ := Aside0.mk (below_step (by repeat (first | (with_reducible first | exact HB.out | apply below_alloc | apply pw_below_drewN | apply below_drew1) | exact HB.out)) hb); clear HB; have HB := n0_; clear n0_; (try clear hb); (try clear hb2); (try clear hk); (try clear hi)))
              go_ret
              exact ⟨by first | rfl | (simp [errW_none, errW_some] <;> rfl) | (simp [*, errW_none, errW_some] <;> rfl), by repeat (first | (with_reducible first | exact HB.out | apply below_alloc | apply pw_below_drewN | apply below_drew1) | exact HB.out)⟩
            · replace c7 := Bool.eq_false_iff.mpr c7
              subst c7
              have H1 : (impl_Point_91.l0 k1 l0 a1 (l0.length : Int) (wrap64 (x8_1 + 1))) = some r := by rw [if_neg (show ¬ (false = true) by decide)] at H; exact H
              clear H
              have H := H1
              clear H1
              have H' := Aside0.mk H
              clear H
              have p101 : 0 ≤ (x8_1 : Int) := of_decide_eq_true (by first | (with_reducible assumption) | assumption)
              have q101 : x8_1 < (l0.length : Int) := of_decide_eq_true (by first | (with_reducible assumption) | assumption)
              obtain ⟨ad101, e101, hx101_0, hx101_1⟩ := at_T37 HR0.out x8_1 p101 q101
              cases e101
              replace hx101_0 := (HB.out.cell (World.block_lt_of_cell? w _ hx101_0)).trans hx101_0
              replace hx101_1 := (HB.out.cell (World.block_lt_of_cell? w _ hx101_1)).trans hx101_1
              replace p101 := eq_true p101
              replace q101 := eq_true q101
              go_wp2_with (first | (go_at_call 66; (refine (HF.out _ _ _ _ (by repeat (first | (with_reducible first | exact HB.out | apply below_alloc | apply pw_below_drewN | apply below_drew1) | exact HB.out | refine Below.setCell ?_ (Aside0.out (by assumption)) _)) A6.out).mono ?_); rintro e w9 ⟨rfl, hb⟩; have n0_ := Aside0.mk (below_step (by repeat (first | (with_reducible first | exact HB.out | apply below_alloc | apply pw_below_drewN | apply below_drew1) | exact HB.out)) hb); clear HB; have HB := n0_; clear n0_; (try clear hb); (try clear hb2); (try clear hk); (try clear hi)))
              go_roundg k1
              case measure => have := HK1.out; omega
              case rel => exact ⟨(wrap64 (x8_1 + 1)), (by first | rfl | (simp; done) | (simp [*]; done)), H', ⟨by have := HK1.out; omega⟩, ⟨by repeat (first | (with_reducible first | exact HB.out | apply below_alloc | apply pw_below_drewN | apply below_drew1) | exact HB.out)⟩⟩
          · rw [if_neg c5] at H
            exact absurd H (by simp)
        · rw [if_neg c4] at H
          exact absurd H (by simp)
      · rw [if_neg c3] at H
        have c3b0 : decide (x8_1 < (l0.length : Int)) = false := decide_eq_false c3
        clear c3
        obtain rfl := Option.some.inj H
        go_wp2
        go_ret
        exact ⟨by first | rfl | (simp [errW_none, errW_some] <;> rfl) | (simp [*, errW_none, errW_some] <;> rfl), by repeat (first | (with_reducible first | exact HB.out | apply below_alloc | apply pw_below_drewN | apply below_drew1) | exact HB.out)⟩

/-! ### impl_Point_65: function 65 -/
def impl_Point_65.f (k : Nat) (l0 : List (S37)) (a1 : (Int → Int → Option (Bool))) : Option (Bool) := (impl_Point_91.f k l0 a1).bind fun t103 => (some (decide (t103 ≥ 0)))
theorem impl_Point_65.mono : ∀ a0 a1 k, LeO (impl_Point_65.f k a0 a1) (impl_Point_65.f (k + 1) a0 a1) := by
  intro a0 a1 k
  unfold impl_Point_65.f
  repeat' first
      | (with_reducible exact impl_Point_91.mono _ _ _)
      | (with_reducible exact LeO.refl _)
      | (with_reducible exact LeO.none _)
      | (with_reducible refine LeO.ite ?_ ?_)
      | (with_reducible refine LeO.bind ?_ (fun _ => ?_))
      | exact impl_Point_91.mono _ _ _
      | exact LeO.none _
      | refine LeO.ite ?_ ?_
      | refine LeO.bind ?_ (fun _ => ?_)
set_option maxHeartbeats 8000000 in
set_option maxRecDepth 100000 in
theorem impl_Point_65.calls66 (k : Nat) (A0 : Option Addr) (c0 : Nat) (l0 : List (S37)) (a1 : (Int → Int → Option (Bool))) (r : Bool) (w : World) (hr0 : Kd.C k37 w A0 l0.length l0) (hc0 : l0.length ≤ c0) (hF : ∀ (x0_ : Int) (x1_ : Int) (s0_ : Bool) (w' : World), Below w.heap.size w w' → a1 x0_ x1_ = some (s0_) → Calls Try.prog 66 #[.agg #[.int .i16 x0_, .int .i16 x1_]] w' fun e w'' => e = .returned (.bool s0_) ∧ Below w'.heap.size w' w'') (h : impl_Point_65.f k l0 a1 = some r) :
    Calls Try.prog 65 #[.slice A0 l0.length c0, .func (.func 66) #[] #[]] w fun e w' => e = .returned (.bool r) ∧ Below w.heap.size w w' := by
  have HF := Aside0.mk hF
  clear hF
  have HR0 := Aside0.mk hr0
  have HC0 := Aside0.mk hc0
  clear hr0 hc0
  have HB := Aside0.mk (Below.refl w.heap.size w)
  have H : ((impl_Point_91.f k l0 a1).bind fun t103 => (some (decide (t103 ≥ 0)))) = some r := h
  clear h
  replace H := Option.bind_eq_some_iff.mp H
  obtain ⟨t103, A30, H⟩ := H
  replace H : (some (decide (t103 ≥ 0))) = some r := H
  have A3 := Aside0.mk A30
  clear A30
  obtain rfl := Option.some.inj H
  go_enter Try.func65, Try.ntmps65
  go_wp2_with (first | ((with_reducible refine gate_callee (f := 91) rfl ?_); refine goesL_ (some 7) rfl rfl Try.func91 (by kernel_rfl) rfl #[.slice A0 l0.length c0, .func (.func 66) #[] #[]] rfl (by (try simp only [List.map_toArray, List.map_cons, List.map_nil]); first | done | rfl | (simp only [List.length_drop, List.length_take]; rfl)) ?_; (with_reducible refine (impl_Point_91.calls66 k _ _ l0 a1 t103 _ ?side1 ?side2 (fun x0_ x1_ s0_ w_ hb_ h_ => HF.out x0_ x1_ s0_ w_ (below_step (by repeat (first | (with_reducible first | exact HB.out | apply below_alloc | apply pw_below_drewN | apply below_drew1) | exact HB.out | refine Below.setCell ?_ (Aside0.out (by assumption)) _)) hb_) h_) A3.out).mono ?_); (case side1 => repeat (first | exact HR0.out | (with_reducible refine Kd.C_alloc ?_ _) | (with_reducible refine Kd.C_drewN ?_ _) | (with_reducible refine Kd.C_drew ?_))); (case side2 => exact HC0.out); rintro e w4 ⟨rfl, hb⟩; refine ⟨_, rfl, ?_⟩; have n0_ := Aside0.mk (below_step (by repeat (first | (with_reducible first | exact HB.out | apply below_alloc | apply pw_below_drewN | apply below_drew1) | exact HB.out)) hb); clear HB; have HB := n0_; clear n0_; (try clear hb); (try clear hb2); (try clear hk); (try clear hi)))
  go_ret
  exact ⟨by first | rfl | (simp [errW_none, errW_some] <;> rfl) | (simp [*, errW_none, errW_some] <;> rfl), by repeat (first | (with_reducible first | exact HB.out | apply below_alloc | apply pw_below_drewN | apply below_drew1) | exact HB.out)⟩

/-! ### impl_isPlace: function 59 -/
def impl_isPlace.f (a0 : Int) : Option (Bool) := (impl_within.f a0 (-200) 200).bind fun t104 => (some t104)
set_option maxHeartbeats 8000000 in
set_option maxRecDepth 100000 in
theorem impl_isPlace.calls (a0 : Int) (r : Bool) (w : World) (h : impl_isPlace.f a0 = some r) :
    Calls Try.prog 59 #[.int .i64 a0] w fun e w' => e = .returned (.bool r) ∧ Drawn0 w w' := by
  have H : ((impl_within.f a0 (-200) 200).bind fun t104 => (some t104)) = some r := h
  clear h
  replace H := Option.bind_eq_some_iff.mp H
  obtain ⟨t104, A20, H⟩ := H
  replace H : (some t104) = some r := H
  have A2 := Aside0.mk A20
  clear A20
  obtain rfl := Option.some.inj H
  go_enter Try.func59, Try.ntmps59
  go_wp2_with (first | ((with_reducible refine gate_callee (f := 63) rfl ?_); refine goesL_ (some 4) rfl rfl Try.func63 (by kernel_rfl) rfl #[.int .i64 a0, .int .i64 (-200), .int .i64 200] rfl (by (try simp only [List.map_toArray, List.map_cons, List.map_nil]); first | done | rfl | (simp only [List.length_drop, List.length_take]; rfl)) ?_; (with_reducible refine (impl_within.calls a0 (-200) 200 t104 _ A2.out).mono ?_); rintro e w' ⟨rfl, ⟨nd, rfl⟩⟩; refine ⟨_, rfl, ?_⟩))
  go_ret
  exact ⟨by first | rfl | (simp; done) | (simp [*]; done), by repeat (first | exact Drawn0.refl _ | apply Drawn0.step)⟩

/-! ### impl_isDensity: function 78 -/
def impl_isDensity.f (a0 : Int) : Option (Bool) := (impl_within.f a0 0 400).bind fun t105 => (some t105)
set_option maxHeartbeats 8000000 in
set_option maxRecDepth 100000 in
theorem impl_isDensity.calls (a0 : Int) (r : Bool) (w : World) (h : impl_isDensity.f a0 = some r) :
    Calls Try.prog 78 #[.int .i64 a0] w fun e w' => e = .returned (.bool r) ∧ Drawn0 w w' := by
  have H : ((impl_within.f a0 0 400).bind fun t105 => (some t105)) = some r := h
  clear h
  replace H := Option.bind_eq_some_iff.mp H
  obtain ⟨t105, A20, H⟩ := H
  replace H : (some t105) = some r := H
  have A2 := Aside0.mk A20
  clear A20
  obtain rfl := Option.some.inj H
  go_enter Try.func78, Try.ntmps78
  go_wp2_with (first | ((with_reducible refine gate_callee (f := 63) rfl ?_); refine goesL_ (some 4) rfl rfl Try.func63 (by kernel_rfl) rfl #[.int .i64 a0, .int .i64 0, .int .i64 400] rfl (by (try simp only [List.map_toArray, List.map_cons, List.map_nil]); first | done | rfl | (simp only [List.length_drop, List.length_take]; rfl)) ?_; (with_reducible refine (impl_within.calls a0 0 400 t105 _ A2.out).mono ?_); rintro e w' ⟨rfl, ⟨nd, rfl⟩⟩; refine ⟨_, rfl, ?_⟩))
  go_ret
  exact ⟨by first | rfl | (simp; done) | (simp [*]; done), by repeat (first | exact Drawn0.refl _ | apply Drawn0.step)⟩

/-! ### impl_isPoint: function 67 -/
def impl_isPoint.f (a0_0 : Int) (a0_1 : Int) : Option (Bool) := (impl_isPlace.f (wrap64 (a0_0))).bind fun t107 => (if t107 = true then ((impl_isDensity.f (wrap64 (a0_1))).bind fun t108 => (some t108)) else (some false))
set_option maxHeartbeats 8000000 in
set_option maxRecDepth 100000 in
theorem impl_isPoint.calls (a0_0 : Int) (a0_1 : Int) (r : Bool) (w : World) (h : impl_isPoint.f a0_0 a0_1 = some r) :
    Calls Try.prog 67 #[.agg #[.int .i16 a0_0, .int .i16 a0_1]] w fun e w' => e = .returned (.bool r) ∧ Below w.heap.size w w' := by
  have hu37 := Try.underlying37
  have HB := Aside0.mk (Below.refl w.heap.size w)
  have H : ((impl_isPlace.f (wrap64 (a0_0))).bind fun t107 => (if t107 = true then ((impl_isDensity.f (wrap64 (a0_1))).bind fun t108 => (some t108)) else (some false))) = some r := h
  clear h
  replace H := Option.bind_eq_some_iff.mp H
  obtain ⟨t107, A20, H⟩ := H
  replace H : (if t107 = true then ((impl_isDensity.f (wrap64 (a0_1))).bind fun t108 => (some t108)) else (some false)) = some r := H
  have A2 := Aside0.mk A20
  clear A20
  by_cases c3 : t107 = true
  · subst c3
    have H1 : ((impl_isDensity.f (wrap64 (a0_1))).bind fun t108 => (some t108)) = some r := by rw [if_pos rfl] at H; exact H
    clear H
    have H := H1
    clear H1
    replace H := Option.bind_eq_some_iff.mp H
    obtain ⟨t108, A40, H⟩ := H
    replace H : (some t108) = some r := H
    have A4 := Aside0.mk A40
    clear A40
    obtain rfl := Option.some.inj H
    go_enter Try.func67, Try.ntmps67
    go_wp2_with (first | ((with_reducible refine gate_dst (N := 1) rfl ?_); refine box_event ?hg (N := 1) ?hd (cs := #[.int .i16 a0_0, .int .i16 a0_1]) (t := 37) ?hr ?_; (case hd => rfl); (case hg => rfl); (case hr => first | (go_simp; done) | (go_simp; rfl)); intro gb106 hg w5 hbox hb; have n0_ := Aside0.mk (below_step (by repeat (first | (with_reducible first | exact HB.out | apply below_alloc | apply pw_below_drewN | apply below_drew1) | exact HB.out)) hb); have n1_ := Aside0.mk (hbox); have n2_ := Aside0.mk ((by rw [hg]; exact (below_size (by repeat (first | (with_reducible first | exact HB.out | apply below_alloc | apply pw_below_drewN | apply below_drew1) | exact HB.out))) : w.heap.size ≤ gb106)); have n3_ := Aside0.mk ((by rw [hg]; exact (below_size (by repeat (first | (with_reducible first | exact HB.out | apply below_alloc | apply pw_below_drewN | apply below_drew1) | exact HB.out))) : w.heap.size ≤ gb106)); clear HB; have HB := n0_; have BK106 := n1_; have GW106 := n2_; have GE106 := n3_; clear n0_ n1_ n2_ n3_; clear hb hbox hg; have hcz6_0 : w5.cell? ⟨gb106, 0, none⟩ = some (.int .i16 a0_0) := (blk_cell BK106.out 0).trans rfl; have hcz6_1 : w5.cell? ⟨gb106, 1, none⟩ = some (.int .i16 a0_1) := (blk_cell BK106.out 1).trans rfl; have hfz6_0 := blk_frozen BK106.out 0; have hfz6_1 := blk_frozen BK106.out 1) | ((with_reducible refine gate_callee (f := 59) rfl ?_); refine goesL_ (some 6) rfl rfl Try.func59 (by kernel_rfl) rfl #[.int .i64 (wrap64 (a0_0))] rfl (by (try simp only [List.map_toArray, List.map_cons, List.map_nil]); first | done | rfl | (simp only [List.length_drop, List.length_take]; rfl)) ?_; (with_reducible refine (impl_isPlace.calls (wrap64 (a0_0)) true _ A2.out).mono ?_); rintro e w' ⟨rfl, ⟨nd, rfl⟩⟩; refine ⟨_, rfl, ?_⟩) | (go_at_call 78; (with_reducible refine (impl_isDensity.calls (wrap64 (a0_1)) t108 _ A4.out).mono ?_); rintro e w' ⟨rfl, ⟨nd, rfl⟩⟩))
    go_ret
    exact ⟨by first | rfl | (simp [errW_none, errW_some] <;> rfl) | (simp [*, errW_none, errW_some] <;> rfl), by repeat (first | (with_reducible first | exact HB.out | apply below_alloc | apply pw_below_drewN | apply below_drew1 | refine below_set ?_ GE106.out) | exact HB.out)⟩
  · replace c3 := Bool.eq_false_iff.mpr c3
    subst c3
    have H1 : (some false) = some r := by rw [if_neg (show ¬ (false = true) by decide)] at H; exact H
    clear H
    have H := H1
    clear H1
    obtain rfl := Option.some.inj H
    go_enter Try.func67, Try.ntmps67
    go_wp2_with (first | ((with_reducible refine gate_dst (N := 1) rfl ?_); refine box_event ?hg (N := 1) ?hd (cs := #[.int .i16 a0_0, .int .i16 a0_1]) (t := 37) ?hr ?_; (case hd => rfl); (case hg => rfl); (case hr => first | (go_simp; done) | (go_simp; rfl)); intro gb106 hg w7 hbox hb; have n0_ := Aside0.mk (below_step (by repeat (first | (with_reducible first | exact HB.out | apply below_alloc | apply pw_below_drewN | apply below_drew1) | exact HB.out)) hb); have n1_ := Aside0.mk (hbox); have n2_ := Aside0.mk ((by rw [hg]; exact (below_size (by repeat (first | (with_reducible first | exact HB.out | apply below_alloc | apply pw_below_drewN | apply below_drew1) | exact HB.out))) : w.heap.size ≤ gb106)); have n3_ := Aside0.mk ((by rw [hg]; exact (below_size (by repeat (first | (with_reducible first | exact HB.out | apply below_alloc | apply pw_below_drewN | apply below_drew1) | exact HB.out))) : w.heap.size ≤ gb106)); clear HB; have HB := n0_; have BK106 := n1_; have GW106 := n2_; have GE106 := n3_; clear n0_ n1_ n2_ n3_; clear hb hbox hg; have hcz8_0 : w7.cell? ⟨gb106, 0, none⟩ = some (.int .i16 a0_0) := (blk_cell BK106.out 0).trans rfl; have hcz8_1 : w7.cell? ⟨gb106, 1, none⟩ = some (.int .i16 a0_1) := (blk_cell BK106.out 1).trans rfl; have hfz8_0 := blk_frozen BK106.out 0; have hfz8_1 := blk_frozen BK106.out 1) | ((with_reducible refine gate_callee (f := 59) rfl ?_); refine goesL_ (some 6) rfl rfl Try.func59 (by kernel_rfl) rfl #[.int .i64 (wrap64 (a0_0))] rfl (by (try simp only [List.map_toArray, List.map_cons, List.map_nil]); first | done | rfl | (simp only [List.length_drop, List.length_take]; rfl)) ?_; (with_reducible refine (impl_isPlace.calls (wrap64 (a0_0)) false _ A2.out).mono ?_); rintro e w' ⟨rfl, ⟨nd, rfl⟩⟩; refine ⟨_, rfl, ?_⟩))
    go_ret
    exact ⟨by first | rfl | (simp [errW_none, errW_some] <;> rfl) | (simp [*, errW_none, errW_some] <;> rfl), by repeat (first | (with_reducible first | exact HB.out | apply below_alloc | apply pw_below_drewN | apply below_drew1 | refine below_set ?_ GE106.out) | exact HB.out)⟩

/-! ### impl_CurveThrough_1: function 66 -/
def impl_CurveThrough_1.f (a0_0 : Int) (a0_1 : Int) : Option (Bool) := (impl_isPoint.f a0_0 a0_1).bind fun t110 => (some (!t110))
set_option maxHeartbeats 8000000 in
set_option maxRecDepth 100000 in
theorem impl_CurveThrough_1.calls (a0_0 : Int) (a0_1 : Int) (r : Bool) (w : World) (h : impl_CurveThrough_1.f a0_0 a0_1 = some r) :
    Calls Try.prog 66 #[.agg #[.int .i16 a0_0, .int .i16 a0_1]] w fun e w' => e = .returned (.bool r) ∧ Below w.heap.size w w' := by
  have hu37 := Try.underlying37
  have HB := Aside0.mk (Below.refl w.heap.size w)
  have H : ((impl_isPoint.f a0_0 a0_1).bind fun t110 => (some (!t110))) = some r := h
  clear h
  replace H := Option.bind_eq_some_iff.mp H
  obtain ⟨t110, A20, H⟩ := H
  replace H : (some (!t110)) = some r := H
  have A2 := Aside0.mk A20
  clear A20
  obtain rfl := Option.some.inj H
  go_enter Try.func66, Try.ntmps66
  go_wp2_with (first | ((with_reducible refine gate_dst (N := 1) rfl ?_); refine box_event ?hg (N := 1) ?hd (cs := #[.int .i16 a0_0, .int .i16 a0_1]) (t := 37) ?hr ?_; (case hd => rfl); (case hg => rfl); (case hr => first | (go_simp; done) | (go_simp; rfl)); intro gb109 hg w3 hbox hb; have n0_ := Aside0.mk (below_step (by repeat (first | (with_reducible first | exact HB.out | apply below_alloc | apply pw_below_drewN | apply below_drew1) | exact HB.out)) hb); have n1_ := Aside0.mk (hbox); have n2_ := Aside0.mk ((by rw [hg]; exact (below_size (by repeat (first | (with_reducible first | exact HB.out | apply below_alloc | apply pw_below_drewN | apply below_drew1) | exact HB.out))) : w.heap.size ≤ gb109)); have n3_ := Aside0.mk ((by rw [hg]; exact (below_size (by repeat (first | (with_reducible first | exact HB.out | apply below_alloc | apply pw_below_drewN | apply below_drew1) | exact HB.out))) : w.heap.size ≤ gb109)); clear HB; have HB := n0_; have BK109 := n1_; have GW109 := n2_; have GE109 := n3_; clear n0_ n1_ n2_ n3_; clear hb hbox hg; have hcz4_0 : w3.cell? ⟨gb109, 0, none⟩ = some (.int .i16 a0_0) := (blk_cell BK109.out 0).trans rfl; have hcz4_1 : w3.cell? ⟨gb109, 1, none⟩ = some (.int .i16 a0_1) := (blk_cell BK109.out 1).trans rfl; have hfz4_0 := blk_frozen BK109.out 0; have hfz4_1 := blk_frozen BK109.out 1) | ((with_reducible refine gate_callee (f := 67) rfl ?_); refine goesL_ (some 4) rfl rfl Try.func67 (by kernel_rfl) rfl #[.agg #[.int .i16 a0_0, .int .i16 a0_1]] rfl (by (try simp only [List.map_toArray, List.map_cons, List.map_nil]); first | done | rfl | (simp only [List.length_drop, List.length_take]; rfl)) ?_; (with_reducible refine (impl_isPoint.calls a0_0 a0_1 t110 _ A2.out).mono ?_); rintro e w5 ⟨rfl, hb⟩; refine ⟨_, rfl, ?_⟩; have n0_ := Aside0.mk (blk_below (g := gb109) (o := .cells #[.int .i16 a0_0, .int .i16 a0_1] 37 (0, 0)) (by (with_reducible repeat (first | refine blk_drewN ?_ _ | refine blk_drew ?_ | refine blk_alloc ?_ _)); exact BK109.out) hb); have n1_ := Aside0.mk (below_step (by repeat (first | (with_reducible first | exact HB.out | apply below_alloc | apply pw_below_drewN | apply below_drew1 | refine below_set ?_ GE109.out) | exact HB.out)) hb); clear BK109; clear HB; have BK109 := n0_; have HB := n1_; clear n0_ n1_; (try clear hb); (try clear hb2); (try clear hk); (try clear hi)))
  go_ret
  exact ⟨by first | rfl | (simp [errW_none, errW_some] <;> rfl) | (simp [*, errW_none, errW_some] <;> rfl), by repeat (first | (with_reducible first | exact HB.out | apply below_alloc | apply pw_below_drewN | apply below_drew1 | refine below_set ?_ GE109.out) | exact HB.out)⟩


/-! ### impl_CurveThrough: function 22 -/
def impl_CurveThrough.Z : List Int := List.replicate 401 0
def impl_CurveThrough.l1 : List S37 → List Int → List Int → Option (List Int × List Int)
  | [], S, M => some (S, M)
  | p :: r, S, M => if -200 ≤ p.f0 ∧ p.f0 ≤ 200 then impl_CurveThrough.l1 r (S.set (p.f0 + 200).toNat (wrap64 (S.getD (p.f0 + 200).toNat 0 + wrap64 p.f1))) (M.set (p.f0 + 200).toNat (wrap64 (M.getD (p.f0 + 200).toNat 0 + 1))) else none
def impl_CurveThrough.l2 (S M : List Int) : Nat → Nat → List S37 → Int → List S37
  | 0, _, out, _ => out
  | d + 1, i, out, last => if 0 < M.getD i 0 then impl_CurveThrough.l2 S M d (i + 1) (out ++ [(⟨(i : Int) - 200, IntKind.i16.wrap (mx last (wrap64 (Int.tdiv (S.getD i 0) (M.getD i 0))))⟩ : S37)]) (mx last (wrap64 (Int.tdiv (S.getD i 0) (M.getD i 0)))) else impl_CurveThrough.l2 S M d (i + 1) out last
def impl_CurveThrough.fin (out : List S37) : List S37 × Int := if (out.length : Int) > 12 then ([], 3) else (out, 0)
def impl_CurveThrough.f (k : Nat) (l0 : List S37) : Option (List S37 × Int) := (impl_within.f (l0.length : Int) 1 100).bind fun t => if t = true then (impl_Point_65.f k l0 impl_CurveThrough_1.f).bind fun b => if b = true then some ([], 2) else (impl_CurveThrough.l1 l0 impl_CurveThrough.Z impl_CurveThrough.Z).bind fun s => some (impl_CurveThrough.fin (impl_CurveThrough.l2 s.1 s.2 401 0 [] 0)) else some ([], 2)
theorem impl_CurveThrough.mono : ∀ l0 k, LeO (impl_CurveThrough.f k l0) (impl_CurveThrough.f (k + 1) l0) := by
  intro l0 k
  unfold impl_CurveThrough.f
  refine LeO.bind (LeO.refl _) fun t => LeO.ite ?_ (LeO.refl _)
  exact LeO.bind (impl_Point_65.mono _ _ _) fun b => LeO.refl _
theorem ct_i16w {x : Int} (h : -32768 ≤ x) (h' : x ≤ 32767) : IntKind.i16.wrap x = x := by
  show (if (true && decide (x % 65536 ≥ 32768)) = true then x % 65536 - 65536 else x % 65536) = x
  by_cases e : x % 65536 ≥ 32768
  · rw [if_pos (by simpa using e)]; omega
  · rw [if_neg (by simpa using e)]; omega
def enc64 (l : List Int) : Array Value := (l.map (Value.int .i64)).toArray
theorem enc_size (l : List Int) : (enc64 l).size = l.length := by simp [enc64]
theorem enc_get (l : List Int) (i : Nat) (h : i < l.length) : (enc64 l)[i]? = some (.int .i64 (l.getD i 0)) := by simp [enc64, h]
theorem enc_one (l : List Int) : (enc64 l).all (·.oneCell') = true := by
  simp [enc64, Value.oneCell']
theorem enc_set (l : List Int) (i : Nat) (x : Int) : (enc64 l).setIfInBounds i (.int .i64 x) = enc64 (l.set i x) := by
  simp [enc64, List.map_set]
theorem idx_run {t : TypeId} (hu : Try.prog.underlying t = some (.array 401 2)) (l : List Int) (hl : l.length = 401) (i : Nat) (hi : i < 401) (w : World) :
    (Instr.index t (.agg (enc64 l)) (.int .i64 (i : Int))).run Try.prog w = .ok (.int .i64 (l.getD i 0)) w := by
  have g := enc_get l i (by omega)
  have s1 : ∀ w, Sem.run Try.prog (sizeOf 2) w = .ok 1 w := fun w => by kernel_rfl
  have s2 : ∀ w, Sem.run Try.prog (isAgg 2) w = .ok false w := fun w => by kernel_rfl
  simp [Instr.index, run_underlying hu, asIntOf, hi, s1, s2, go_sem]
  rw [g]
  simp
theorem sz73 : (Try.prog.info? 73).map (·.size) = some 401 := by kernel_rfl
theorem zs : Try.zeroCells73.size = 401 := by kernel_rfl
theorem z1 : Try.zeroCells73.all (·.oneCell') = true := by kernel_rfl
theorem zenc : Try.zeroCells73 = enc64 impl_CurveThrough.Z := by kernel_rfl
theorem lt_of_obj {w : World} {k : Nat} {o : Obj} (h : w.heap[k]? = some o) : k < w.heap.size := (Array.getElem?_eq_some_iff.1 h).1
theorem below_setRow {B : Nat} {a w : World} (h : Below B a w) {g : Nat} (hg : B ≤ g) (cs : Array Value) : Below B a (w.setRow g cs) :=
  ⟨h.os, h.tape, h.output, by rw [size_setRow]; exact h.size, fun k hk => (setRow_other w g k cs (by omega)).trans (h.block k hk)⟩
theorem rows2 (w : World) (Z : Array Value) (Y : Array Value) (T : TypeId) : ((((w.alloc (.cells Z T)).alloc (.cells Z T)).setRow w.heap.size Y).setRow (w.heap.size + 1) Y).heap[w.heap.size]? = some (.cells Y T (0, 0)) ∧ ((((w.alloc (.cells Z T)).alloc (.cells Z T)).setRow w.heap.size Y).setRow (w.heap.size + 1) Y).heap[w.heap.size + 1]? = some (.cells Y T (0, 0)) := by
  constructor
  · rw [setRow_other _ _ _ _ (by omega)]
    exact setRow_heap _ _ Z Y T (0, 0) (heap_alloc2_old _ _ _)
  · exact setRow_heap _ _ Z Y T (0, 0) ((setRow_other _ _ _ _ (by omega)).trans (heap_alloc2_new _ _ _))
theorem ct_up (wr : World) (bS bM n : Nat) (hne : bS ≠ bM) (S1 M1 : List Int) (x y : Int) (o : Obj) (HS : wr.heap[bS]? = some (.cells (enc64 S1) 73 (0, 0))) (HM : wr.heap[bM]? = some (.cells (enc64 M1) 73 (0, 0))) :
    ((((wr.setCell ⟨bS, n, none⟩ (.int .i64 x)).setCell ⟨bM, n, none⟩ (.int .i64 y)).alloc o).drew).heap[bS]? = some (.cells (enc64 (S1.set n x)) 73 (0, 0)) ∧ ((((wr.setCell ⟨bS, n, none⟩ (.int .i64 x)).setCell ⟨bM, n, none⟩ (.int .i64 y)).alloc o).drew).heap[bM]? = some (.cells (enc64 (M1.set n y)) 73 (0, 0)) := by
  have a1 := heap_setCell_same wr bS n _ _ (.int .i64 x) HS
  have a2 := (heap_setCell_other (wr.setCell ⟨bS, n, none⟩ (.int .i64 x)) ⟨bM, n, none⟩ bS (.int .i64 y) hne).trans a1
  have b1 := (heap_setCell_other wr ⟨bS, n, none⟩ bM (.int .i64 x) (Ne.symm hne)).trans HM
  have b2 := heap_setCell_same (wr.setCell ⟨bS, n, none⟩ (.int .i64 x)) bM n _ _ (.int .i64 y) b1
  rw [enc_set] at a2 b2
  exact ⟨(_root_.Go.heap_alloc_old _ o (lt_of_obj a2)).trans a2, (_root_.Go.heap_alloc_old _ o (lt_of_obj b2)).trans b2⟩
set_option maxRecDepth 100000 in
set_option maxHeartbeats 8000000 in
theorem impl_CurveThrough.main (k : Nat) (A0 : Option Addr) (c0 : Nat) (l0 : List S37) (S M : List Int) (w : World) (hr0 : Kd.C k37 w A0 l0.length l0) (hc0 : l0.length ≤ c0)
    (hl : l0.length ≤ 100) (h1 : impl_within.f (l0.length : Int) 1 100 = some true) (h2 : impl_Point_65.f k l0 impl_CurveThrough_1.f = some false) (h3 : impl_CurveThrough.l1 l0 impl_CurveThrough.Z impl_CurveThrough.Z = some (S, M)) :
    Calls Try.prog 22 #[.slice A0 l0.length c0] w fun e w' => ∃ v0_ : Value, e = .returned (.tuple #[v0_, .int .i64 (impl_CurveThrough.fin (impl_CurveThrough.l2 S M 401 0 [] 0)).2]) ∧ Kd.R k37 37 w' w.heap.size (fun _ => True) v0_ (impl_CurveThrough.fin (impl_CurveThrough.l2 S M 401 0 [] 0)).1 ∧ Below w.heap.size w w' := by
  have HB := Aside0.mk (Below.refl w.heap.size w)
  have HR0 := Aside0.mk hr0
  have HC0 := Aside0.mk hc0
  clear hr0 hc0
  have hu37 := Try.underlying37
  have H3 := Aside0.mk h3
  clear h3
  go_enter Try.func22, Try.ntmps22
  have H1 := Aside0.mk h1
  have H2 := Aside0.mk h2
  clear h1 h2
  go_upto_region 3 with (first | (go_at_call 64; (refine (impl_Point_64.calls A0 c0 l0 _ _ ?s1 ?s2 rfl).mono ?_); (case s1 => repeat (first | exact (Kd.C_below HR0.out HB.out) | exact HR0.out | (with_reducible refine Kd.C_alloc ?_ _) | (with_reducible refine Kd.C_drewN ?_ _) | (with_reducible refine Kd.C_drew ?_))); (case s2 => exact HC0.out); rintro e w' ⟨rfl, ⟨nd, rfl⟩⟩) | (go_at_call 63; (refine (impl_within.calls _ _ _ true _ H1.out).mono ?_); rintro e w' ⟨rfl, ⟨nd, rfl⟩⟩) | (go_at_call 65; go_loud (refine (impl_Point_65.calls66 k A0 c0 l0 impl_CurveThrough_1.f false _ ?s3 ?s4 (fun x y s w' hb h => impl_CurveThrough_1.calls x y s w' h) H2.out).mono ?_); (case s3 => repeat (first | exact (Kd.C_below HR0.out HB.out) | exact HR0.out | (with_reducible refine Kd.C_alloc ?_ _) | (with_reducible refine Kd.C_drewN ?_ _) | (with_reducible refine Kd.C_drew ?_))); (case s4 => exact HC0.out); rintro e w7 ⟨rfl, hb⟩; have n0_ := Aside0.mk (below_step (by repeat (first | (with_reducible first | exact HB.out | apply below_alloc | apply pw_below_drewN | apply below_drew1) | exact HB.out)) hb); clear HB; have HB := n0_; clear n0_ hb))
  go_cut [4, 5] (fun v4 v5 wc => ∃ bS bM : Nat, v4 = .pointer (some ⟨bS, 0, none⟩) ∧ v5 = .pointer (some ⟨bM, 0, none⟩) ∧ bS ≠ bM ∧ w.heap.size ≤ bS ∧ w.heap.size ≤ bM ∧ Aside0 (wc.heap[bS]? = some (.cells (enc64 impl_CurveThrough.Z) 73 (0, 0))) ∧ Aside0 (wc.heap[bM]? = some (.cells (enc64 impl_CurveThrough.Z) 73 (0, 0))) ∧ Aside0 (Below w.heap.size w wc))
  case first =>
    go_wp2_with (first | (refine wpList_store_row rfl 73 (.tmp 4) (.tmp 20) rfl w7.heap.size Try.zeroCells73 rfl rfl 73 Try.zeroCells73 (heap_alloc2_old _ _ _) (by rw [zs]; exact sz73) rfl z1 ?_) | (refine wpList_store_row rfl 73 (.tmp 5) (.tmp 21) rfl (w7.heap.size + 1) Try.zeroCells73 rfl rfl 73 Try.zeroCells73 ((setRow_other _ _ _ _ (by omega)).trans (heap_alloc2_new _ _ _)) (by rw [zs]; exact sz73) rfl z1 ?_))
    go_meet
    case rel => exact ⟨w7.heap.size, w7.heap.size + 1, rfl, rfl, by omega, HB.out.size, by have := HB.out.size; omega, ⟨zenc ▸ (rows2 _ _ _ _).1⟩, ⟨zenc ▸ (rows2 _ _ _ _).2⟩, ⟨below_setRow (below_setRow (by repeat (first | (with_reducible first | exact HB.out | apply below_alloc | apply pw_below_drewN | apply below_drew1) | exact HB.out)) HB.out.size _) (by have := HB.out.size; omega) _⟩⟩
  case rest =>
    clear HB
    obtain ⟨bS, bM, rfl, rfl, hne, gS, gM, HS, HM, HB⟩ := hcut
    go_wp2
    go_loopg [24] (l0.length + 1) (fun kq v24 w' => ∃ (i : Nat) (S1 M1 : List Int), v24 = .int .i64 (i : Int) ∧ i ≤ l0.length ∧ kq + i = l0.length + 1 ∧ S1.length = 401 ∧ M1.length = 401 ∧ Aside0 (impl_CurveThrough.l1 (l0.drop i) S1 M1 = some (S, M)) ∧ Aside0 (w'.heap[bS]? = some (.cells (enc64 S1) 73 (0, 0))) ∧ Aside0 (w'.heap[bM]? = some (.cells (enc64 M1) 73 (0, 0))) ∧ Aside0 (Below w.heap.size w w'))
    case atStart => exact ⟨0, _, _, rfl, by omega, by omega, by simp [impl_CurveThrough.Z], by simp [impl_CurveThrough.Z], ⟨H3.out⟩, HS, HM, ⟨by repeat (first | (with_reducible first | exact HB.out | apply below_alloc | apply pw_below_drewN | apply below_drew1) | exact HB.out)⟩⟩
    case round =>
      clear HS HM HB
      obtain ⟨i, S1, M1, rfl, hi, hk, s1, m1, H4, HS, HM, HB⟩ := hrel
      cases gk with
      | zero => omega
      | succ k1 =>
        by_cases c : i < l0.length
        · have c0 : decide ((i : Int) < (l0.length : Int)) = true := decide_eq_true (by omega)
          obtain ⟨x, hx⟩ : ∃ x, rd_T37 l0 (i : Int) = x := ⟨_, rfl⟩
          have dr : l0.drop i = x :: l0.drop (i + 1) := by
            rw [List.drop_eq_getElem_cons c, ← hx]
            simp [rd_T37, List.getD_eq_getElem?_getD, c]
          have h4 := H4.out
          rw [dr] at h4
          simp only [impl_CurveThrough.l1] at h4
          by_cases cx : -200 ≤ x.f0 ∧ x.f0 ≤ 200
          · rw [if_pos cx] at h4
            obtain ⟨n, hn⟩ : ∃ n : Nat, (n : Int) = x.f0 + 200 := ⟨(x.f0 + 200).toNat, by omega⟩
            have hn1 : n < 401 := by omega
            have hn2 : (x.f0 + 200).toNat = n := by omega
            rw [hn2] at h4
            have wn : IntKind.i16.wrap (x.f0 + 200) = (n : Int) := by rw [← hn]; exact ct_i16w (by omega) (by omega)
            obtain ⟨sv, hsv⟩ : ∃ sv, S1.getD n 0 = sv := ⟨_, rfl⟩
            obtain ⟨mv, hmv⟩ : ∃ mv, M1.getD n 0 = mv := ⟨_, rfl⟩
            have gs := enc_get S1 n (by omega)
            have gm := enc_get M1 n (by omega)
            rw [hsv, hmv] at h4
            rw [hsv] at gs
            rw [hmv] at gm
            have H4' := Aside0.mk h4
            clear h4 H4 dr hsv hmv
            obtain ⟨ad, ead, hx0, hx1⟩ := at_T37 HR0.out (i : Int) (by omega) (by omega)
            rw [hx] at hx0 hx1
            rw [Int.toNat_natCast] at hx0 hx1
            cases ead
            replace hx0 := (HB.out.cell (World.block_lt_of_cell? w _ hx0)).trans hx0
            replace hx1 := (HB.out.cell (World.block_lt_of_cell? w _ hx1)).trans hx1
            have p178 := eq_true (show 0 ≤ (i : Int) by omega)
            have ls := lt_of_obj HS.out
            have lm := lt_of_obj HM.out
            have xs0 : ∀ o, (wr.alloc o).cell? ⟨bS, n, none⟩ = some (.int .i64 sv) := fun o => (cell_of_row _ _ n _ _ _ ((_root_.Go.heap_alloc_old wr o ls).trans HS.out)).trans gs
            have xm0 : ∀ v o, ((wr.setCell ⟨bS, n, none⟩ v).alloc o).cell? ⟨bM, n, none⟩ = some (.int .i64 mv) := fun v o => (cell_of_row _ _ n _ _ _ ((_root_.Go.heap_alloc_old _ o (lt_of_obj ((heap_setCell_other wr ⟨bS, n, none⟩ bM v (Ne.symm hne)).trans HM.out))).trans ((heap_setCell_other wr ⟨bS, n, none⟩ bM v (Ne.symm hne)).trans HM.out))).trans gm
            have fs0 : ∀ o, (wr.alloc o).frozen? ⟨bS, n, none⟩ = false := fun o => frozen_of_row _ _ n _ _ ((_root_.Go.heap_alloc_old wr o ls).trans HS.out)
            have fm0 : ∀ v o, ((wr.setCell ⟨bS, n, none⟩ v).alloc o).frozen? ⟨bM, n, none⟩ = false := fun v o => frozen_of_row _ _ n _ _ ((_root_.Go.heap_alloc_old _ o (lt_of_obj ((heap_setCell_other wr ⟨bS, n, none⟩ bM v (Ne.symm hne)).trans HM.out))).trans ((heap_setCell_other wr ⟨bS, n, none⟩ bM v (Ne.symm hne)).trans HM.out))
            go_wp2
            go_region
            clear xs0 fs0 hx0 hx1 gs gm
            go_wp2
            go_roundg k1
            case measure => omega
            case rel =>
              refine ⟨i + 1, _, _, by simp, by omega, by omega, ?_, ?_, H4', ?_, ?_, ?_⟩
              · simp [s1]
              · simp [m1]
              · exact ⟨(ct_up _ _ _ _ hne _ _ _ _ _ HS.out HM.out).1⟩
              · exact ⟨(ct_up _ _ _ _ hne _ _ _ _ _ HS.out HM.out).2⟩
              · exact ⟨below_drew1 (below_alloc (Below.setCell (Below.setCell HB.out gS _) gM _) _)⟩
          · rw [if_neg cx] at h4
            cases h4
        · have c0 : decide ((i : Int) < (l0.length : Int)) = false := decide_eq_false (by omega)
          have h4 := H4.out
          rw [List.drop_of_length_le (by omega)] at h4
          obtain ⟨rfl, rfl⟩ := Prod.mk.inj (Option.some.inj h4)
          clear H4 h4
          go_upto_region 11 with (first | ((with_reducible refine gate_dst (N := 46) rfl ?_); refine Kd.R_lit k37 _ 37 ?hg (N := 46) ?hd (xs := ([] : List (S37))) (inner := []) (ok := fun k_ => k_ ≠ bS) (okp := fun k_ => k_ ≠ bS) ?hr ?hp (fun _ hk => hk) (fun e => by have := lt_of_obj HS.out; omega) (Below.refl _ _) (Nat.le_refl _) (by simp) ?_; (case hd => rfl); (case hg => rfl); (case hr => first | (go_simp; done) | (go_simp; rfl)); (case hp => exact (Reps.none _ _)); intro v176 w14 ho15 hb hg_ hnew_; clear hg_ hnew_; have n0_ := Aside0.mk (Kd.R_lower ho15 (below_size (by repeat (first | (with_reducible first | exact HB.out | apply below_alloc | apply pw_below_drewN | apply below_drew1) | exact HB.out)))); have n1_ := Aside0.mk (below_step (by repeat (first | (with_reducible first | exact HB.out | apply below_alloc | apply pw_below_drewN | apply below_drew1) | exact HB.out)) hb); have HS1 := Aside0.mk ((hb.block _ (lt_of_obj HS.out)).trans HS.out); have HM1 := Aside0.mk ((hb.block _ (lt_of_obj HM.out)).trans HM.out); clear HB HS HM; have HO := n0_; have HB := n1_; have HS := HS1; have HM := HM1; clear n0_ n1_ HS1 HM1; clear hb ho15))
          have ls := lt_of_obj HS.out
          go_wp2_with (first | ((with_reducible refine gate_dst (N := 47) rfl ?_); refine wpList_load_row rfl 73 (.tmp 5) rfl bM rfl 73 (enc64 M1) (0, 0) _ HM.out Try.underlying73 rfl (by rw [enc_size, m1]; exact sz73) ?_))
          clear HM H3 H1 H2 c c0 ls
          go_loopg [8, 9, 48] 402 (fun kq v8 v9 v48 w' => ∃ (j : Nat) (out : List S37) (last : Int), v9 = .int .i64 last ∧ v48 = .int .i64 (j : Int) ∧ j ≤ 401 ∧ kq + j = 402 ∧ out.length ≤ j ∧ Aside0 (impl_CurveThrough.l2 S1 M1 (401 - j) j out last = impl_CurveThrough.l2 S1 M1 401 0 [] 0) ∧ Aside0 (Kd.R k37 37 w' w.heap.size (fun k_ => k_ ≠ bS) v8 out) ∧ Aside0 (w'.heap[bS]? = some (.cells (enc64 S1) 73 (0, 0))) ∧ Aside0 (Below w.heap.size w w'))
          case atStart => exact ⟨0, [], 0, rfl, rfl, by omega, by omega, by simp, ⟨rfl⟩, ⟨by (with_reducible repeat (first | apply Kd.R_alloc | apply Kd.R_drewN | apply Kd.R_drew)); exact HO.out⟩, HS, ⟨by repeat (first | (with_reducible first | exact HB.out | apply below_alloc | apply pw_below_drewN | apply below_drew1) | exact HB.out)⟩⟩
          case round =>
            clear HO HS HB
            obtain ⟨j, out, last, rfl, rfl, hj, hq, ho, H5, HO, HS, HB⟩ := hrel
            cases gk with
            | zero => omega
            | succ k2 =>
              generalize hLL : impl_CurveThrough.l2 S1 M1 401 0 [] 0 = LL at H5
              have HL := Aside0.mk hLL
              clear hLL
              by_cases c : j < 401
              · have c0 : decide ((j : Int) < 401) = true := decide_eq_true (by omega)
                have ix := fun w => idx_run Try.underlying73 M1 m1 j c w
                have h5 := H5.out
                rw [show 401 - j = (401 - (j + 1)) + 1 by omega] at h5
                simp only [impl_CurveThrough.l2] at h5
                obtain ⟨mv, hmv⟩ : ∃ mv, M1.getD j 0 = mv := ⟨_, rfl⟩
                obtain ⟨sv, hsv⟩ : ∃ sv, S1.getD j 0 = sv := ⟨_, rfl⟩
                have xs0 : wr.cell? ⟨bS, j, none⟩ = some (.int .i64 sv) := hsv ▸ (cell_of_row wr _ j _ _ _ HS.out).trans (enc_get S1 j (by omega))
                rw [hmv, hsv] at h5
                rw [hmv] at ix
                clear hmv hsv H5
                by_cases p : 0 < mv
                · rw [if_pos p] at h5
                  have p0 : decide (0 < mv) = true := decide_eq_true p
                  have p1 : (mv == 0) = false := beq_eq_false_iff_ne.mpr (by omega)
                  have p2 : mv ≠ 0 := by omega
                  obtain ⟨ji, hji⟩ : ∃ ji, mx last (wrap64 (Int.tdiv sv mv)) = ji := ⟨_, rfl⟩
                  rw [hji] at h5
                  have hji_ : (if last < (wrap64 (Int.tdiv sv mv)) then (wrap64 (Int.tdiv sv mv)) else last) = ji := hji
                  clear hji
                  have H5 := Aside0.mk h5
                  have HO1 := Aside0.mk (show out.length ≤ 401 by omega)
                  clear h5
                  go_wp2_with (first | ((with_reducible refine gate_builtin (b := .append) (xs := #[.tmp 61, .tmp 68]) rfl ?_); at_builtin; refine Kd.R_append k37 (w0 := w) w.heap.size rfl (.tmp 61) (.tmp 68) 25 37 (.agg #[(.int .i16 0), (.int .i16 0)]) 4 rfl Try.underlying25 info37 rfl (by decide) (by omega) _ out (⟨(j : Int) - 200, IntKind.i16.wrap (ji)⟩ : S37) [.int .i16 ((j : Int) - 200), .int .i16 (IntKind.i16.wrap (ji))] (fun k_ => k_ ≠ bS) (fun _ => False) rfl rfl ?aP (fun _ hk => hk.elim) ?aF ?aO ?aB ?aS ?aL ?_; (case aP => exact k37_mkM _ _ _ (⟨(j : Int) - 200, IntKind.i16.wrap (ji)⟩ : S37)); (case aB => exact (by repeat (first | (with_reducible first | exact HB.out | apply below_alloc | apply pw_below_drewN | apply below_drew1) | exact HB.out))); (case aF => exact (fun k_ hk e_ => by subst e_; exact absurd (lt_of_obj HS.out) (Nat.not_lt_of_le hk))); (case aO => exact (by (with_reducible repeat (first | apply Kd.R_alloc | apply Kd.R_drewN | apply Kd.R_drew)); exact HO.out)); (case aS => exact (below_size (by repeat (first | (with_reducible first | exact HB.out | apply below_alloc | apply pw_below_drewN | apply below_drew1) | exact HB.out)))); (case aL => have := HO1.out; omega); intro v134 w20 ho_ hb hg hat; have n0_ := Aside0.mk (hb); have n1_ := Aside0.mk (ho_); have n2_ := Aside0.mk ((hg.block bS (lt_of_obj HS.out) (fun e_ => HO.out.1 _ e_.symm rfl)).trans HS.out); clear HB HO HS; have HB := n0_; have HO := n1_; have HS := n2_; clear n0_ n1_ n2_; clear ho_ hb hg hat))
                  go_roundg k2
                  case measure => omega
                  case rel => exact ⟨j + 1, _, ji, rfl, by simp, by omega, by omega, by simp; omega, HL.out ▸ H5, HO, HS, ⟨by repeat (first | (with_reducible first | exact HB.out | apply below_alloc | apply pw_below_drewN | apply below_drew1) | exact HB.out)⟩⟩
                · rw [if_neg p] at h5
                  have p0 : decide (0 < mv) = false := decide_eq_false p
                  have H5 := Aside0.mk h5
                  clear h5
                  go_wp2
                  go_roundg k2
                  case measure => omega
                  case rel => exact ⟨j + 1, out, last, rfl, by simp, by omega, by omega, by omega, HL.out ▸ H5, HO, HS, HB⟩
              · have c0 : decide ((j : Int) < 401) = false := decide_eq_false (by omega)
                have h5 := H5.out
                rw [show 401 - j = 0 by omega] at h5
                simp only [impl_CurveThrough.l2] at h5
                subst h5
                clear H5
                by_cases q : (out.length : Int) > 12
                · have q0 : decide (12 < (out.length : Int)) = true := decide_eq_true q
                  have q1 : decide (12 < out.length) = true := decide_eq_true (by omega)
                  obtain ⟨Ao22, co22, eo22⟩ := Kd.R_slice HO.out
                  subst eo22
                  have en : impl_CurveThrough.fin out = ([], 3) := if_pos q
                  go_wp2
                  go_ret2
                  rw [HL.out, en]
                  exact ⟨_, by first | rfl | (simp; done), Kd.R_nil _ _ _ _ _, by repeat (first | (with_reducible first | exact HB.out | apply below_alloc | apply pw_below_drewN | apply below_drew1) | exact HB.out)⟩
                · have q0 : decide (12 < (out.length : Int)) = false := decide_eq_false q
                  have q1 : decide (12 < out.length) = false := decide_eq_false (by omega)
                  obtain ⟨Ao22, co22, eo22⟩ := Kd.R_slice HO.out
                  subst eo22
                  have en : impl_CurveThrough.fin out = (out, 0) := if_neg q
                  go_wp2
                  go_ret2
                  rw [HL.out, en]
                  exact ⟨_, by first | rfl | (simp; done), Kd.R_mono HO.out (fun _ _ => trivial), by repeat (first | (with_reducible first | exact HB.out | apply below_alloc | apply pw_below_drewN | apply below_drew1) | exact HB.out)⟩
set_option maxRecDepth 100000 in
set_option maxHeartbeats 8000000 in
theorem impl_CurveThrough.calls (k : Nat) (A0 : Option Addr) (c0 : Nat) (l0 : List S37) (r1 : List S37) (r2 : Int) (w : World) (hr0 : Kd.C k37 w A0 l0.length l0) (hc0 : l0.length ≤ c0) (h : impl_CurveThrough.f k l0 = some (r1, r2)) :
    Calls Try.prog 22 #[.slice A0 l0.length c0] w fun e w' => ∃ v0_ : Value, e = .returned (.tuple #[v0_, .int .i64 r2]) ∧ Kd.R k37 37 w' w.heap.size (fun _ => True) v0_ r1 ∧ Below w.heap.size w w' := by
  unfold impl_CurveThrough.f at h
  obtain ⟨t, h1, h⟩ := Option.bind_eq_some_iff.mp h
  cases t with
  | true =>
    rw [if_pos rfl] at h
    obtain ⟨b, h2, h⟩ := Option.bind_eq_some_iff.mp h
    have hl : l0.length ≤ 100 := by
      unfold impl_within.f at h1
      by_cases q : (l0.length : Int) ≥ 1
      · rw [if_pos q] at h1
        have := of_decide_eq_true (Option.some.inj h1)
        omega
      · omega
    cases b with
    | false =>
      rw [if_neg (by decide)] at h
      obtain ⟨⟨S, M⟩, h3, h⟩ := Option.bind_eq_some_iff.mp h
      have e := Option.some.inj h
      refine (impl_CurveThrough.main k A0 c0 l0 S M w hr0 hc0 hl h1 h2 h3).mono ?_
      simp only at e
      rw [e]
      exact fun e w' h => h
    | true =>
      rw [if_pos rfl] at h
      simp only [Option.some.injEq, Prod.mk.injEq] at h
      obtain ⟨rfl, rfl⟩ := h
      have HB := Aside0.mk (Below.refl w.heap.size w)
      have HR0 := Aside0.mk hr0
      have HC0 := Aside0.mk hc0
      clear hr0 hc0
      have H1 := Aside0.mk h1
      have H2 := Aside0.mk h2
      clear h1 h2
      go_enter Try.func22, Try.ntmps22
      go_wp2_with (first | (go_at_call 64; (refine (impl_Point_64.calls A0 c0 l0 _ _ ?s1 ?s2 rfl).mono ?_); (case s1 => repeat (first | exact (Kd.C_below HR0.out HB.out) | exact HR0.out | (with_reducible refine Kd.C_alloc ?_ _) | (with_reducible refine Kd.C_drewN ?_ _) | (with_reducible refine Kd.C_drew ?_))); (case s2 => exact HC0.out); rintro e w' ⟨rfl, ⟨nd, rfl⟩⟩) | (go_at_call 63; (refine (impl_within.calls _ _ _ true _ H1.out).mono ?_); rintro e w' ⟨rfl, ⟨nd, rfl⟩⟩) | (go_at_call 65; go_loud (refine (impl_Point_65.calls66 k A0 c0 l0 impl_CurveThrough_1.f true _ ?s3 ?s4 (fun x y s w' hb h => impl_CurveThrough_1.calls x y s w' h) H2.out).mono ?_); (case s3 => repeat (first | exact (Kd.C_below HR0.out HB.out) | exact HR0.out | (with_reducible refine Kd.C_alloc ?_ _) | (with_reducible refine Kd.C_drewN ?_ _) | (with_reducible refine Kd.C_drew ?_))); (case s4 => exact HC0.out); rintro e w7 ⟨rfl, hb⟩; have n0_ := Aside0.mk (below_step (by repeat (first | (with_reducible first | exact HB.out | apply below_alloc | apply pw_below_drewN | apply below_drew1) | exact HB.out)) hb); clear HB; have HB := n0_; clear n0_ hb))
      go_ret2
      exact ⟨_, by first | rfl | (simp; done), Kd.R_nil _ _ _ _ _, by repeat (first | (with_reducible first | exact HB.out | apply below_alloc | apply pw_below_drewN | apply below_drew1) | exact HB.out)⟩
  | false =>
    rw [if_neg (by decide)] at h
    simp only [Option.some.injEq, Prod.mk.injEq] at h
    obtain ⟨rfl, rfl⟩ := h
    have HB := Aside0.mk (Below.refl w.heap.size w)
    have HR0 := Aside0.mk hr0
    have HC0 := Aside0.mk hc0
    clear hr0 hc0
    have H1 := Aside0.mk h1
    clear h1
    go_enter Try.func22, Try.ntmps22
    go_wp2_with (first | (go_at_call 64; (refine (impl_Point_64.calls A0 c0 l0 _ _ ?s1 ?s2 rfl).mono ?_); (case s1 => repeat (first | exact (Kd.C_below HR0.out HB.out) | exact HR0.out | (with_reducible refine Kd.C_alloc ?_ _) | (with_reducible refine Kd.C_drewN ?_ _) | (with_reducible refine Kd.C_drew ?_))); (case s2 => exact HC0.out); rintro e w' ⟨rfl, ⟨nd, rfl⟩⟩) | (go_at_call 63; (refine (impl_within.calls _ _ _ false _ H1.out).mono ?_); rintro e w' ⟨rfl, ⟨nd, rfl⟩⟩))
    go_ret2
    exact ⟨_, by first | rfl | (simp; done), Kd.R_nil _ _ _ _ _, by repeat (first | (with_reducible first | exact HB.out | apply below_alloc | apply pw_below_drewN | apply below_drew1) | exact HB.out)⟩

/-! ### spec_l00In: function 69 -/
def spec_l00In.f (a0 : Int) (a1 : Int) (a2 : Int) : Option (Bool) := if a0 ≥ a1 then (some (decide (a0 ≤ a2))) else (some false)
set_option maxHeartbeats 8000000 in
set_option maxRecDepth 100000 in
theorem spec_l00In.calls (a0 : Int) (a1 : Int) (a2 : Int) (r : Bool) (w : World) (h : spec_l00In.f a0 a1 a2 = some r) :
    Calls Try.prog 69 #[.int .i64 a0, .int .i64 a1, .int .i64 a2] w fun e w' => e = .returned (.bool r) ∧ Drawn0 w w' := by
  have H : (if a0 ≥ a1 then (some (decide (a0 ≤ a2))) else (some false)) = some r := h
  clear h
  by_cases c4 : a0 ≥ a1
  · rw [if_pos c4] at H
    have c4b0 : decide (a1 ≤ a0) = true := decide_eq_true c4
    clear c4
    obtain rfl := Option.some.inj H
    go_enter Try.func69, Try.ntmps69
    go_wp2
    go_ret
    exact ⟨by first | rfl | (simp; done) | (simp [*]; done), by repeat (first | exact Drawn0.refl _ | apply Drawn0.step)⟩
  · rw [if_neg c4] at H
    have c4b0 : decide (a1 ≤ a0) = false := decide_eq_false c4
    clear c4
    obtain rfl := Option.some.inj H
    go_enter Try.func69, Try.ntmps69
    go_wp2
    go_ret
    exact ⟨by first | rfl | (simp; done) | (simp [*]; done), by repeat (first | exact Drawn0.refl _ | apply Drawn0.step)⟩

/-! ### spec_l02Density: function 75 -/
def spec_l02Density.f (a0 : Int) : Option (Bool) := (spec_l00In.f a0 0 400).bind fun t111 => (some t111)
set_option maxHeartbeats 8000000 in
set_option maxRecDepth 100000 in
theorem spec_l02Density.calls (a0 : Int) (r : Bool) (w : World) (h : spec_l02Density.f a0 = some r) :
    Calls Try.prog 75 #[.int .i64 a0] w fun e w' => e = .returned (.bool r) ∧ Drawn0 w w' := by
  have H : ((spec_l00In.f a0 0 400).bind fun t111 => (some t111)) = some r := h
  clear h
  replace H := Option.bind_eq_some_iff.mp H
  obtain ⟨t111, A20, H⟩ := H
  replace H : (some t111) = some r := H
  have A2 := Aside0.mk A20
  clear A20
  obtain rfl := Option.some.inj H
  go_enter Try.func75, Try.ntmps75
  go_wp2_with (first | ((with_reducible refine gate_callee (f := 69) rfl ?_); refine goesL_ (some 4) rfl rfl Try.func69 (by kernel_rfl) rfl #[.int .i64 a0, .int .i64 0, .int .i64 400] rfl (by (try simp only [List.map_toArray, List.map_cons, List.map_nil]); first | done | rfl | (simp only [List.length_drop, List.length_take]; rfl)) ?_; (with_reducible refine (spec_l00In.calls a0 0 400 t111 _ A2.out).mono ?_); rintro e w' ⟨rfl, ⟨nd, rfl⟩⟩; refine ⟨_, rfl, ?_⟩))
  go_ret
  exact ⟨by first | rfl | (simp; done) | (simp [*]; done), by repeat (first | exact Drawn0.refl _ | apply Drawn0.step)⟩

/-! ### spec_l02Place: function 76 -/
def spec_l02Place.f (a0 : Int) : Option (Bool) := (spec_l00In.f a0 (-200) 200).bind fun t112 => (some t112)
set_option maxHeartbeats 8000000 in
set_option maxRecDepth 100000 in
theorem spec_l02Place.calls (a0 : Int) (r : Bool) (w : World) (h : spec_l02Place.f a0 = some r) :
    Calls Try.prog 76 #[.int .i64 a0] w fun e w' => e = .returned (.bool r) ∧ Drawn0 w w' := by
  have H : ((spec_l00In.f a0 (-200) 200).bind fun t112 => (some t112)) = some r := h
  clear h
  replace H := Option.bind_eq_some_iff.mp H
  obtain ⟨t112, A20, H⟩ := H
  replace H : (some t112) = some r := H
  have A2 := Aside0.mk A20
  clear A20
  obtain rfl := Option.some.inj H
  go_enter Try.func76, Try.ntmps76
  go_wp2_with (first | ((with_reducible refine gate_callee (f := 69) rfl ?_); refine goesL_ (some 4) rfl rfl Try.func69 (by kernel_rfl) rfl #[.int .i64 a0, .int .i64 (-200), .int .i64 200] rfl (by (try simp only [List.map_toArray, List.map_cons, List.map_nil]); first | done | rfl | (simp only [List.length_drop, List.length_take]; rfl)) ?_; (with_reducible refine (spec_l00In.calls a0 (-200) 200 t112 _ A2.out).mono ?_); rintro e w' ⟨rfl, ⟨nd, rfl⟩⟩; refine ⟨_, rfl, ?_⟩))
  go_ret
  exact ⟨by first | rfl | (simp; done) | (simp [*]; done), by repeat (first | exact Drawn0.refl _ | apply Drawn0.step)⟩

/-! ### spec_l02Point: function 70 -/
def spec_l02Point.f (a0_0 : Int) (a0_1 : Int) : Option (Bool) := (spec_l02Place.f (wrap64 (a0_0))).bind fun t114 => (if t114 = true then ((spec_l02Density.f (wrap64 (a0_1))).bind fun t115 => (some t115)) else (some false))
set_option maxHeartbeats 8000000 in
set_option maxRecDepth 100000 in
theorem spec_l02Point.calls (a0_0 : Int) (a0_1 : Int) (r : Bool) (w : World) (h : spec_l02Point.f a0_0 a0_1 = some r) :
    Calls Try.prog 70 #[.agg #[.int .i16 a0_0, .int .i16 a0_1]] w fun e w' => e = .returned (.bool r) ∧ Below w.heap.size w w' := by
  have hu37 := Try.underlying37
  have HB := Aside0.mk (Below.refl w.heap.size w)
  have H : ((spec_l02Place.f (wrap64 (a0_0))).bind fun t114 => (if t114 = true then ((spec_l02Density.f (wrap64 (a0_1))).bind fun t115 => (some t115)) else (some false))) = some r := h
  clear h
  replace H := Option.bind_eq_some_iff.mp H
  obtain ⟨t114, A20, H⟩ := H
  replace H : (if t114 = true then ((spec_l02Density.f (wrap64 (a0_1))).bind fun t115 => (some t115)) else (some false)) = some r := H
  have A2 := Aside0.mk A20
  clear A20
  by_cases c3 : t114 = true
  · subst c3
    have H1 : ((spec_l02Density.f (wrap64 (a0_1))).bind fun t115 => (some t115)) = some r := by rw [if_pos rfl] at H; exact H
    clear H
    have H := H1
    clear H1
    replace H := Option.bind_eq_some_iff.mp H
    obtain ⟨t115, A40, H⟩ := H
    replace H : (some t115) = some r := H
    have A4 := Aside0.mk A40
    clear A40
    obtain rfl := Option.some.inj H
    go_enter Try.func70, Try.ntmps70
    go_wp2_with (first | ((with_reducible refine gate_dst (N := 1) rfl ?_); refine box_event ?hg (N := 1) ?hd (cs := #[.int .i16 a0_0, .int .i16 a0_1]) (t := 37) ?hr ?_; (case hd => rfl); (case hg => rfl); (case hr => first | (go_simp; done) | (go_simp; rfl)); intro gb113 hg w5 hbox hb; have n0_ := Aside0.mk (below_step (by repeat (first | (with_reducible first | exact HB.out | apply below_alloc | apply pw_below_drewN | apply below_drew1) | exact HB.out)) hb); have n1_ := Aside0.mk (hbox); have n2_ := Aside0.mk ((by rw [hg]; exact (below_size (by repeat (first | (with_reducible first | exact HB.out | apply below_alloc | apply pw_below_drewN | apply below_drew1) | exact HB.out))) : w.heap.size ≤ gb113)); have n3_ := Aside0.mk ((by rw [hg]; exact (below_size (by repeat (first | (with_reducible first | exact HB.out | apply below_alloc | apply pw_below_drewN | apply below_drew1) | exact HB.out))) : w.heap.size ≤ gb113)); clear HB; have HB := n0_; have BK113 := n1_; have GW113 := n2_; have GE113 := n3_; clear n0_ n1_ n2_ n3_; clear hb hbox hg; have hcz6_0 : w5.cell? ⟨gb113, 0, none⟩ = some (.int .i16 a0_0) := (blk_cell BK113.out 0).trans rfl; have hcz6_1 : w5.cell? ⟨gb113, 1, none⟩ = some (.int .i16 a0_1) := (blk_cell BK113.out 1).trans rfl; have hfz6_0 := blk_frozen BK113.out 0; have hfz6_1 := blk_frozen BK113.out 1) | ((with_reducible refine gate_callee (f := 76) rfl ?_); refine goesL_ (some 6) rfl rfl Try.func76 (by kernel_rfl) rfl #[.int .i64 (wrap64 (a0_0))] rfl (by (try simp only [List.map_toArray, List.map_cons, List.map_nil]); first | done | rfl | (simp only [List.length_drop, List.length_take]; rfl)) ?_; (with_reducible refine (spec_l02Place.calls (wrap64 (a0_0)) true _ A2.out).mono ?_); rintro e w' ⟨rfl, ⟨nd, rfl⟩⟩; refine ⟨_, rfl, ?_⟩) | (go_at_call 75; (with_reducible refine (spec_l02Density.calls (wrap64 (a0_1)) t115 _ A4.out).mono ?_); rintro e w' ⟨rfl, ⟨nd, rfl⟩⟩))
    go_ret
    exact ⟨by first | rfl | (simp [errW_none, errW_some] <;> rfl) | (simp [*, errW_none, errW_some] <;> rfl), by repeat (first | (with_reducible first | exact HB.out | apply below_alloc | apply pw_below_drewN | apply below_drew1 | refine below_set ?_ GE113.out) | exact HB.out)⟩
  · replace c3 := Bool.eq_false_iff.mpr c3
    subst c3
    have H1 : (some false) = some r := by rw [if_neg (show ¬ (false = true) by decide)] at H; exact H
    clear H
    have H := H1
    clear H1
    obtain rfl := Option.some.inj H
    go_enter Try.func70, Try.ntmps70
    go_wp2_with (first | ((with_reducible refine gate_dst (N := 1) rfl ?_); refine box_event ?hg (N := 1) ?hd (cs := #[.int .i16 a0_0, .int .i16 a0_1]) (t := 37) ?hr ?_; (case hd => rfl); (case hg => rfl); (case hr => first | (go_simp; done) | (go_simp; rfl)); intro gb113 hg w7 hbox hb; have n0_ := Aside0.mk (below_step (by repeat (first | (with_reducible first | exact HB.out | apply below_alloc | apply pw_below_drewN | apply below_drew1) | exact HB.out)) hb); have n1_ := Aside0.mk (hbox); have n2_ := Aside0.mk ((by rw [hg]; exact (below_size (by repeat (first | (with_reducible first | exact HB.out | apply below_alloc | apply pw_below_drewN | apply below_drew1) | exact HB.out))) : w.heap.size ≤ gb113)); have n3_ := Aside0.mk ((by rw [hg]; exact (below_size (by repeat (first | (with_reducible first | exact HB.out | apply below_alloc | apply pw_below_drewN | apply below_drew1) | exact HB.out))) : w.heap.size ≤ gb113)); clear HB; have HB := n0_; have BK113 := n1_; have GW113 := n2_; have GE113 := n3_; clear n0_ n1_ n2_ n3_; clear hb hbox hg; have hcz8_0 : w7.cell? ⟨gb113, 0, none⟩ = some (.int .i16 a0_0) := (blk_cell BK113.out 0).trans rfl; have hcz8_1 : w7.cell? ⟨gb113, 1, none⟩ = some (.int .i16 a0_1) := (blk_cell BK113.out 1).trans rfl; have hfz8_0 := blk_frozen BK113.out 0; have hfz8_1 := blk_frozen BK113.out 1) | ((with_reducible refine gate_callee (f := 76) rfl ?_); refine goesL_ (some 6) rfl rfl Try.func76 (by kernel_rfl) rfl #[.int .i64 (wrap64 (a0_0))] rfl (by (try simp only [List.map_toArray, List.map_cons, List.map_nil]); first | done | rfl | (simp only [List.length_drop, List.length_take]; rfl)) ?_; (with_reducible refine (spec_l02Place.calls (wrap64 (a0_0)) false _ A2.out).mono ?_); rintro e w' ⟨rfl, ⟨nd, rfl⟩⟩; refine ⟨_, rfl, ?_⟩))
    go_ret
    exact ⟨by first | rfl | (simp [errW_none, errW_some] <;> rfl) | (simp [*, errW_none, errW_some] <;> rfl), by repeat (first | (with_reducible first | exact HB.out | apply below_alloc | apply pw_below_drewN | apply below_drew1 | refine below_set ?_ GE113.out) | exact HB.out)⟩

/-! ### spec_l00Max: function 71 -/
def spec_l00Max.f (a0 : Int) (a1 : Int) : Option (Int) := if a0 > a1 then (some a0) else (some a1)
set_option maxHeartbeats 8000000 in
set_option maxRecDepth 100000 in
theorem spec_l00Max.calls (a0 : Int) (a1 : Int) (r : Int) (w : World) (h : spec_l00Max.f a0 a1 = some r) :
    Calls Try.prog 71 #[.int .i64 a0, .int .i64 a1] w fun e w' => e = .returned (.int .i64 r) ∧ Drawn0 w w' := by
  have H : (if a0 > a1 then (some a0) else (some a1)) = some r := h
  clear h
  by_cases c3 : a0 > a1
  · rw [if_pos c3] at H
    have c3b0 : decide (a1 < a0) = true := decide_eq_true c3
    clear c3
    obtain rfl := Option.some.inj H
    go_enter Try.func71, Try.ntmps71
    go_wp2
    go_ret
    exact ⟨by first | rfl | (simp; done) | (simp [*]; done), by repeat (first | exact Drawn0.refl _ | apply Drawn0.step)⟩
  · rw [if_neg c3] at H
    have c3b0 : decide (a1 < a0) = false := decide_eq_false c3
    clear c3
    obtain rfl := Option.some.inj H
    go_enter Try.func71, Try.ntmps71
    go_wp2
    go_ret
    exact ⟨by first | rfl | (simp; done) | (simp [*]; done), by repeat (first | exact Drawn0.refl _ | apply Drawn0.step)⟩

end Go.Proofs.Ytcgahnmdaelngaa.PFnExactCurveThrough
