/- Proves what functions that a law reaches come to, one contract each; no conditions beyond those that each names. Printed by a program of this session (xprint) out of the translation. -/
import Derived.Test.YtfhbjjkkhjijmaaDoorPFnExactReadSettingx0
namespace Go.Proofs.YtfhbjjkkhjijmaaDoor.PFnExactReadSetting
open Go.RowKit Go.Proofs.YtfhbjjkkhjijmaaDoorW.PrintWords Go.Proofs.YtfhbjjkkhjijmaaDoorW.PrintLast Go.Proofs.YtfhbjjkkhjijmaaDoorW.PrintMore
attribute [local go_sem] max2_int min2_int max_two min_two max_three min_three max_four min_four   -- for this text's walks alone
set_option linter.unusedVariables false
set_option linter.unusedSimpArgs false

/-! ### impl_within: function 50 -/
def impl_within.f (a0 : Int) (a1 : Int) (a2 : Int) : Option (Bool) := if a0 ≥ a1 then (some (decide (a0 ≤ a2))) else (some false)
set_option maxHeartbeats 8000000 in
set_option maxRecDepth 100000 in
theorem impl_within.calls (a0 : Int) (a1 : Int) (a2 : Int) (r : Bool) (w : World) (h : impl_within.f a0 a1 a2 = some r) :
    Calls Tryd.prog 50 #[.int .i64 a0, .int .i64 a1, .int .i64 a2] w fun e w' => e = .returned (.bool r) ∧ Drawn0 w w' := by
  have H : (if a0 ≥ a1 then (some (decide (a0 ≤ a2))) else (some false)) = some r := h
  clear h
  by_cases c4 : a0 ≥ a1
  · rw [if_pos c4] at H
    have c4b0 : decide (a1 ≤ a0) = true := decide_eq_true c4
    clear c4
    obtain rfl := Option.some.inj H
    go_enter Tryd.func50, Tryd.ntmps50
    go_wp2
    go_ret
    exact ⟨by first | rfl | (simp; done) | (simp [*]; done), by repeat (first | exact Drawn0.refl _ | apply Drawn0.step)⟩
  · rw [if_neg c4] at H
    have c4b0 : decide (a1 ≤ a0) = false := decide_eq_false c4
    clear c4
    obtain rfl := Option.some.inj H
    go_enter Tryd.func50, Tryd.ntmps50
    go_wp2
    go_ret
    exact ⟨by first | rfl | (simp; done) | (simp [*]; done), by repeat (first | exact Drawn0.refl _ | apply Drawn0.step)⟩

/-! ### impl_isShutter: function 55 -/
def impl_isShutter.f (a0 : Int) : Option (Bool) := (impl_within.f a0 0 45).bind fun t101 => (some t101)
set_option maxHeartbeats 8000000 in
set_option maxRecDepth 100000 in
theorem impl_isShutter.calls (a0 : Int) (r : Bool) (w : World) (h : impl_isShutter.f a0 = some r) :
    Calls Tryd.prog 55 #[.int .i64 a0] w fun e w' => e = .returned (.bool r) ∧ Drawn0 w w' := by
  have H : ((impl_within.f a0 0 45).bind fun t101 => (some t101)) = some r := h
  clear h
  replace H := Option.bind_eq_some_iff.mp H
  obtain ⟨t101, A20, H⟩ := H
  replace H : (some t101) = some r := H
  have A2 := Aside0.mk A20
  clear A20
  obtain rfl := Option.some.inj H
  go_enter Tryd.func55, Tryd.ntmps55
  go_wp2_with (first | ((with_reducible refine gate_callee (f := 50) rfl ?_); refine goesL_ (some 4) rfl rfl Tryd.func50 (by kernel_rfl) rfl #[.int .i64 a0, .int .i64 0, .int .i64 45] rfl (by (try simp only [List.map_toArray, List.map_cons, List.map_nil]); first | done | rfl | (simp only [List.length_drop, List.length_take]; rfl)) ?_; (with_reducible refine (impl_within.calls a0 0 45 t101 _ A2.out).mono ?_); rintro e w' ⟨rfl, ⟨nd, rfl⟩⟩; refine ⟨_, rfl, ?_⟩))
  go_ret
  exact ⟨by first | rfl | (simp; done) | (simp [*]; done), by repeat (first | exact Drawn0.refl _ | apply Drawn0.step)⟩

/-! ### impl_ValidSetting: function 18 -/
def impl_ValidSetting.f (a0_0 : Int) (a0_1 : Int) (a0_2 : Int) : Option (Bool) := (impl_isShutter.f (wrap64 (a0_0))).bind fun t103 => (if t103 = true then ((impl_within.f (wrap64 (a0_1)) 0 30).bind fun t104 => (if t104 = true then ((impl_within.f (wrap64 (a0_2)) 0 21).bind fun t105 => (some t105)) else (some false))) else (some false))
set_option maxHeartbeats 8000000 in
set_option maxRecDepth 100000 in
theorem impl_ValidSetting.calls (a0_0 : Int) (a0_1 : Int) (a0_2 : Int) (r : Bool) (w : World) (h : impl_ValidSetting.f a0_0 a0_1 a0_2 = some r) :
    Calls Tryd.prog 18 #[.agg #[.int .i8 a0_0, .int .i8 a0_1, .int .i8 a0_2]] w fun e w' => e = .returned (.bool r) ∧ Below w.heap.size w w' := by
  have hu26 := Tryd.underlying26
  have HB := Aside0.mk (Below.refl w.heap.size w)
  have H : ((impl_isShutter.f (wrap64 (a0_0))).bind fun t103 => (if t103 = true then ((impl_within.f (wrap64 (a0_1)) 0 30).bind fun t104 => (if t104 = true then ((impl_within.f (wrap64 (a0_2)) 0 21).bind fun t105 => (some t105)) else (some false))) else (some false))) = some r := h
  clear h
  replace H := Option.bind_eq_some_iff.mp H
  obtain ⟨t103, A20, H⟩ := H
  replace H : (if t103 = true then ((impl_within.f (wrap64 (a0_1)) 0 30).bind fun t104 => (if t104 = true then ((impl_within.f (wrap64 (a0_2)) 0 21).bind fun t105 => (some t105)) else (some false))) else (some false)) = some r := H
  have A2 := Aside0.mk A20
  clear A20
  by_cases c3 : t103 = true
  · subst c3
    have H1 : ((impl_within.f (wrap64 (a0_1)) 0 30).bind fun t104 => (if t104 = true then ((impl_within.f (wrap64 (a0_2)) 0 21).bind fun t105 => (some t105)) else (some false))) = some r := by rw [if_pos rfl] at H; exact H
    clear H
    have H := H1
    clear H1
    replace H := Option.bind_eq_some_iff.mp H
    obtain ⟨t104, A40, H⟩ := H
    replace H : (if t104 = true then ((impl_within.f (wrap64 (a0_2)) 0 21).bind fun t105 => (some t105)) else (some false)) = some r := H
    have A4 := Aside0.mk A40
    clear A40
    by_cases c5 : t104 = true
    · subst c5
      have H1 : ((impl_within.f (wrap64 (a0_2)) 0 21).bind fun t105 => (some t105)) = some r := by rw [if_pos rfl] at H; exact H
      clear H
      have H := H1
      clear H1
      replace H := Option.bind_eq_some_iff.mp H
      obtain ⟨t105, A60, H⟩ := H
      replace H : (some t105) = some r := H
      have A6 := Aside0.mk A60
      clear A60
      obtain rfl := Option.some.inj H
      go_enter Tryd.func18, Tryd.ntmps18
      go_wp2_with (first | ((with_reducible refine gate_dst (N := 1) rfl ?_); refine box_event ?hg (N := 1) ?hd (cs := #[.int .i8 a0_0, .int .i8 a0_1, .int .i8 a0_2]) (t := 26) ?hr ?_; (case hd => rfl); (case hg => rfl); (case hr => first | (go_simp; done) | (go_simp; rfl)); intro gb102 hg w7 hbox hb; have n0_ := Aside0.mk (below_step (by repeat (first | (with_reducible first | exact HB.out | apply below_alloc | apply pw_below_drewN | apply below_drew1) | exact HB.out)) hb); have n1_ := Aside0.mk (hbox); have n2_ := Aside0.mk ((by rw [hg]; exact (below_size (by repeat (first | (with_reducible first | exact HB.out | apply below_alloc | apply pw_below_drewN | apply below_drew1) | exact HB.out))) : w.heap.size ≤ gb102)); have n3_ := Aside0.mk ((by rw [hg]; exact (below_size (by repeat (first | (with_reducible first | exact HB.out | apply below_alloc | apply pw_below_drewN | apply below_drew1) | exact HB.out))) : w.heap.size ≤ gb102)); clear HB; have HB := n0_; have BK102 := n1_; have GW102 := n2_; have GE102 := n3_; clear n0_ n1_ n2_ n3_; clear hb hbox hg; have hcz8_0 : w7.cell? ⟨gb102, 0, none⟩ = some (.int .i8 a0_0) := (blk_cell BK102.out 0).trans rfl; have hcz8_1 : w7.cell? ⟨gb102, 1, none⟩ = some (.int .i8 a0_1) := (blk_cell BK102.out 1).trans rfl; have hcz8_2 : w7.cell? ⟨gb102, 2, none⟩ = some (.int .i8 a0_2) := (blk_cell BK102.out 2).trans rfl; have hfz8_0 := blk_frozen BK102.out 0; have hfz8_1 := blk_frozen BK102.out 1; have hfz8_2 := blk_frozen BK102.out 2) | ((with_reducible refine gate_callee (f := 55) rfl ?_); refine goesL_ (some 6) rfl rfl Tryd.func55 (by kernel_rfl) rfl #[.int .i64 (wrap64 (a0_0))] rfl (by (try simp only [List.map_toArray, List.map_cons, List.map_nil]); first | done | rfl | (simp only [List.length_drop, List.length_take]; rfl)) ?_; (with_reducible refine (impl_isShutter.calls (wrap64 (a0_0)) true _ A2.out).mono ?_); rintro e w' ⟨rfl, ⟨nd, rfl⟩⟩; refine ⟨_, rfl, ?_⟩) | (go_at_call 50; (with_reducible refine (impl_within.calls (wrap64 (a0_1)) 0 30 true _ A4.out).mono ?_); rintro e w' ⟨rfl, ⟨nd, rfl⟩⟩) | (go_at_call 50; (with_reducible refine (impl_within.calls (wrap64 (a0_2)) 0 21 t105 _ A6.out).mono ?_); rintro e w' ⟨rfl, ⟨nd, rfl⟩⟩))
      go_ret
      exact ⟨by first | rfl | (simp [errW_none, errW_some] <;> rfl) | (simp [*, errW_none, errW_some] <;> rfl), by repeat (first | (with_reducible first | exact HB.out | apply below_alloc | apply pw_below_drewN | apply below_drew1 | refine below_set ?_ GE102.out) | exact HB.out)⟩
    · replace c5 := Bool.eq_false_iff.mpr c5
      subst c5
      have H1 : (some false) = some r := by rw [if_neg (show ¬ (false = true) by decide)] at H; exact H
      clear H
      have H := H1
      clear H1
      obtain rfl := Option.some.inj H
      go_enter Tryd.func18, Tryd.ntmps18
      go_wp2_with (first | ((with_reducible refine gate_dst (N := 1) rfl ?_); refine box_event ?hg (N := 1) ?hd (cs := #[.int .i8 a0_0, .int .i8 a0_1, .int .i8 a0_2]) (t := 26) ?hr ?_; (case hd => rfl); (case hg => rfl); (case hr => first | (go_simp; done) | (go_simp; rfl)); intro gb102 hg w9 hbox hb; have n0_ := Aside0.mk (below_step (by repeat (first | (with_reducible first | exact HB.out | apply below_alloc | apply pw_below_drewN | apply below_drew1) | exact HB.out)) hb); have n1_ := Aside0.mk (hbox); have n2_ := Aside0.mk ((by rw [hg]; exact (below_size (by repeat (first | (with_reducible first | exact HB.out | apply below_alloc | apply pw_below_drewN | apply below_drew1) | exact HB.out))) : w.heap.size ≤ gb102)); have n3_ := Aside0.mk ((by rw [hg]; exact (below_size (by repeat (first | (with_reducible first | exact HB.out | apply below_alloc | apply pw_below_drewN | apply below_drew1) | exact HB.out))) : w.heap.size ≤ gb102)); clear HB; have HB := n0_; have BK102 := n1_; have GW102 := n2_; have GE102 := n3_; clear n0_ n1_ n2_ n3_; clear hb hbox hg; have hcz10_0 : w9.cell? ⟨gb102, 0, none⟩ = some (.int .i8 a0_0) := (blk_cell BK102.out 0).trans rfl; have hcz10_1 : w9.cell? ⟨gb102, 1, none⟩ = some (.int .i8 a0_1) := (blk_cell BK102.out 1).trans rfl; have hcz10_2 : w9.cell? ⟨gb102, 2, none⟩ = some (.int .i8 a0_2) := (blk_cell BK102.out 2).trans rfl; have hfz10_0 := blk_frozen BK102.out 0; have hfz10_1 := blk_frozen BK102.out 1; have hfz10_2 := blk_frozen BK102.out 2) | ((with_reducible refine gate_callee (f := 55) rfl ?_); refine goesL_ (some 6) rfl rfl Tryd.func55 (by kernel_rfl) rfl #[.int .i64 (wrap64 (a0_0))] rfl (by (try simp only [List.map_toArray, List.map_cons, List.map_nil]); first | done | rfl | (simp only [List.length_drop, List.length_take]; rfl)) ?_; (with_reducible refine (impl_isShutter.calls (wrap64 (a0_0)) true _ A2.out).mono ?_); rintro e w' ⟨rfl, ⟨nd, rfl⟩⟩; refine ⟨_, rfl, ?_⟩) | (go_at_call 50; (with_reducible refine (impl_within.calls (wrap64 (a0_1)) 0 30 false _ A4.out).mono ?_); rintro e w' ⟨rfl, ⟨nd, rfl⟩⟩))
      go_ret
      exact ⟨by first | rfl | (simp [errW_none, errW_some] <;> rfl) | (simp [*, errW_none, errW_some] <;> rfl), by repeat (first | (with_reducible first | exact HB.out | apply below_alloc | apply pw_below_drewN | apply below_drew1 | refine below_set ?_ GE102.out) | exact HB.out)⟩
  · replace c3 := Bool.eq_false_iff.mpr c3
    subst c3
    have H1 : (some false) = some r := by rw [if_neg (show ¬ (false = true) by decide)] at H; exact H
    clear H
    have H := H1
    clear H1
    obtain rfl := Option.some.inj H
    go_enter Tryd.func18, Tryd.ntmps18
    go_wp2_with (first | ((with_reducible refine gate_dst (N := 1) rfl ?_); refine box_event ?hg (N := 1) ?hd (cs := #[.int .i8 a0_0, .int .i8 a0_1, .int .i8 a0_2]) (t := 26) ?hr ?_; (case hd => rfl); (case hg => rfl); (case hr => first | (go_simp; done) | (go_simp; rfl)); intro gb102 hg w11 hbox hb; have n0_ := Aside0.mk (below_step (by repeat (first | (with_reducible first | exact HB.out | apply below_alloc | apply pw_below_drewN | apply below_drew1) | exact HB.out)) hb); have n1_ := Aside0.mk (hbox); have n2_ := Aside0.mk ((by rw [hg]; exact (below_size (by repeat (first | (with_reducible first | exact HB.out | apply below_alloc | apply pw_below_drewN | apply below_drew1) | exact HB.out))) : w.heap.size ≤ gb102)); have n3_ := Aside0.mk ((by rw [hg]; exact (below_size (by repeat (first | (with_reducible first | exact HB.out | apply below_alloc | apply pw_below_drewN | apply below_drew1) | exact HB.out))) : w.heap.size ≤ gb102)); clear HB; have HB := n0_; have BK102 := n1_; have GW102 := n2_; have GE102 := n3_; clear n0_ n1_ n2_ n3_; clear hb hbox hg; have hcz12_0 : w11.cell? ⟨gb102, 0, none⟩ = some (.int .i8 a0_0) := (blk_cell BK102.out 0).trans rfl; have hcz12_1 : w11.cell? ⟨gb102, 1, none⟩ = some (.int .i8 a0_1) := (blk_cell BK102.out 1).trans rfl; have hcz12_2 : w11.cell? ⟨gb102, 2, none⟩ = some (.int .i8 a0_2) := (blk_cell BK102.out 2).trans rfl; have hfz12_0 := blk_frozen BK102.out 0; have hfz12_1 := blk_frozen BK102.out 1; have hfz12_2 := blk_frozen BK102.out 2) | ((with_reducible refine gate_callee (f := 55) rfl ?_); refine goesL_ (some 6) rfl rfl Tryd.func55 (by kernel_rfl) rfl #[.int .i64 (wrap64 (a0_0))] rfl (by (try simp only [List.map_toArray, List.map_cons, List.map_nil]); first | done | rfl | (simp only [List.length_drop, List.length_take]; rfl)) ?_; (with_reducible refine (impl_isShutter.calls (wrap64 (a0_0)) false _ A2.out).mono ?_); rintro e w' ⟨rfl, ⟨nd, rfl⟩⟩; refine ⟨_, rfl, ?_⟩))
    go_ret
    exact ⟨by first | rfl | (simp [errW_none, errW_some] <;> rfl) | (simp [*, errW_none, errW_some] <;> rfl), by repeat (first | (with_reducible first | exact HB.out | apply below_alloc | apply pw_below_drewN | apply below_drew1 | refine below_set ?_ GE102.out) | exact HB.out)⟩

-- NOT PRINTED: function 82 (strconv_FormatInt)


/-! ### impl_decimal: function 48 -/
def impl_decimal.f (a0 : Int) : Option (ByteArray) := if 0 ≤ a0 ∧ a0 < 100 then some ⟨(Lib.decDigits a0.toNat).toArray⟩ else none
set_option maxHeartbeats 8000000 in
set_option maxRecDepth 100000 in
theorem impl_decimal.calls (a0 : Int) (r : ByteArray) (w : World) (h : impl_decimal.f a0 = some r) :
    Calls Tryd.prog 48 #[.int .i64 a0] w fun e w' => e = .returned (.string r) ∧ Drawn0 w w' := by
  unfold impl_decimal.f at h
  by_cases c : 0 ≤ a0 ∧ a0 < 100
  · rw [if_pos c] at h
    obtain rfl := Option.some.inj h
    obtain ⟨n, rfl⟩ : ∃ n : Nat, a0 = n := ⟨a0.toNat, by omega⟩
    have hn : n < 100 := by omega
    rw [Int.toNat_natCast]
    clear h c
    go_enter Tryd.func48, Tryd.ntmps48
    go_wp2_with (first | (go_at_call 82; (refine (Tryd.strconv_FormatInt_10_small n hn _).mono ?_); rintro e w' ⟨rfl, rfl⟩))
    go_ret
    exact ⟨rfl, by repeat (first | exact Drawn0.refl _ | apply Drawn0.step)⟩
  · rw [if_neg c] at h
    cases h


/-! ### strings_Split: function 92 -/
def GlobW (w : World) : Prop := ∃ m : Int, w.cell? ⟨0, 0, none⟩ = some (.int .i64 m)
theorem GlobW.at_ {w w' : World} (h : GlobW w) (hb : Below w.heap.size w w') : GlobW w' := by
  obtain ⟨m, hm⟩ := h
  exact ⟨m, (hb.cell (World.block_lt_of_cell? w _ hm)).trans hm⟩
def strings_Split.f (a0 a1 : ByteArray) : Option (List ByteArray) := if a0.size < 4294967281 then (if 1 ≤ a1.size then some (Lib.splitB a1 0 (Lib.countB a0 a1) a0) else none) else none
theorem strings_Split.calls (a0 : ByteArray) (a1 : ByteArray) (r : List ByteArray) (w : World) (h : strings_Split.f a0 a1 = some r) (hg_ : GlobW w) :
    Calls Tryd.prog 92 #[.string a0, .string a1] w fun e w' => ∃ v0_ : Value, e = .returned (v0_) ∧ Kd.R Kd.string 9 w' w.heap.size (fun _ => True) v0_ r ∧ Below w.heap.size w w' := by
  unfold strings_Split.f at h
  by_cases c : a0.size < 4294967281
  · rw [if_pos c] at h
    by_cases c1 : 1 ≤ a1.size
    · rw [if_pos c1] at h
      obtain rfl := Option.some.inj h
      obtain ⟨m, hm⟩ := hg_
      refine (Tryd.strings_Split a0 a1 m w c hm c1).mono ?_
      rintro e w' ⟨rfl, rfl⟩
      have hl := Lib.splitB_all a1 c1 0 (Lib.countB a0 a1) a0 rfl
      have hk : Lib.countB a0 a1 + 1 ≤ maxLen := by
        have := Lib.countB_le a1 c1 a0.size a0 (Nat.le_refl _)
        unfold maxLen
        omega
      refine ⟨_, rfl, ?_, (Below.refl _ w).alloc (Nat.le_refl _) _⟩
      have ho := World.ownsRow_lit (base := w.heap.size) (e := 9) (size := 1) w ((Lib.splitB a1 0 (Lib.countB a0 a1) a0).map Value.string).toArray (Lib.countB a0 a1 + 1) (Nat.le_refl _) hk (by simp [hl])
      rw [← hl] at ho ⊢
      exact Kd.R_of_own (enc := Value.string) (h1 := fun _ => rfl) (by simpa [encs] using ho) (fun _ _ => trivial)
    · rw [if_neg c1] at h
      cases h
  · rw [if_neg c] at h
    cases h

/-! ### impl_thirdName: function 70 -/
def impl_thirdName.f (a0 : ByteArray) (a1 : Int) (a2 : Int) : Option (ByteArray) := (impl_within.f a1 0 a2).bind fun t106 => (if t106 = true then ((strings_Split.f a0 (⟨#[32]⟩ : ByteArray)).bind fun t107 => (if 0 ≤ (wrap64 (Int.tdiv a1 3)) then (if (wrap64 (Int.tdiv a1 3)) < (t107.length : Int) then (if (Int.tmod a1 3) > 0 then ((impl_decimal.f (Int.tmod a1 3)).bind fun t111 => (if 1 + t111.size ≤ 9223372036854775807 then (if (rdOf ByteArray.empty t107 (wrap64 (Int.tdiv a1 3))).size + ((⟨#[43]⟩ : ByteArray) ++ t111).size ≤ 9223372036854775807 then (some ((rdOf ByteArray.empty t107 (wrap64 (Int.tdiv a1 3))) ++ ((⟨#[43]⟩ : ByteArray) ++ t111))) else (none)) else (none))) else (some (rdOf ByteArray.empty t107 (wrap64 (Int.tdiv a1 3))))) else (none)) else (none))) else (some (⟨#[]⟩ : ByteArray)))
set_option maxHeartbeats 8000000 in
set_option maxRecDepth 100000 in
theorem impl_thirdName.calls (a0 : ByteArray) (a1 : Int) (a2 : Int) (r : ByteArray) (w : World) (h : impl_thirdName.f a0 a1 a2 = some r) (hg_ : GlobW w) :
    Calls Tryd.prog 70 #[.string a0, .int .i64 a1, .int .i64 a2] w fun e w' => e = .returned (.string r) ∧ Below w.heap.size w w' := by
  have HG := Aside0.mk hg_
  clear hg_
  have HB := Aside0.mk (Below.refl w.heap.size w)
  have H : ((impl_within.f a1 0 a2).bind fun t106 => (if t106 = true then ((strings_Split.f a0 (⟨#[32]⟩ : ByteArray)).bind fun t107 => (if 0 ≤ (wrap64 (Int.tdiv a1 3)) then (if (wrap64 (Int.tdiv a1 3)) < (t107.length : Int) then (if (Int.tmod a1 3) > 0 then ((impl_decimal.f (Int.tmod a1 3)).bind fun t111 => (if 1 + t111.size ≤ 9223372036854775807 then (if (rdOf ByteArray.empty t107 (wrap64 (Int.tdiv a1 3))).size + ((⟨#[43]⟩ : ByteArray) ++ t111).size ≤ 9223372036854775807 then (some ((rdOf ByteArray.empty t107 (wrap64 (Int.tdiv a1 3))) ++ ((⟨#[43]⟩ : ByteArray) ++ t111))) else (none)) else (none))) else (some (rdOf ByteArray.empty t107 (wrap64 (Int.tdiv a1 3))))) else (none)) else (none))) else (some (⟨#[]⟩ : ByteArray)))) = some r := h
  clear h
  replace H := Option.bind_eq_some_iff.mp H
  obtain ⟨t106, A40, H⟩ := H
  replace H : (if t106 = true then ((strings_Split.f a0 (⟨#[32]⟩ : ByteArray)).bind fun t107 => (if 0 ≤ (wrap64 (Int.tdiv a1 3)) then (if (wrap64 (Int.tdiv a1 3)) < (t107.length : Int) then (if (Int.tmod a1 3) > 0 then ((impl_decimal.f (Int.tmod a1 3)).bind fun t111 => (if 1 + t111.size ≤ 9223372036854775807 then (if (rdOf ByteArray.empty t107 (wrap64 (Int.tdiv a1 3))).size + ((⟨#[43]⟩ : ByteArray) ++ t111).size ≤ 9223372036854775807 then (some ((rdOf ByteArray.empty t107 (wrap64 (Int.tdiv a1 3))) ++ ((⟨#[43]⟩ : ByteArray) ++ t111))) else (none)) else (none))) else (some (rdOf ByteArray.empty t107 (wrap64 (Int.tdiv a1 3))))) else (none)) else (none))) else (some (⟨#[]⟩ : ByteArray))) = some r := H
  have A4 := Aside0.mk A40
  clear A40
  by_cases c5 : t106 = true
  · subst c5
    have H1 : ((strings_Split.f a0 (⟨#[32]⟩ : ByteArray)).bind fun t107 => (if 0 ≤ (wrap64 (Int.tdiv a1 3)) then (if (wrap64 (Int.tdiv a1 3)) < (t107.length : Int) then (if (Int.tmod a1 3) > 0 then ((impl_decimal.f (Int.tmod a1 3)).bind fun t111 => (if 1 + t111.size ≤ 9223372036854775807 then (if (rdOf ByteArray.empty t107 (wrap64 (Int.tdiv a1 3))).size + ((⟨#[43]⟩ : ByteArray) ++ t111).size ≤ 9223372036854775807 then (some ((rdOf ByteArray.empty t107 (wrap64 (Int.tdiv a1 3))) ++ ((⟨#[43]⟩ : ByteArray) ++ t111))) else (none)) else (none))) else (some (rdOf ByteArray.empty t107 (wrap64 (Int.tdiv a1 3))))) else (none)) else (none))) = some r := by rw [if_pos rfl] at H; exact H
    clear H
    have H := H1
    clear H1
    replace H := Option.bind_eq_some_iff.mp H
    obtain ⟨t107, A60, H⟩ := H
    replace H : (if 0 ≤ (wrap64 (Int.tdiv a1 3)) then (if (wrap64 (Int.tdiv a1 3)) < (t107.length : Int) then (if (Int.tmod a1 3) > 0 then ((impl_decimal.f (Int.tmod a1 3)).bind fun t111 => (if 1 + t111.size ≤ 9223372036854775807 then (if (rdOf ByteArray.empty t107 (wrap64 (Int.tdiv a1 3))).size + ((⟨#[43]⟩ : ByteArray) ++ t111).size ≤ 9223372036854775807 then (some ((rdOf ByteArray.empty t107 (wrap64 (Int.tdiv a1 3))) ++ ((⟨#[43]⟩ : ByteArray) ++ t111))) else (none)) else (none))) else (some (rdOf ByteArray.empty t107 (wrap64 (Int.tdiv a1 3))))) else (none)) else (none)) = some r := H
    have A6 := Aside0.mk A60
    clear A60
    obtain ⟨ji7, hji7⟩ : ∃ j_ : Int, (wrap64 (Int.tdiv a1 3)) = j_ := ⟨_, rfl⟩
    replace H : (if 0 ≤ (ji7) then (if (ji7) < (t107.length : Int) then (if (Int.tmod a1 3) > 0 then ((impl_decimal.f (Int.tmod a1 3)).bind fun t111 => (if 1 + t111.size ≤ 9223372036854775807 then (if (rdOf ByteArray.empty t107 (ji7)).size + ((⟨#[43]⟩ : ByteArray) ++ t111).size ≤ 9223372036854775807 then (some ((rdOf ByteArray.empty t107 (ji7)) ++ ((⟨#[43]⟩ : ByteArray) ++ t111))) else (none)) else (none))) else (some (rdOf ByteArray.empty t107 (ji7)))) else (none)) else (none)) = some r := by first | (rw [hji7] at H; exact H) | (simp only [hji7] at H ⊢; exact H)
    (try rw [hji7] at A4)
    (try rw [hji7] at A6)
    have hji7w : (IntKind.i64.wrap (Int.tdiv a1 3)) = ji7 := (i64_w _).trans hji7
    by_cases c8 : 0 ≤ (ji7)
    · rw [if_pos c8] at H
      have c8b0 : decide (0 ≤ (ji7)) = true := decide_eq_true c8
      clear c8
      by_cases c9 : (ji7) < (t107.length : Int)
      · rw [if_pos c9] at H
        have c9b0 : decide ((ji7) < (t107.length : Int)) = true := decide_eq_true c9
        clear c9
        by_cases c10 : (Int.tmod a1 3) > 0
        · rw [if_pos c10] at H
          have c10b0 : decide (0 < (Int.tmod a1 3)) = true := decide_eq_true c10
          clear c10
          replace H := Option.bind_eq_some_iff.mp H
          obtain ⟨t111, A110, H⟩ := H
          replace H : (if 1 + t111.size ≤ 9223372036854775807 then (if (rdOf ByteArray.empty t107 (ji7)).size + ((⟨#[43]⟩ : ByteArray) ++ t111).size ≤ 9223372036854775807 then (some ((rdOf ByteArray.empty t107 (ji7)) ++ ((⟨#[43]⟩ : ByteArray) ++ t111))) else (none)) else (none)) = some r := H
          have A11 := Aside0.mk A110
          clear A110
          by_cases c12 : 1 + t111.size ≤ 9223372036854775807
          · rw [if_pos c12] at H
            have c12b0 := eq_true c12
            have c12b1 : decide (1 + t111.size ≤ 9223372036854775807) = true := decide_eq_true c12
            try have c12b2 : (9223372036854775807 < 1 + t111.size) = False := eq_false (Nat.not_lt.2 c12)
            by_cases c13 : (rdOf ByteArray.empty t107 (ji7)).size + ((⟨#[43]⟩ : ByteArray) ++ t111).size ≤ 9223372036854775807
            · rw [if_pos c13] at H
              have c13b0 := eq_true c13
              have c13b1 : decide ((rdOf ByteArray.empty t107 (ji7)).size + ((⟨#[43]⟩ : ByteArray) ++ t111).size ≤ 9223372036854775807) = true := decide_eq_true c13
              try have c13b2 : (9223372036854775807 < (rdOf ByteArray.empty t107 (ji7)).size + ((⟨#[43]⟩ : ByteArray) ++ t111).size) = False := eq_false (Nat.not_lt.2 c13)
              obtain rfl := Option.some.inj H
              go_enter Tryd.func70, Tryd.ntmps70
              go_wp2_with (first | ((with_reducible refine gate_callee (f := 50) rfl ?_); refine goesL_ (some 10) rfl rfl Tryd.func50 (by kernel_rfl) rfl #[.int .i64 a1, .int .i64 0, .int .i64 a2] rfl (by (try simp only [List.map_toArray, List.map_cons, List.map_nil]); first | done | rfl | (simp only [List.length_drop, List.length_take]; rfl)) ?_; (with_reducible refine (impl_within.calls a1 0 a2 true _ A4.out).mono ?_); rintro e w' ⟨rfl, ⟨nd, rfl⟩⟩; refine ⟨_, rfl, ?_⟩) | ((with_reducible refine gate_callee (f := 92) rfl ?_); refine goesL_ (some 13) rfl rfl Tryd.func92 (by kernel_rfl) rfl #[.string a0, .string (⟨#[32]⟩ : ByteArray)] rfl (by (try simp only [List.map_toArray, List.map_cons, List.map_nil]); first | done | rfl | (simp only [List.length_drop, List.length_take]; rfl)) ?_; (with_reducible refine (strings_Split.calls a0 (⟨#[32]⟩ : ByteArray) t107 _ A6.out ?gl_).mono ?_); (case gl_ => exact GlobW.at_ HG.out (by repeat (first | (with_reducible first | exact HB.out | apply below_alloc | apply pw_below_drewN | apply below_drew1 | refine below_set ?_ (Aside0.out (by assumption))) | exact HB.out))); rintro e w14 ⟨v108, rfl, ho0, hb⟩; refine ⟨_, rfl, ?_⟩; have n0_ := Aside0.mk (Kd.R_lower ho0 (below_size (by repeat (first | (with_reducible first | exact HB.out | apply below_alloc | apply pw_below_drewN | apply below_drew1) | exact HB.out)))); have n1_ := Aside0.mk (below_step (by repeat (first | (with_reducible first | exact HB.out | apply below_alloc | apply pw_below_drewN | apply below_drew1) | exact HB.out)) hb); clear HB; have HO109 := n0_; have HB := n1_; clear n0_ n1_; (try clear hb); (try clear hb2); (try clear hk); (try clear hi); (try clear ho0); obtain ⟨Ao15, co15, eo15⟩ := Kd.R_slice HO109.out; subst eo15; have p110 : 0 ≤ ((ji7) : Int) := of_decide_eq_true (by first | (with_reducible assumption) | assumption); have q110 : (ji7) < (t107.length : Int) := of_decide_eq_true (by first | (with_reducible assumption) | assumption); obtain ⟨ad110, e110, hx110_0⟩ := Kd.at_string (Kd.R_reads' HO109.out).2.2 (ji7) p110 q110; cases e110; replace p110 := eq_true p110; replace q110 := eq_true q110) | ((with_reducible refine gate_callee (f := 48) rfl ?_); refine goesL_ (some 24) rfl rfl Tryd.func48 (by kernel_rfl) rfl #[.int .i64 (Int.tmod a1 3)] rfl (by (try simp only [List.map_toArray, List.map_cons, List.map_nil]); first | done | rfl | (simp only [List.length_drop, List.length_take]; rfl)) ?_; (with_reducible refine (impl_decimal.calls (Int.tmod a1 3) t111 _ A11.out).mono ?_); rintro e w' ⟨rfl, ⟨nd, rfl⟩⟩; refine ⟨_, rfl, ?_⟩))
              go_ret
              exact ⟨by first | rfl | (simp [errW_none, errW_some] <;> rfl) | (simp only [← hji7]; first | rfl | (simp [errW_none, errW_some] <;> rfl)) | (simp [*, errW_none, errW_some] <;> rfl), by repeat (first | (with_reducible first | exact HB.out | apply below_alloc | apply pw_below_drewN | apply below_drew1) | exact HB.out)⟩
            · rw [if_neg c13] at H
              exact absurd H (by simp)
          · rw [if_neg c12] at H
            exact absurd H (by simp)
        · rw [if_neg c10] at H
          have c10b0 : decide (0 < (Int.tmod a1 3)) = false := decide_eq_false c10
          clear c10
          obtain rfl := Option.some.inj H
          go_enter Tryd.func70, Tryd.ntmps70
          go_wp2_with (first | ((with_reducible refine gate_callee (f := 50) rfl ?_); refine goesL_ (some 10) rfl rfl Tryd.func50 (by kernel_rfl) rfl #[.int .i64 a1, .int .i64 0, .int .i64 a2] rfl (by (try simp only [List.map_toArray, List.map_cons, List.map_nil]); first | done | rfl | (simp only [List.length_drop, List.length_take]; rfl)) ?_; (with_reducible refine (impl_within.calls a1 0 a2 true _ A4.out).mono ?_); rintro e w' ⟨rfl, ⟨nd, rfl⟩⟩; refine ⟨_, rfl, ?_⟩) | ((with_reducible refine gate_callee (f := 92) rfl ?_); refine goesL_ (some 13) rfl rfl Tryd.func92 (by kernel_rfl) rfl #[.string a0, .string (⟨#[32]⟩ : ByteArray)] rfl (by (try simp only [List.map_toArray, List.map_cons, List.map_nil]); first | done | rfl | (simp only [List.length_drop, List.length_take]; rfl)) ?_; (with_reducible refine (strings_Split.calls a0 (⟨#[32]⟩ : ByteArray) t107 _ A6.out ?gl_).mono ?_); (case gl_ => exact GlobW.at_ HG.out (by repeat (first | (with_reducible first | exact HB.out | apply below_alloc | apply pw_below_drewN | apply below_drew1 | refine below_set ?_ (Aside0.out (by assumption))) | exact HB.out))); rintro e w16 ⟨v108, rfl, ho0, hb⟩; refine ⟨_, rfl, ?_⟩; have n0_ := Aside0.mk (Kd.R_lower ho0 (below_size (by repeat (first | (with_reducible first | exact HB.out | apply below_alloc | apply pw_below_drewN | apply below_drew1) | exact HB.out)))); have n1_ := Aside0.mk (below_step (by repeat (first | (with_reducible first | exact HB.out | apply below_alloc | apply pw_below_drewN | apply below_drew1) | exact HB.out)) hb); clear HB; have HO109 := n0_; have HB := n1_; clear n0_ n1_; (try clear hb); (try clear hb2); (try clear hk); (try clear hi); (try clear ho0); obtain ⟨Ao17, co17, eo17⟩ := Kd.R_slice HO109.out; subst eo17; have p110 : 0 ≤ ((ji7) : Int) := of_decide_eq_true (by first | (with_reducible assumption) | assumption); have q110 : (ji7) < (t107.length : Int) := of_decide_eq_true (by first | (with_reducible assumption) | assumption); obtain ⟨ad110, e110, hx110_0⟩ := Kd.at_string (Kd.R_reads' HO109.out).2.2 (ji7) p110 q110; cases e110; replace p110 := eq_true p110; replace q110 := eq_true q110))
          go_ret
          exact ⟨by first | rfl | (simp [errW_none, errW_some] <;> rfl) | (simp only [← hji7]; first | rfl | (simp [errW_none, errW_some] <;> rfl)) | (simp [*, errW_none, errW_some] <;> rfl), by repeat (first | (with_reducible first | exact HB.out | apply below_alloc | apply pw_below_drewN | apply below_drew1) | exact HB.out)⟩
      · rw [if_neg c9] at H
        exact absurd H (by simp)
    · rw [if_neg c8] at H
      exact absurd H (by simp)
  · replace c5 := Bool.eq_false_iff.mpr c5
    subst c5
    have H1 : (some (⟨#[]⟩ : ByteArray)) = some r := by rw [if_neg (show ¬ (false = true) by decide)] at H; exact H
    clear H
    have H := H1
    clear H1
    obtain rfl := Option.some.inj H
    go_enter Tryd.func70, Tryd.ntmps70
    go_wp2_with (first | ((with_reducible refine gate_callee (f := 50) rfl ?_); refine goesL_ (some 10) rfl rfl Tryd.func50 (by kernel_rfl) rfl #[.int .i64 a1, .int .i64 0, .int .i64 a2] rfl (by (try simp only [List.map_toArray, List.map_cons, List.map_nil]); first | done | rfl | (simp only [List.length_drop, List.length_take]; rfl)) ?_; (with_reducible refine (impl_within.calls a1 0 a2 false _ A4.out).mono ?_); rintro e w' ⟨rfl, ⟨nd, rfl⟩⟩; refine ⟨_, rfl, ?_⟩))
    go_ret
    exact ⟨by first | rfl | (simp [errW_none, errW_some] <;> rfl) | (simp [*, errW_none, errW_some] <;> rfl), by repeat (first | (with_reducible first | exact HB.out | apply below_alloc | apply pw_below_drewN | apply below_drew1) | exact HB.out)⟩

/-! ### impl_ApertureName: function 33 -/
def impl_ApertureName.f (a0 : Int) : Option (ByteArray) := (impl_thirdName.f (⟨#[102, 47, 49, 32, 102, 47, 49, 46, 52, 32, 102, 47, 50, 32, 102, 47, 50, 46, 56, 32, 102, 47, 52, 32, 102, 47, 53, 46, 54, 32, 102, 47, 56, 32, 102, 47, 49, 49, 32, 102, 47, 49, 54, 32, 102, 47, 50, 50, 32, 102, 47, 51, 50]⟩ : ByteArray) a0 30).bind fun t112 => (some t112)
set_option maxHeartbeats 8000000 in
set_option maxRecDepth 100000 in
theorem impl_ApertureName.calls (a0 : Int) (r : ByteArray) (w : World) (h : impl_ApertureName.f a0 = some r) (hg_ : GlobW w) :
    Calls Tryd.prog 33 #[.int .i64 a0] w fun e w' => e = .returned (.string r) ∧ Below w.heap.size w w' := by
  have HG := Aside0.mk hg_
  clear hg_
  have HB := Aside0.mk (Below.refl w.heap.size w)
  have H : ((impl_thirdName.f (⟨#[102, 47, 49, 32, 102, 47, 49, 46, 52, 32, 102, 47, 50, 32, 102, 47, 50, 46, 56, 32, 102, 47, 52, 32, 102, 47, 53, 46, 54, 32, 102, 47, 56, 32, 102, 47, 49, 49, 32, 102, 47, 49, 54, 32, 102, 47, 50, 50, 32, 102, 47, 51, 50]⟩ : ByteArray) a0 30).bind fun t112 => (some t112)) = some r := h
  clear h
  replace H := Option.bind_eq_some_iff.mp H
  obtain ⟨t112, A20, H⟩ := H
  replace H : (some t112) = some r := H
  have A2 := Aside0.mk A20
  clear A20
  obtain rfl := Option.some.inj H
  go_enter Tryd.func33, Tryd.ntmps33
  go_wp2_with (first | ((with_reducible refine gate_callee (f := 70) rfl ?_); refine goesL_ (some 4) rfl rfl Tryd.func70 (by kernel_rfl) rfl #[.string (⟨#[102, 47, 49, 32, 102, 47, 49, 46, 52, 32, 102, 47, 50, 32, 102, 47, 50, 46, 56, 32, 102, 47, 52, 32, 102, 47, 53, 46, 54, 32, 102, 47, 56, 32, 102, 47, 49, 49, 32, 102, 47, 49, 54, 32, 102, 47, 50, 50, 32, 102, 47, 51, 50]⟩ : ByteArray), .int .i64 a0, .int .i64 30] rfl (by (try simp only [List.map_toArray, List.map_cons, List.map_nil]); first | done | rfl | (simp only [List.length_drop, List.length_take]; rfl)) ?_; (with_reducible refine (impl_thirdName.calls (⟨#[102, 47, 49, 32, 102, 47, 49, 46, 52, 32, 102, 47, 50, 32, 102, 47, 50, 46, 56, 32, 102, 47, 52, 32, 102, 47, 53, 46, 54, 32, 102, 47, 56, 32, 102, 47, 49, 49, 32, 102, 47, 49, 54, 32, 102, 47, 50, 50, 32, 102, 47, 51, 50]⟩ : ByteArray) a0 30 t112 _ A2.out ?gl_).mono ?_); (case gl_ => exact GlobW.at_ HG.out (by repeat (first | (with_reducible first | exact HB.out | apply below_alloc | apply pw_below_drewN | apply below_drew1 | refine below_set ?_ (Aside0.out (by assumption))) | exact HB.out))); rintro e w3 ⟨rfl, hb⟩; refine ⟨_, rfl, ?_⟩; have n0_ := Aside0.mk (below_step (by repeat (first | (with_reducible first | exact HB.out | apply below_alloc | apply pw_below_drewN | apply below_drew1) | exact HB.out)) hb); clear HB; have HB := n0_; clear n0_; (try clear hb); (try clear hb2); (try clear hk); (try clear hi)))
  go_ret
  exact ⟨by first | rfl | (simp [errW_none, errW_some] <;> rfl) | (simp [*, errW_none, errW_some] <;> rfl), by repeat (first | (with_reducible first | exact HB.out | apply below_alloc | apply pw_below_drewN | apply below_drew1) | exact HB.out)⟩

/-! ### impl_ShutterName: function 35 -/
def impl_ShutterName.f (a0 : Int) : Option (ByteArray) := (impl_thirdName.f (⟨#[49, 47, 49, 48, 48, 48, 32, 49, 47, 53, 48, 48, 32, 49, 47, 50, 53, 48, 32, 49, 47, 49, 50, 53, 32, 49, 47, 54, 48, 32, 49, 47, 51, 48, 32, 49, 47, 49, 53, 32, 49, 47, 56, 32, 49, 47, 52, 32, 49, 47, 50, 32, 49, 32, 50, 32, 52, 32, 56, 32, 49, 53, 32, 51, 48]⟩ : ByteArray) a0 45).bind fun t113 => (some t113)
set_option maxHeartbeats 8000000 in
set_option maxRecDepth 100000 in
theorem impl_ShutterName.calls (a0 : Int) (r : ByteArray) (w : World) (h : impl_ShutterName.f a0 = some r) (hg_ : GlobW w) :
    Calls Tryd.prog 35 #[.int .i64 a0] w fun e w' => e = .returned (.string r) ∧ Below w.heap.size w w' := by
  have HG := Aside0.mk hg_
  clear hg_
  have HB := Aside0.mk (Below.refl w.heap.size w)
  have H : ((impl_thirdName.f (⟨#[49, 47, 49, 48, 48, 48, 32, 49, 47, 53, 48, 48, 32, 49, 47, 50, 53, 48, 32, 49, 47, 49, 50, 53, 32, 49, 47, 54, 48, 32, 49, 47, 51, 48, 32, 49, 47, 49, 53, 32, 49, 47, 56, 32, 49, 47, 52, 32, 49, 47, 50, 32, 49, 32, 50, 32, 52, 32, 56, 32, 49, 53, 32, 51, 48]⟩ : ByteArray) a0 45).bind fun t113 => (some t113)) = some r := h
  clear h
  replace H := Option.bind_eq_some_iff.mp H
  obtain ⟨t113, A20, H⟩ := H
  replace H : (some t113) = some r := H
  have A2 := Aside0.mk A20
  clear A20
  obtain rfl := Option.some.inj H
  go_enter Tryd.func35, Tryd.ntmps35
  go_wp2_with (first | ((with_reducible refine gate_callee (f := 70) rfl ?_); refine goesL_ (some 4) rfl rfl Tryd.func70 (by kernel_rfl) rfl #[.string (⟨#[49, 47, 49, 48, 48, 48, 32, 49, 47, 53, 48, 48, 32, 49, 47, 50, 53, 48, 32, 49, 47, 49, 50, 53, 32, 49, 47, 54, 48, 32, 49, 47, 51, 48, 32, 49, 47, 49, 53, 32, 49, 47, 56, 32, 49, 47, 52, 32, 49, 47, 50, 32, 49, 32, 50, 32, 52, 32, 56, 32, 49, 53, 32, 51, 48]⟩ : ByteArray), .int .i64 a0, .int .i64 45] rfl (by (try simp only [List.map_toArray, List.map_cons, List.map_nil]); first | done | rfl | (simp only [List.length_drop, List.length_take]; rfl)) ?_; (with_reducible refine (impl_thirdName.calls (⟨#[49, 47, 49, 48, 48, 48, 32, 49, 47, 53, 48, 48, 32, 49, 47, 50, 53, 48, 32, 49, 47, 49, 50, 53, 32, 49, 47, 54, 48, 32, 49, 47, 51, 48, 32, 49, 47, 49, 53, 32, 49, 47, 56, 32, 49, 47, 52, 32, 49, 47, 50, 32, 49, 32, 50, 32, 52, 32, 56, 32, 49, 53, 32, 51, 48]⟩ : ByteArray) a0 45 t113 _ A2.out ?gl_).mono ?_); (case gl_ => exact GlobW.at_ HG.out (by repeat (first | (with_reducible first | exact HB.out | apply below_alloc | apply pw_below_drewN | apply below_drew1 | refine below_set ?_ (Aside0.out (by assumption))) | exact HB.out))); rintro e w3 ⟨rfl, hb⟩; refine ⟨_, rfl, ?_⟩; have n0_ := Aside0.mk (below_step (by repeat (first | (with_reducible first | exact HB.out | apply below_alloc | apply pw_below_drewN | apply below_drew1) | exact HB.out)) hb); clear HB; have HB := n0_; clear n0_; (try clear hb); (try clear hb2); (try clear hk); (try clear hi)))
  go_ret
  exact ⟨by first | rfl | (simp [errW_none, errW_some] <;> rfl) | (simp [*, errW_none, errW_some] <;> rfl), by repeat (first | (with_reducible first | exact HB.out | apply below_alloc | apply pw_below_drewN | apply below_drew1) | exact HB.out)⟩


/-! ### strings_SplitN: function 47 -/
def strings_SplitN.f (a0 a1 : ByteArray) (a2 : Int) : Option (List ByteArray) := if a0.size < 4294967281 then (if 1 ≤ a1.size then (if 1 ≤ a2 ∧ a2 ≤ 9223372036854775807 then some (Lib.splitB a1 0 (min a2.toNat (a0.size + 1) - 1) a0) else none) else none) else none
theorem strings_SplitN.calls (a0 : ByteArray) (a1 : ByteArray) (a2 : Int) (r : List ByteArray) (w : World) (h : strings_SplitN.f a0 a1 a2 = some r) (hg_ : GlobW w) :
    Calls Tryd.prog 47 #[.string a0, .string a1, .int .i64 a2] w fun e w' => ∃ v0_ : Value, e = .returned (v0_) ∧ Kd.R Kd.string 9 w' w.heap.size (fun _ => True) v0_ r ∧ Below w.heap.size w w' := by
  unfold strings_SplitN.f at h
  by_cases c : a0.size < 4294967281
  · rw [if_pos c] at h
    by_cases c1 : 1 ≤ a1.size
    · rw [if_pos c1] at h
      by_cases c2 : 1 ≤ a2 ∧ a2 ≤ 9223372036854775807
      · rw [if_pos c2] at h
        obtain rfl := Option.some.inj h
        obtain ⟨m, hm⟩ := hg_
        obtain ⟨n, rfl⟩ : ∃ n : Nat, a2 = n := ⟨a2.toNat, by omega⟩
        rw [Int.toNat_natCast]
        refine (Tryd.strings_SplitN a0 a1 n m w c hm c1 (by omega) (by omega)).mono ?_
        rintro e w' ⟨rfl, rfl⟩
        obtain ⟨N, hN⟩ : ∃ N, min n (a0.size + 1) = N := ⟨_, rfl⟩
        rw [hN]
        have hl := Lib.splitB_length_le a1 0 (N - 1) a0
        have hl2 : (Lib.splitB a1 0 (N - 1) a0).length ≤ N := by omega
        refine ⟨_, rfl, ?_, (Below.refl _ w).alloc (Nat.le_refl _) _⟩
        have ho : (w.alloc (.cells (Lib.cellsOf (Lib.splitB a1 0 (N - 1) a0) N) 9)).ownsRow w.heap.size 9 1 (.slice (some ⟨w.heap.size, 0, none⟩) (Lib.splitB a1 0 (N - 1) a0).length N) (Lib.splitB a1 0 (N - 1) a0).length (encs Value.string (Lib.splitB a1 0 (N - 1) a0)) := by
          refine ⟨by simp [encs], .inr ⟨w.heap.size, N, Lib.cellsOf (Lib.splitB a1 0 (N - 1) a0) N, rfl, Nat.le_refl _, heap_alloc_new w _, hl2, by unfold maxLen; omega, by rw [Lib.cellsOf_size hl2, Nat.mul_one], ?_⟩⟩
          rw [Nat.mul_one]
          show List.take _ (List.map Value.string (Lib.splitB a1 0 (N - 1) a0) ++ _) = _
          rw [List.take_append_of_le_length (by simp)]
          exact List.take_of_length_le (by simp)
        exact Kd.R_of_own (enc := Value.string) (h1 := fun _ => rfl) ho (fun _ _ => trivial)
      · rw [if_neg c2] at h
        cases h
    · rw [if_neg c1] at h
      cases h
  · rw [if_neg c] at h
    cases h

end Go.Proofs.YtfhbjjkkhjijmaaDoor.PFnExactReadSetting
