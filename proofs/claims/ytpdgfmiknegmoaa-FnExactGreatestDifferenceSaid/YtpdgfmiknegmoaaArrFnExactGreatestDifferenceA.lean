/- Proves what functions over an array of 64 whole numbers come to, one contract each, by hand. Conditions: each number fits in 16 bits; that array's length is 64. -/
import Derived.Test.YtpdgfmiknegmoaaPFnExactGreatestDifferencex1
namespace Go.Proofs.Ytpdgfmiknegmoaa.PFnExactGreatestDifference
open Go.RowKit Go.Proofs.YtpdgfmiknegmoaaW.PrintWords Go.Proofs.YtpdgfmiknegmoaaW.PrintLast Go.Proofs.YtpdgfmiknegmoaaW.PrintMore
set_option linter.unusedVariables false
set_option linter.unusedSimpArgs false
def enc16 (l : List Int) : Array Value := (l.map (Value.int .i16)).toArray
theorem enc_size (l : List Int) : (enc16 l).size = l.length := by simp [enc16]
theorem enc_get (l : List Int) (i : Nat) (h : i < l.length) : (enc16 l)[i]? = some (.int .i16 (l.getD i 0)) := by simp [enc16, h]
theorem enc_one (l : List Int) : (enc16 l).all (·.oneCell') = true := by
  simp [enc16, Value.oneCell']
def Dense (l : List Int) : Prop := ∀ i : Nat, i < 64 → 0 ≤ l.getD i 0 ∧ l.getD i 0 ≤ 400
instance (l : List Int) : Decidable (Dense l) := by unfold Dense; infer_instance
theorem idx_run {t : TypeId} (hu : Try.prog.underlying t = some (.array 64 26)) (l : List Int) (hl : l.length = 64) (i : Nat) (hi : i < 64) (w : World) :
    (Instr.index t (.agg (enc16 l)) (.int .i64 (i : Int))).run Try.prog w = .ok (.int .i16 (l.getD i 0)) w := by
  have g := enc_get l i (by omega)
  have s1 : ∀ w, Sem.run Try.prog (sizeOf 26) w = .ok 1 w := fun w => by kernel_rfl
  have s2 : ∀ w, Sem.run Try.prog (isAgg 26) w = .ok false w := fun w => by kernel_rfl
  simp [Instr.index, run_underlying hu, asIntOf, hi, s1, s2, go_sem]
  rw [g]
  simp
theorem szA : (Try.prog.info? 27).map (·.size) = some 64 := by kernel_rfl
theorem szC : (Try.prog.info? 33).map (·.size) = some 64 := by kernel_rfl
theorem dens (x : Int) : impl_isDensity.f x = some (decide (0 ≤ x ∧ x ≤ 400)) := by
  unfold impl_isDensity.f impl_within.f
  by_cases a : x ≥ 0
  · rw [if_pos a]
    have : 0 ≤ x := a
    simp [this]
  · rw [if_neg a]
    have : ¬ 0 ≤ x := a
    simp [this]
set_option maxRecDepth 100000 in
set_option maxHeartbeats 8000000 in
theorem are_calls (l : List Int) (hl : l.length = 64) (hw : ∀ i : Nat, i < 64 → -32768 ≤ l.getD i 0 ∧ l.getD i 0 ≤ 32767) (w : World) :
    Calls Try.prog 36 #[.agg (enc16 l)] w fun e w' => e = .returned (.bool (decide (Dense l))) ∧ Below w.heap.size w w' := by
  have HB := Aside0.mk (Below.refl w.heap.size w)
  go_enter Try.func36, Try.ntmps36
  go_wp2_with (first | ((with_reducible refine gate_dst (N := 5) rfl ?_); refine wpList_load_row rfl 27 (.tmp 1) rfl w.heap.size rfl 27 (enc16 l) (0, 0) _ (heap_alloc_new _ _) Try.underlying27 rfl (by rw [enc_size, hl]; exact szA) ?_))
  go_loopg [6] 65 (fun kq v6 w' => ∃ i : Nat, v6 = .int .i64 (i : Int) ∧ i ≤ 64 ∧ kq + i = 65 ∧ Aside0 (∀ j : Nat, j < i → 0 ≤ l.getD j 0 ∧ l.getD j 0 ≤ 400) ∧ Aside0 (Below w.heap.size w w'))
  case atStart => exact ⟨0, rfl, by omega, by omega, ⟨fun j hj => by omega⟩, ⟨by repeat (first | (with_reducible first | exact HB.out | apply below_alloc | apply pw_below_drewN | apply below_drew1) | exact HB.out)⟩⟩
  case round =>
    obtain ⟨i, rfl, hi, hk, hd, HB⟩ := hrel
    cases gk with
    | zero => omega
    | succ k1 =>
      by_cases c : i < 64
      · have c0 : decide ((i : Int) < 64) = true := decide_eq_true (by omega)
        have ix := fun w => idx_run Try.underlying27 l hl i c w
        have hb := hw i c
        generalize hx : l.getD i 0 = x at ix hb
        by_cases p : 0 ≤ x ∧ x ≤ 400
        · have q : impl_isDensity.f x = some true := by rw [dens]; simp [p]
          go_wp2_with (first | (go_at_call 47; (refine (impl_isDensity.calls x true _ q).mono ?_); rintro e w' ⟨rfl, ⟨nd, rfl⟩⟩))
          go_roundg k1
          case measure => omega
          case rel => exact ⟨i + 1, by simp, by omega, by omega, ⟨fun j hj => by
            by_cases e : j = i
            · rw [e, hx]; exact p
            · exact hd.out j (by omega)⟩, ⟨by repeat (first | (with_reducible first | exact HB.out | apply below_alloc | apply pw_below_drewN | apply below_drew1) | exact HB.out)⟩⟩
        · have q : impl_isDensity.f x = some false := by rw [dens]; simp [p]
          go_wp2_with (first | (go_at_call 47; (refine (impl_isDensity.calls x false _ q).mono ?_); rintro e w' ⟨rfl, ⟨nd, rfl⟩⟩))
          go_ret
          exact ⟨by have e : decide (Dense l) = false := decide_eq_false (fun h => p (by have := h i c; rw [hx] at this; exact this)); rw [e]; rfl, by repeat (first | (with_reducible first | exact HB.out | apply below_alloc | apply pw_below_drewN | apply below_drew1) | exact HB.out)⟩
      · have c0 : decide ((i : Int) < 64) = false := decide_eq_false (by omega)
        go_wp2
        go_ret
        exact ⟨by have e : decide (Dense l) = true := decide_eq_true (fun j hj => hd.out j (by omega)); rw [e]; rfl, by repeat (first | (with_reducible first | exact HB.out | apply below_alloc | apply pw_below_drewN | apply below_drew1) | exact HB.out)⟩
set_option maxRecDepth 100000 in
set_option maxHeartbeats 8000000 in
theorem inv_calls (l : List Int) (hl : l.length = 64) (hw : ∀ i : Nat, i < 64 → -32768 ≤ l.getD i 0 ∧ l.getD i 0 ≤ 32767) (w : World) :
    Calls Try.prog 17 #[.agg (enc16 l)] w fun e w' => e = .returned (.bool (decide (Dense l))) ∧ Below w.heap.size w w' := by
  have HB := Aside0.mk (Below.refl w.heap.size w)
  go_enter Try.func17, Try.ntmps17
  go_wp2_with (first | ((with_reducible refine gate_dst (N := 3) rfl ?_); refine wpList_load_row rfl 33 (.tmp 1) rfl w.heap.size rfl 33 (enc16 l) (0, 0) _ (heap_alloc_new _ _) Try.underlying33 rfl (by rw [enc_size, hl]; exact szC) ?_) | (go_at_call 36; (refine (are_calls l hl hw _).mono ?_); rintro e w' ⟨rfl, hb⟩; have n0_ := Aside0.mk (below_step (by repeat (first | (with_reducible first | exact HB.out | apply below_alloc | apply pw_below_drewN | apply below_drew1) | exact HB.out)) hb); clear HB; have HB := n0_; clear n0_ hb))
  go_ret
  exact ⟨rfl, by repeat (first | (with_reducible first | exact HB.out | apply below_alloc | apply pw_below_drewN | apply below_drew1) | exact HB.out)⟩
theorem heap3 (w : World) (A B C : Obj) : (((w.alloc A).alloc B).alloc C).heap[w.heap.size]? = some A ∧ (((w.alloc A).alloc B).alloc C).heap[w.heap.size + 1]? = some B ∧ (((w.alloc A).alloc B).alloc C).heap[w.heap.size + 1 + 1]? = some C := by
  have e : ((w.alloc A).alloc B).heap.size = w.heap.size + 1 + 1 := by
    show ((w.heap.push A).push B).size = _
    simp
  refine ⟨?_, ?_, ?_⟩
  · exact (_root_.Go.heap_alloc_old ((w.alloc A).alloc B) C (by rw [e]; omega)).trans (heap_alloc2_old w A B)
  · exact (_root_.Go.heap_alloc_old ((w.alloc A).alloc B) C (by rw [e]; omega)).trans (heap_alloc2_new w A B)
  · have h := heap_alloc_new ((w.alloc A).alloc B) C
    rwa [e] at h
theorem below_setRow {B : Nat} {a w : World} (h : Below B a w) {g : Nat} (hg : B ≤ g) (cs : Array Value) : Below B a (w.setRow g cs) :=
  ⟨h.os, h.tape, h.output, by rw [size_setRow]; exact h.size, fun k hk => (setRow_other w g k cs (by omega)).trans (h.block k hk)⟩
def mid (l : List Int) (i : Nat) : List Int := l.take i ++ List.replicate (64 - i) 0
theorem mid_len (l : List Int) (hl : l.length = 64) (i : Nat) (hi : i ≤ 64) : (mid l i).length = 64 := by
  simp [mid, hl]; omega
theorem mid_set (l : List Int) (hl : l.length = 64) (i : Nat) (hi : i < 64) : (enc16 (mid l i)).setIfInBounds i (.int .i16 (l.getD i 0)) = enc16 (mid l (i + 1)) := by
  apply Array.ext
  · simp [enc16, mid_len l hl i (by omega), mid_len l hl (i + 1) (by omega)]
  · intro j h1 h2
    simp only [enc16, List.size_toArray, List.length_map, Array.size_setIfInBounds, mid_len l hl i (by omega)] at h1
    rw [Array.getElem_setIfInBounds (by rw [enc_size, mid_len l hl i (by omega)]; exact h1)]
    simp only [enc16, List.getElem_toArray, List.getElem_map]
    by_cases e : i = j
    · subst e
      simp only [if_true, mid]
      rw [List.getElem_append_left (by simp [hl]; omega)]
      simp [List.getD_eq_getElem?_getD, hl, h1]
    · rw [if_neg e]
      simp only [mid]
      by_cases g : j < i
      · rw [List.getElem_append_left (by simp [hl]; omega), List.getElem_append_left (by simp [hl]; omega)]
        simp
      · rw [List.getElem_append_right (by simp [hl]; omega), List.getElem_append_right (by simp [hl]; omega)]
        simp
set_option maxRecDepth 100000 in
set_option maxHeartbeats 8000000 in
theorem to_calls (l : List Int) (hl : l.length = 64) (hw : ∀ i : Nat, i < 64 → -32768 ≤ l.getD i 0 ∧ l.getD i 0 ≤ 32767) (w : World) :
    Calls Try.prog 16 #[.agg (enc16 l)] w fun e w' => e = .returned (.agg (enc16 l)) ∧ Below w.heap.size w w' := by
  have HB := Aside0.mk (Below.refl w.heap.size w)
  go_enter Try.func16, Try.ntmps16
  go_wp2
  go_loopg [4] 65 (fun kq v4 w' => ∃ i : Nat, v4 = .int .i64 (i : Int) ∧ i ≤ 64 ∧ kq + i = 65 ∧ Aside0 (w'.heap[w.heap.size]? = some (.cells (enc16 l) 27 (0, 0))) ∧ Aside0 (∃ Z, Z.size = 64 ∧ w'.heap[w.heap.size + 1]? = some (.cells Z 33 (0, 0))) ∧ Aside0 (w'.heap[w.heap.size + 1 + 1]? = some (.cells (enc16 (mid l i)) 33 (0, 0))) ∧ Aside0 (Below w.heap.size w w'))
  case atStart => exact ⟨0, rfl, by omega, by omega, ⟨(heap3 _ _ _ _).1⟩, ⟨_, rfl, (heap3 _ _ _ _).2.1⟩, ⟨(heap3 _ _ _ _).2.2⟩, ⟨by repeat (first | (with_reducible first | exact HB.out | apply below_alloc | apply pw_below_drewN | apply below_drew1) | exact HB.out)⟩⟩
  case round =>
    obtain ⟨i, rfl, hi, hk, h1, h2, h3, HB⟩ := hrel
    cases gk with
    | zero => omega
    | succ k1 =>
      by_cases c : i < 64
      · have c0 : decide ((i : Int) < 64) = true := decide_eq_true (by omega)
        obtain ⟨x, hx⟩ : ∃ x, l.getD i 0 = x := ⟨_, rfl⟩
        have x1 : wr.cell? ⟨w.heap.size, i, none⟩ = some (.int .i16 x) := hx ▸ (cell_of_row wr _ i _ _ _ h1.out).trans (enc_get l i (by omega))
        have x3 := (cell_of_row wr _ i _ _ _ h3.out).trans (enc_get (mid l i) i (by rw [mid_len l hl i hi]; omega))
        have f3 := frozen_of_row wr _ i _ _ h3.out
        have H1 : Aside0 ((wr.setCell ⟨w.heap.size + 1 + 1, i, none⟩ (.int .i16 x)).heap[w.heap.size]? = some (.cells (enc16 l) 27 (0, 0))) := ⟨(heap_setCell_other wr ⟨w.heap.size + 1 + 1, i, none⟩ w.heap.size (.int .i16 x) (by show w.heap.size ≠ w.heap.size + 1 + 1; omega)).trans h1.out⟩
        have H2 : Aside0 (∃ Z, Z.size = 64 ∧ (wr.setCell ⟨w.heap.size + 1 + 1, i, none⟩ (.int .i16 x)).heap[w.heap.size + 1]? = some (.cells Z 33 (0, 0))) := by
          obtain ⟨Z, z1, z2⟩ := h2.out
          exact ⟨Z, z1, (heap_setCell_other wr ⟨w.heap.size + 1 + 1, i, none⟩ (w.heap.size + 1) (.int .i16 x) (by show w.heap.size + 1 ≠ w.heap.size + 1 + 1; omega)).trans z2⟩
        have H3 : Aside0 ((wr.setCell ⟨w.heap.size + 1 + 1, i, none⟩ (.int .i16 x)).heap[w.heap.size + 1 + 1]? = some (.cells (enc16 (mid l (i + 1))) 33 (0, 0))) := by
          have h := heap_setCell_same wr (w.heap.size + 1 + 1) i _ _ (.int .i16 x) h3.out
          rw [← hx, mid_set l hl i c, hx] at h
          exact ⟨h⟩
        have H4 : Aside0 (Below w.heap.size w (wr.setCell ⟨w.heap.size + 1 + 1, i, none⟩ (.int .i16 x))) := ⟨Below.setCell HB.out (by show w.heap.size ≤ w.heap.size + 1 + 1; omega) _⟩
        clear h1 h2 h3 HB
        go_wp2
        go_roundg k1
        case measure => omega
        case rel => exact ⟨i + 1, by simp, by omega, by omega, H1, H2, H3, H4⟩
      · have c0 : decide ((i : Int) < 64) = false := decide_eq_false (by omega)
        have e : mid l i = l := by
          have : i = 64 := by omega
          subst this
          simp [mid, ← hl]
        rw [e] at h3
        obtain ⟨Z, z1, z2⟩ := h2.out
        go_wp2_with (first | ((with_reducible refine gate_dst (N := 14) rfl ?_); refine wpList_load_row rfl 33 (.tmp 3) rfl (w.heap.size + 1 + 1) rfl 33 (enc16 l) (0, 0) _ h3.out Try.underlying33 rfl (by rw [enc_size, hl]; exact szC) ?_) | (refine wpList_store_row rfl 33 (.tmp 2) (.tmp 14) rfl (w.heap.size + 1) (enc16 l) rfl rfl 33 Z z2 (by rw [enc_size, hl]; exact szC) (by rw [enc_size, hl]; exact z1) (enc_one l) ?_))
        refine bodyPost_ret (v := .agg (enc16 l)) (results_cell_row rfl _ _ (w.heap.size + 1) 33 (enc16 l) (0, 0) _ rfl (setRow_heap wr (w.heap.size + 1) Z (enc16 l) 33 (0, 0) z2) Try.underlying33 rfl (by rw [enc_size, hl]; exact szC)) rfl ?_
        exact ⟨rfl, below_setRow HB.out (by omega) _⟩
theorem lt_of_obj {w : World} {k : Nat} {o : Obj} (h : w.heap[k]? = some o) : k < w.heap.size := (Array.getElem?_eq_some_iff.1 h).1
theorem sdens (x : Int) : spec_l02Density.f x = some (decide (0 ≤ x ∧ x ≤ 400)) := by
  unfold spec_l02Density.f spec_l00In.f
  by_cases a : x ≥ 0
  · rw [if_pos a]
    have : 0 ≤ x := a
    simp [this]
  · rw [if_neg a]
    have : ¬ 0 ≤ x := a
    simp [this]
set_option maxRecDepth 100000 in
set_option maxHeartbeats 8000000 in
theorem dense_calls (l : List Int) (hl : l.length = 64) (hw : ∀ i : Nat, i < 64 → -32768 ≤ l.getD i 0 ∧ l.getD i 0 ≤ 32767) (B T : Nat) (w : World) (hB : w.heap[B]? = some (.cells (enc16 l) T (0, 0))) :
    Calls Try.prog 46 #[.pointer (some ⟨B, 0, none⟩)] w fun e w' => e = .returned (.bool (decide (Dense l))) ∧ Below w.heap.size w w' := by
  have HB := Aside0.mk (Below.refl w.heap.size w)
  have hB' := Aside0.mk hB
  clear hB
  go_enter Try.func46, Try.ntmps46
  go_wp2
  go_loopg [3] 65 (fun kq v3 w' => ∃ i : Nat, v3 = .int .i64 (i : Int) ∧ i ≤ 64 ∧ kq + i = 65 ∧ Aside0 (∀ j : Nat, j < i → 0 ≤ l.getD j 0 ∧ l.getD j 0 ≤ 400) ∧ Aside0 (Below w.heap.size w w'))
  case atStart => exact ⟨0, rfl, by omega, by omega, ⟨fun j hj => by omega⟩, ⟨by repeat (first | (with_reducible first | exact HB.out | apply below_alloc | apply pw_below_drewN | apply below_drew1) | exact HB.out)⟩⟩
  case round =>
    obtain ⟨i, rfl, hi, hk, hd, HB⟩ := hrel
    cases gk with
    | zero => omega
    | succ k1 =>
      by_cases c : i < 64
      · have c0 : decide ((i : Int) < 64) = true := decide_eq_true (by omega)
        obtain ⟨x, hx⟩ : ∃ x, l.getD i 0 = x := ⟨_, rfl⟩
        have hb := hw i c
        rw [hx] at hb
        have x1 : wr.cell? ⟨B, i, none⟩ = some (.int .i16 x) := hx ▸ (cell_of_row wr _ i _ _ _ ((HB.out.block B (lt_of_obj hB'.out)).trans hB'.out)).trans (enc_get l i (by omega))
        by_cases p : 0 ≤ x ∧ x ≤ 400
        · have q : spec_l02Density.f x = some true := by rw [sdens]; simp [p]
          go_wp2_with (first | (go_at_call 49; (refine (spec_l02Density.calls x true _ q).mono ?_); rintro e w' ⟨rfl, ⟨nd, rfl⟩⟩))
          go_roundg k1
          case measure => omega
          case rel => exact ⟨i + 1, by simp, by omega, by omega, ⟨fun j hj => by
            by_cases e : j = i
            · rw [e, hx]; exact p
            · exact hd.out j (by omega)⟩, ⟨by repeat (first | (with_reducible first | exact HB.out | apply below_alloc | apply pw_below_drewN | apply below_drew1) | exact HB.out)⟩⟩
        · have q : spec_l02Density.f x = some false := by rw [sdens]; simp [p]
          go_wp2_with (first | (go_at_call 49; (refine (spec_l02Density.calls x false _ q).mono ?_); rintro e w' ⟨rfl, ⟨nd, rfl⟩⟩))
          go_ret
          exact ⟨by have e : decide (Dense l) = false := decide_eq_false (fun h => p (by have := h i c; rw [hx] at this; exact this)); rw [e]; rfl, by repeat (first | (with_reducible first | exact HB.out | apply below_alloc | apply pw_below_drewN | apply below_drew1) | exact HB.out)⟩
      · have c0 : decide ((i : Int) < 64) = false := decide_eq_false (by omega)
        go_wp2
        go_ret
        exact ⟨by have e : decide (Dense l) = true := decide_eq_true (fun j hj => hd.out j (by omega)); rw [e]; rfl, by repeat (first | (with_reducible first | exact HB.out | apply below_alloc | apply pw_below_drewN | apply below_drew1) | exact HB.out)⟩
set_option maxRecDepth 100000 in
set_option maxHeartbeats 8000000 in
theorem l03_calls (l : List Int) (hl : l.length = 64) (hw : ∀ i : Nat, i < 64 → -32768 ≤ l.getD i 0 ∧ l.getD i 0 ≤ 32767) (B : Nat) (w : World) (hB : w.heap[B]? = some (.cells (enc16 l) 33 (0, 0))) :
    Calls Try.prog 37 #[.pointer (some ⟨B, 0, none⟩)] w fun e w' => e = .returned (.bool (decide (Dense l))) ∧ Below w.heap.size w w' := by
  have HB := Aside0.mk (Below.refl w.heap.size w)
  have hB' := Aside0.mk hB
  clear hB
  go_enter Try.func37, Try.ntmps37
  go_wp2_with (first | ((with_reducible refine gate_dst (N := 6) rfl ?_); refine wpList_load_row rfl 33 (.tmp 5) rfl B rfl 33 (enc16 l) (0, 0) _ hB'.out Try.underlying33 rfl (by rw [enc_size, hl]; exact szC) ?_) | (refine wpList_store_row rfl 27 (.tmp 3) (.tmp 6) rfl w.heap.size (enc16 l) rfl rfl 27 _ (heap_alloc_new _ _) (by rw [enc_size, hl]; exact szA) (by rw [enc_size, hl]; rfl) (enc_one l) ?_) | (go_at_call 46; (refine (dense_calls l hl hw w.heap.size 27 _ (setRow_heap _ _ _ _ _ _ (heap_alloc_new _ _))).mono ?_); rintro e w' ⟨rfl, hb⟩; have n0_ := Aside0.mk (below_step (below_setRow (by repeat (first | (with_reducible first | exact HB.out | apply below_alloc | apply pw_below_drewN | apply below_drew1) | exact HB.out)) (Nat.le_refl _) _) hb); clear HB; have HB := n0_; clear n0_ hb))
  go_ret
  exact ⟨rfl, by repeat (first | (with_reducible first | exact HB.out | apply below_alloc | apply pw_below_drewN | apply below_drew1) | exact HB.out)⟩
def dD (a b : List Int) (j : Nat) : Int := b.getD j 0 - a.getD j 0
def sz (x : Int) : Int := if x < 0 then -x else x
def bst (a b : List Int) : Nat → Nat
  | 0 => 0
  | i + 1 => if sz (dD a b i) > sz (dD a b (bst a b i)) then i else bst a b i
def gd (a b : List Int) : Int × Int × Int := if Dense a ∧ Dense b then ((bst a b 64 : Nat), dD a b (bst a b 64), 0) else (0, 0, 1)
theorem bst_lt (a b : List Int) (i : Nat) (hi : i ≤ 64) : bst a b i < 64 := by
  induction i with
  | zero => show 0 < 64; omega
  | succ i ih =>
    have := ih (by omega)
    unfold bst
    split
    · omega
    · omega
theorem bst_succ (a b : List Int) (i : Nat) : bst a b (i + 1) = if sz (dD a b i) > sz (dD a b (bst a b i)) then i else bst a b i := rfl
theorem bst_t (a b : List Int) (i : Nat) (h : sz (dD a b i) > sz (dD a b (bst a b i))) : bst a b (i + 1) = i := by rw [bst_succ, if_pos h]
theorem bst_f (a b : List Int) (i : Nat) (h : ¬ sz (dD a b i) > sz (dD a b (bst a b i))) : bst a b (i + 1) = bst a b i := by rw [bst_succ, if_neg h]
theorem bst_one (a b : List Int) : bst a b 1 = 0 := by
  unfold bst
  split <;> rfl
theorem ww {x : Int} (h : -9223372036854775808 ≤ x) (h' : x ≤ 9223372036854775807) : wrap64 x = x := by unfold wrap64; omega
theorem off_f (p q : Int) (hp : -32768 ≤ p ∧ p ≤ 32767) (hq : -32768 ≤ q ∧ q ≤ 32767) : spec_l03Off.f p q = some (sz (q - p)) := by
  unfold spec_l03Off.f spec_l01Size.f sz
  rw [ww (x := p) (by omega) (by omega), ww (x := q) (by omega) (by omega), ww (x := q - p) (by omega) (by omega)]
  by_cases c : q - p < 0
  · rw [if_pos c, if_pos c, ww (by omega) (by omega)]; rfl
  · rw [if_neg c, if_neg c]; rfl
theorem size_f (x : Int) (hx : -65536 ≤ x ∧ x ≤ 65536) : impl_size.f x = some (sz x) := by
  unfold impl_size.f sz mx
  rw [ww (x := -x) (by omega) (by omega)]
  by_cases c : x < 0
  · rw [if_pos c, if_pos (by omega)]
  · rw [if_neg c]
    by_cases d : x < -x
    · omega
    · rw [if_neg d]
def mo (a b : List Int) (i : Nat) : Int := if i = 0 then 0 else dD a b (bst a b i)
theorem sz_nn (x : Int) : 0 ≤ sz x := by unfold sz; split <;> omega
theorem sz_zero {x : Int} (h : ¬ sz x > 0) : x = 0 := by
  unfold sz at h
  by_cases c : x < 0
  · rw [if_pos c] at h; omega
  · rw [if_neg c] at h; omega
theorem m_t (a b : List Int) (i : Nat) (h : sz (dD a b i) > sz (mo a b i)) : bst a b (i + 1) = i ∧ mo a b (i + 1) = dD a b i := by
  have e : bst a b (i + 1) = i := by
    by_cases z : i = 0
    · subst z; exact bst_one a b
    · apply bst_t
      unfold mo at h
      rwa [if_neg z] at h
  refine ⟨e, ?_⟩
  unfold mo
  rw [if_neg (by omega), e]
theorem m_f (a b : List Int) (i : Nat) (h : ¬ sz (dD a b i) > sz (mo a b i)) : bst a b (i + 1) = bst a b i ∧ mo a b (i + 1) = mo a b i := by
  by_cases z : i = 0
  · subst z
    refine ⟨bst_one a b, ?_⟩
    have h2 : ¬ sz (dD a b 0) > 0 := h
    have e := sz_zero h2
    show dD a b (bst a b 1) = 0
    rw [bst_one]
    exact e
  · have e : bst a b (i + 1) = bst a b i := by
      apply bst_f
      unfold mo at h
      rwa [if_neg z] at h
    refine ⟨e, ?_⟩
    unfold mo
    rw [if_neg (by omega), if_neg z, e]
theorem mo_bd (a b : List Int) (wa : ∀ i : Nat, i < 64 → -32768 ≤ a.getD i 0 ∧ a.getD i 0 ≤ 32767) (wb : ∀ i : Nat, i < 64 → -32768 ≤ b.getD i 0 ∧ b.getD i 0 ≤ 32767) (i : Nat) (hi : i ≤ 64) : -65536 ≤ mo a b i ∧ mo a b i ≤ 65536 := by
  have l := bst_lt a b i hi
  have x := wa _ l
  have y := wb _ l
  unfold mo dD
  split
  · omega
  · omega
set_option maxRecDepth 100000 in
set_option maxHeartbeats 8000000 in
theorem spec_diff (a b : List Int) (ha : a.length = 64) (hb : b.length = 64) (wa : ∀ i : Nat, i < 64 → -32768 ≤ a.getD i 0 ∧ a.getD i 0 ≤ 32767) (wb : ∀ i : Nat, i < 64 → -32768 ≤ b.getD i 0 ∧ b.getD i 0 ≤ 32767) (w : World) :
    Calls Try.prog 29 #[.agg (enc16 a), .agg (enc16 b)] w fun e w' => e = .returned (.tuple #[.int .i64 (gd a b).1, .int .i64 (gd a b).2.1, .int .i64 (gd a b).2.2]) ∧ Below w.heap.size w w' := by
  have HB := Aside0.mk (Below.refl w.heap.size w)
  have HA := Aside0.mk (heap_alloc2_old w (Obj.cells (enc16 a) 33) (Obj.cells (enc16 b) 33))
  have HC := Aside0.mk (heap_alloc2_new w (Obj.cells (enc16 a) 33) (Obj.cells (enc16 b) 33))
  by_cases da : Dense a
  · have LA : ∀ B w, w.heap[B]? = some (.cells (enc16 a) 33 (0, 0)) → Calls Try.prog 37 #[.pointer (some ⟨B, 0, none⟩)] w fun e w' => e = .returned (.bool true) ∧ Below w.heap.size w w' := fun B w h => by
      have := l03_calls a ha wa B w h
      rwa [decide_eq_true da] at this
    by_cases db : Dense b
    · have LB : ∀ B w, w.heap[B]? = some (.cells (enc16 b) 33 (0, 0)) → Calls Try.prog 37 #[.pointer (some ⟨B, 0, none⟩)] w fun e w' => e = .returned (.bool true) ∧ Below w.heap.size w w' := fun B w h => by
        have := l03_calls b hb wb B w h
        rwa [decide_eq_true db] at this
      go_enter Try.func29, Try.ntmps29
      go_wp2_with (first | (go_at_call 37; (refine (LA _ _ HA.out).mono ?_); rintro e w' ⟨rfl, hq⟩; have n1_ := Aside0.mk ((hq.block _ (lt_of_obj HA.out)).trans HA.out); have n2_ := Aside0.mk ((hq.block _ (lt_of_obj HC.out)).trans HC.out); have n0_ := Aside0.mk (below_step (by repeat (first | (with_reducible first | exact HB.out | apply below_alloc | apply pw_below_drewN | apply below_drew1) | exact HB.out)) hq); clear HB HA HC; have HB := n0_; have HA := n1_; have HC := n2_; clear n0_ n1_ n2_ hq) | (go_at_call 37; (refine (LB _ _ HC.out).mono ?_); rintro e w' ⟨rfl, hq⟩; have n1_ := Aside0.mk ((hq.block _ (lt_of_obj HA.out)).trans HA.out); have n2_ := Aside0.mk ((hq.block _ (lt_of_obj HC.out)).trans HC.out); have n0_ := Aside0.mk (below_step (by repeat (first | (with_reducible first | exact HB.out | apply below_alloc | apply pw_below_drewN | apply below_drew1) | exact HB.out)) hq); clear HB HA HC; have HB := n0_; have HA := n1_; have HC := n2_; clear n0_ n1_ n2_ hq))
      go_loopg [7, 8] 64 (fun kq v7 v8 w' => ∃ i : Nat, v8 = .int .i64 (i : Int) ∧ v7 = .int .i64 ((bst a b i : Nat) : Int) ∧ 1 ≤ i ∧ i ≤ 64 ∧ kq + i = 65 ∧ Aside0 (w'.heap[w.heap.size]? = some (.cells (enc16 a) 33 (0, 0))) ∧ Aside0 (w'.heap[w.heap.size + 1]? = some (.cells (enc16 b) 33 (0, 0))) ∧ Aside0 (Below w.heap.size w w'))
      case atStart => exact ⟨1, rfl, by rw [bst_one]; rfl, by omega, by omega, by omega, HA, HC, HB⟩
      case round =>
        obtain ⟨i, rfl, rfl, hi1, hi, hk, HA, HC, HB⟩ := hrel
        by_cases c : i < 64
        · have c0 : decide ((i : Int) < 64) = true := decide_eq_true (by omega)
          obtain ⟨k1, rfl⟩ : ∃ k1, gk = k1 + 1 := ⟨gk - 1, by omega⟩
          have hj : bst a b i < 64 := bst_lt a b i (by omega)
          obtain ⟨j, ej⟩ : ∃ j, bst a b i = j := ⟨_, rfl⟩
          rw [ej] at hj ⊢
          have b1 := wa i c
          have b2 := wb i c
          have b3 := wa j hj
          have b4 := wb j hj
          have x1 := (cell_of_row wr _ i _ _ _ HA.out).trans (enc_get a i (by omega))
          have x2 := (cell_of_row wr _ i _ _ _ HC.out).trans (enc_get b i (by omega))
          have x3 := (cell_of_row wr _ j _ _ _ HA.out).trans (enc_get a j (by omega))
          have x4 := (cell_of_row wr _ j _ _ _ HC.out).trans (enc_get b j (by omega))
          obtain ⟨p, hp⟩ : ∃ p, a.getD i 0 = p := ⟨_, rfl⟩
          obtain ⟨q, hq⟩ : ∃ q, b.getD i 0 = q := ⟨_, rfl⟩
          obtain ⟨r, hr⟩ : ∃ r, a.getD j 0 = r := ⟨_, rfl⟩
          obtain ⟨s, hs⟩ : ∃ s, b.getD j 0 = s := ⟨_, rfl⟩
          rw [hp] at b1 x1
          rw [hq] at b2 x2
          rw [hr] at b3 x3
          rw [hs] at b4 x4
          have q1 := off_f p q b1 b2
          have q2 := off_f r s b3 b4
          by_cases g : sz (q - p) > sz (s - r)
          · have es := bst_t a b i (by rw [ej]; show sz (b.getD i 0 - a.getD i 0) > sz (b.getD j 0 - a.getD j 0); rw [hp, hq, hr, hs]; exact g)
            have g0 : decide (sz (q - p) > sz (s - r)) = true := decide_eq_true g
            have g1 : decide (sz (s - r) < sz (q - p)) = true := decide_eq_true g
            clear LA LB da db wa wb ha hb
            go_wp2
            go_quiet (first | (go_at_call 43; (refine (spec_l03Off.calls p q _ _ q1).mono ?_); rintro e w' ⟨rfl, ⟨nd, rfl⟩⟩; (try first | exact ⟨rfl, _, World.drewN_drewN _ _ _⟩ | exact ⟨rfl, _, Eq.trans (World.drewN_drewN _ _ _) (congrArg (World.drewN _) (Nat.add_assoc _ _ _))⟩)) | (go_at_call 43; (refine (spec_l03Off.calls r s _ _ q2).mono ?_); rintro e w' ⟨rfl, ⟨nd, rfl⟩⟩; (try first | exact ⟨rfl, _, World.drewN_drewN _ _ _⟩ | exact ⟨rfl, _, Eq.trans (World.drewN_drewN _ _ _) (congrArg (World.drewN _) (Nat.add_assoc _ _ _))⟩)))
            go_wp2
            go_roundg k1
            case measure => omega
            case rel => exact ⟨i + 1, by simp, by rw [es], by omega, by omega, by omega, ⟨HA.out⟩, ⟨HC.out⟩, ⟨by repeat (first | (with_reducible first | exact HB.out | apply below_alloc | apply pw_below_drewN | apply below_drew1) | exact HB.out)⟩⟩
          · have es := bst_f a b i (by rw [ej]; show ¬ sz (b.getD i 0 - a.getD i 0) > sz (b.getD j 0 - a.getD j 0); rw [hp, hq, hr, hs]; exact g)
            rw [ej] at es
            have g0 : decide (sz (q - p) > sz (s - r)) = false := decide_eq_false g
            have g1 : decide (sz (s - r) < sz (q - p)) = false := decide_eq_false g
            clear LA LB da db wa wb ha hb
            go_wp2
            go_quiet (first | (go_at_call 43; (refine (spec_l03Off.calls p q _ _ q1).mono ?_); rintro e w' ⟨rfl, ⟨nd, rfl⟩⟩; (try first | exact ⟨rfl, _, World.drewN_drewN _ _ _⟩ | exact ⟨rfl, _, Eq.trans (World.drewN_drewN _ _ _) (congrArg (World.drewN _) (Nat.add_assoc _ _ _))⟩)) | (go_at_call 43; (refine (spec_l03Off.calls r s _ _ q2).mono ?_); rintro e w' ⟨rfl, ⟨nd, rfl⟩⟩; (try first | exact ⟨rfl, _, World.drewN_drewN _ _ _⟩ | exact ⟨rfl, _, Eq.trans (World.drewN_drewN _ _ _) (congrArg (World.drewN _) (Nat.add_assoc _ _ _))⟩)))
            go_wp2
            go_roundg k1
            case measure => omega
            case rel => exact ⟨i + 1, by simp, by rw [es], by omega, by omega, by omega, ⟨HA.out⟩, ⟨HC.out⟩, ⟨by repeat (first | (with_reducible first | exact HB.out | apply below_alloc | apply pw_below_drewN | apply below_drew1) | exact HB.out)⟩⟩
        · have c0 : decide ((i : Int) < 64) = false := decide_eq_false (by omega)
          obtain rfl : i = 64 := by omega
          have hj : bst a b 64 < 64 := bst_lt a b 64 (by omega)
          obtain ⟨j, ej⟩ : ∃ j, bst a b 64 = j := ⟨_, rfl⟩
          rw [ej] at hj ⊢
          have b3 := wa j hj
          have b4 := wb j hj
          have x3 := (cell_of_row wr _ j _ _ _ HA.out).trans (enc_get a j (by omega))
          have x4 := (cell_of_row wr _ j _ _ _ HC.out).trans (enc_get b j (by omega))
          obtain ⟨r, hr⟩ : ∃ r, a.getD j 0 = r := ⟨_, rfl⟩
          obtain ⟨s, hs⟩ : ∃ s, b.getD j 0 = s := ⟨_, rfl⟩
          rw [hr] at b3 x3
          rw [hs] at b4 x4
          have eg : gd a b = ((j : Int), s - r, 0) := by
            unfold gd
            rw [if_pos ⟨da, db⟩, ej]
            show ((j : Int), b.getD j 0 - a.getD j 0, (0 : Int)) = _
            rw [hr, hs]
          clear LA LB da db wa wb ha hb
          go_wp2
          go_quiet (fail)
          go_wp2
          go_ret3
          exact ⟨by rw [eg]; rfl, by repeat (first | (with_reducible first | exact HB.out | apply below_alloc | apply pw_below_drewN | apply below_drew1) | exact HB.out)⟩
    · have LB : ∀ B w, w.heap[B]? = some (.cells (enc16 b) 33 (0, 0)) → Calls Try.prog 37 #[.pointer (some ⟨B, 0, none⟩)] w fun e w' => e = .returned (.bool false) ∧ Below w.heap.size w w' := fun B w h => by
        have := l03_calls b hb wb B w h
        rwa [decide_eq_false db] at this
      have ND : ¬ (Dense a ∧ Dense b) := fun h => db h.2
      go_enter Try.func29, Try.ntmps29
      go_wp2_with (first | (go_at_call 37; (refine (LA _ _ HA.out).mono ?_); rintro e w' ⟨rfl, hq⟩; have n1_ := Aside0.mk ((hq.block _ (lt_of_obj HA.out)).trans HA.out); have n2_ := Aside0.mk ((hq.block _ (lt_of_obj HC.out)).trans HC.out); have n0_ := Aside0.mk (below_step (by repeat (first | (with_reducible first | exact HB.out | apply below_alloc | apply pw_below_drewN | apply below_drew1) | exact HB.out)) hq); clear HB HA HC; have HB := n0_; have HA := n1_; have HC := n2_; clear n0_ n1_ n2_ hq) | (go_at_call 37; (refine (LB _ _ HC.out).mono ?_); rintro e w' ⟨rfl, hq⟩; have n1_ := Aside0.mk ((hq.block _ (lt_of_obj HA.out)).trans HA.out); have n2_ := Aside0.mk ((hq.block _ (lt_of_obj HC.out)).trans HC.out); have n0_ := Aside0.mk (below_step (by repeat (first | (with_reducible first | exact HB.out | apply below_alloc | apply pw_below_drewN | apply below_drew1) | exact HB.out)) hq); clear HB HA HC; have HB := n0_; have HA := n1_; have HC := n2_; clear n0_ n1_ n2_ hq))
      go_ret3
      exact ⟨by simp [gd, ND], by repeat (first | (with_reducible first | exact HB.out | apply below_alloc | apply pw_below_drewN | apply below_drew1) | exact HB.out)⟩
  · have LA : ∀ B w, w.heap[B]? = some (.cells (enc16 a) 33 (0, 0)) → Calls Try.prog 37 #[.pointer (some ⟨B, 0, none⟩)] w fun e w' => e = .returned (.bool false) ∧ Below w.heap.size w w' := fun B w h => by
      have := l03_calls a ha wa B w h
      rwa [decide_eq_false da] at this
    have ND : ¬ (Dense a ∧ Dense b) := fun h => da h.1
    go_enter Try.func29, Try.ntmps29
    go_wp2_with (first | (go_at_call 37; (refine (LA _ _ HA.out).mono ?_); rintro e w' ⟨rfl, hq⟩; have n1_ := Aside0.mk ((hq.block _ (lt_of_obj HA.out)).trans HA.out); have n2_ := Aside0.mk ((hq.block _ (lt_of_obj HC.out)).trans HC.out); have n0_ := Aside0.mk (below_step (by repeat (first | (with_reducible first | exact HB.out | apply below_alloc | apply pw_below_drewN | apply below_drew1) | exact HB.out)) hq); clear HB HA HC; have HB := n0_; have HA := n1_; have HC := n2_; clear n0_ n1_ n2_ hq))
    go_ret3
    exact ⟨by simp [gd, ND], by repeat (first | (with_reducible first | exact HB.out | apply below_alloc | apply pw_below_drewN | apply below_drew1) | exact HB.out)⟩
end Go.Proofs.Ytpdgfmiknegmoaa.PFnExactGreatestDifference
