/- Proves what functions over an array of 64 whole numbers come to, one contract each, by hand. Conditions: each number fits in 16 bits; that array's length is 64. -/
import Derived.Test.YtpdgfmiknegmoaaArrFnExactGreatestDifferenceA
namespace Go.Proofs.Ytpdgfmiknegmoaa.PFnExactGreatestDifference
open Go.RowKit Go.Proofs.YtpdgfmiknegmoaaW.PrintWords Go.Proofs.YtpdgfmiknegmoaaW.PrintLast Go.Proofs.YtpdgfmiknegmoaaW.PrintMore
set_option linter.unusedVariables false
set_option linter.unusedSimpArgs false
set_option maxRecDepth 100000 in
set_option maxHeartbeats 8000000 in
theorem impl_diff (a b : List Int) (ha : a.length = 64) (hb : b.length = 64) (wa : ∀ i : Nat, i < 64 → -32768 ≤ a.getD i 0 ∧ a.getD i 0 ≤ 32767) (wb : ∀ i : Nat, i < 64 → -32768 ≤ b.getD i 0 ∧ b.getD i 0 ≤ 32767) (w : World) :
    Calls Try.prog 30 #[.agg (enc16 a), .agg (enc16 b)] w fun e w' => e = .returned (.tuple #[.int .i64 (gd a b).1, .int .i64 (gd a b).2.1, .int .i64 (gd a b).2.2]) ∧ Below w.heap.size w w' := by
  have HB := Aside0.mk (Below.refl w.heap.size w)
  have HA := Aside0.mk (heap_alloc2_old w (Obj.cells (enc16 a) 33) (Obj.cells (enc16 b) 33))
  have HC := Aside0.mk (heap_alloc2_new w (Obj.cells (enc16 a) 33) (Obj.cells (enc16 b) 33))
  by_cases da : Dense a
  · have LA : ∀ w, Calls Try.prog 17 #[.agg (enc16 a)] w fun e w' => e = .returned (.bool true) ∧ Below w.heap.size w w' := fun w => by
      have := inv_calls a ha wa w
      rwa [decide_eq_true da] at this
    by_cases db : Dense b
    · have LB : ∀ w, Calls Try.prog 17 #[.agg (enc16 b)] w fun e w' => e = .returned (.bool true) ∧ Below w.heap.size w w' := fun w => by
        have := inv_calls b hb wb w
        rwa [decide_eq_true db] at this
      go_enter Try.func30, Try.ntmps30
      go_wp2_with (first | ((with_reducible refine gate_dst (N := 11) rfl ?_); refine wpList_load_row rfl 33 (.tmp 2) rfl w.heap.size rfl 33 (enc16 a) (0, 0) _ HA.out Try.underlying33 rfl (by rw [enc_size, ha]; exact szC) ?_) | ((with_reducible refine gate_dst (N := 15) rfl ?_); refine gate_guard (by rfl) ?_; refine wpList_load_row rfl 33 (.tmp 3) rfl (w.heap.size + 1) rfl 33 (enc16 b) (0, 0) _ HC.out Try.underlying33 rfl (by rw [enc_size, hb]; exact szC) ?_) | (go_at_call 17; (refine (LA _).mono ?_); rintro e w' ⟨rfl, hq⟩; have n1_ := Aside0.mk ((hq.block _ (lt_of_obj HA.out)).trans HA.out); have n2_ := Aside0.mk ((hq.block _ (lt_of_obj HC.out)).trans HC.out); have n0_ := Aside0.mk (below_step (by repeat (first | (with_reducible first | exact HB.out | apply below_alloc | apply pw_below_drewN | apply below_drew1) | exact HB.out)) hq); clear HB HA HC; have HB := n0_; have HA := n1_; have HC := n2_; clear n0_ n1_ n2_ hq) | (go_at_call 17; (refine (LB _).mono ?_); rintro e w' ⟨rfl, hq⟩; have n1_ := Aside0.mk ((hq.block _ (lt_of_obj HA.out)).trans HA.out); have n2_ := Aside0.mk ((hq.block _ (lt_of_obj HC.out)).trans HC.out); have n0_ := Aside0.mk (below_step (by repeat (first | (with_reducible first | exact HB.out | apply below_alloc | apply pw_below_drewN | apply below_drew1) | exact HB.out)) hq); clear HB HA HC; have HB := n0_; have HA := n1_; have HC := n2_; clear n0_ n1_ n2_ hq))
      go_loopg [7, 8, 19] 65 (fun kq v7 v8 v19 w' => ∃ i : Nat, v19 = .int .i64 (i : Int) ∧ v7 = .int .i64 ((bst a b i : Nat) : Int) ∧ v8 = .int .i64 (mo a b i) ∧ i ≤ 64 ∧ kq + i = 65 ∧ Aside0 (w'.heap[w.heap.size]? = some (.cells (enc16 a) 33 (0, 0))) ∧ Aside0 (w'.heap[w.heap.size + 1]? = some (.cells (enc16 b) 33 (0, 0))) ∧ Aside0 (Below w.heap.size w w'))
      case atStart => exact ⟨0, rfl, rfl, rfl, by omega, by omega, HA, HC, HB⟩
      case round =>
        obtain ⟨i, rfl, rfl, rfl, hi, hk, HA, HC, HB⟩ := hrel
        have bm := mo_bd a b wa wb i hi
        obtain ⟨m, em⟩ : ∃ m, mo a b i = m := ⟨_, rfl⟩
        by_cases c : i < 64
        · have c0 : decide ((i : Int) < 64) = true := decide_eq_true (by omega)
          obtain ⟨k1, rfl⟩ : ∃ k1, gk = k1 + 1 := ⟨gk - 1, by omega⟩
          obtain ⟨j, ej⟩ : ∃ j, bst a b i = j := ⟨_, rfl⟩
          have mt := m_t a b i
          have mf := m_f a b i
          rw [em] at bm mt mf ⊢
          rw [ej] at mf ⊢
          have b1 := wa i c
          have b2 := wb i c
          have x1 := (cell_of_row wr _ i _ _ _ HA.out).trans (enc_get a i (by omega))
          have x2 := (cell_of_row wr _ i _ _ _ HC.out).trans (enc_get b i (by omega))
          obtain ⟨p, hp⟩ : ∃ p, a.getD i 0 = p := ⟨_, rfl⟩
          obtain ⟨q, hq⟩ : ∃ q, b.getD i 0 = q := ⟨_, rfl⟩
          have hd : dD a b i = q - p := by rw [← hp, ← hq]; rfl
          rw [hp] at b1 x1
          rw [hq] at b2 x2
          rw [hd] at mt mf
          have q1 := size_f (q - p) (by omega)
          have q2 := size_f m bm
          by_cases g : sz (q - p) > sz m
          · have es := mt g
            have g0 : decide (sz (q - p) > sz m) = true := decide_eq_true g
            have g1 : decide (sz m < sz (q - p)) = true := decide_eq_true g
            clear mt mf
            clear LA LB da db wa wb ha hb
            go_wp2
            go_quiet (fail)
            go_wp2_with (first | (go_at_call 44; (refine (impl_size.calls (q - p) _ _ q1).mono ?_); rintro e w' ⟨rfl, hq⟩; have n1_ := Aside0.mk ((hq.block _ (lt_of_obj HA.out)).trans HA.out); have n2_ := Aside0.mk ((hq.block _ (lt_of_obj HC.out)).trans HC.out); have n0_ := Aside0.mk (below_step (by repeat (first | (with_reducible first | exact HB.out | apply below_alloc | apply pw_below_drewN | apply below_drew1) | exact HB.out)) hq); clear HB HA HC; have HB := n0_; have HA := n1_; have HC := n2_; clear n0_ n1_ n2_ hq) | (go_at_call 44; (refine (impl_size.calls m _ _ q2).mono ?_); rintro e w' ⟨rfl, hq⟩; have n1_ := Aside0.mk ((hq.block _ (lt_of_obj HA.out)).trans HA.out); have n2_ := Aside0.mk ((hq.block _ (lt_of_obj HC.out)).trans HC.out); have n0_ := Aside0.mk (below_step (by repeat (first | (with_reducible first | exact HB.out | apply below_alloc | apply pw_below_drewN | apply below_drew1) | exact HB.out)) hq); clear HB HA HC; have HB := n0_; have HA := n1_; have HC := n2_; clear n0_ n1_ n2_ hq))
            go_roundg k1
            case measure => omega
            case rel => exact ⟨i + 1, by simp, by rw [es.1], by rw [es.2], by omega, by omega, ⟨HA.out⟩, ⟨HC.out⟩, ⟨by repeat (first | (with_reducible first | exact HB.out | apply below_alloc | apply pw_below_drewN | apply below_drew1) | exact HB.out)⟩⟩
          · have es := mf g
            have g0 : decide (sz (q - p) > sz m) = false := decide_eq_false g
            have g1 : decide (sz m < sz (q - p)) = false := decide_eq_false g
            clear mt mf
            clear LA LB da db wa wb ha hb
            go_wp2
            go_quiet (fail)
            go_wp2_with (first | (go_at_call 44; (refine (impl_size.calls (q - p) _ _ q1).mono ?_); rintro e w' ⟨rfl, hq⟩; have n1_ := Aside0.mk ((hq.block _ (lt_of_obj HA.out)).trans HA.out); have n2_ := Aside0.mk ((hq.block _ (lt_of_obj HC.out)).trans HC.out); have n0_ := Aside0.mk (below_step (by repeat (first | (with_reducible first | exact HB.out | apply below_alloc | apply pw_below_drewN | apply below_drew1) | exact HB.out)) hq); clear HB HA HC; have HB := n0_; have HA := n1_; have HC := n2_; clear n0_ n1_ n2_ hq) | (go_at_call 44; (refine (impl_size.calls m _ _ q2).mono ?_); rintro e w' ⟨rfl, hq⟩; have n1_ := Aside0.mk ((hq.block _ (lt_of_obj HA.out)).trans HA.out); have n2_ := Aside0.mk ((hq.block _ (lt_of_obj HC.out)).trans HC.out); have n0_ := Aside0.mk (below_step (by repeat (first | (with_reducible first | exact HB.out | apply below_alloc | apply pw_below_drewN | apply below_drew1) | exact HB.out)) hq); clear HB HA HC; have HB := n0_; have HA := n1_; have HC := n2_; clear n0_ n1_ n2_ hq))
            go_roundg k1
            case measure => omega
            case rel => exact ⟨i + 1, by simp, by rw [es.1], by rw [es.2], by omega, by omega, ⟨HA.out⟩, ⟨HC.out⟩, ⟨by repeat (first | (with_reducible first | exact HB.out | apply below_alloc | apply pw_below_drewN | apply below_drew1) | exact HB.out)⟩⟩
        · have c0 : decide ((i : Int) < 64) = false := decide_eq_false (by omega)
          obtain rfl : i = 64 := by omega
          have eg : gd a b = (((bst a b 64 : Nat) : Int), mo a b 64, 0) := by
            unfold gd
            rw [if_pos ⟨da, db⟩]
            rfl
          clear LA LB da db wa wb ha hb
          go_wp2
          go_ret3
          exact ⟨by rw [eg]; rfl, by repeat (first | (with_reducible first | exact HB.out | apply below_alloc | apply pw_below_drewN | apply below_drew1) | exact HB.out)⟩
    · have LB : ∀ w, Calls Try.prog 17 #[.agg (enc16 b)] w fun e w' => e = .returned (.bool false) ∧ Below w.heap.size w w' := fun w => by
        have := inv_calls b hb wb w
        rwa [decide_eq_false db] at this
      have ND : ¬ (Dense a ∧ Dense b) := fun h => db h.2
      go_enter Try.func30, Try.ntmps30
      go_wp2_with (first | ((with_reducible refine gate_dst (N := 11) rfl ?_); refine wpList_load_row rfl 33 (.tmp 2) rfl w.heap.size rfl 33 (enc16 a) (0, 0) _ HA.out Try.underlying33 rfl (by rw [enc_size, ha]; exact szC) ?_) | ((with_reducible refine gate_dst (N := 15) rfl ?_); refine gate_guard (by rfl) ?_; refine wpList_load_row rfl 33 (.tmp 3) rfl (w.heap.size + 1) rfl 33 (enc16 b) (0, 0) _ HC.out Try.underlying33 rfl (by rw [enc_size, hb]; exact szC) ?_) | (refine wp_load_row 33 (.tmp 3) rfl (w.heap.size + 1) rfl 33 (enc16 b) (0, 0) _ HC.out Try.underlying33 rfl (by rw [enc_size, hb]; exact szC) ?_) | (go_at_call 17; (refine (LA _).mono ?_); rintro e w' ⟨rfl, hq⟩; have n1_ := Aside0.mk ((hq.block _ (lt_of_obj HA.out)).trans HA.out); have n2_ := Aside0.mk ((hq.block _ (lt_of_obj HC.out)).trans HC.out); have n0_ := Aside0.mk (below_step (by repeat (first | (with_reducible first | exact HB.out | apply below_alloc | apply pw_below_drewN | apply below_drew1) | exact HB.out)) hq); clear HB HA HC; have HB := n0_; have HA := n1_; have HC := n2_; clear n0_ n1_ n2_ hq) | (go_at_call 17; (refine (LB _).mono ?_); rintro e w' ⟨rfl, hq⟩; have n1_ := Aside0.mk ((hq.block _ (lt_of_obj HA.out)).trans HA.out); have n2_ := Aside0.mk ((hq.block _ (lt_of_obj HC.out)).trans HC.out); have n0_ := Aside0.mk (below_step (by repeat (first | (with_reducible first | exact HB.out | apply below_alloc | apply pw_below_drewN | apply below_drew1) | exact HB.out)) hq); clear HB HA HC; have HB := n0_; have HA := n1_; have HC := n2_; clear n0_ n1_ n2_ hq))
      go_ret3
      exact ⟨by simp [gd, ND], by repeat (first | (with_reducible first | exact HB.out | apply below_alloc | apply pw_below_drewN | apply below_drew1) | exact HB.out)⟩
  · have LA : ∀ w, Calls Try.prog 17 #[.agg (enc16 a)] w fun e w' => e = .returned (.bool false) ∧ Below w.heap.size w w' := fun w => by
      have := inv_calls a ha wa w
      rwa [decide_eq_false da] at this
    have ND : ¬ (Dense a ∧ Dense b) := fun h => da h.1
    go_enter Try.func30, Try.ntmps30
    go_wp2_with (first | ((with_reducible refine gate_dst (N := 11) rfl ?_); refine wpList_load_row rfl 33 (.tmp 2) rfl w.heap.size rfl 33 (enc16 a) (0, 0) _ HA.out Try.underlying33 rfl (by rw [enc_size, ha]; exact szC) ?_) | (go_at_call 17; (refine (LA _).mono ?_); rintro e w' ⟨rfl, hq⟩; have n1_ := Aside0.mk ((hq.block _ (lt_of_obj HA.out)).trans HA.out); have n2_ := Aside0.mk ((hq.block _ (lt_of_obj HC.out)).trans HC.out); have n0_ := Aside0.mk (below_step (by repeat (first | (with_reducible first | exact HB.out | apply below_alloc | apply pw_below_drewN | apply below_drew1) | exact HB.out)) hq); clear HB HA HC; have HB := n0_; have HA := n1_; have HC := n2_; clear n0_ n1_ n2_ hq))
    go_ret3
    exact ⟨by simp [gd, ND], by repeat (first | (with_reducible first | exact HB.out | apply below_alloc | apply pw_below_drewN | apply below_drew1) | exact HB.out)⟩
set_option maxRecDepth 100000 in
set_option maxHeartbeats 8000000 in
theorem law_calls (a : List Int) (ha : a.length = 64) (wa : ∀ i : Nat, i < 64 → -32768 ≤ a.getD i 0 ∧ a.getD i 0 ≤ 32767) (b : List Int) (hb : b.length = 64) (wb : ∀ i : Nat, i < 64 → -32768 ≤ b.getD i 0 ∧ b.getD i 0 ≤ 32767) (w : World) :
    Calls Try.prog 9 #[.agg (enc16 a), .agg (enc16 b)] w fun e w' => e = .returned (.bool true) ∧ Below w.heap.size w w' := by
  have HB := Aside0.mk (Below.refl w.heap.size w)
  have HA := Aside0.mk (heap_alloc2_old w (Obj.cells (enc16 a) 27) (Obj.cells (enc16 b) 27))
  have HC := Aside0.mk (heap_alloc2_new w (Obj.cells (enc16 a) 27) (Obj.cells (enc16 b) 27))
  generalize hg : gd a b = g
  obtain ⟨g1, g2, g3⟩ := g
  have SD := fun w => spec_diff a b ha hb wa wb w
  have IM := fun w => impl_diff a b ha hb wa wb w
  rw [hg] at SD IM
  clear hg
  go_enter Try.func9, Try.ntmps9
  go_upto_region 1 with (fail)
  go_cut [5, 6, 7] (fun v5 v6 v7 wc => v5 = .int .i64 g1 ∧ v6 = .int .i64 g2 ∧ v7 = .int .i64 g3 ∧ Aside0 (wc.heap[w.heap.size]? = some (.cells (enc16 a) 27 (0, 0))) ∧ Aside0 (wc.heap[w.heap.size + 1]? = some (.cells (enc16 b) 27 (0, 0))) ∧ Aside0 (Below w.heap.size w wc))
  case first =>
    go_wp2
    refine wp_region_any (by kernel_rfl) ?_
    change wpAny _ _ _ _ _ _ _ (World.drew _)
    refine wpAny_ready (rs := [0, 2]) (by kernel_rfl) (by simp) ?_
    refine AllReady.cons rfl (fun K hK => ?_) ?_
    · skip
      rw [if_pos (by rfl)]
      refine wp_load_row 27 (.tmp 2) rfl w.heap.size rfl 27 (enc16 a) (0, 0) _ HA.out Try.underlying27 rfl (by rw [enc_size, ha]; exact szA) ?_
      refine hK _ _ ?_
      clear hK K
      go_simp
      refine wpAny_ready (rs := [1, 2]) (by kernel_rfl) (by simp) ?_
      refine AllReady.cons rfl (fun K hK => ?_) ?_
      · skip
        rw [if_pos (by rfl)]
        go_simp
        go_wp2_with (first | (go_at_call 16; (refine (to_calls a ha wa _).mono ?_); rintro e w' ⟨rfl, hq⟩; have n1_ := Aside0.mk ((hq.block _ (lt_of_obj HA.out)).trans HA.out); have n2_ := Aside0.mk ((hq.block _ (lt_of_obj HC.out)).trans HC.out); have n0_ := Aside0.mk (below_step (by repeat (first | (with_reducible first | exact HB.out | apply below_alloc | apply pw_below_drewN | apply below_drew1) | exact HB.out)) hq); clear HB HA HC; have HB := n0_; have HA := n1_; have HC := n2_; clear n0_ n1_ n2_ hq))
        try (refine hK _ _ ?_; clear hK K)
        refine wpAny_ready (rs := [2]) (by kernel_rfl) (by simp) ?_
        refine AllReady.cons rfl (fun K hK => ?_) ?_
        · skip
          rw [if_pos (by rfl)]
          refine wp_load_row 27 (.tmp 3) rfl (w.heap.size + 1) rfl 27 (enc16 b) (0, 0) _ HC.out Try.underlying27 rfl (by rw [enc_size, hb]; exact szA) ?_
          refine hK _ _ ?_
          clear hK K
          go_simp
          refine wpAny_ready (rs := [3]) (by kernel_rfl) (by simp) ?_
          refine AllReady.cons rfl (fun K hK => ?_) ?_
          · skip
            rw [if_pos (by rfl)]
            go_simp
            go_wp2_with (first | (go_at_call 16; (refine (to_calls b hb wb _).mono ?_); rintro e w' ⟨rfl, hq⟩; have n1_ := Aside0.mk ((hq.block _ (lt_of_obj HA.out)).trans HA.out); have n2_ := Aside0.mk ((hq.block _ (lt_of_obj HC.out)).trans HC.out); have n0_ := Aside0.mk (below_step (by repeat (first | (with_reducible first | exact HB.out | apply below_alloc | apply pw_below_drewN | apply below_drew1) | exact HB.out)) hq); clear HB HA HC; have HB := n0_; have HA := n1_; have HC := n2_; clear n0_ n1_ n2_ hq))
            try (refine hK _ _ ?_; clear hK K)
            refine wpAny_ready (rs := [4]) (by kernel_rfl) (by simp) ?_
            refine AllReady.cons rfl (fun K hK => ?_) ?_
            · skip
              rw [if_pos (by rfl)]
              go_simp
              go_wp2_with (first | (go_at_call 29; (refine (SD _).mono ?_); rintro e w' ⟨rfl, hq⟩; have n1_ := Aside0.mk ((hq.block _ (lt_of_obj HA.out)).trans HA.out); have n2_ := Aside0.mk ((hq.block _ (lt_of_obj HC.out)).trans HC.out); have n0_ := Aside0.mk (below_step (by repeat (first | (with_reducible first | exact HB.out | apply below_alloc | apply pw_below_drewN | apply below_drew1) | exact HB.out)) hq); clear HB HA HC; have HB := n0_; have HA := n1_; have HC := n2_; clear n0_ n1_ n2_ hq))
              try (refine hK _ _ ?_; clear hK K)
              refine wpAny_take (i := 5) (v := ?_) rfl (by kernel_rfl) (by kernel_rfl) (by kernel_rfl) (fun _ _ _ h => h) (Or.inl ⟨by rfl, ?_⟩) ?_
              rotate_left
              · (intro w_; go_simp; try with_reducible rfl)
              refine wpAny_take (i := 6) (v := ?_) rfl (by kernel_rfl) (by kernel_rfl) (by kernel_rfl) (fun _ _ _ h => h) (Or.inl ⟨by rfl, ?_⟩) ?_
              rotate_left
              · (intro w_; go_simp; try with_reducible rfl)
              refine wpAny_take (i := 7) (v := ?_) rfl (by kernel_rfl) (by kernel_rfl) (by kernel_rfl) (fun _ _ _ h => h) (Or.inl ⟨by rfl, ?_⟩) ?_
              rotate_left
              · (intro w_; go_simp; try with_reducible rfl)
              refine wpAny_take (i := 8) (v := ?_) rfl (by kernel_rfl) (by kernel_rfl) (by kernel_rfl) (fun _ _ _ h => h) (Or.inl ⟨by rfl, ?_⟩) ?_
              rotate_left
              · (intro w_; go_simp; try with_reducible rfl)
              refine wpAny_take (i := 9) (v := ?_) rfl (by kernel_rfl) (by kernel_rfl) (by kernel_rfl) (fun _ _ _ h => h) (Or.inl ⟨by rfl, ?_⟩) ?_
              rotate_left
              · (intro w_; go_simp; try with_reducible rfl)
              refine wpAny_take (i := 10) (v := ?_) rfl (by kernel_rfl) (by kernel_rfl) (by kernel_rfl) (fun _ _ _ h => h) (Or.inl ⟨by rfl, ?_⟩) ?_
              rotate_left
              · (intro w_; go_simp; try with_reducible rfl)
              refine wpAny_take (i := 11) (v := ?_) rfl (by kernel_rfl) (by kernel_rfl) (by kernel_rfl) (fun _ _ _ h => h) (Or.inl ⟨by rfl, ?_⟩) ?_
              rotate_left
              · (intro w_; go_simp; try with_reducible rfl)
              refine wpAny_done (by kernel_rfl) ?_ _
              try go_wp2
              go_meet
              case rel => exact ⟨rfl, rfl, rfl, HA, HC, HB⟩
            exact AllReady.nil
          exact AllReady.nil
        exact AllReady.nil
      refine AllReady.cons rfl (fun K hK => ?_) ?_
      · skip
        rw [if_pos (by rfl)]
        refine wp_load_row 27 (.tmp 3) rfl (w.heap.size + 1) rfl 27 (enc16 b) (0, 0) _ HC.out Try.underlying27 rfl (by rw [enc_size, hb]; exact szA) ?_
        refine hK _ _ ?_
        clear hK K
        go_simp
        refine wpAny_ready (rs := [1]) (by kernel_rfl) (by simp) ?_
        refine AllReady.cons rfl (fun K hK => ?_) ?_
        · skip
          rw [if_pos (by rfl)]
          go_simp
          go_wp2_with (first | (go_at_call 16; (refine (to_calls a ha wa _).mono ?_); rintro e w' ⟨rfl, hq⟩; have n1_ := Aside0.mk ((hq.block _ (lt_of_obj HA.out)).trans HA.out); have n2_ := Aside0.mk ((hq.block _ (lt_of_obj HC.out)).trans HC.out); have n0_ := Aside0.mk (below_step (by repeat (first | (with_reducible first | exact HB.out | apply below_alloc | apply pw_below_drewN | apply below_drew1) | exact HB.out)) hq); clear HB HA HC; have HB := n0_; have HA := n1_; have HC := n2_; clear n0_ n1_ n2_ hq))
          try (refine hK _ _ ?_; clear hK K)
          refine wpAny_ready (rs := [3]) (by kernel_rfl) (by simp) ?_
          refine AllReady.cons rfl (fun K hK => ?_) ?_
          · skip
            rw [if_pos (by rfl)]
            go_simp
            go_wp2_with (first | (go_at_call 16; (refine (to_calls b hb wb _).mono ?_); rintro e w' ⟨rfl, hq⟩; have n1_ := Aside0.mk ((hq.block _ (lt_of_obj HA.out)).trans HA.out); have n2_ := Aside0.mk ((hq.block _ (lt_of_obj HC.out)).trans HC.out); have n0_ := Aside0.mk (below_step (by repeat (first | (with_reducible first | exact HB.out | apply below_alloc | apply pw_below_drewN | apply below_drew1) | exact HB.out)) hq); clear HB HA HC; have HB := n0_; have HA := n1_; have HC := n2_; clear n0_ n1_ n2_ hq))
            try (refine hK _ _ ?_; clear hK K)
            refine wpAny_ready (rs := [4]) (by kernel_rfl) (by simp) ?_
            refine AllReady.cons rfl (fun K hK => ?_) ?_
            · skip
              rw [if_pos (by rfl)]
              go_simp
              go_wp2_with (first | (go_at_call 29; (refine (SD _).mono ?_); rintro e w' ⟨rfl, hq⟩; have n1_ := Aside0.mk ((hq.block _ (lt_of_obj HA.out)).trans HA.out); have n2_ := Aside0.mk ((hq.block _ (lt_of_obj HC.out)).trans HC.out); have n0_ := Aside0.mk (below_step (by repeat (first | (with_reducible first | exact HB.out | apply below_alloc | apply pw_below_drewN | apply below_drew1) | exact HB.out)) hq); clear HB HA HC; have HB := n0_; have HA := n1_; have HC := n2_; clear n0_ n1_ n2_ hq))
              try (refine hK _ _ ?_; clear hK K)
              refine wpAny_take (i := 5) (v := ?_) rfl (by kernel_rfl) (by kernel_rfl) (by kernel_rfl) (fun _ _ _ h => h) (Or.inl ⟨by rfl, ?_⟩) ?_
              rotate_left
              · (intro w_; go_simp; try with_reducible rfl)
              refine wpAny_take (i := 6) (v := ?_) rfl (by kernel_rfl) (by kernel_rfl) (by kernel_rfl) (fun _ _ _ h => h) (Or.inl ⟨by rfl, ?_⟩) ?_
              rotate_left
              · (intro w_; go_simp; try with_reducible rfl)
              refine wpAny_take (i := 7) (v := ?_) rfl (by kernel_rfl) (by kernel_rfl) (by kernel_rfl) (fun _ _ _ h => h) (Or.inl ⟨by rfl, ?_⟩) ?_
              rotate_left
              · (intro w_; go_simp; try with_reducible rfl)
              refine wpAny_take (i := 8) (v := ?_) rfl (by kernel_rfl) (by kernel_rfl) (by kernel_rfl) (fun _ _ _ h => h) (Or.inl ⟨by rfl, ?_⟩) ?_
              rotate_left
              · (intro w_; go_simp; try with_reducible rfl)
              refine wpAny_take (i := 9) (v := ?_) rfl (by kernel_rfl) (by kernel_rfl) (by kernel_rfl) (fun _ _ _ h => h) (Or.inl ⟨by rfl, ?_⟩) ?_
              rotate_left
              · (intro w_; go_simp; try with_reducible rfl)
              refine wpAny_take (i := 10) (v := ?_) rfl (by kernel_rfl) (by kernel_rfl) (by kernel_rfl) (fun _ _ _ h => h) (Or.inl ⟨by rfl, ?_⟩) ?_
              rotate_left
              · (intro w_; go_simp; try with_reducible rfl)
              refine wpAny_take (i := 11) (v := ?_) rfl (by kernel_rfl) (by kernel_rfl) (by kernel_rfl) (fun _ _ _ h => h) (Or.inl ⟨by rfl, ?_⟩) ?_
              rotate_left
              · (intro w_; go_simp; try with_reducible rfl)
              refine wpAny_done (by kernel_rfl) ?_ _
              try go_wp2
              go_meet
              case rel => exact ⟨rfl, rfl, rfl, HA, HC, HB⟩
            exact AllReady.nil
          exact AllReady.nil
        exact AllReady.nil
      exact AllReady.nil
    refine AllReady.cons rfl (fun K hK => ?_) ?_
    · skip
      rw [if_pos (by rfl)]
      refine wp_load_row 27 (.tmp 3) rfl (w.heap.size + 1) rfl 27 (enc16 b) (0, 0) _ HC.out Try.underlying27 rfl (by rw [enc_size, hb]; exact szA) ?_
      refine hK _ _ ?_
      clear hK K
      go_simp
      refine wpAny_ready (rs := [0]) (by kernel_rfl) (by simp) ?_
      refine AllReady.cons rfl (fun K hK => ?_) ?_
      · skip
        rw [if_pos (by rfl)]
        refine wp_load_row 27 (.tmp 2) rfl w.heap.size rfl 27 (enc16 a) (0, 0) _ HA.out Try.underlying27 rfl (by rw [enc_size, ha]; exact szA) ?_
        refine hK _ _ ?_
        clear hK K
        go_simp
        refine wpAny_ready (rs := [1]) (by kernel_rfl) (by simp) ?_
        refine AllReady.cons rfl (fun K hK => ?_) ?_
        · skip
          rw [if_pos (by rfl)]
          go_simp
          go_wp2_with (first | (go_at_call 16; (refine (to_calls a ha wa _).mono ?_); rintro e w' ⟨rfl, hq⟩; have n1_ := Aside0.mk ((hq.block _ (lt_of_obj HA.out)).trans HA.out); have n2_ := Aside0.mk ((hq.block _ (lt_of_obj HC.out)).trans HC.out); have n0_ := Aside0.mk (below_step (by repeat (first | (with_reducible first | exact HB.out | apply below_alloc | apply pw_below_drewN | apply below_drew1) | exact HB.out)) hq); clear HB HA HC; have HB := n0_; have HA := n1_; have HC := n2_; clear n0_ n1_ n2_ hq))
          try (refine hK _ _ ?_; clear hK K)
          refine wpAny_ready (rs := [3]) (by kernel_rfl) (by simp) ?_
          refine AllReady.cons rfl (fun K hK => ?_) ?_
          · skip
            rw [if_pos (by rfl)]
            go_simp
            go_wp2_with (first | (go_at_call 16; (refine (to_calls b hb wb _).mono ?_); rintro e w' ⟨rfl, hq⟩; have n1_ := Aside0.mk ((hq.block _ (lt_of_obj HA.out)).trans HA.out); have n2_ := Aside0.mk ((hq.block _ (lt_of_obj HC.out)).trans HC.out); have n0_ := Aside0.mk (below_step (by repeat (first | (with_reducible first | exact HB.out | apply below_alloc | apply pw_below_drewN | apply below_drew1) | exact HB.out)) hq); clear HB HA HC; have HB := n0_; have HA := n1_; have HC := n2_; clear n0_ n1_ n2_ hq))
            try (refine hK _ _ ?_; clear hK K)
            refine wpAny_ready (rs := [4]) (by kernel_rfl) (by simp) ?_
            refine AllReady.cons rfl (fun K hK => ?_) ?_
            · skip
              rw [if_pos (by rfl)]
              go_simp
              go_wp2_with (first | (go_at_call 29; (refine (SD _).mono ?_); rintro e w' ⟨rfl, hq⟩; have n1_ := Aside0.mk ((hq.block _ (lt_of_obj HA.out)).trans HA.out); have n2_ := Aside0.mk ((hq.block _ (lt_of_obj HC.out)).trans HC.out); have n0_ := Aside0.mk (below_step (by repeat (first | (with_reducible first | exact HB.out | apply below_alloc | apply pw_below_drewN | apply below_drew1) | exact HB.out)) hq); clear HB HA HC; have HB := n0_; have HA := n1_; have HC := n2_; clear n0_ n1_ n2_ hq))
              try (refine hK _ _ ?_; clear hK K)
              refine wpAny_take (i := 5) (v := ?_) rfl (by kernel_rfl) (by kernel_rfl) (by kernel_rfl) (fun _ _ _ h => h) (Or.inl ⟨by rfl, ?_⟩) ?_
              rotate_left
              · (intro w_; go_simp; try with_reducible rfl)
              refine wpAny_take (i := 6) (v := ?_) rfl (by kernel_rfl) (by kernel_rfl) (by kernel_rfl) (fun _ _ _ h => h) (Or.inl ⟨by rfl, ?_⟩) ?_
              rotate_left
              · (intro w_; go_simp; try with_reducible rfl)
              refine wpAny_take (i := 7) (v := ?_) rfl (by kernel_rfl) (by kernel_rfl) (by kernel_rfl) (fun _ _ _ h => h) (Or.inl ⟨by rfl, ?_⟩) ?_
              rotate_left
              · (intro w_; go_simp; try with_reducible rfl)
              refine wpAny_take (i := 8) (v := ?_) rfl (by kernel_rfl) (by kernel_rfl) (by kernel_rfl) (fun _ _ _ h => h) (Or.inl ⟨by rfl, ?_⟩) ?_
              rotate_left
              · (intro w_; go_simp; try with_reducible rfl)
              refine wpAny_take (i := 9) (v := ?_) rfl (by kernel_rfl) (by kernel_rfl) (by kernel_rfl) (fun _ _ _ h => h) (Or.inl ⟨by rfl, ?_⟩) ?_
              rotate_left
              · (intro w_; go_simp; try with_reducible rfl)
              refine wpAny_take (i := 10) (v := ?_) rfl (by kernel_rfl) (by kernel_rfl) (by kernel_rfl) (fun _ _ _ h => h) (Or.inl ⟨by rfl, ?_⟩) ?_
              rotate_left
              · (intro w_; go_simp; try with_reducible rfl)
              refine wpAny_take (i := 11) (v := ?_) rfl (by kernel_rfl) (by kernel_rfl) (by kernel_rfl) (fun _ _ _ h => h) (Or.inl ⟨by rfl, ?_⟩) ?_
              rotate_left
              · (intro w_; go_simp; try with_reducible rfl)
              refine wpAny_done (by kernel_rfl) ?_ _
              try go_wp2
              go_meet
              case rel => exact ⟨rfl, rfl, rfl, HA, HC, HB⟩
            exact AllReady.nil
          exact AllReady.nil
        exact AllReady.nil
      exact AllReady.nil
    exact AllReady.nil
  case rest =>
    obtain ⟨rfl, rfl, rfl, HA, HC, HB⟩ := hcut
    go_upto_region 2 with (fail)
    go_cut [8, 9, 10] (fun v8 v9 v10 wc => v8 = .int .i64 g1 ∧ v9 = .int .i64 g2 ∧ v10 = .int .i64 g3 ∧ Aside0 (wc.heap[w.heap.size]? = some (.cells (enc16 a) 27 (0, 0))) ∧ Aside0 (wc.heap[w.heap.size + 1]? = some (.cells (enc16 b) 27 (0, 0))) ∧ Aside0 (Below w.heap.size w wc))
    case first =>
      go_wp2
      refine wp_region_any (by kernel_rfl) ?_
      change wpAny _ _ _ _ _ _ _ (World.drew _)
      refine wpAny_ready (rs := [0, 2]) (by kernel_rfl) (by simp) ?_
      refine AllReady.cons rfl (fun K hK => ?_) ?_
      · skip
        rw [if_pos (by rfl)]
        refine wp_load_row 27 (.tmp 2) rfl w.heap.size rfl 27 (enc16 a) (0, 0) _ HA.out Try.underlying27 rfl (by rw [enc_size, ha]; exact szA) ?_
        refine hK _ _ ?_
        clear hK K
        go_simp
        refine wpAny_ready (rs := [1, 2]) (by kernel_rfl) (by simp) ?_
        refine AllReady.cons rfl (fun K hK => ?_) ?_
        · skip
          rw [if_pos (by rfl)]
          go_simp
          go_wp2_with (first | (go_at_call 16; (refine (to_calls a ha wa _).mono ?_); rintro e w' ⟨rfl, hq⟩; have n1_ := Aside0.mk ((hq.block _ (lt_of_obj HA.out)).trans HA.out); have n2_ := Aside0.mk ((hq.block _ (lt_of_obj HC.out)).trans HC.out); have n0_ := Aside0.mk (below_step (by repeat (first | (with_reducible first | exact HB.out | apply below_alloc | apply pw_below_drewN | apply below_drew1) | exact HB.out)) hq); clear HB HA HC; have HB := n0_; have HA := n1_; have HC := n2_; clear n0_ n1_ n2_ hq))
          try (refine hK _ _ ?_; clear hK K)
          refine wpAny_ready (rs := [2]) (by kernel_rfl) (by simp) ?_
          refine AllReady.cons rfl (fun K hK => ?_) ?_
          · skip
            rw [if_pos (by rfl)]
            refine wp_load_row 27 (.tmp 3) rfl (w.heap.size + 1) rfl 27 (enc16 b) (0, 0) _ HC.out Try.underlying27 rfl (by rw [enc_size, hb]; exact szA) ?_
            refine hK _ _ ?_
            clear hK K
            go_simp
            refine wpAny_ready (rs := [3]) (by kernel_rfl) (by simp) ?_
            refine AllReady.cons rfl (fun K hK => ?_) ?_
            · skip
              rw [if_pos (by rfl)]
              go_simp
              go_wp2_with (first | (go_at_call 16; (refine (to_calls b hb wb _).mono ?_); rintro e w' ⟨rfl, hq⟩; have n1_ := Aside0.mk ((hq.block _ (lt_of_obj HA.out)).trans HA.out); have n2_ := Aside0.mk ((hq.block _ (lt_of_obj HC.out)).trans HC.out); have n0_ := Aside0.mk (below_step (by repeat (first | (with_reducible first | exact HB.out | apply below_alloc | apply pw_below_drewN | apply below_drew1) | exact HB.out)) hq); clear HB HA HC; have HB := n0_; have HA := n1_; have HC := n2_; clear n0_ n1_ n2_ hq))
              try (refine hK _ _ ?_; clear hK K)
              refine wpAny_ready (rs := [4]) (by kernel_rfl) (by simp) ?_
              refine AllReady.cons rfl (fun K hK => ?_) ?_
              · skip
                rw [if_pos (by rfl)]
                go_simp
                go_wp2_with (first | (go_at_call 30; (refine (IM _).mono ?_); rintro e w' ⟨rfl, hq⟩; have n1_ := Aside0.mk ((hq.block _ (lt_of_obj HA.out)).trans HA.out); have n2_ := Aside0.mk ((hq.block _ (lt_of_obj HC.out)).trans HC.out); have n0_ := Aside0.mk (below_step (by repeat (first | (with_reducible first | exact HB.out | apply below_alloc | apply pw_below_drewN | apply below_drew1) | exact HB.out)) hq); clear HB HA HC; have HB := n0_; have HA := n1_; have HC := n2_; clear n0_ n1_ n2_ hq))
                try (refine hK _ _ ?_; clear hK K)
                refine wpAny_take (i := 5) (v := ?_) rfl (by kernel_rfl) (by kernel_rfl) (by kernel_rfl) (fun _ _ _ h => h) (Or.inl ⟨by rfl, ?_⟩) ?_
                rotate_left
                · (intro w_; go_simp; try with_reducible rfl)
                refine wpAny_take (i := 6) (v := ?_) rfl (by kernel_rfl) (by kernel_rfl) (by kernel_rfl) (fun _ _ _ h => h) (Or.inl ⟨by rfl, ?_⟩) ?_
                rotate_left
                · (intro w_; go_simp; try with_reducible rfl)
                refine wpAny_take (i := 7) (v := ?_) rfl (by kernel_rfl) (by kernel_rfl) (by kernel_rfl) (fun _ _ _ h => h) (Or.inl ⟨by rfl, ?_⟩) ?_
                rotate_left
                · (intro w_; go_simp; try with_reducible rfl)
                refine wpAny_take (i := 8) (v := ?_) rfl (by kernel_rfl) (by kernel_rfl) (by kernel_rfl) (fun _ _ _ h => h) (Or.inl ⟨by rfl, ?_⟩) ?_
                rotate_left
                · (intro w_; go_simp; try with_reducible rfl)
                refine wpAny_take (i := 9) (v := ?_) rfl (by kernel_rfl) (by kernel_rfl) (by kernel_rfl) (fun _ _ _ h => h) (Or.inl ⟨by rfl, ?_⟩) ?_
                rotate_left
                · (intro w_; go_simp; try with_reducible rfl)
                refine wpAny_take (i := 10) (v := ?_) rfl (by kernel_rfl) (by kernel_rfl) (by kernel_rfl) (fun _ _ _ h => h) (Or.inl ⟨by rfl, ?_⟩) ?_
                rotate_left
                · (intro w_; go_simp; try with_reducible rfl)
                refine wpAny_take (i := 11) (v := ?_) rfl (by kernel_rfl) (by kernel_rfl) (by kernel_rfl) (fun _ _ _ h => h) (Or.inl ⟨by rfl, ?_⟩) ?_
                rotate_left
                · (intro w_; go_simp; try with_reducible rfl)
                refine wpAny_done (by kernel_rfl) ?_ _
                try go_wp2
                go_meet
                case rel => exact ⟨rfl, rfl, rfl, HA, HC, HB⟩
              exact AllReady.nil
            exact AllReady.nil
          exact AllReady.nil
        refine AllReady.cons rfl (fun K hK => ?_) ?_
        · skip
          rw [if_pos (by rfl)]
          refine wp_load_row 27 (.tmp 3) rfl (w.heap.size + 1) rfl 27 (enc16 b) (0, 0) _ HC.out Try.underlying27 rfl (by rw [enc_size, hb]; exact szA) ?_
          refine hK _ _ ?_
          clear hK K
          go_simp
          refine wpAny_ready (rs := [1]) (by kernel_rfl) (by simp) ?_
          refine AllReady.cons rfl (fun K hK => ?_) ?_
          · skip
            rw [if_pos (by rfl)]
            go_simp
            go_wp2_with (first | (go_at_call 16; (refine (to_calls a ha wa _).mono ?_); rintro e w' ⟨rfl, hq⟩; have n1_ := Aside0.mk ((hq.block _ (lt_of_obj HA.out)).trans HA.out); have n2_ := Aside0.mk ((hq.block _ (lt_of_obj HC.out)).trans HC.out); have n0_ := Aside0.mk (below_step (by repeat (first | (with_reducible first | exact HB.out | apply below_alloc | apply pw_below_drewN | apply below_drew1) | exact HB.out)) hq); clear HB HA HC; have HB := n0_; have HA := n1_; have HC := n2_; clear n0_ n1_ n2_ hq))
            try (refine hK _ _ ?_; clear hK K)
            refine wpAny_ready (rs := [3]) (by kernel_rfl) (by simp) ?_
            refine AllReady.cons rfl (fun K hK => ?_) ?_
            · skip
              rw [if_pos (by rfl)]
              go_simp
              go_wp2_with (first | (go_at_call 16; (refine (to_calls b hb wb _).mono ?_); rintro e w' ⟨rfl, hq⟩; have n1_ := Aside0.mk ((hq.block _ (lt_of_obj HA.out)).trans HA.out); have n2_ := Aside0.mk ((hq.block _ (lt_of_obj HC.out)).trans HC.out); have n0_ := Aside0.mk (below_step (by repeat (first | (with_reducible first | exact HB.out | apply below_alloc | apply pw_below_drewN | apply below_drew1) | exact HB.out)) hq); clear HB HA HC; have HB := n0_; have HA := n1_; have HC := n2_; clear n0_ n1_ n2_ hq))
              try (refine hK _ _ ?_; clear hK K)
              refine wpAny_ready (rs := [4]) (by kernel_rfl) (by simp) ?_
              refine AllReady.cons rfl (fun K hK => ?_) ?_
              · skip
                rw [if_pos (by rfl)]
                go_simp
                go_wp2_with (first | (go_at_call 30; (refine (IM _).mono ?_); rintro e w' ⟨rfl, hq⟩; have n1_ := Aside0.mk ((hq.block _ (lt_of_obj HA.out)).trans HA.out); have n2_ := Aside0.mk ((hq.block _ (lt_of_obj HC.out)).trans HC.out); have n0_ := Aside0.mk (below_step (by repeat (first | (with_reducible first | exact HB.out | apply below_alloc | apply pw_below_drewN | apply below_drew1) | exact HB.out)) hq); clear HB HA HC; have HB := n0_; have HA := n1_; have HC := n2_; clear n0_ n1_ n2_ hq))
                try (refine hK _ _ ?_; clear hK K)
                refine wpAny_take (i := 5) (v := ?_) rfl (by kernel_rfl) (by kernel_rfl) (by kernel_rfl) (fun _ _ _ h => h) (Or.inl ⟨by rfl, ?_⟩) ?_
                rotate_left
                · (intro w_; go_simp; try with_reducible rfl)
                refine wpAny_take (i := 6) (v := ?_) rfl (by kernel_rfl) (by kernel_rfl) (by kernel_rfl) (fun _ _ _ h => h) (Or.inl ⟨by rfl, ?_⟩) ?_
                rotate_left
                · (intro w_; go_simp; try with_reducible rfl)
                refine wpAny_take (i := 7) (v := ?_) rfl (by kernel_rfl) (by kernel_rfl) (by kernel_rfl) (fun _ _ _ h => h) (Or.inl ⟨by rfl, ?_⟩) ?_
                rotate_left
                · (intro w_; go_simp; try with_reducible rfl)
                refine wpAny_take (i := 8) (v := ?_) rfl (by kernel_rfl) (by kernel_rfl) (by kernel_rfl) (fun _ _ _ h => h) (Or.inl ⟨by rfl, ?_⟩) ?_
                rotate_left
                · (intro w_; go_simp; try with_reducible rfl)
                refine wpAny_take (i := 9) (v := ?_) rfl (by kernel_rfl) (by kernel_rfl) (by kernel_rfl) (fun _ _ _ h => h) (Or.inl ⟨by rfl, ?_⟩) ?_
                rotate_left
                · (intro w_; go_simp; try with_reducible rfl)
                refine wpAny_take (i := 10) (v := ?_) rfl (by kernel_rfl) (by kernel_rfl) (by kernel_rfl) (fun _ _ _ h => h) (Or.inl ⟨by rfl, ?_⟩) ?_
                rotate_left
                · (intro w_; go_simp; try with_reducible rfl)
                refine wpAny_take (i := 11) (v := ?_) rfl (by kernel_rfl) (by kernel_rfl) (by kernel_rfl) (fun _ _ _ h => h) (Or.inl ⟨by rfl, ?_⟩) ?_
                rotate_left
                · (intro w_; go_simp; try with_reducible rfl)
                refine wpAny_done (by kernel_rfl) ?_ _
                try go_wp2
                go_meet
                case rel => exact ⟨rfl, rfl, rfl, HA, HC, HB⟩
              exact AllReady.nil
            exact AllReady.nil
          exact AllReady.nil
        exact AllReady.nil
      refine AllReady.cons rfl (fun K hK => ?_) ?_
      · skip
        rw [if_pos (by rfl)]
        refine wp_load_row 27 (.tmp 3) rfl (w.heap.size + 1) rfl 27 (enc16 b) (0, 0) _ HC.out Try.underlying27 rfl (by rw [enc_size, hb]; exact szA) ?_
        refine hK _ _ ?_
        clear hK K
        go_simp
        refine wpAny_ready (rs := [0]) (by kernel_rfl) (by simp) ?_
        refine AllReady.cons rfl (fun K hK => ?_) ?_
        · skip
          rw [if_pos (by rfl)]
          refine wp_load_row 27 (.tmp 2) rfl w.heap.size rfl 27 (enc16 a) (0, 0) _ HA.out Try.underlying27 rfl (by rw [enc_size, ha]; exact szA) ?_
          refine hK _ _ ?_
          clear hK K
          go_simp
          refine wpAny_ready (rs := [1]) (by kernel_rfl) (by simp) ?_
          refine AllReady.cons rfl (fun K hK => ?_) ?_
          · skip
            rw [if_pos (by rfl)]
            go_simp
            go_wp2_with (first | (go_at_call 16; (refine (to_calls a ha wa _).mono ?_); rintro e w' ⟨rfl, hq⟩; have n1_ := Aside0.mk ((hq.block _ (lt_of_obj HA.out)).trans HA.out); have n2_ := Aside0.mk ((hq.block _ (lt_of_obj HC.out)).trans HC.out); have n0_ := Aside0.mk (below_step (by repeat (first | (with_reducible first | exact HB.out | apply below_alloc | apply pw_below_drewN | apply below_drew1) | exact HB.out)) hq); clear HB HA HC; have HB := n0_; have HA := n1_; have HC := n2_; clear n0_ n1_ n2_ hq))
            try (refine hK _ _ ?_; clear hK K)
            refine wpAny_ready (rs := [3]) (by kernel_rfl) (by simp) ?_
            refine AllReady.cons rfl (fun K hK => ?_) ?_
            · skip
              rw [if_pos (by rfl)]
              go_simp
              go_wp2_with (first | (go_at_call 16; (refine (to_calls b hb wb _).mono ?_); rintro e w' ⟨rfl, hq⟩; have n1_ := Aside0.mk ((hq.block _ (lt_of_obj HA.out)).trans HA.out); have n2_ := Aside0.mk ((hq.block _ (lt_of_obj HC.out)).trans HC.out); have n0_ := Aside0.mk (below_step (by repeat (first | (with_reducible first | exact HB.out | apply below_alloc | apply pw_below_drewN | apply below_drew1) | exact HB.out)) hq); clear HB HA HC; have HB := n0_; have HA := n1_; have HC := n2_; clear n0_ n1_ n2_ hq))
              try (refine hK _ _ ?_; clear hK K)
              refine wpAny_ready (rs := [4]) (by kernel_rfl) (by simp) ?_
              refine AllReady.cons rfl (fun K hK => ?_) ?_
              · skip
                rw [if_pos (by rfl)]
                go_simp
                go_wp2_with (first | (go_at_call 30; (refine (IM _).mono ?_); rintro e w' ⟨rfl, hq⟩; have n1_ := Aside0.mk ((hq.block _ (lt_of_obj HA.out)).trans HA.out); have n2_ := Aside0.mk ((hq.block _ (lt_of_obj HC.out)).trans HC.out); have n0_ := Aside0.mk (below_step (by repeat (first | (with_reducible first | exact HB.out | apply below_alloc | apply pw_below_drewN | apply below_drew1) | exact HB.out)) hq); clear HB HA HC; have HB := n0_; have HA := n1_; have HC := n2_; clear n0_ n1_ n2_ hq))
                try (refine hK _ _ ?_; clear hK K)
                refine wpAny_take (i := 5) (v := ?_) rfl (by kernel_rfl) (by kernel_rfl) (by kernel_rfl) (fun _ _ _ h => h) (Or.inl ⟨by rfl, ?_⟩) ?_
                rotate_left
                · (intro w_; go_simp; try with_reducible rfl)
                refine wpAny_take (i := 6) (v := ?_) rfl (by kernel_rfl) (by kernel_rfl) (by kernel_rfl) (fun _ _ _ h => h) (Or.inl ⟨by rfl, ?_⟩) ?_
                rotate_left
                · (intro w_; go_simp; try with_reducible rfl)
                refine wpAny_take (i := 7) (v := ?_) rfl (by kernel_rfl) (by kernel_rfl) (by kernel_rfl) (fun _ _ _ h => h) (Or.inl ⟨by rfl, ?_⟩) ?_
                rotate_left
                · (intro w_; go_simp; try with_reducible rfl)
                refine wpAny_take (i := 8) (v := ?_) rfl (by kernel_rfl) (by kernel_rfl) (by kernel_rfl) (fun _ _ _ h => h) (Or.inl ⟨by rfl, ?_⟩) ?_
                rotate_left
                · (intro w_; go_simp; try with_reducible rfl)
                refine wpAny_take (i := 9) (v := ?_) rfl (by kernel_rfl) (by kernel_rfl) (by kernel_rfl) (fun _ _ _ h => h) (Or.inl ⟨by rfl, ?_⟩) ?_
                rotate_left
                · (intro w_; go_simp; try with_reducible rfl)
                refine wpAny_take (i := 10) (v := ?_) rfl (by kernel_rfl) (by kernel_rfl) (by kernel_rfl) (fun _ _ _ h => h) (Or.inl ⟨by rfl, ?_⟩) ?_
                rotate_left
                · (intro w_; go_simp; try with_reducible rfl)
                refine wpAny_take (i := 11) (v := ?_) rfl (by kernel_rfl) (by kernel_rfl) (by kernel_rfl) (fun _ _ _ h => h) (Or.inl ⟨by rfl, ?_⟩) ?_
                rotate_left
                · (intro w_; go_simp; try with_reducible rfl)
                refine wpAny_done (by kernel_rfl) ?_ _
                try go_wp2
                go_meet
                case rel => exact ⟨rfl, rfl, rfl, HA, HC, HB⟩
              exact AllReady.nil
            exact AllReady.nil
          exact AllReady.nil
        exact AllReady.nil
      exact AllReady.nil
    case rest =>
      obtain ⟨rfl, rfl, rfl, HA, HC, HB⟩ := hcut
      go_wp2
      go_ret
      exact ⟨rfl, by repeat (first | (with_reducible first | exact HB.out | apply below_alloc | apply pw_below_drewN | apply below_drew1) | exact HB.out)⟩
end Go.Proofs.Ytpdgfmiknegmoaa.PFnExactGreatestDifference
