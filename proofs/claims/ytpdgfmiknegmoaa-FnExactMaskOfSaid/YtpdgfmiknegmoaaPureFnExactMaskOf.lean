/- Proves, in plain numbers and lists, that the law FnExactMaskOf answers true at all inputs. No condition is added. -/
import Derived.Test.YtpdgfmiknegmoaaPFnExactMaskOfx0
import Derived.Test.YtpdgfmiknegmoaaPFnExactMaskOfx1
namespace Go.Proofs.Ytpdgfmiknegmoaa.Pure
open Go.RowKit Go.Proofs.Ytpdgfmiknegmoaa.PFnExactMaskOf Go.Proofs.YtpdgfmiknegmoaaW.PrintWords Go.Proofs.YtpdgfmiknegmoaaW.PrintLast Go.Proofs.YtpdgfmiknegmoaaW.PrintMore
set_option linter.unusedVariables false
set_option linter.unusedSimpArgs false
theorem w64 {x : Int} (h : -9223372036854775808 ≤ x) (h' : x ≤ 9223372036854775807) : wrap64 x = x := by unfold wrap64; omega
theorem wf8 {x : Int} (h : (Lit.int .i8 x).wf = true) : -128 ≤ x ∧ x ≤ 127 := by
  have h2 : (decide ((-128 : Int) ≤ x) && decide (x ≤ 127)) = true := h
  simpa using h2
theorem wf16 {x : Int} (h : (Lit.int .i16 x).wf = true) : -32768 ≤ x ∧ x ≤ 32767 := by
  have h2 : (decide ((-32768 : Int) ≤ x) && decide (x ≤ 32767)) = true := h
  simpa using h2
theorem wf64 {x : Int} (h : (Lit.int .i64 x).wf = true) : -9223372036854775808 ≤ x ∧ x ≤ 9223372036854775807 := by
  have h2 : (decide ((-9223372036854775808 : Int) ≤ x) && decide (x ≤ 9223372036854775807)) = true := h
  simpa using h2
theorem wfu64 {x : Int} (h : (Lit.int .u64 x).wf = true) : 0 ≤ x ∧ x ≤ 18446744073709551615 := by
  have h2 : (decide ((0 : Int) ≤ x) && decide (x ≤ 18446744073709551615)) = true := h
  simpa using h2
theorem i8w {x : Int} (h : -128 ≤ x) (h' : x ≤ 127) : IntKind.i8.wrap x = x := by
  show (if (true && decide (x % 256 ≥ 128)) = true then x % 256 - 256 else x % 256) = x
  by_cases e : x % 256 ≥ 128
  · rw [if_pos (by simpa using e)]; omega
  · rw [if_neg (by simpa using e)]; omega
theorem i16w {x : Int} (h : -32768 ≤ x) (h' : x ≤ 32767) : IntKind.i16.wrap x = x := by
  show (if (true && decide (x % 65536 ≥ 32768)) = true then x % 65536 - 65536 else x % 65536) = x
  by_cases e : x % 65536 ≥ 32768
  · rw [if_pos (by simpa using e)]; omega
  · rw [if_neg (by simpa using e)]; omega
theorem u64w {x : Int} (h : 0 ≤ x) (h' : x ≤ 18446744073709551615) : IntKind.u64.wrap x = x := by
  show (if (false && decide (x % 18446744073709551616 ≥ 9223372036854775808)) = true then x % 18446744073709551616 - 18446744073709551616 else x % 18446744073709551616) = x
  rw [if_neg (by simp)]; omega
theorem in_f (a b c : Int) : spec_l00In.f a b c = some (decide (b ≤ a ∧ a ≤ c)) := by
  unfold spec_l00In.f
  by_cases h : b ≤ a <;> simp [h]
theorem within_f (a b c : Int) : impl_within.f a b c = some (decide (b ≤ a ∧ a ≤ c)) := by
  unfold impl_within.f
  by_cases h : b ≤ a <;> simp [h]
theorem mask_l (w e s : Int) (hw : 0 ≤ w) (hwe : w ≤ e) (he : e ≤ 7) (hs : s ≤ 7) (D : Nat) : ∀ k, D < k →
    (∀ m y, 0 ≤ y → y ≤ s + 1 → 10 * (s + 1 - y) = D → ∃ r, spec_MaskOf.l0 k w e s m y = some r ∧ impl_MaskOf.l0 k w e s m y = some r) ∧
    (∀ m y x, 0 ≤ y → y ≤ s → w ≤ x → x ≤ e + 1 → 10 * (s - y) + (e + 1 - x) + 1 = D → ∃ r, spec_MaskOf.l1 k w e s m y x = some r ∧ impl_MaskOf.l1 k w e s m y x = some r) := by
  induction D using Nat.strongRecOn with
  | ind D ih =>
    intro k hk
    obtain ⟨k, rfl⟩ : ∃ n, k = n + 1 := ⟨k - 1, by omega⟩
    constructor
    · intro m y y0 y1 hd
      simp only [spec_MaskOf.l0, impl_MaskOf.l0]
      by_cases c : y ≤ s
      · simp only [c, if_true]
        obtain ⟨d, hd'⟩ : ∃ d : Nat, 10 * (s - y) + (e + 1 - w) + 1 = d := ⟨(10 * (s - y) + (e + 1 - w) + 1).toNat, by omega⟩
        exact (ih d (by omega) k (by omega)).2 m y w y0 c (Int.le_refl _) (by omega) hd'
      · simp only [c, if_false]
        exact ⟨_, rfl, rfl⟩
    · intro m y x y0 y1 x0 x1 hd
      simp only [spec_MaskOf.l1, impl_MaskOf.l1, spec_l03Bit.f]
      by_cases c : x ≤ e
      · simp only [c, if_true]
        rw [w64 (x := 8 * y) (by omega) (by omega), w64 (x := x + 8 * y) (by omega) (by omega), u64w (x := x + 8 * y) (by omega) (by omega), w64 (x := x + 1) (by omega) (by omega)]
        have g : 0 ≤ x + 8 * y := by omega
        simp only [g, if_true, Option.bind_some]
        obtain ⟨d, hd'⟩ : ∃ d : Nat, 10 * (s - y) + (e + 1 - (x + 1)) + 1 = d := ⟨(10 * (s - y) + (e + 1 - (x + 1)) + 1).toNat, by omega⟩
        exact (ih d (by omega) k (by omega)).2 _ y (x + 1) y0 y1 (by omega) (by omega) hd'
      · simp only [c, if_false]
        rw [w64 (x := y + 1) (by omega) (by omega)]
        obtain ⟨d, hd'⟩ : ∃ d : Nat, 10 * (s + 1 - (y + 1)) = d := ⟨(10 * (s + 1 - (y + 1))).toNat, by omega⟩
        exact (ih d (by omega) k (by omega)).1 m (y + 1) (by omega) (by omega) hd'
theorem FnExactMaskOf : laws_FnExactMaskOf.Pure := by
  intro a b c d _ _ _ _
  refine ⟨200, ?_⟩
  have t : spec_MaskOf.j0 200 a b c d true = some (0, 2) ∧ impl_MaskOf.j0 200 a b c d true = some (0, 2) := ⟨rfl, rfl⟩
  have main : ∃ r, spec_MaskOf.f 200 a b c d = some r ∧ impl_MaskOf.f 200 a b c d = some r := by
    unfold spec_MaskOf.f impl_MaskOf.f spec_l03Place.f impl_isSide.f
    simp only [in_f, within_f, Option.bind_some]
    by_cases h : (0 ≤ a ∧ a ≤ c ∧ c ≤ 7) ∧ (0 ≤ b ∧ b ≤ d ∧ d ≤ 7)
    · have f1 : 0 ≤ a ∧ a ≤ 7 := by omega
      have f2 : 0 ≤ b ∧ b ≤ 7 := by omega
      have f3 : 0 ≤ c ∧ c ≤ 7 := by omega
      have f4 : 0 ≤ d ∧ d ≤ 7 := by omega
      have f5 : ¬ a > c := by omega
      have f6 : ¬ b > d := by omega
      have f7 : 0 ≤ a ∧ a ≤ c := by omega
      have f8 : 0 ≤ b ∧ b ≤ d := by omega
      simp only [f1, f2, f3, f4, f5, f6, f7, f8, and_self, decide_true, decide_false, if_true, if_false, Bool.not_true, spec_MaskOf.j0, impl_MaskOf.j0, Bool.false_eq_true]
      obtain ⟨q, hq⟩ : ∃ q : Nat, 10 * (d + 1 - b) = q := ⟨(10 * (d + 1 - b)).toNat, by omega⟩
      exact (mask_l a c d (by omega) (by omega) (by omega) (by omega) q 199 (by omega)).1 0 b (by omega) (by omega) hq
    · have s1 : ∀ x : Option (Int × Int), x = spec_MaskOf.j0 200 a b c d true → x = some (0, 2) := fun x hx => by rw [hx]; exact t.1
      refine ⟨(0, 2), ?_, ?_⟩
      · by_cases f1 : 0 ≤ a ∧ a ≤ 7
        · by_cases f2 : 0 ≤ b ∧ b ≤ 7
          · by_cases f3 : 0 ≤ c ∧ c ≤ 7
            · by_cases f4 : 0 ≤ d ∧ d ≤ 7
              · by_cases f5 : a > c
                · simp [f1, f2, f3, f4, f5, t.1]
                · have f6 : b > d := by omega
                  simp [f1, f2, f3, f4, f5, f6, t.1]
              · simp [f1, f2, f3, f4, t.1]
            · simp [f1, f2, f3, t.1]
          · simp [f1, f2, t.1]
        · simp [f1, t.1]
      · by_cases f3 : 0 ≤ c ∧ c ≤ 7
        · by_cases f4 : 0 ≤ d ∧ d ≤ 7
          · by_cases f7 : 0 ≤ a ∧ a ≤ c
            · have f8 : ¬ (0 ≤ b ∧ b ≤ d) := by omega
              simp [f3, f4, f7, f8, t.2]
            · simp [f3, f4, f7, t.2]
          · simp [f3, f4, t.2]
        · simp [f3, t.2]
  obtain ⟨r, e1, e2⟩ := main
  unfold laws_FnExactMaskOf.f
  simp only [e1, e2, Option.bind_some, if_true]

end Go.Proofs.Ytpdgfmiknegmoaa.Pure
