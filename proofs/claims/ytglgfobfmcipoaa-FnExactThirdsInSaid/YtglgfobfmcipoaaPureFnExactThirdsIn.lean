/- Proves, in plain numbers and lists, that the law FnExactThirdsIn answers true at all inputs. No condition is added. -/
import Derived.Test.YtglgfobfmcipoaaPFnExactThirdsInx0
import Derived.Test.YtglgfobfmcipoaaPFnExactThirdsInx1
namespace Go.Proofs.Ytglgfobfmcipoaa.Pure
open Go.RowKit Go.Proofs.Ytglgfobfmcipoaa.PFnExactThirdsIn Go.Proofs.YtglgfobfmcipoaaW.PrintWords Go.Proofs.YtglgfobfmcipoaaW.PrintLast Go.Proofs.YtglgfobfmcipoaaW.PrintMore
theorem w64 {x : Int} (h : -9223372036854775808 ≤ x) (h' : x ≤ 9223372036854775807) : wrap64 x = x := by unfold wrap64; omega
theorem wf8 {x : Int} (h : (Lit.int .i8 x).wf = true) : -128 ≤ x ∧ x ≤ 127 := by
  have h2 : (decide ((-128 : Int) ≤ x) && decide (x ≤ 127)) = true := h
  simpa using h2
theorem wf16 {x : Int} (h : (Lit.int .i16 x).wf = true) : -32768 ≤ x ∧ x ≤ 32767 := by
  have h2 : (decide ((-32768 : Int) ≤ x) && decide (x ≤ 32767)) = true := h
  simpa using h2
theorem wf64 {x : Int} (h : (Lit.int .i64 x).wf = true) : -9223372036854775808 ≤ x ∧ x ≤ 9223372036854775807 := by
  have h2 : (decide ((-9223372036854775808 : Int) ≤ x) && decide (x ≤ 9223372036854775807)) = true := h
  simpa using h2
theorem wfu64 {x : Int} (h : (Lit.int .u64 x).wf = true) : 0 ≤ x ∧ x ≤ 18446744073709551615 := by
  have h2 : (decide ((0 : Int) ≤ x) && decide (x ≤ 18446744073709551615)) = true := h
  simpa using h2
theorem i8w {x : Int} (h : -128 ≤ x) (h' : x ≤ 127) : IntKind.i8.wrap x = x := by
  show (if (true && decide (x % 256 ≥ 128)) = true then x % 256 - 256 else x % 256) = x
  by_cases e : x % 256 ≥ 128
  · rw [if_pos (by simpa using e)]; omega
  · rw [if_neg (by simpa using e)]; omega
theorem i16w {x : Int} (h : -32768 ≤ x) (h' : x ≤ 32767) : IntKind.i16.wrap x = x := by
  show (if (true && decide (x % 65536 ≥ 32768)) = true then x % 65536 - 65536 else x % 65536) = x
  by_cases e : x % 65536 ≥ 32768
  · rw [if_pos (by simpa using e)]; omega
  · rw [if_neg (by simpa using e)]; omega
theorem u64w {x : Int} (h : 0 ≤ x) (h' : x ≤ 18446744073709551615) : IntKind.u64.wrap x = x := by
  show (if (false && decide (x % 18446744073709551616 ≥ 9223372036854775808)) = true then x % 18446744073709551616 - 18446744073709551616 else x % 18446744073709551616) = x
  rw [if_neg (by simp)]; omega
theorem in_f (a b c : Int) : spec_l00In.f a b c = some (decide (b ≤ a ∧ a ≤ c)) := by
  unfold spec_l00In.f
  by_cases h : b ≤ a <;> simp [h]
theorem within_f (a b c : Int) : impl_within.f a b c = some (decide (b ≤ a ∧ a ≤ c)) := by
  unfold impl_within.f
  by_cases h : b ≤ a <;> simp [h]
def tm (n : Nat) : Int := [1000, 1260, 1587].getD (n % 3) 0 * 2 ^ (n / 3)
def tI (a : Int) : Int := tm a.toNat
theorem stime_nat : ∀ n : Fin 37, spec_l01Time.f (n.val : Int) = some (tm n.val) := by decide +kernel
theorem itime_nat : ∀ n : Fin 37, impl_timeOf.f (n.val : Int) = some (tm n.val) := by decide +kernel
theorem stime {a : Int} (h : 0 ≤ a) (h' : a ≤ 36) : spec_l01Time.f a = some (tI a) := by
  have := stime_nat ⟨a.toNat, by omega⟩
  simpa [tI, Int.toNat_of_nonneg h] using this
theorem itime {a : Int} (h : 0 ≤ a) (h' : a ≤ 36) : impl_timeOf.f a = some (tI a) := by
  have := itime_nat ⟨a.toNat, by omega⟩
  simpa [tI, Int.toNat_of_nonneg h] using this
theorem tm_lt_nat : ∀ i : Fin 37, ∀ j : Fin 37, i < j → tm i.val < tm j.val := by decide +kernel
theorem tm_bd_nat : ∀ i : Fin 37, 1000 ≤ tm i.val ∧ tm i.val ≤ 4096000 := by decide +kernel
theorem tI_lt {i j : Int} (h : 0 ≤ i) (h1 : i < j) (h2 : j ≤ 36) : tI i < tI j := tm_lt_nat ⟨i.toNat, by omega⟩ ⟨j.toNat, by omega⟩ (by show i.toNat < j.toNat; omega)
theorem tI_le {i j : Int} (h : 0 ≤ i) (h1 : i ≤ j) (h2 : j ≤ 36) : tI i ≤ tI j := by
  by_cases e : i = j
  · rw [e]; exact Int.le_refl _
  · have := tI_lt h (by omega) h2; omega
theorem tI_bd {i : Int} (h : 0 ≤ i) (h2 : i ≤ 36) : 1000 ≤ tI i ∧ tI i ≤ 4096000 := tm_bd_nat ⟨i.toNat, by omega⟩
/-- the greatest number of thirds within a time, or -1 -/
def IsIn (m r : Int) : Prop := -1 ≤ r ∧ r ≤ 36 ∧ (0 ≤ r → tI r ≤ m) ∧ (r < 36 → m < tI (r + 1))
theorem isin_le {m r s : Int} (h : IsIn m r) (h' : IsIn m s) : r ≤ s := by
  obtain ⟨a1, a2, a3, a4⟩ := h
  obtain ⟨b1, b2, b3, b4⟩ := h'
  by_cases c : r ≤ s
  · exact c
  · have x1 := a3 (by omega)
    have x2 := b4 (by omega)
    have x3 := tI_le (i := s + 1) (j := r) (by omega) (by omega) (by omega)
    omega
theorem isin_eq {m r s : Int} (h : IsIn m r) (h' : IsIn m s) : r = s := by
  have := isin_le h h'
  have := isin_le h' h
  omega
theorem sin_l (m : Int) (d : Nat) : ∀ (k : Nat) (x : Int), -1 ≤ x → x ≤ 36 → 36 - x = d → d < k → (0 ≤ x → tI x ≤ m) → ∃ r, spec_l01In.l0 k m x = some r ∧ IsIn m r := by
  induction d with
  | zero =>
    intro k x h0 h1 hd hk hx
    obtain ⟨k, rfl⟩ : ∃ n, k = n + 1 := ⟨k - 1, by omega⟩
    exact ⟨x, by simp only [spec_l01In.l0]; rw [if_neg (by omega)], h0, h1, hx, fun h => by omega⟩
  | succ d ih =>
    intro k x h0 h1 hd hk hx
    obtain ⟨k, rfl⟩ : ∃ n, k = n + 1 := ⟨k - 1, by omega⟩
    simp only [spec_l01In.l0]
    rw [if_pos (by omega), w64 (by omega) (by omega), stime (by omega) (by omega), Option.bind_some]
    by_cases c : tI (x + 1) ≤ m
    · rw [if_pos c]
      exact ih k (x + 1) (by omega) (by omega) (by omega) (by omega) (fun _ => c)
    · rw [if_neg c]
      exact ⟨x, rfl, h0, h1, hx, fun _ => by omega⟩
theorem sin_f (m : Int) (k : Nat) (hk : 37 < k) : ∃ r, spec_l01In.f k m = some r ∧ IsIn m r :=
  sin_l m 37 k (-1) (by omega) (by omega) (by omega) hk (fun h => by omega)
theorem iin_l (m : Int) (hm : 1000 ≤ m) (d : Nat) : ∀ (k : Nat) (x : Int), 0 ≤ x → x ≤ 36 → x = d → d < k → (x < 36 → m < tI (x + 1)) → ∃ r, impl_ThirdsIn.l0 k m x = some (r, 0) ∧ 0 ≤ r ∧ IsIn m r := by
  induction d with
  | zero =>
    intro k x h0 h1 hd hk hx
    obtain ⟨k, rfl⟩ : ∃ n, k = n + 1 := ⟨k - 1, by omega⟩
    have e : x = 0 := by omega
    subst e
    have e : tI 0 = 1000 := by decide
    refine ⟨0, ?_, by omega, by omega, by omega, fun _ => by omega, hx⟩
    simp only [impl_ThirdsIn.l0]
    rw [itime (by omega) (by omega), Option.bind_some, if_neg (by omega)]
  | succ d ih =>
    intro k x h0 h1 hd hk hx
    obtain ⟨k, rfl⟩ : ∃ n, k = n + 1 := ⟨k - 1, by omega⟩
    simp only [impl_ThirdsIn.l0]
    rw [itime (by omega) (by omega), Option.bind_some]
    by_cases c : tI x > m
    · rw [if_pos c, w64 (by omega) (by omega)]
      exact ih k (x - 1) (by omega) (by omega) (by omega) (by omega) (fun _ => by rw [show x - 1 + 1 = x by omega]; exact c)
    · rw [if_neg c]
      exact ⟨x, rfl, h0, by omega, h1, fun _ => by omega, hx⟩
theorem FnExactThirdsIn : laws_FnExactThirdsIn.Pure := by
  intro a _
  refine ⟨38, ?_⟩
  unfold laws_FnExactThirdsIn.f spec_ThirdsIn.f impl_ThirdsIn.f spec_l01Milliseconds.f impl_areMilliseconds.f
  simp only [in_f, within_f, Option.bind_some]
  by_cases h : 0 ≤ a ∧ a ≤ 100000000
  · obtain ⟨r, hr, hi⟩ := sin_f a 38 (by omega)
    simp only [h, and_self, decide_true, if_true, hr, itime (a := 0) (by omega) (by omega), Option.bind_some]
    have e : tI 0 = 1000 := by decide
    have hi' := hi
    obtain ⟨b1, b2, b3, b4⟩ := hi'
    by_cases c : a < tI 0
    · have : r < 0 := by
        by_cases q : r < 0
        · exact q
        · have x1 := b3 (by omega)
          have x2 := tI_le (i := 0) (j := r) (by omega) (by omega) (by omega)
          omega
      simp [c, this]
    · obtain ⟨s, hs, s0, hj⟩ := iin_l a (by omega) 36 38 36 (by omega) (by omega) (by omega) (by omega) (fun h => by omega)
      have es := isin_eq hi hj
      subst es
      simp [c, hs, show ¬ r < 0 by omega]
  · simp [h]

end Go.Proofs.Ytglgfobfmcipoaa.Pure
