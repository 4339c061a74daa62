/- Proves, in plain numbers and lists, that the law FnExactFactorThirds answers true at all inputs. No condition is added. -/
import Derived.Test.YtglgfobfmcipoaaPFnExactFactorThirdsx0
import Derived.Test.YtglgfobfmcipoaaPFnExactFactorThirdsx1
namespace Go.Proofs.Ytglgfobfmcipoaa.Pure
open Go.RowKit Go.Proofs.Ytglgfobfmcipoaa.PFnExactFactorThirds Go.Proofs.YtglgfobfmcipoaaW.PrintWords Go.Proofs.YtglgfobfmcipoaaW.PrintLast Go.Proofs.YtglgfobfmcipoaaW.PrintMore
theorem in_f (a b c : Int) : spec_l00In.f a b c = some (decide (b ≤ a ∧ a ≤ c)) := by
  unfold spec_l00In.f
  by_cases h : b ≤ a <;> simp [h]
theorem within_f (a b c : Int) : impl_within.f a b c = some (decide (b ≤ a ∧ a ≤ c)) := by
  unfold impl_within.f
  by_cases h : b ≤ a <;> simp [h]
theorem w64 {x : Int} (h : -9223372036854775808 ≤ x) (h' : x ≤ 9223372036854775807) : wrap64 x = x := by unfold wrap64; omega
theorem wf8 {x : Int} (h : (Lit.int .i8 x).wf = true) : -128 ≤ x ∧ x ≤ 127 := by
  have h2 : (decide ((-128 : Int) ≤ x) && decide (x ≤ 127)) = true := h
  simpa using h2
theorem wf16 {x : Int} (h : (Lit.int .i16 x).wf = true) : -32768 ≤ x ∧ x ≤ 32767 := by
  have h2 : (decide ((-32768 : Int) ≤ x) && decide (x ≤ 32767)) = true := h
  simpa using h2
theorem wf64 {x : Int} (h : (Lit.int .i64 x).wf = true) : -9223372036854775808 ≤ x ∧ x ≤ 9223372036854775807 := by
  have h2 : (decide ((-9223372036854775808 : Int) ≤ x) && decide (x ≤ 9223372036854775807)) = true := h
  simpa using h2
theorem wfu64 {x : Int} (h : (Lit.int .u64 x).wf = true) : 0 ≤ x ∧ x ≤ 18446744073709551615 := by
  have h2 : (decide ((0 : Int) ≤ x) && decide (x ≤ 18446744073709551615)) = true := h
  simpa using h2
theorem i8w {x : Int} (h : -128 ≤ x) (h' : x ≤ 127) : IntKind.i8.wrap x = x := by
  show (if (true && decide (x % 256 ≥ 128)) = true then x % 256 - 256 else x % 256) = x
  by_cases e : x % 256 ≥ 128
  · rw [if_pos (by simpa using e)]; omega
  · rw [if_neg (by simpa using e)]; omega
theorem i16w {x : Int} (h : -32768 ≤ x) (h' : x ≤ 32767) : IntKind.i16.wrap x = x := by
  show (if (true && decide (x % 65536 ≥ 32768)) = true then x % 65536 - 65536 else x % 65536) = x
  by_cases e : x % 65536 ≥ 32768
  · rw [if_pos (by simpa using e)]; omega
  · rw [if_neg (by simpa using e)]; omega
theorem u64w {x : Int} (h : 0 ≤ x) (h' : x ≤ 18446744073709551615) : IntKind.u64.wrap x = x := by
  show (if (false && decide (x % 18446744073709551616 ≥ 9223372036854775808)) = true then x % 18446744073709551616 - 18446744073709551616 else x % 18446744073709551616) = x
  rw [if_neg (by simp)]; omega
def tm (n : Nat) : Int := [1000, 1260, 1587].getD (n % 3) 0 * 2 ^ (n / 3)
def tI (a : Int) : Int := tm a.toNat
theorem stime_nat : ∀ n : Fin 37, spec_l01Time.f (n.val : Int) = some (tm n.val) := by decide +kernel
theorem itime_nat : ∀ n : Fin 37, impl_timeOf.f (n.val : Int) = some (tm n.val) := by decide +kernel
theorem stime {a : Int} (h : 0 ≤ a) (h' : a ≤ 36) : spec_l01Time.f a = some (tI a) := by
  have := stime_nat ⟨a.toNat, by omega⟩
  simpa [tI, Int.toNat_of_nonneg h] using this
theorem itime {a : Int} (h : 0 ≤ a) (h' : a ≤ 36) : impl_timeOf.f a = some (tI a) := by
  have := itime_nat ⟨a.toNat, by omega⟩
  simpa [tI, Int.toNat_of_nonneg h] using this
theorem tm_lt_nat : ∀ i : Fin 37, ∀ j : Fin 37, i < j → tm i.val < tm j.val := by decide +kernel
theorem tm_bd_nat : ∀ i : Fin 37, 1000 ≤ tm i.val ∧ tm i.val ≤ 4096000 := by decide +kernel
theorem tI_lt {i j : Int} (h : 0 ≤ i) (h1 : i < j) (h2 : j ≤ 36) : tI i < tI j := tm_lt_nat ⟨i.toNat, by omega⟩ ⟨j.toNat, by omega⟩ (by show i.toNat < j.toNat; omega)
theorem tI_le {i j : Int} (h : 0 ≤ i) (h1 : i ≤ j) (h2 : j ≤ 36) : tI i ≤ tI j := by
  by_cases e : i = j
  · rw [e]; exact Int.le_refl _
  · have := tI_lt h (by omega) h2; omega
theorem tI_bd {i : Int} (h : 0 ≤ i) (h2 : i ≤ 36) : 1000 ≤ tI i ∧ tI i ≤ 4096000 := tm_bd_nat ⟨i.toNat, by omega⟩
theorem factor_l (a : Int) (ha : 1 ≤ a ∧ a ≤ 1000) (d : Nat) : ∀ (k : Nat) (x : Int), 0 ≤ x → x ≤ 30 → 30 - x = d → d < k → (∀ j, 0 ≤ j → j < x → tI j < 1000 * a) →
    ∃ r, spec_l01Factor.l0 k a x = some r ∧ impl_factorThirds.l0 k a x = some r ∧ 0 ≤ r ∧ r ≤ 30 ∧ 1000 * a ≤ tI r ∧ (∀ j, 0 ≤ j → j < r → tI j < 1000 * a) := by
  induction d with
  | zero =>
    intro k x h0 h1 hd hk hx
    obtain ⟨k, rfl⟩ : ∃ n, k = n + 1 := ⟨k - 1, by omega⟩
    have e : x = 30 := by omega
    subst e
    have e : tI 30 = 1024000 := by decide
    refine ⟨30, ?_, ?_, by omega, by omega, by omega, hx⟩
    · simp only [spec_l01Factor.l0]
      rw [stime (by omega) (by omega), w64 (by omega) (by omega), Option.bind_some, if_neg (by omega)]
    · simp only [impl_factorThirds.l0]
      rw [itime (by omega) (by omega), w64 (by omega) (by omega), Option.bind_some, if_neg (by omega)]
  | succ d ih =>
    intro k x h0 h1 hd hk hx
    obtain ⟨k, rfl⟩ : ∃ n, k = n + 1 := ⟨k - 1, by omega⟩
    simp only [spec_l01Factor.l0, impl_factorThirds.l0]
    rw [stime (by omega) (by omega), itime (by omega) (by omega), w64 (by omega) (by omega), w64 (by omega) (by omega), Option.bind_some, Option.bind_some]
    by_cases c : tI x < 1000 * a
    · rw [if_pos c, if_pos c]
      refine ih k (x + 1) (by omega) (by omega) (by omega) (by omega) (fun j j0 j1 => ?_)
      by_cases e : j = x
      · rw [e]; exact c
      · exact hx j j0 (by omega)
    · rw [if_neg c, if_neg c]
      exact ⟨x, rfl, rfl, h0, by omega, by omega, hx⟩
theorem factor_f (a : Int) (ha : 1 ≤ a ∧ a ≤ 1000) (k : Nat) (hk : 31 ≤ k) : ∃ r, spec_l01Factor.f k a = some r ∧ impl_factorThirds.f k a = some r ∧ 0 ≤ r ∧ r ≤ 30 ∧ 1000 * a ≤ tI r ∧ (∀ j, 0 ≤ j → j < r → tI j < 1000 * a) :=
  factor_l a ha 30 k 0 (by omega) (by omega) (by omega) (by omega) (fun j _ _ => by omega)
theorem FnExactFactorThirds : laws_FnExactFactorThirds.Pure := by
  intro a _
  refine ⟨40, ?_⟩
  unfold laws_FnExactFactorThirds.f spec_FactorThirds.f impl_FactorThirds.f impl_isFactor.f
  simp only [in_f, within_f, Option.bind_some]
  by_cases h : 1 ≤ a ∧ a ≤ 1000
  · obtain ⟨r, hr, hs, _⟩ := factor_f a h 40 (by omega)
    simp [h, hr, hs]
  · simp [h]

end Go.Proofs.Ytglgfobfmcipoaa.Pure
