/- Proves, in plain numbers and lists, that the law FnExactValueOf answers true at all inputs. No condition is added. -/
import Derived.Test.YtglgfobfmcipoaaPFnExactValueOfx0
import Derived.Test.YtglgfobfmcipoaaPFnExactValueOfx1
namespace Go.Proofs.Ytglgfobfmcipoaa.Pure
open Go.RowKit Go.Proofs.Ytglgfobfmcipoaa.PFnExactValueOf Go.Proofs.YtglgfobfmcipoaaW.PrintWords Go.Proofs.YtglgfobfmcipoaaW.PrintLast Go.Proofs.YtglgfobfmcipoaaW.PrintMore
theorem w64 {x : Int} (h : -9223372036854775808 ≤ x) (h' : x ≤ 9223372036854775807) : wrap64 x = x := by unfold wrap64; omega
theorem wf8 {x : Int} (h : (Lit.int .i8 x).wf = true) : -128 ≤ x ∧ x ≤ 127 := by
  have h2 : (decide ((-128 : Int) ≤ x) && decide (x ≤ 127)) = true := h
  simpa using h2
theorem wf16 {x : Int} (h : (Lit.int .i16 x).wf = true) : -32768 ≤ x ∧ x ≤ 32767 := by
  have h2 : (decide ((-32768 : Int) ≤ x) && decide (x ≤ 32767)) = true := h
  simpa using h2
theorem wf64 {x : Int} (h : (Lit.int .i64 x).wf = true) : -9223372036854775808 ≤ x ∧ x ≤ 9223372036854775807 := by
  have h2 : (decide ((-9223372036854775808 : Int) ≤ x) && decide (x ≤ 9223372036854775807)) = true := h
  simpa using h2
theorem wfu64 {x : Int} (h : (Lit.int .u64 x).wf = true) : 0 ≤ x ∧ x ≤ 18446744073709551615 := by
  have h2 : (decide ((0 : Int) ≤ x) && decide (x ≤ 18446744073709551615)) = true := h
  simpa using h2
theorem i8w {x : Int} (h : -128 ≤ x) (h' : x ≤ 127) : IntKind.i8.wrap x = x := by
  show (if (true && decide (x % 256 ≥ 128)) = true then x % 256 - 256 else x % 256) = x
  by_cases e : x % 256 ≥ 128
  · rw [if_pos (by simpa using e)]; omega
  · rw [if_neg (by simpa using e)]; omega
theorem i16w {x : Int} (h : -32768 ≤ x) (h' : x ≤ 32767) : IntKind.i16.wrap x = x := by
  show (if (true && decide (x % 65536 ≥ 32768)) = true then x % 65536 - 65536 else x % 65536) = x
  by_cases e : x % 65536 ≥ 32768
  · rw [if_pos (by simpa using e)]; omega
  · rw [if_neg (by simpa using e)]; omega
theorem u64w {x : Int} (h : 0 ≤ x) (h' : x ≤ 18446744073709551615) : IntKind.u64.wrap x = x := by
  show (if (false && decide (x % 18446744073709551616 ≥ 9223372036854775808)) = true then x % 18446744073709551616 - 18446744073709551616 else x % 18446744073709551616) = x
  rw [if_neg (by simp)]; omega
theorem in_f (a b c : Int) : spec_l00In.f a b c = some (decide (b ≤ a ∧ a ≤ c)) := by
  unfold spec_l00In.f
  by_cases h : b ≤ a <;> simp [h]
theorem within_f (a b c : Int) : impl_within.f a b c = some (decide (b ≤ a ∧ a ≤ c)) := by
  unfold impl_within.f
  by_cases h : b ≤ a <;> simp [h]
theorem ok_f {a b c : Int} (ha : -128 ≤ a ∧ a ≤ 127) (hb : -128 ≤ b ∧ b ≤ 127) (hc : -128 ≤ c ∧ c ≤ 127) : spec_l01Ok.f a b c = some (decide ((0 ≤ a ∧ a ≤ 45) ∧ (0 ≤ b ∧ b ≤ 30) ∧ (0 ≤ c ∧ c ≤ 21))) := by
  unfold spec_l01Ok.f
  rw [w64 (by omega) (by omega), w64 (by omega) (by omega), w64 (by omega) (by omega)]
  simp only [in_f, Option.bind_some]
  by_cases h1 : 0 ≤ a ∧ a ≤ 45 <;> by_cases h2 : 0 ≤ b ∧ b ≤ 30 <;> simp [h1, h2]
theorem valid_f {a b c : Int} (ha : -128 ≤ a ∧ a ≤ 127) (hb : -128 ≤ b ∧ b ≤ 127) (hc : -128 ≤ c ∧ c ≤ 127) : impl_ValidSetting.f a b c = some (decide ((0 ≤ a ∧ a ≤ 45) ∧ (0 ≤ b ∧ b ≤ 30) ∧ (0 ≤ c ∧ c ≤ 21))) := by
  unfold impl_ValidSetting.f impl_isShutter.f
  rw [w64 (by omega) (by omega), w64 (by omega) (by omega), w64 (by omega) (by omega)]
  simp only [within_f, Option.bind_some]
  by_cases h1 : 0 ≤ a ∧ a ≤ 45 <;> by_cases h2 : 0 ≤ b ∧ b ≤ 30 <;> simp [h1, h2]
theorem FnExactValueOf : laws_FnExactValueOf.Pure := by
  intro a b c ha hb hc
  unfold laws_FnExactValueOf.f laws_toSetting.f spec_ValueOf.f impl_ValueOf.f spec_l01Value.f impl_Setting_value.f
  simp only [Option.bind_some]
  rw [ok_f (wf8 ha) (wf8 hb) (wf8 hc), valid_f (wf8 ha) (wf8 hb) (wf8 hc)]
  simp only [Option.bind_some]
  split <;> simp

end Go.Proofs.Ytglgfobfmcipoaa.Pure
