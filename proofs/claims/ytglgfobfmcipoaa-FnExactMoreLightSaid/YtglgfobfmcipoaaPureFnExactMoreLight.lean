/- Proves, in plain numbers and lists, that the law FnExactMoreLight answers true at all inputs. No condition is added. -/
import Derived.Test.YtglgfobfmcipoaaPFnExactMoreLightx0
import Derived.Test.YtglgfobfmcipoaaPFnExactMoreLightx1
namespace Go.Proofs.Ytglgfobfmcipoaa.Pure
open Go.RowKit Go.Proofs.Ytglgfobfmcipoaa.PFnExactMoreLight Go.Proofs.YtglgfobfmcipoaaW.PrintWords Go.Proofs.YtglgfobfmcipoaaW.PrintLast Go.Proofs.YtglgfobfmcipoaaW.PrintMore
set_option linter.unusedVariables false
set_option linter.unusedSimpArgs false
theorem w64 {x : Int} (h : -9223372036854775808 ≤ x) (h' : x ≤ 9223372036854775807) : wrap64 x = x := by unfold wrap64; omega
theorem wf8 {x : Int} (h : (Lit.int .i8 x).wf = true) : -128 ≤ x ∧ x ≤ 127 := by
  have h2 : (decide ((-128 : Int) ≤ x) && decide (x ≤ 127)) = true := h
  simpa using h2
theorem wf16 {x : Int} (h : (Lit.int .i16 x).wf = true) : -32768 ≤ x ∧ x ≤ 32767 := by
  have h2 : (decide ((-32768 : Int) ≤ x) && decide (x ≤ 32767)) = true := h
  simpa using h2
theorem wf64 {x : Int} (h : (Lit.int .i64 x).wf = true) : -9223372036854775808 ≤ x ∧ x ≤ 9223372036854775807 := by
  have h2 : (decide ((-9223372036854775808 : Int) ≤ x) && decide (x ≤ 9223372036854775807)) = true := h
  simpa using h2
theorem wfu64 {x : Int} (h : (Lit.int .u64 x).wf = true) : 0 ≤ x ∧ x ≤ 18446744073709551615 := by
  have h2 : (decide ((0 : Int) ≤ x) && decide (x ≤ 18446744073709551615)) = true := h
  simpa using h2
theorem i8w {x : Int} (h : -128 ≤ x) (h' : x ≤ 127) : IntKind.i8.wrap x = x := by
  show (if (true && decide (x % 256 ≥ 128)) = true then x % 256 - 256 else x % 256) = x
  by_cases e : x % 256 ≥ 128
  · rw [if_pos (by simpa using e)]; omega
  · rw [if_neg (by simpa using e)]; omega
theorem i16w {x : Int} (h : -32768 ≤ x) (h' : x ≤ 32767) : IntKind.i16.wrap x = x := by
  show (if (true && decide (x % 65536 ≥ 32768)) = true then x % 65536 - 65536 else x % 65536) = x
  by_cases e : x % 65536 ≥ 32768
  · rw [if_pos (by simpa using e)]; omega
  · rw [if_neg (by simpa using e)]; omega
theorem u64w {x : Int} (h : 0 ≤ x) (h' : x ≤ 18446744073709551615) : IntKind.u64.wrap x = x := by
  show (if (false && decide (x % 18446744073709551616 ≥ 9223372036854775808)) = true then x % 18446744073709551616 - 18446744073709551616 else x % 18446744073709551616) = x
  rw [if_neg (by simp)]; omega
theorem in_f (a b c : Int) : spec_l00In.f a b c = some (decide (b ≤ a ∧ a ≤ c)) := by
  unfold spec_l00In.f
  by_cases h : b ≤ a <;> simp [h]
theorem within_f (a b c : Int) : impl_within.f a b c = some (decide (b ≤ a ∧ a ≤ c)) := by
  unfold impl_within.f
  by_cases h : b ≤ a <;> simp [h]
theorem ok_f {a b c : Int} (ha : -128 ≤ a ∧ a ≤ 127) (hb : -128 ≤ b ∧ b ≤ 127) (hc : -128 ≤ c ∧ c ≤ 127) : spec_l01Ok.f a b c = some (decide ((0 ≤ a ∧ a ≤ 45) ∧ (0 ≤ b ∧ b ≤ 30) ∧ (0 ≤ c ∧ c ≤ 21))) := by
  unfold spec_l01Ok.f
  rw [w64 (by omega) (by omega), w64 (by omega) (by omega), w64 (by omega) (by omega)]
  simp only [in_f, Option.bind_some]
  by_cases h1 : 0 ≤ a ∧ a ≤ 45 <;> by_cases h2 : 0 ≤ b ∧ b ≤ 30 <;> simp [h1, h2]
theorem valid_f {a b c : Int} (ha : -128 ≤ a ∧ a ≤ 127) (hb : -128 ≤ b ∧ b ≤ 127) (hc : -128 ≤ c ∧ c ≤ 127) : impl_ValidSetting.f a b c = some (decide ((0 ≤ a ∧ a ≤ 45) ∧ (0 ≤ b ∧ b ≤ 30) ∧ (0 ≤ c ∧ c ≤ 21))) := by
  unfold impl_ValidSetting.f impl_isShutter.f
  rw [w64 (by omega) (by omega), w64 (by omega) (by omega), w64 (by omega) (by omega)]
  simp only [within_f, Option.bind_some]
  by_cases h1 : 0 ≤ a ∧ a ≤ 45 <;> by_cases h2 : 0 ≤ b ∧ b ≤ 30 <;> simp [h1, h2]
theorem mxmn (t : Int) : mn 45 (mx 0 t) = (if 0 < (if 45 < t then 45 else t) then (if 45 < t then 45 else t) else 0) := by
  unfold mn mx
  repeat' split
  all_goals omega
theorem more_f {a b c t : Int} (ha : 0 ≤ a ∧ a ≤ 45) (hb : 0 ≤ b ∧ b ≤ 30) (hc : 0 ≤ c ∧ c ≤ 21) (ht : -100 ≤ t ∧ t ≤ 100) :
    ∃ s p : Int, (0 ≤ s ∧ s ≤ 45) ∧ p = b - (t - (s - a)) ∧ (s = 45 ∨ s = 0 ∨ s = a + t) ∧ (s = a + t ∨ a + t < s ∧ s = 0 ∨ s < a + t ∧ s = 45) ∧ (0 ≤ p ∧ p ≤ 30 → spec_l01More.f a b c t = some (s, p, c, true) ∧ impl_Setting_more.f a b c t = some (s, p, c, 0)) ∧
      (¬ (0 ≤ p ∧ p ≤ 30) → spec_l01More.f a b c t = some (0, 0, 0, false) ∧ impl_Setting_more.f a b c t = some (0, 0, 0, 6)) := by
  obtain ⟨s, hs⟩ : ∃ s, s = mn 45 (mx 0 (a + t)) := ⟨_, rfl⟩
  have hs' := hs
  rw [mxmn] at hs'
  have hb2 : (0 ≤ s ∧ s ≤ 45) ∧ (s = 45 ∨ s = 0 ∨ s = a + t) ∧ (s = a + t ∨ a + t < s ∧ s = 0 ∨ s < a + t ∧ s = 45) := by
    rw [hs']
    repeat' split
    all_goals omega
  obtain ⟨sb, s3, s4⟩ := hb2
  refine ⟨s, b - (t - (s - a)), sb, rfl, s3, s4, ?_⟩
  have e1 : spec_l01More.f a b c t = (if 0 ≤ b - (t - (s - a)) ∧ b - (t - (s - a)) ≤ 30 then some (s, b - (t - (s - a)), c, true) else some (0, 0, 0, false)) := by
    unfold spec_l01More.f spec_l00Min.f spec_l00Max.f
    rw [w64 (x := a) (by omega) (by omega), w64 (x := b) (by omega) (by omega), w64 (x := a + t) (by omega) (by omega)]
    have e0 : (if (45 : Int) < a + t then some 45 else some (a + t)) = some (if 45 < a + t then 45 else a + t) := by split <;> rfl
    rw [e0, Option.bind_some]
    have e0 : (if 0 > (if 45 < a + t then 45 else a + t) then some 0 else some (if 45 < a + t then 45 else a + t)) = some s := by
      rw [hs']
      repeat' split
      all_goals first | rfl | (congr 1; omega)
    rw [e0, Option.bind_some, w64 (x := s - a) (by omega) (by omega), w64 (x := t - (s - a)) (by omega) (by omega), w64 (x := b - (t - (s - a))) (by omega) (by omega), in_f, Option.bind_some]
    by_cases g : 0 ≤ b - (t - (s - a)) ∧ b - (t - (s - a)) ≤ 30
    · rw [if_pos (by simpa using g), if_pos g, i8w (by omega) (by omega), i8w (by omega) (by omega)]
    · rw [if_neg (by simpa using g), if_neg g]
  have e2 : impl_Setting_more.f a b c t = (if 0 ≤ b - (t - (s - a)) ∧ b - (t - (s - a)) ≤ 30 then some (s, b - (t - (s - a)), c, 0) else some (0, 0, 0, 6)) := by
    unfold impl_Setting_more.f
    rw [w64 (x := a) (by omega) (by omega), w64 (x := b) (by omega) (by omega), w64 (x := a + t) (by omega) (by omega), ← hs]
    rw [w64 (x := s - a) (by omega) (by omega), w64 (x := t - (s - a)) (by omega) (by omega), w64 (x := b - (t - (s - a))) (by omega) (by omega), within_f, Option.bind_some]
    by_cases g : 0 ≤ b - (t - (s - a)) ∧ b - (t - (s - a)) ≤ 30
    · rw [if_pos (by simpa using g), if_pos g, i8w (x := b - (t - (s - a))) (by omega) (by omega)]
      try rw [i8w (x := s) (by omega) (by omega)]
    · rw [if_neg (by simpa using g), if_neg g]
  exact ⟨fun g => ⟨by rw [e1, if_pos g], by rw [e2, if_pos g]⟩, fun g => ⟨by rw [e1, if_neg g], by rw [e2, if_neg g]⟩⟩
theorem more_same {a b c t : Int} (ha : 0 ≤ a ∧ a ≤ 45) (hb : 0 ≤ b ∧ b ≤ 30) (hc : 0 ≤ c ∧ c ≤ 21) (ht : -100 ≤ t ∧ t ≤ 100) :
    ∃ s p q, (spec_l01More.f a b c t = some (s, p, q, true) ∧ impl_Setting_more.f a b c t = some (s, p, q, 0)) ∨ (spec_l01More.f a b c t = some (0, 0, 0, false) ∧ impl_Setting_more.f a b c t = some (0, 0, 0, 6)) := by
  obtain ⟨s, p, _, _, _, _, h1, h2⟩ := more_f ha hb hc ht
  by_cases g : 0 ≤ p ∧ p ≤ 30
  · exact ⟨s, p, c, .inl (h1 g)⟩
  · exact ⟨s, p, c, .inr (h2 g)⟩
theorem FnExactMoreLight : laws_FnExactMoreLight.Pure := by
  intro a b c t ha hb hc _
  unfold laws_FnExactMoreLight.f laws_toSetting.f spec_MoreLight.f impl_MoreLight.f laws_eqSetting.f
  simp only [Option.bind_some]
  rw [ok_f (wf8 ha) (wf8 hb) (wf8 hc), valid_f (wf8 ha) (wf8 hb) (wf8 hc)]
  simp only [Option.bind_some, in_f, within_f]
  by_cases h : (0 ≤ a ∧ a ≤ 45) ∧ (0 ≤ b ∧ b ≤ 30) ∧ (0 ≤ c ∧ c ≤ 21)
  · by_cases h' : -100 ≤ t ∧ t ≤ 100
    · obtain ⟨s, p, q, ⟨e1, e2⟩ | ⟨e1, e2⟩⟩ := more_same h.1 h.2.1 h.2.2 h' <;> simp [h, h', e1, e2]
    · simp [h, h']
  · simp [h]

end Go.Proofs.Ytglgfobfmcipoaa.Pure
