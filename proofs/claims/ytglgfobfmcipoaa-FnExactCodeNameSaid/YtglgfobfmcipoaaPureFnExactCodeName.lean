/- Proves, in plain numbers and lists, that the law FnExactCodeName answers true at all inputs. No condition is added. -/
import Derived.Test.YtglgfobfmcipoaaPFnExactCodeNamex0
import Derived.Test.YtglgfobfmcipoaaPFnExactCodeNamex1
namespace Go.Proofs.Ytglgfobfmcipoaa.Pure
open Go.RowKit Go.Proofs.Ytglgfobfmcipoaa.PFnExactCodeName Go.Proofs.YtglgfobfmcipoaaW.PrintWords Go.Proofs.YtglgfobfmcipoaaW.PrintLast Go.Proofs.YtglgfobfmcipoaaW.PrintMore
theorem in_f (a b c : Int) : spec_l00In.f a b c = some (decide (b ≤ a ∧ a ≤ c)) := by
  unfold spec_l00In.f
  by_cases h : b ≤ a <;> simp [h]
theorem within_f (a b c : Int) : impl_within.f a b c = some (decide (b ≤ a ∧ a ≤ c)) := by
  unfold impl_within.f
  by_cases h : b ≤ a <;> simp [h]
theorem FnExactCodeName : laws_FnExactCodeName.Pure := by
  intro a _
  unfold laws_FnExactCodeName.f spec_CodeName.f impl_CodeName.f
  simp only [in_f, within_f, Option.bind_some]
  by_cases h : 0 ≤ a ∧ a ≤ 8
  · have h1 : a < 9 := by omega
    simp [h, h1]
  · simp [h]

end Go.Proofs.Ytglgfobfmcipoaa.Pure
