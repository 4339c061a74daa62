/- Proves, in plain numbers and lists, that the law FnExactShutterName answers true at all inputs. No condition is added. -/
import Derived.Test.YtfhbjjkkhjijmaaDoorPFnExactShutterNamex0
import Derived.Test.YtfhbjjkkhjijmaaDoorPFnExactShutterNamex1
namespace Go.Proofs.YtfhbjjkkhjijmaaDoor.Pure
open Go.RowKit Go.Proofs.YtfhbjjkkhjijmaaDoor.PFnExactShutterName Go.Proofs.YtfhbjjkkhjijmaaDoorW.PrintWords Go.Proofs.YtfhbjjkkhjijmaaDoorW.PrintLast Go.Proofs.YtfhbjjkkhjijmaaDoorW.PrintMore
set_option linter.unusedVariables false
set_option linter.unusedSimpArgs false
theorem in_f (a b c : Int) : spec_l00In.f a b c = some (decide (b ≤ a ∧ a ≤ c)) := by
  unfold spec_l00In.f
  by_cases h : b ≤ a <;> simp [h]
theorem within_f (a b c : Int) : impl_within.f a b c = some (decide (b ≤ a ∧ a ≤ c)) := by
  unfold impl_within.f
  by_cases h : b ≤ a <;> simp [h]
theorem name_of {s i : Option ByteArray} (h : (decide (s = i) && i.isSome) = true) : ∃ v, s = some v ∧ i = some v := by
  cases i with
  | none => simp at h
  | some v => exact ⟨v, by simpa using h, rfl⟩
theorem all_names : (List.range (45 + 1)).all (fun n => decide (spec_ShutterName.f 20 (n : Int) = impl_ShutterName.f (n : Int)) && (impl_ShutterName.f (n : Int)).isSome) = true := by kernel_rfl
theorem FnExactShutterName : laws_FnExactShutterName.Pure := by
  intro a _
  refine ⟨20, ?_⟩
  unfold laws_FnExactShutterName.f
  by_cases h : 0 ≤ a ∧ a ≤ 45
  · obtain ⟨n, rfl⟩ : ∃ n : Nat, a = n := ⟨a.toNat, by omega⟩
    have q := List.all_eq_true.1 all_names n (List.mem_range.2 (by omega))
    obtain ⟨v, e1, e2⟩ := name_of q
    rw [e1, e2, Option.bind_some, Option.bind_some, if_pos rfl]
  · unfold spec_ShutterName.f impl_ShutterName.f impl_thirdName.f
    simp only [in_f, within_f, h, decide_false, Option.bind_some, Bool.false_eq_true, if_false, if_true]

end Go.Proofs.YtfhbjjkkhjijmaaDoor.Pure
