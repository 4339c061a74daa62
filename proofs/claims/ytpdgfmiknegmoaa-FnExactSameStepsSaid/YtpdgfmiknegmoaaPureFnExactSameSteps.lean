/- Proves, in plain numbers and lists, that the law FnExactSameSteps answers true at all inputs. No condition is added. -/
import Derived.Test.YtpdgfmiknegmoaaPFnExactSameStepsx0
import Derived.Test.YtpdgfmiknegmoaaPFnExactSameStepsx1
import Derived.Test.YtpdgfmiknegmoaaPFnExactSameStepsx2
import Derived.Test.YtpdgfmiknegmoaaPFnExactSameStepsx3
namespace Go.Proofs.Ytpdgfmiknegmoaa.Pure
open Go.RowKit Go.Proofs.Ytpdgfmiknegmoaa.PFnExactSameSteps Go.Proofs.YtpdgfmiknegmoaaW.PrintWords Go.Proofs.YtpdgfmiknegmoaaW.PrintLast Go.Proofs.YtpdgfmiknegmoaaW.PrintMore
set_option linter.unusedVariables false
set_option linter.unusedSimpArgs false
theorem w64 {x : Int} (h : -9223372036854775808 ≤ x) (h' : x ≤ 9223372036854775807) : wrap64 x = x := by unfold wrap64; omega
theorem wf8 {x : Int} (h : (Lit.int .i8 x).wf = true) : -128 ≤ x ∧ x ≤ 127 := by
  have h2 : (decide ((-128 : Int) ≤ x) && decide (x ≤ 127)) = true := h
  simpa using h2
theorem wf16 {x : Int} (h : (Lit.int .i16 x).wf = true) : -32768 ≤ x ∧ x ≤ 32767 := by
  have h2 : (decide ((-32768 : Int) ≤ x) && decide (x ≤ 32767)) = true := h
  simpa using h2
theorem wf64 {x : Int} (h : (Lit.int .i64 x).wf = true) : -9223372036854775808 ≤ x ∧ x ≤ 9223372036854775807 := by
  have h2 : (decide ((-9223372036854775808 : Int) ≤ x) && decide (x ≤ 9223372036854775807)) = true := h
  simpa using h2
theorem wfu64 {x : Int} (h : (Lit.int .u64 x).wf = true) : 0 ≤ x ∧ x ≤ 18446744073709551615 := by
  have h2 : (decide ((0 : Int) ≤ x) && decide (x ≤ 18446744073709551615)) = true := h
  simpa using h2
theorem i8w {x : Int} (h : -128 ≤ x) (h' : x ≤ 127) : IntKind.i8.wrap x = x := by
  show (if (true && decide (x % 256 ≥ 128)) = true then x % 256 - 256 else x % 256) = x
  by_cases e : x % 256 ≥ 128
  · rw [if_pos (by simpa using e)]; omega
  · rw [if_neg (by simpa using e)]; omega
theorem i16w {x : Int} (h : -32768 ≤ x) (h' : x ≤ 32767) : IntKind.i16.wrap x = x := by
  show (if (true && decide (x % 65536 ≥ 32768)) = true then x % 65536 - 65536 else x % 65536) = x
  by_cases e : x % 65536 ≥ 32768
  · rw [if_pos (by simpa using e)]; omega
  · rw [if_neg (by simpa using e)]; omega
theorem u64w {x : Int} (h : 0 ≤ x) (h' : x ≤ 18446744073709551615) : IntKind.u64.wrap x = x := by
  show (if (false && decide (x % 18446744073709551616 ≥ 9223372036854775808)) = true then x % 18446744073709551616 - 18446744073709551616 else x % 18446744073709551616) = x
  rw [if_neg (by simp)]; omega
theorem szStepS_f (l : List S60) (hl : l.length ≤ 9223372036854775807) : laws_szStepS.f l 1048576 = some (if l.length ≤ 1048576 then 1048576 - (l.length : Int) else -1) := by
  unfold laws_szStepS.f
  rw [w64 (by omega) (by omega)]
  by_cases c : l.length ≤ 1048576
  · rw [if_neg (by omega), if_pos c]
  · rw [if_pos (by omega), if_neg c]
theorem szStepS_g (l : List S60) (a : Int) (ha : 0 ≤ a ∧ a ≤ 1048576) (hl : l.length ≤ 9223372036854775807) : laws_szStepS.f l a = some (if (l.length : Int) ≤ a then a - (l.length : Int) else -1) := by
  unfold laws_szStepS.f
  rw [w64 (by omega) (by omega)]
  by_cases c : (l.length : Int) ≤ a
  · rw [if_neg (by omega), if_pos c]
  · rw [if_pos (by omega), if_neg c]
theorem set_nextg {α β : Type} (f : α → β) (z : β) (d : α) (l : List α) (i : Nat) (h : i < l.length) : ((l.take i).map f ++ List.replicate (l.length - i) z).set i (f (l.getD i d)) = (l.take (i + 1)).map f ++ List.replicate (l.length - (i + 1)) z := by
  apply List.ext_getElem
  · simp; omega
  · intro j h1 h2
    simp only [List.getElem_set, List.getElem_append, List.length_map, List.length_take, List.getElem_map, List.getElem_take, List.getElem_replicate]
    by_cases e : i = j
    · subst e
      rw [if_pos rfl, dif_pos (by omega)]
      simp [h]
    · rw [if_neg e]
      by_cases c : j < i
      · rw [dif_pos (by omega), dif_pos (by omega)]
      · rw [dif_neg (by omega), dif_neg (by omega)]
theorem getD_mem {α : Type} (l : List α) (i : Nat) (d : α) (h : i < l.length) : l.getD i d ∈ l := by
  rw [List.getD_eq_getElem?_getD, List.getElem?_eq_getElem h]
  exact List.getElem_mem h
theorem getD_set_ne {α : Type} (l : List α) (i j : Nat) (x d : α) (h : i ≠ j) : (l.set i x).getD j d = l.getD j d := by
  simp [List.getD_eq_getElem?_getD, List.getElem?_set_ne h]
theorem getD_set_eq {α : Type} (l : List α) (i : Nat) (x d : α) (h : i < l.length) : (l.set i x).getD i d = x := by
  simp [List.getD_eq_getElem?_getD, List.getElem?_set_self h]
def cvStepS (x : S60) : S57 := ⟨x.f0, x.f1⟩
theorem toStepS_l (l : List S60) (hl : l.length ≤ 1048576) (d : Nat) : ∀ (k : Nat) (i : Nat), i ≤ l.length → l.length - i = d → d < k → laws_toStepS.l0 k l ((l.take i).map cvStepS ++ List.replicate (l.length - i) z57) i = some (l.map cvStepS) := by
  induction d with
  | zero =>
    intro k i h0 hd hk
    obtain ⟨k, rfl⟩ : ∃ n, k = n + 1 := ⟨k - 1, by omega⟩
    have e : i = l.length := by omega
    subst e
    simp only [laws_toStepS.l0]
    rw [if_neg (by omega)]
    simp
  | succ d ih =>
    intro k i h0 hd hk
    obtain ⟨k, rfl⟩ : ∃ n, k = n + 1 := ⟨k - 1, by omega⟩
    simp only [laws_toStepS.l0, laws_toStep.f, Option.bind_some]
    rw [if_pos (by omega), if_pos (by omega), if_pos (by simp; omega), w64 (by omega) (by omega)]
    have e := ih k (i + 1) (by omega) (by omega) (by omega)
    rw [← set_nextg cvStepS z57 z60 l i (by omega)] at e
    simpa [rd_T60, cvStepS] using e
theorem toStepS_f (l : List S60) (hl : l.length ≤ 1048576) (k : Nat) (hk : l.length < k) : laws_toStepS.f k l = some (l.map cvStepS) := by
  have e := toStepS_l l hl l.length k 0 (by omega) (by omega) hk
  unfold laws_toStepS.f
  rw [if_pos (by omega), if_pos (by omega)]
  simpa using e
theorem eqStepS_l (l : List S57) (hl : l.length ≤ 1048576) (d : Nat) : ∀ (k : Nat) (i : Nat), i ≤ l.length → l.length - i = d → d < k → laws_eqStepS.l0 k l l i = some true := by
  induction d with
  | zero =>
    intro k i h0 hd hk
    obtain ⟨k, rfl⟩ : ∃ n, k = n + 1 := ⟨k - 1, by omega⟩
    simp only [laws_eqStepS.l0]
    rw [if_neg (by omega)]
  | succ d ih =>
    intro k i h0 hd hk
    obtain ⟨k, rfl⟩ : ∃ n, k = n + 1 := ⟨k - 1, by omega⟩
    simp only [laws_eqStepS.l0, laws_eqStep.f, if_true, Option.bind_some]
    rw [if_pos (by omega), if_pos (by omega), if_pos (by omega), w64 (by omega) (by omega)]
    exact ih k (i + 1) (by omega) (by omega) (by omega)
theorem eqStepS_f (l : List S57) (hl : l.length ≤ 1048576) (k : Nat) (hk : l.length < k) : laws_eqStepS.f k l l = some true := by
  unfold laws_eqStepS.f
  rw [if_pos rfl]
  exact eqStepS_l l hl l.length k 0 (by omega) (by omega) hk
theorem same_l (a b : List S57) (ha : a.length ≤ 1048576) (hab : a.length = b.length) (d : Nat) : ∀ (k i : Nat), i ≤ a.length → a.length - i = d → d < k →
    ∃ r, spec_SameSteps.l0 k a b i = some r ∧ impl_Step.l0 k a b (a.length : Int) i = some r := by
  induction d with
  | zero =>
    intro k i h0 hd hk
    obtain ⟨k, rfl⟩ : ∃ n, k = n + 1 := ⟨k - 1, by omega⟩
    simp only [spec_SameSteps.l0, impl_Step.l0]
    have g1 : ¬ (i : Int) < (a.length : Int) := by omega
    simp only [g1, if_false]
    exact ⟨_, rfl, rfl⟩
  | succ d ih =>
    intro k i h0 hd hk
    obtain ⟨k, rfl⟩ : ∃ n, k = n + 1 := ⟨k - 1, by omega⟩
    simp only [spec_SameSteps.l0, impl_Step.l0]
    have g1 : (i : Int) < (a.length : Int) := by omega
    have g2 : (i : Int) < (b.length : Int) := by omega
    have g3 : 0 ≤ (i : Int) := by omega
    simp only [g1, g2, g3, if_true]
    rw [w64 (x := (i : Int) + 1) (by omega) (by omega)]
    split
    · exact ⟨_, rfl, rfl⟩
    · exact ih k (i + 1) (by omega) (by omega) (by omega)
theorem same_f (a b : List S57) (ha : a.length ≤ 1048576) (k : Nat) (hk : a.length < k) : ∃ r, spec_SameSteps.f k a b = some r ∧ impl_Step.f k a b = some r := by
  unfold spec_SameSteps.f impl_Step.f
  by_cases c : (a.length : Int) = (b.length : Int)
  · simp only [c, if_true]
    have := same_l a b ha (by omega) a.length k 0 (by omega) (by omega) hk
    rw [c] at this
    exact this
  · simp only [c, if_false]
    exact ⟨_, rfl, rfl⟩
theorem FnExactSameSteps : laws_FnExactSameSteps.Pure := by
  intro l m h0 h1 _ _
  refine ⟨1048580, ?_⟩
  unfold laws_FnExactSameSteps.f
  rw [szStepS_g l 1048576 (by omega) (by omega), Option.bind_some]
  by_cases c : (l.length : Int) ≤ 1048576
  · rw [if_pos c, if_neg (by omega), szStepS_g m (1048576 - (l.length : Int)) (by omega) (by omega), Option.bind_some]
    by_cases c' : (m.length : Int) ≤ 1048576 - (l.length : Int)
    · rw [if_pos c', if_neg (by omega), toStepS_f l (by omega) _ (by omega), toStepS_f m (by omega) _ (by omega)]
      have hl : (l.map cvStepS).length ≤ 1048576 := by rw [List.length_map]; omega
      have hm : (m.map cvStepS).length ≤ 1048576 := by rw [List.length_map]; omega
      obtain ⟨r, e1, e2⟩ := same_f (l.map cvStepS) (m.map cvStepS) hl 1048580 (by omega)
      simp only [Option.bind_some, impl_SameSteps.f, e1, e2, eqStepS_f _ hl 1048580 (by omega), eqStepS_f _ hm 1048580 (by omega), bne_self_eq_false, Bool.false_eq_true, if_false, if_true]
    · rw [if_neg c', if_pos (by omega)]
  · rw [if_neg c, if_pos (by omega)]

end Go.Proofs.Ytpdgfmiknegmoaa.Pure
