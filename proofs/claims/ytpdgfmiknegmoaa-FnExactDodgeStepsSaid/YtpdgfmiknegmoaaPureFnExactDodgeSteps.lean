/- Proves, in plain numbers and lists, that the law FnExactDodgeSteps answers true at all inputs. No condition is added. -/
import Derived.Test.YtpdgfmiknegmoaaPFnExactDodgeStepsx0
import Derived.Test.YtpdgfmiknegmoaaPFnExactDodgeStepsx1
import Derived.Test.YtpdgfmiknegmoaaPFnExactDodgeStepsx2
namespace Go.Proofs.Ytpdgfmiknegmoaa.Pure
open Go.RowKit Go.Proofs.Ytpdgfmiknegmoaa.PFnExactDodgeSteps Go.Proofs.YtpdgfmiknegmoaaW.PrintWords Go.Proofs.YtpdgfmiknegmoaaW.PrintLast Go.Proofs.YtpdgfmiknegmoaaW.PrintMore
set_option linter.unusedVariables false
set_option linter.unusedSimpArgs false
theorem in_f (a b c : Int) : spec_l00In.f a b c = some (decide (b ≤ a ∧ a ≤ c)) := by
  unfold spec_l00In.f
  by_cases h : b ≤ a <;> simp [h]
theorem within_f (a b c : Int) : impl_within.f a b c = some (decide (b ≤ a ∧ a ≤ c)) := by
  unfold impl_within.f
  by_cases h : b ≤ a <;> simp [h]
theorem w64 {x : Int} (h : -9223372036854775808 ≤ x) (h' : x ≤ 9223372036854775807) : wrap64 x = x := by unfold wrap64; omega
theorem wf8 {x : Int} (h : (Lit.int .i8 x).wf = true) : -128 ≤ x ∧ x ≤ 127 := by
  have h2 : (decide ((-128 : Int) ≤ x) && decide (x ≤ 127)) = true := h
  simpa using h2
theorem wf16 {x : Int} (h : (Lit.int .i16 x).wf = true) : -32768 ≤ x ∧ x ≤ 32767 := by
  have h2 : (decide ((-32768 : Int) ≤ x) && decide (x ≤ 32767)) = true := h
  simpa using h2
theorem wf64 {x : Int} (h : (Lit.int .i64 x).wf = true) : -9223372036854775808 ≤ x ∧ x ≤ 9223372036854775807 := by
  have h2 : (decide ((-9223372036854775808 : Int) ≤ x) && decide (x ≤ 9223372036854775807)) = true := h
  simpa using h2
theorem wfu64 {x : Int} (h : (Lit.int .u64 x).wf = true) : 0 ≤ x ∧ x ≤ 18446744073709551615 := by
  have h2 : (decide ((0 : Int) ≤ x) && decide (x ≤ 18446744073709551615)) = true := h
  simpa using h2
theorem i8w {x : Int} (h : -128 ≤ x) (h' : x ≤ 127) : IntKind.i8.wrap x = x := by
  show (if (true && decide (x % 256 ≥ 128)) = true then x % 256 - 256 else x % 256) = x
  by_cases e : x % 256 ≥ 128
  · rw [if_pos (by simpa using e)]; omega
  · rw [if_neg (by simpa using e)]; omega
theorem i16w {x : Int} (h : -32768 ≤ x) (h' : x ≤ 32767) : IntKind.i16.wrap x = x := by
  show (if (true && decide (x % 65536 ≥ 32768)) = true then x % 65536 - 65536 else x % 65536) = x
  by_cases e : x % 65536 ≥ 32768
  · rw [if_pos (by simpa using e)]; omega
  · rw [if_neg (by simpa using e)]; omega
theorem u64w {x : Int} (h : 0 ≤ x) (h' : x ≤ 18446744073709551615) : IntKind.u64.wrap x = x := by
  show (if (false && decide (x % 18446744073709551616 ≥ 9223372036854775808)) = true then x % 18446744073709551616 - 18446744073709551616 else x % 18446744073709551616) = x
  rw [if_neg (by simp)]; omega
theorem set_nextg {α β : Type} (f : α → β) (z : β) (d : α) (l : List α) (i : Nat) (h : i < l.length) : ((l.take i).map f ++ List.replicate (l.length - i) z).set i (f (l.getD i d)) = (l.take (i + 1)).map f ++ List.replicate (l.length - (i + 1)) z := by
  apply List.ext_getElem
  · simp; omega
  · intro j h1 h2
    simp only [List.getElem_set, List.getElem_append, List.length_map, List.length_take, List.getElem_map, List.getElem_take, List.getElem_replicate]
    by_cases e : i = j
    · subst e
      rw [if_pos rfl, dif_pos (by omega)]
      simp [h]
    · rw [if_neg e]
      by_cases c : j < i
      · rw [dif_pos (by omega), dif_pos (by omega)]
      · rw [dif_neg (by omega), dif_neg (by omega)]
theorem getD_mem {α : Type} (l : List α) (i : Nat) (d : α) (h : i < l.length) : l.getD i d ∈ l := by
  rw [List.getD_eq_getElem?_getD, List.getElem?_eq_getElem h]
  exact List.getElem_mem h
theorem getD_set_ne {α : Type} (l : List α) (i j : Nat) (x d : α) (h : i ≠ j) : (l.set i x).getD j d = l.getD j d := by
  simp [List.getD_eq_getElem?_getD, List.getElem?_set_ne h]
theorem getD_set_eq {α : Type} (l : List α) (i : Nat) (x d : α) (h : i < l.length) : (l.set i x).getD i d = x := by
  simp [List.getD_eq_getElem?_getD, List.getElem?_set_self h]
theorem eqStepS_l (l : List S57) (hl : l.length ≤ 1048576) (d : Nat) : ∀ (k : Nat) (i : Nat), i ≤ l.length → l.length - i = d → d < k → laws_eqStepS.l0 k l l i = some true := by
  induction d with
  | zero =>
    intro k i h0 hd hk
    obtain ⟨k, rfl⟩ : ∃ n, k = n + 1 := ⟨k - 1, by omega⟩
    simp only [laws_eqStepS.l0]
    rw [if_neg (by omega)]
  | succ d ih =>
    intro k i h0 hd hk
    obtain ⟨k, rfl⟩ : ∃ n, k = n + 1 := ⟨k - 1, by omega⟩
    simp only [laws_eqStepS.l0, laws_eqStep.f, if_true, Option.bind_some]
    rw [if_pos (by omega), if_pos (by omega), if_pos (by omega), w64 (by omega) (by omega)]
    exact ih k (i + 1) (by omega) (by omega) (by omega)
theorem eqStepS_f (l : List S57) (hl : l.length ≤ 1048576) (k : Nat) (hk : l.length < k) : laws_eqStepS.f k l l = some true := by
  unfold laws_eqStepS.f
  rw [if_pos rfl]
  exact eqStepS_l l hl l.length k 0 (by omega) (by omega) hk
def mkStepS (s : Int) : S57 := ⟨IntKind.u64.wrap s, IntKind.i8.wrap (s + 1)⟩
theorem markStepS_l (n : Nat) (hn : n ≤ 1048576) (d : Nat) : ∀ (k : Nat) (l : List S57) (s : Int) (i : Nat), l.length = n → i ≤ n → n - i = d → d < k → 0 ≤ s → s + 2 * d ≤ 100000000000 →
    ∃ l', laws_markStepS.l0 k l s i = some (s + 2 * d, l') ∧ l'.length = n ∧ (∀ j, j < i → l'.getD j z57 = l.getD j z57) ∧ (∀ j : Nat, i ≤ j → j < n → l'.getD j z57 = mkStepS (s + 2 * ((j : Int) - i))) := by
  induction d with
  | zero =>
    intro k l s i hl h0 hd hk hs hb
    obtain ⟨k, rfl⟩ : ∃ n, k = n + 1 := ⟨k - 1, by omega⟩
    simp only [laws_markStepS.l0]
    rw [if_neg (by omega)]
    exact ⟨l, by simp, hl, fun j hj => rfl, fun j j0 j1 => by omega⟩
  | succ d ih =>
    intro k l s i hl h0 hd hk hs hb
    obtain ⟨k, rfl⟩ : ∃ n, k = n + 1 := ⟨k - 1, by omega⟩
    simp only [laws_markStepS.l0]
    rw [if_pos (by omega), if_pos (by omega), Option.bind_some, w64 (x := s + 1) (by omega) (by omega), w64 (x := s + 1 + 1) (by omega) (by omega), w64 (x := (i : Int) + 1) (by omega) (by omega)]
    have hset : ∀ x : S57, (l.set i x).getD i z57 = x := fun x => getD_set_eq _ _ _ _ (by omega)
    simp only [rd_T57, Int.toNat_natCast, List.set_set, hset]
    obtain ⟨l', e1, e2, e3, e4⟩ := ih k (l.set i (mkStepS s)) (s + 1 + 1) (i + 1) (by simpa using hl) (by omega) (by omega) (by omega) (by omega) (by omega)
    refine ⟨l', ?_, e2, fun j hj => ?_, fun j j0 j1 => ?_⟩
    · rw [show s + 2 * ((d + 1 : Nat) : Int) = s + 1 + 1 + 2 * (d : Int) by omega]
      exact e1
    · rw [e3 j (by omega), getD_set_ne _ _ _ _ _ (by omega)]
    · by_cases c : j = i
      · subst c
        rw [e3 j (by omega), getD_set_eq _ _ _ _ (by omega)]
        congr 1
        omega
      · rw [e4 j (by omega) j1]
        congr 1
        omega
theorem markStepS_r (l : List S57) (hl : l.length ≤ 1048576) (k : Nat) (hk : l.length < k) : ∃ l', laws_markStepS.f k l 1 = some (1 + 2 * (l.length : Int), l') := by
  obtain ⟨l', e1, e2, _, e4⟩ := markStepS_l l.length hl l.length k l 1 0 rfl (by omega) (by omega) hk (by omega) (by omega)
  exact ⟨l', e1⟩
theorem markStepS_s (l : List S57) (s : Int) (hs : 0 ≤ s ∧ s ≤ 10000000) (hl : l.length ≤ 1048576) (k : Nat) (hk : l.length < k) : ∃ l', laws_markStepS.f k l s = some (s + 2 * (l.length : Int), l') := by
  obtain ⟨l', e1, e2, _, e4⟩ := markStepS_l l.length hl l.length k l s 0 rfl (by omega) (by omega) hk (by omega) (by omega)
  exact ⟨l', e1⟩
theorem heldStepS_l (n : Nat) (hn : n ≤ 1048576) (l : List S57) (hl : l.length = n) (d : Nat) : ∀ (k : Nat) (s : Int) (i : Nat), i ≤ n → n - i = d → d < k → 0 ≤ s → s + 2 * d ≤ 100000000000 → (∀ j : Nat, i ≤ j → j < n → l.getD j z57 = mkStepS (s + 2 * ((j : Int) - i))) →
    laws_heldStepS.l0 k l s i = some (s + 2 * d) := by
  induction d with
  | zero =>
    intro k s i h0 hd hk hs hb hj
    obtain ⟨k, rfl⟩ : ∃ n, k = n + 1 := ⟨k - 1, by omega⟩
    simp only [laws_heldStepS.l0]
    rw [if_neg (by omega)]
    simp
  | succ d ih =>
    intro k s i h0 hd hk hs hb hj
    obtain ⟨k, rfl⟩ : ∃ n, k = n + 1 := ⟨k - 1, by omega⟩
    have e := hj i (by omega) (by omega)
    rw [show s + 2 * ((i : Int) - i) = s by omega] at e
    have e' : rd_T57 l i = mkStepS s := by rw [rd_T57, Int.toNat_natCast]; exact e
    have c1 : (i : Int) < (l.length : Int) := by omega
    have c2 : 0 ≤ (i : Int) := by omega
    simp only [laws_heldStepS.l0, e', mkStepS, w64 (x := s + 1) (by omega) (by omega), w64 (x := s + 1 + 1) (by omega) (by omega), w64 (x := (i : Int) + 1) (by omega) (by omega), c1, c2, if_true]
    rw [show s + 2 * ((d + 1 : Nat) : Int) = s + 1 + 1 + 2 * (d : Int) by omega]
    refine ih k (s + 1 + 1) (i + 1) (by omega) (by omega) (by omega) (by omega) (by omega) (fun j j0 j1 => ?_)
    rw [hj j (by omega) j1]
    congr 1
    omega
theorem markStepS_f (l : List S57) (hl : l.length ≤ 1048576) (k : Nat) (hk : l.length < k) : ∃ l', laws_markStepS.f k l 1 = some (1 + 2 * (l.length : Int), l') ∧ l'.length = l.length ∧ ∀ k', l.length < k' → laws_heldStepS.f k' l' 1 = some (1 + 2 * (l.length : Int)) := by
  obtain ⟨l', e1, e2, _, e4⟩ := markStepS_l l.length hl l.length k l 1 0 rfl (by omega) (by omega) hk (by omega) (by omega)
  exact ⟨l', e1, e2, fun k' hk' => heldStepS_l l.length hl l' e2 l.length k' 1 0 (by omega) (by omega) hk' (by omega) (by omega) e4⟩
theorem FnExactDodgeSteps : laws_FnExactDodgeSteps.Pure := by
  intro a b c _ _ _
  refine ⟨1000, ?_⟩
  have main : ∃ r, spec_DodgeSteps.f a b c = some r ∧ impl_DodgeSteps.f a b c = some r ∧ r.1.length ≤ 2 := by
    unfold spec_DodgeSteps.f impl_DodgeSteps.f spec_l03Thirds.f impl_areThirds.f
    simp only [in_f, within_f, Option.bind_some]
    by_cases h : 0 ≤ a ∧ a ≤ 36 <;> by_cases h' : 0 ≤ c ∧ c ≤ 36 <;> by_cases h'' : c ≥ a <;> simp [h, h', h'']
  obtain ⟨z, z1, z2, z3⟩ := main
  unfold laws_FnExactDodgeSteps.f
  obtain ⟨l2, n1, n2, n3⟩ := markStepS_f z.1 (by omega) 999 (by omega)
  have q0 : ∀ k, 990 ≤ k → laws_eqStepS.f k z.1 z.1 = some true := fun k hk => eqStepS_f _ (by omega) k (by omega)
  simp only [Option.bind_some, z1, z2, q0 1000 (by omega), if_true, bne_self_eq_false]
  simp only [laws_FnExactDodgeSteps.j0, Bool.false_eq_true, if_false, n1, Option.bind_some, n3 999 (by omega), if_true, z2, q0 999 (by omega), bne_self_eq_false]
  rw [if_neg (by omega)]
  simp only [laws_FnExactDodgeSteps.j1, Bool.false_eq_true, if_false, n3 998 (by omega), Option.bind_some, if_true]
  rw [if_neg (by omega)]

end Go.Proofs.Ytpdgfmiknegmoaa.Pure
