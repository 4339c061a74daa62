/- Proves, in plain numbers and lists, that the law FnExactTimesOf answers true at all inputs. No condition is added. -/
import Derived.Test.YtglgfobfmcipoaaPFnExactTimesOfx2
import Derived.Test.YtglgfobfmcipoaaPFnExactTimesOfx2
import Derived.Test.YtglgfobfmcipoaaPFnExactTimesOfx2
namespace Go.Proofs.Ytglgfobfmcipoaa.Pure
open Go.RowKit Go.Proofs.Ytglgfobfmcipoaa.PFnExactTimesOf Go.Proofs.YtglgfobfmcipoaaW.PrintWords Go.Proofs.YtglgfobfmcipoaaW.PrintLast Go.Proofs.YtglgfobfmcipoaaW.PrintMore
theorem in_f (a b c : Int) : spec_l00In.f a b c = some (decide (b ≤ a ∧ a ≤ c)) := by
  unfold spec_l00In.f
  by_cases h : b ≤ a <;> simp [h]
theorem within_f (a b c : Int) : impl_within.f a b c = some (decide (b ≤ a ∧ a ≤ c)) := by
  unfold impl_within.f
  by_cases h : b ≤ a <;> simp [h]
theorem w64 {x : Int} (h : -9223372036854775808 ≤ x) (h' : x ≤ 9223372036854775807) : wrap64 x = x := by unfold wrap64; omega
theorem wf8 {x : Int} (h : (Lit.int .i8 x).wf = true) : -128 ≤ x ∧ x ≤ 127 := by
  have h2 : (decide ((-128 : Int) ≤ x) && decide (x ≤ 127)) = true := h
  simpa using h2
theorem wf16 {x : Int} (h : (Lit.int .i16 x).wf = true) : -32768 ≤ x ∧ x ≤ 32767 := by
  have h2 : (decide ((-32768 : Int) ≤ x) && decide (x ≤ 32767)) = true := h
  simpa using h2
theorem wf64 {x : Int} (h : (Lit.int .i64 x).wf = true) : -9223372036854775808 ≤ x ∧ x ≤ 9223372036854775807 := by
  have h2 : (decide ((-9223372036854775808 : Int) ≤ x) && decide (x ≤ 9223372036854775807)) = true := h
  simpa using h2
theorem wfu64 {x : Int} (h : (Lit.int .u64 x).wf = true) : 0 ≤ x ∧ x ≤ 18446744073709551615 := by
  have h2 : (decide ((0 : Int) ≤ x) && decide (x ≤ 18446744073709551615)) = true := h
  simpa using h2
theorem i8w {x : Int} (h : -128 ≤ x) (h' : x ≤ 127) : IntKind.i8.wrap x = x := by
  show (if (true && decide (x % 256 ≥ 128)) = true then x % 256 - 256 else x % 256) = x
  by_cases e : x % 256 ≥ 128
  · rw [if_pos (by simpa using e)]; omega
  · rw [if_neg (by simpa using e)]; omega
theorem i16w {x : Int} (h : -32768 ≤ x) (h' : x ≤ 32767) : IntKind.i16.wrap x = x := by
  show (if (true && decide (x % 65536 ≥ 32768)) = true then x % 65536 - 65536 else x % 65536) = x
  by_cases e : x % 65536 ≥ 32768
  · rw [if_pos (by simpa using e)]; omega
  · rw [if_neg (by simpa using e)]; omega
theorem u64w {x : Int} (h : 0 ≤ x) (h' : x ≤ 18446744073709551615) : IntKind.u64.wrap x = x := by
  show (if (false && decide (x % 18446744073709551616 ≥ 9223372036854775808)) = true then x % 18446744073709551616 - 18446744073709551616 else x % 18446744073709551616) = x
  rw [if_neg (by simp)]; omega
def tm (n : Nat) : Int := [1000, 1260, 1587].getD (n % 3) 0 * 2 ^ (n / 3)
def tI (a : Int) : Int := tm a.toNat
theorem stime_nat : ∀ n : Fin 37, spec_l01Time.f (n.val : Int) = some (tm n.val) := by decide +kernel
theorem itime_nat : ∀ n : Fin 37, impl_timeOf.f (n.val : Int) = some (tm n.val) := by decide +kernel
theorem stime {a : Int} (h : 0 ≤ a) (h' : a ≤ 36) : spec_l01Time.f a = some (tI a) := by
  have := stime_nat ⟨a.toNat, by omega⟩
  simpa [tI, Int.toNat_of_nonneg h] using this
theorem itime {a : Int} (h : 0 ≤ a) (h' : a ≤ 36) : impl_timeOf.f a = some (tI a) := by
  have := itime_nat ⟨a.toNat, by omega⟩
  simpa [tI, Int.toNat_of_nonneg h] using this
theorem tm_lt_nat : ∀ i : Fin 37, ∀ j : Fin 37, i < j → tm i.val < tm j.val := by decide +kernel
theorem tm_bd_nat : ∀ i : Fin 37, 1000 ≤ tm i.val ∧ tm i.val ≤ 4096000 := by decide +kernel
theorem tI_lt {i j : Int} (h : 0 ≤ i) (h1 : i < j) (h2 : j ≤ 36) : tI i < tI j := tm_lt_nat ⟨i.toNat, by omega⟩ ⟨j.toNat, by omega⟩ (by show i.toNat < j.toNat; omega)
theorem tI_le {i j : Int} (h : 0 ≤ i) (h1 : i ≤ j) (h2 : j ≤ 36) : tI i ≤ tI j := by
  by_cases e : i = j
  · rw [e]; exact Int.le_refl _
  · have := tI_lt h (by omega) h2; omega
theorem tI_bd {i : Int} (h : 0 ≤ i) (h2 : i ≤ 36) : 1000 ≤ tI i ∧ tI i ≤ 4096000 := tm_bd_nat ⟨i.toNat, by omega⟩
theorem times_l (l : List Int) (hl : l.length ≤ 100) (d : Nat) : ∀ (k : Nat) (s : Int) (i : Nat), i ≤ l.length → l.length - i = d → d < k →
    ∃ r, spec_TimesOf.l0 k l s i = some r ∧ impl_TimesOf.l0 k s l (l.length : Int) i = some r := by
  induction d with
  | zero =>
    intro k s i h0 hd hk
    obtain ⟨k, rfl⟩ : ∃ n, k = n + 1 := ⟨k - 1, by omega⟩
    simp only [spec_TimesOf.l0, impl_TimesOf.l0]
    have g1 : ¬ (i : Int) < (l.length : Int) := by omega
    simp only [g1, if_false]
    exact ⟨_, rfl, rfl⟩
  | succ d ih =>
    intro k s i h0 hd hk
    obtain ⟨k, rfl⟩ : ∃ n, k = n + 1 := ⟨k - 1, by omega⟩
    simp only [spec_TimesOf.l0, impl_TimesOf.l0, impl_areThirds.f, in_f, within_f, Option.bind_some]
    have g1 : (i : Int) < (l.length : Int) := by omega
    have g2 : 0 ≤ (i : Int) := by omega
    simp only [g1, g2, if_true]
    by_cases c : 0 ≤ rd l i ∧ rd l i ≤ 36
    · rw [stime c.1 c.2, itime c.1 c.2, w64 (x := (i : Int) + 1) (by omega) (by omega)]
      simp only [c, and_self, decide_true, if_true, Option.bind_some]
      exact ih k _ (i + 1) (by omega) (by omega) (by omega)
    · simp only [c, decide_false, Bool.false_eq_true, if_false]
      exact ⟨_, rfl, rfl⟩
theorem times_f (l : List Int) (k : Nat) (hk : 100 < k) : ∃ r, spec_TimesOf.f k l = some r ∧ impl_TimesOf.f k l = some r := by
  unfold spec_TimesOf.f impl_TimesOf.f
  by_cases c : (l.length : Int) > 100
  · rw [if_pos c, if_pos c]
    exact ⟨_, rfl, rfl⟩
  · rw [if_neg c, if_neg c]
    exact times_l l (by omega) l.length k 0 0 (by omega) (by omega) (by omega)
theorem set_next (l : List Int) (i : Nat) (h : i < l.length) : (l.take i ++ List.replicate (l.length - i) 0).set i (l.getD i 0) = l.take (i + 1) ++ List.replicate (l.length - (i + 1)) 0 := by
  apply List.ext_getElem
  · simp; omega
  · intro j h1 h2
    simp only [List.getElem_set, List.getElem_append, List.length_take, List.getElem_take, List.getElem_replicate]
    by_cases e : i = j
    · subst e
      rw [if_pos rfl, dif_pos (by omega)]
      simp [h]
    · rw [if_neg e]
      by_cases c : j < i
      · rw [dif_pos (by omega), dif_pos (by omega)]
      · rw [dif_neg (by omega), dif_neg (by omega)]
theorem toInts_l (l : List Int) (hl : l.length ≤ 1048576) (d : Nat) : ∀ (k : Nat) (i : Nat), i ≤ l.length → l.length - i = d → d < k → laws_toInt64S.l0 k l (l.take i ++ List.replicate (l.length - i) 0) i = some l := by
  induction d with
  | zero =>
    intro k i h0 hd hk
    obtain ⟨k, rfl⟩ : ∃ n, k = n + 1 := ⟨k - 1, by omega⟩
    have e : i = l.length := by omega
    subst e
    simp only [laws_toInt64S.l0]
    rw [if_neg (by omega)]
    simp
  | succ d ih =>
    intro k i h0 hd hk
    obtain ⟨k, rfl⟩ : ∃ n, k = n + 1 := ⟨k - 1, by omega⟩
    simp only [laws_toInt64S.l0]
    rw [if_pos (by omega), if_pos (by omega), if_pos (by simp; omega), w64 (by omega) (by omega)]
    have e := ih k (i + 1) (by omega) (by omega) (by omega)
    rw [← set_next l i (by omega)] at e
    simpa [rd] using e
theorem toInts_f (l : List Int) (hl : l.length ≤ 1048576) (k : Nat) (hk : l.length < k) : laws_toInt64S.f k l = some l := by
  have e := toInts_l l hl l.length k 0 (by omega) (by omega) hk
  unfold laws_toInt64S.f
  rw [if_pos (by omega), if_pos (by omega)]
  simpa using e
theorem eqInts_l (l : List Int) (hl : l.length ≤ 1048576) (d : Nat) : ∀ (k : Nat) (i : Nat), i ≤ l.length → l.length - i = d → d < k → laws_eqInt64S.l0 k l l i = some true := by
  induction d with
  | zero =>
    intro k i h0 hd hk
    obtain ⟨k, rfl⟩ : ∃ n, k = n + 1 := ⟨k - 1, by omega⟩
    simp only [laws_eqInt64S.l0]
    rw [if_neg (by omega)]
  | succ d ih =>
    intro k i h0 hd hk
    obtain ⟨k, rfl⟩ : ∃ n, k = n + 1 := ⟨k - 1, by omega⟩
    simp only [laws_eqInt64S.l0]
    rw [if_pos (by omega), if_pos (by omega), if_pos (by omega), if_pos trivial, w64 (by omega) (by omega)]
    exact ih k (i + 1) (by omega) (by omega) (by omega)
theorem eqInts_f (l : List Int) (hl : l.length ≤ 1048576) (k : Nat) (hk : l.length < k) : laws_eqInt64S.f k l l = some true := by
  unfold laws_eqInt64S.f
  rw [if_pos rfl]
  exact eqInts_l l hl l.length k 0 (by omega) (by omega) hk
theorem FnExactTimesOf : laws_FnExactTimesOf.Pure := by
  intro l h0 _ _
  refine ⟨1048579, ?_⟩
  unfold laws_FnExactTimesOf.f
  by_cases c : (l.length : Int) > 1048576
  · rw [if_pos c]
  · rw [if_neg c, toInts_f l (by omega) _ (by omega)]
    obtain ⟨r, hr, hs⟩ := times_f l 1048579 (by omega)
    simp only [Option.bind_some, hr, hs]
    rw [if_pos trivial]
    simp only [laws_FnExactTimesOf.j0]
    rw [toInts_f l (by omega) _ (by omega)]
    simp only [Option.bind_some]
    rw [eqInts_f l (by omega) _ (by omega)]
    simp

end Go.Proofs.Ytglgfobfmcipoaa.Pure
