/- Proves, in plain numbers and lists, that the law FnExactWithFilters answers true at all inputs. No condition is added. -/
import Derived.Test.YtclneihcbnbmbaaPFnExactWithFiltersx0
import Derived.Test.YtclneihcbnbmbaaPFnExactWithFiltersx1
import Derived.Test.YtclneihcbnbmbaaPFnExactWithFiltersx2
import Derived.Test.YtclneihcbnbmbaaPFnExactWithFiltersx3
namespace Go.Proofs.Ytclneihcbnbmbaa.Pure
open Go.RowKit Go.Proofs.Ytclneihcbnbmbaa.PFnExactWithFilters Go.Proofs.YtclneihcbnbmbaaW.PrintWords Go.Proofs.YtclneihcbnbmbaaW.PrintLast Go.Proofs.YtclneihcbnbmbaaW.PrintMore
set_option linter.unusedVariables false
set_option linter.unusedSimpArgs false
theorem w64 {x : Int} (h : -9223372036854775808 ≤ x) (h' : x ≤ 9223372036854775807) : wrap64 x = x := by unfold wrap64; omega
theorem wf8 {x : Int} (h : (Lit.int .i8 x).wf = true) : -128 ≤ x ∧ x ≤ 127 := by
  have h2 : (decide ((-128 : Int) ≤ x) && decide (x ≤ 127)) = true := h
  simpa using h2
theorem wf16 {x : Int} (h : (Lit.int .i16 x).wf = true) : -32768 ≤ x ∧ x ≤ 32767 := by
  have h2 : (decide ((-32768 : Int) ≤ x) && decide (x ≤ 32767)) = true := h
  simpa using h2
theorem wf64 {x : Int} (h : (Lit.int .i64 x).wf = true) : -9223372036854775808 ≤ x ∧ x ≤ 9223372036854775807 := by
  have h2 : (decide ((-9223372036854775808 : Int) ≤ x) && decide (x ≤ 9223372036854775807)) = true := h
  simpa using h2
theorem wfu64 {x : Int} (h : (Lit.int .u64 x).wf = true) : 0 ≤ x ∧ x ≤ 18446744073709551615 := by
  have h2 : (decide ((0 : Int) ≤ x) && decide (x ≤ 18446744073709551615)) = true := h
  simpa using h2
theorem i8w {x : Int} (h : -128 ≤ x) (h' : x ≤ 127) : IntKind.i8.wrap x = x := by
  show (if (true && decide (x % 256 ≥ 128)) = true then x % 256 - 256 else x % 256) = x
  by_cases e : x % 256 ≥ 128
  · rw [if_pos (by simpa using e)]; omega
  · rw [if_neg (by simpa using e)]; omega
theorem i16w {x : Int} (h : -32768 ≤ x) (h' : x ≤ 32767) : IntKind.i16.wrap x = x := by
  show (if (true && decide (x % 65536 ≥ 32768)) = true then x % 65536 - 65536 else x % 65536) = x
  by_cases e : x % 65536 ≥ 32768
  · rw [if_pos (by simpa using e)]; omega
  · rw [if_neg (by simpa using e)]; omega
theorem u64w {x : Int} (h : 0 ≤ x) (h' : x ≤ 18446744073709551615) : IntKind.u64.wrap x = x := by
  show (if (false && decide (x % 18446744073709551616 ≥ 9223372036854775808)) = true then x % 18446744073709551616 - 18446744073709551616 else x % 18446744073709551616) = x
  rw [if_neg (by simp)]; omega
theorem in_f (a b c : Int) : spec_l00In.f a b c = some (decide (b ≤ a ∧ a ≤ c)) := by
  unfold spec_l00In.f
  by_cases h : b ≤ a <;> simp [h]
theorem within_f (a b c : Int) : impl_within.f a b c = some (decide (b ≤ a ∧ a ≤ c)) := by
  unfold impl_within.f
  by_cases h : b ≤ a <;> simp [h]
theorem ok_f {a b c : Int} (ha : -128 ≤ a ∧ a ≤ 127) (hb : -128 ≤ b ∧ b ≤ 127) (hc : -128 ≤ c ∧ c ≤ 127) : spec_l01Ok.f a b c = some (decide ((0 ≤ a ∧ a ≤ 45) ∧ (0 ≤ b ∧ b ≤ 30) ∧ (0 ≤ c ∧ c ≤ 21))) := by
  unfold spec_l01Ok.f
  rw [w64 (by omega) (by omega), w64 (by omega) (by omega), w64 (by omega) (by omega)]
  simp only [in_f, Option.bind_some]
  by_cases h1 : 0 ≤ a ∧ a ≤ 45 <;> by_cases h2 : 0 ≤ b ∧ b ≤ 30 <;> simp [h1, h2]
theorem valid_f {a b c : Int} (ha : -128 ≤ a ∧ a ≤ 127) (hb : -128 ≤ b ∧ b ≤ 127) (hc : -128 ≤ c ∧ c ≤ 127) : impl_ValidSetting.f a b c = some (decide ((0 ≤ a ∧ a ≤ 45) ∧ (0 ≤ b ∧ b ≤ 30) ∧ (0 ≤ c ∧ c ≤ 21))) := by
  unfold impl_ValidSetting.f impl_isShutter.f
  rw [w64 (by omega) (by omega), w64 (by omega) (by omega), w64 (by omega) (by omega)]
  simp only [within_f, Option.bind_some]
  by_cases h1 : 0 ≤ a ∧ a ≤ 45 <;> by_cases h2 : 0 ≤ b ∧ b ≤ 30 <;> simp [h1, h2]
theorem mxmn (t : Int) : mn 45 (mx 0 t) = (if 0 < (if 45 < t then 45 else t) then (if 45 < t then 45 else t) else 0) := by
  unfold mn mx
  repeat' split
  all_goals omega
theorem more_f {a b c t : Int} (ha : 0 ≤ a ∧ a ≤ 45) (hb : 0 ≤ b ∧ b ≤ 30) (hc : 0 ≤ c ∧ c ≤ 21) (ht : -100 ≤ t ∧ t ≤ 100) :
    ∃ s p : Int, (0 ≤ s ∧ s ≤ 45) ∧ p = b - (t - (s - a)) ∧ (s = 45 ∨ s = 0 ∨ s = a + t) ∧ (s = a + t ∨ a + t < s ∧ s = 0 ∨ s < a + t ∧ s = 45) ∧ (0 ≤ p ∧ p ≤ 30 → spec_l01More.f a b c t = some (s, p, c, true) ∧ impl_Setting_more.f a b c t = some (s, p, c, 0)) ∧
      (¬ (0 ≤ p ∧ p ≤ 30) → spec_l01More.f a b c t = some (0, 0, 0, false) ∧ impl_Setting_more.f a b c t = some (0, 0, 0, 6)) := by
  obtain ⟨s, hs⟩ : ∃ s, s = mn 45 (mx 0 (a + t)) := ⟨_, rfl⟩
  have hs' := hs
  rw [mxmn] at hs'
  have hb2 : (0 ≤ s ∧ s ≤ 45) ∧ (s = 45 ∨ s = 0 ∨ s = a + t) ∧ (s = a + t ∨ a + t < s ∧ s = 0 ∨ s < a + t ∧ s = 45) := by
    rw [hs']
    repeat' split
    all_goals omega
  obtain ⟨sb, s3, s4⟩ := hb2
  refine ⟨s, b - (t - (s - a)), sb, rfl, s3, s4, ?_⟩
  have e1 : spec_l01More.f a b c t = (if 0 ≤ b - (t - (s - a)) ∧ b - (t - (s - a)) ≤ 30 then some (s, b - (t - (s - a)), c, true) else some (0, 0, 0, false)) := by
    unfold spec_l01More.f spec_l00Min.f spec_l00Max.f
    rw [w64 (x := a) (by omega) (by omega), w64 (x := b) (by omega) (by omega), w64 (x := a + t) (by omega) (by omega)]
    have e0 : (if (45 : Int) < a + t then some 45 else some (a + t)) = some (if 45 < a + t then 45 else a + t) := by split <;> rfl
    rw [e0, Option.bind_some]
    have e0 : (if 0 > (if 45 < a + t then 45 else a + t) then some 0 else some (if 45 < a + t then 45 else a + t)) = some s := by
      rw [hs']
      repeat' split
      all_goals first | rfl | (congr 1; omega)
    rw [e0, Option.bind_some, w64 (x := s - a) (by omega) (by omega), w64 (x := t - (s - a)) (by omega) (by omega), w64 (x := b - (t - (s - a))) (by omega) (by omega), in_f, Option.bind_some]
    by_cases g : 0 ≤ b - (t - (s - a)) ∧ b - (t - (s - a)) ≤ 30
    · rw [if_pos (by simpa using g), if_pos g, i8w (by omega) (by omega), i8w (by omega) (by omega)]
    · rw [if_neg (by simpa using g), if_neg g]
  have e2 : impl_Setting_more.f a b c t = (if 0 ≤ b - (t - (s - a)) ∧ b - (t - (s - a)) ≤ 30 then some (s, b - (t - (s - a)), c, 0) else some (0, 0, 0, 6)) := by
    unfold impl_Setting_more.f
    rw [w64 (x := a) (by omega) (by omega), w64 (x := b) (by omega) (by omega), w64 (x := a + t) (by omega) (by omega), ← hs]
    rw [w64 (x := s - a) (by omega) (by omega), w64 (x := t - (s - a)) (by omega) (by omega), w64 (x := b - (t - (s - a))) (by omega) (by omega), within_f, Option.bind_some]
    by_cases g : 0 ≤ b - (t - (s - a)) ∧ b - (t - (s - a)) ≤ 30
    · rw [if_pos (by simpa using g), if_pos g, i8w (x := b - (t - (s - a))) (by omega) (by omega)]
      try rw [i8w (x := s) (by omega) (by omega)]
    · rw [if_neg (by simpa using g), if_neg g]
  exact ⟨fun g => ⟨by rw [e1, if_pos g], by rw [e2, if_pos g]⟩, fun g => ⟨by rw [e1, if_neg g], by rw [e2, if_neg g]⟩⟩
theorem more_same {a b c t : Int} (ha : 0 ≤ a ∧ a ≤ 45) (hb : 0 ≤ b ∧ b ≤ 30) (hc : 0 ≤ c ∧ c ≤ 21) (ht : -100 ≤ t ∧ t ≤ 100) :
    ∃ s p q, (spec_l01More.f a b c t = some (s, p, q, true) ∧ impl_Setting_more.f a b c t = some (s, p, q, 0)) ∨ (spec_l01More.f a b c t = some (0, 0, 0, false) ∧ impl_Setting_more.f a b c t = some (0, 0, 0, 6)) := by
  obtain ⟨s, p, _, _, _, _, h1, h2⟩ := more_f ha hb hc ht
  by_cases g : 0 ≤ p ∧ p ≤ 30
  · exact ⟨s, p, c, .inl (h1 g)⟩
  · exact ⟨s, p, c, .inr (h2 g)⟩
def tm (n : Nat) : Int := [1000, 1260, 1587].getD (n % 3) 0 * 2 ^ (n / 3)
def tI (a : Int) : Int := tm a.toNat
theorem stime_nat : ∀ n : Fin 37, spec_l01Time.f (n.val : Int) = some (tm n.val) := by decide +kernel
theorem itime_nat : ∀ n : Fin 37, impl_timeOf.f (n.val : Int) = some (tm n.val) := by decide +kernel
theorem stime {a : Int} (h : 0 ≤ a) (h' : a ≤ 36) : spec_l01Time.f a = some (tI a) := by
  have := stime_nat ⟨a.toNat, by omega⟩
  simpa [tI, Int.toNat_of_nonneg h] using this
theorem itime {a : Int} (h : 0 ≤ a) (h' : a ≤ 36) : impl_timeOf.f a = some (tI a) := by
  have := itime_nat ⟨a.toNat, by omega⟩
  simpa [tI, Int.toNat_of_nonneg h] using this
theorem tm_lt_nat : ∀ i : Fin 37, ∀ j : Fin 37, i < j → tm i.val < tm j.val := by decide +kernel
theorem tm_bd_nat : ∀ i : Fin 37, 1000 ≤ tm i.val ∧ tm i.val ≤ 4096000 := by decide +kernel
theorem tI_lt {i j : Int} (h : 0 ≤ i) (h1 : i < j) (h2 : j ≤ 36) : tI i < tI j := tm_lt_nat ⟨i.toNat, by omega⟩ ⟨j.toNat, by omega⟩ (by show i.toNat < j.toNat; omega)
theorem tI_le {i j : Int} (h : 0 ≤ i) (h1 : i ≤ j) (h2 : j ≤ 36) : tI i ≤ tI j := by
  by_cases e : i = j
  · rw [e]; exact Int.le_refl _
  · have := tI_lt h (by omega) h2; omega
theorem tI_bd {i : Int} (h : 0 ≤ i) (h2 : i ≤ 36) : 1000 ≤ tI i ∧ tI i ≤ 4096000 := tm_bd_nat ⟨i.toNat, by omega⟩
theorem factor_l (a : Int) (ha : 1 ≤ a ∧ a ≤ 1000) (d : Nat) : ∀ (k : Nat) (x : Int), 0 ≤ x → x ≤ 30 → 30 - x = d → d < k → (∀ j, 0 ≤ j → j < x → tI j < 1000 * a) →
    ∃ r, spec_l01Factor.l0 k a x = some r ∧ impl_factorThirds.l0 k a x = some r ∧ 0 ≤ r ∧ r ≤ 30 ∧ 1000 * a ≤ tI r ∧ (∀ j, 0 ≤ j → j < r → tI j < 1000 * a) := by
  induction d with
  | zero =>
    intro k x h0 h1 hd hk hx
    obtain ⟨k, rfl⟩ : ∃ n, k = n + 1 := ⟨k - 1, by omega⟩
    have e : x = 30 := by omega
    subst e
    have e : tI 30 = 1024000 := by decide
    refine ⟨30, ?_, ?_, by omega, by omega, by omega, hx⟩
    · simp only [spec_l01Factor.l0]
      rw [stime (by omega) (by omega), w64 (by omega) (by omega), Option.bind_some, if_neg (by omega)]
    · simp only [impl_factorThirds.l0]
      rw [itime (by omega) (by omega), w64 (by omega) (by omega), Option.bind_some, if_neg (by omega)]
  | succ d ih =>
    intro k x h0 h1 hd hk hx
    obtain ⟨k, rfl⟩ : ∃ n, k = n + 1 := ⟨k - 1, by omega⟩
    simp only [spec_l01Factor.l0, impl_factorThirds.l0]
    rw [stime (by omega) (by omega), itime (by omega) (by omega), w64 (by omega) (by omega), w64 (by omega) (by omega), Option.bind_some, Option.bind_some]
    by_cases c : tI x < 1000 * a
    · rw [if_pos c, if_pos c]
      refine ih k (x + 1) (by omega) (by omega) (by omega) (by omega) (fun j j0 j1 => ?_)
      by_cases e : j = x
      · rw [e]; exact c
      · exact hx j j0 (by omega)
    · rw [if_neg c, if_neg c]
      exact ⟨x, rfl, rfl, h0, by omega, by omega, hx⟩
theorem factor_f (a : Int) (ha : 1 ≤ a ∧ a ≤ 1000) (k : Nat) (hk : 31 ≤ k) : ∃ r, spec_l01Factor.f k a = some r ∧ impl_factorThirds.f k a = some r ∧ 0 ≤ r ∧ r ≤ 30 ∧ 1000 * a ≤ tI r ∧ (∀ j, 0 ≤ j → j < r → tI j < 1000 * a) :=
  factor_l a ha 30 k 0 (by omega) (by omega) (by omega) (by omega) (fun j _ _ => by omega)
theorem fil_l (l : List Int) (hl : l.length ≤ 4) (a b c : Int) (ha : 0 ≤ a ∧ a ≤ 45) (hb : 0 ≤ b ∧ b ≤ 30) (hc : 0 ≤ c ∧ c ≤ 21) (d : Nat) : ∀ (k : Nat) (s : Int) (i : Nat), i ≤ l.length → l.length - i = d → 40 + d < k → 0 ≤ s → s ≤ 30 * i →
    ∃ r, spec_WithFilters.l0 k l s i a b c = some r ∧ impl_WithFilters.l0 k s l (l.length : Int) i a b c = some r := by
  induction d with
  | zero =>
    intro k s i h0 hd hk h1 h2
    obtain ⟨k, rfl⟩ : ∃ n, k = n + 1 := ⟨k - 1, by omega⟩
    simp only [spec_WithFilters.l0, impl_WithFilters.l0]
    have g1 : ¬ (i : Int) < (l.length : Int) := by omega
    simp only [g1, if_false]
    by_cases g2 : s > 100
    · simp only [g2, if_true]
      exact ⟨_, rfl, rfl⟩
    · simp only [g2, if_false]
      unfold spec_MoreLight.f
      have g3 : (0 ≤ a ∧ a ≤ 45) ∧ (0 ≤ b ∧ b ≤ 30) ∧ (0 ≤ c ∧ c ≤ 21) := ⟨ha, hb, hc⟩
      have g4 : -100 ≤ s ∧ s ≤ 100 := by omega
      simp only [ok_f (a := a) (b := b) (c := c) (by omega) (by omega) (by omega), g3, g4, in_f, and_self, decide_true, if_true, Option.bind_some]
      obtain ⟨u, v, w, ⟨e1, e2⟩ | ⟨e1, e2⟩⟩ := more_same ha hb hc g4
      · simp only [e1, e2, Option.bind_some, if_true]
        exact ⟨_, rfl, rfl⟩
      · simp only [e1, e2, Option.bind_some, Bool.false_eq_true, if_false]
        exact ⟨_, rfl, rfl⟩
  | succ d ih =>
    intro k s i h0 hd hk h1 h2
    obtain ⟨k, rfl⟩ : ∃ n, k = n + 1 := ⟨k - 1, by omega⟩
    simp only [spec_WithFilters.l0, impl_WithFilters.l0, impl_isFactor.f, in_f, within_f, Option.bind_some]
    have g1 : (i : Int) < (l.length : Int) := by omega
    have g2 : 0 ≤ (i : Int) := by omega
    simp only [g1, g2, if_true]
    by_cases c1 : 1 ≤ rd l i ∧ rd l i ≤ 1000
    · obtain ⟨r, r1, r2, r3, r4, _⟩ := factor_f (rd l i) c1 k (by omega)
      simp only [c1, and_self, decide_true, if_true, r1, r2, Option.bind_some]
      rw [w64 (x := s + r) (by omega) (by omega), w64 (x := (i : Int) + 1) (by omega) (by omega)]
      exact ih k (s + r) (i + 1) (by omega) (by omega) (by omega) (by omega) (by omega)
    · simp only [c1, decide_false, Bool.false_eq_true, if_false]
      exact ⟨_, rfl, rfl⟩
theorem fil_f (l : List Int) (a b c : Int) (ha : -128 ≤ a ∧ a ≤ 127) (hb : -128 ≤ b ∧ b ≤ 127) (hc : -128 ≤ c ∧ c ≤ 127) (k : Nat) (hk : 45 < k) : ∃ r, spec_WithFilters.f k a b c l = some r ∧ impl_WithFilters.f k a b c l = some r := by
  unfold spec_WithFilters.f impl_WithFilters.f
  simp only [ok_f ha hb hc, valid_f ha hb hc, Option.bind_some]
  by_cases h : (0 ≤ a ∧ a ≤ 45) ∧ (0 ≤ b ∧ b ≤ 30) ∧ (0 ≤ c ∧ c ≤ 21)
  · simp only [h, and_self, decide_true, if_true]
    by_cases g : (l.length : Int) > 4
    · simp only [g, if_true]
      exact ⟨_, rfl, rfl⟩
    · simp only [g, if_false]
      exact fil_l l (by omega) a b c h.1 h.2.1 h.2.2 l.length k 0 0 (by omega) (by omega) (by omega) (by omega) (by omega)
  · simp only [h, decide_false, Bool.false_eq_true, if_false]
    exact ⟨_, rfl, rfl⟩
theorem set_next (l : List Int) (i : Nat) (h : i < l.length) : (l.take i ++ List.replicate (l.length - i) 0).set i (l.getD i 0) = l.take (i + 1) ++ List.replicate (l.length - (i + 1)) 0 := by
  apply List.ext_getElem
  · simp; omega
  · intro j h1 h2
    simp only [List.getElem_set, List.getElem_append, List.length_take, List.getElem_take, List.getElem_replicate]
    by_cases e : i = j
    · subst e
      rw [if_pos rfl, dif_pos (by omega)]
      simp [h]
    · rw [if_neg e]
      by_cases c : j < i
      · rw [dif_pos (by omega), dif_pos (by omega)]
      · rw [dif_neg (by omega), dif_neg (by omega)]
theorem toInts_l (l : List Int) (hl : l.length ≤ 1048576) (d : Nat) : ∀ (k : Nat) (i : Nat), i ≤ l.length → l.length - i = d → d < k → laws_toInt64S.l0 k l (l.take i ++ List.replicate (l.length - i) 0) i = some l := by
  induction d with
  | zero =>
    intro k i h0 hd hk
    obtain ⟨k, rfl⟩ : ∃ n, k = n + 1 := ⟨k - 1, by omega⟩
    have e : i = l.length := by omega
    subst e
    simp only [laws_toInt64S.l0]
    rw [if_neg (by omega)]
    simp
  | succ d ih =>
    intro k i h0 hd hk
    obtain ⟨k, rfl⟩ : ∃ n, k = n + 1 := ⟨k - 1, by omega⟩
    simp only [laws_toInt64S.l0]
    rw [if_pos (by omega), if_pos (by omega), if_pos (by simp; omega), w64 (by omega) (by omega)]
    have e := ih k (i + 1) (by omega) (by omega) (by omega)
    rw [← set_next l i (by omega)] at e
    simpa [rd] using e
theorem toInts_f (l : List Int) (hl : l.length ≤ 1048576) (k : Nat) (hk : l.length < k) : laws_toInt64S.f k l = some l := by
  have e := toInts_l l hl l.length k 0 (by omega) (by omega) hk
  unfold laws_toInt64S.f
  rw [if_pos (by omega), if_pos (by omega)]
  simpa using e
theorem eqInts_l (l : List Int) (hl : l.length ≤ 1048576) (d : Nat) : ∀ (k : Nat) (i : Nat), i ≤ l.length → l.length - i = d → d < k → laws_eqInt64S.l0 k l l i = some true := by
  induction d with
  | zero =>
    intro k i h0 hd hk
    obtain ⟨k, rfl⟩ : ∃ n, k = n + 1 := ⟨k - 1, by omega⟩
    simp only [laws_eqInt64S.l0]
    rw [if_neg (by omega)]
  | succ d ih =>
    intro k i h0 hd hk
    obtain ⟨k, rfl⟩ : ∃ n, k = n + 1 := ⟨k - 1, by omega⟩
    simp only [laws_eqInt64S.l0]
    rw [if_pos (by omega), if_pos (by omega), if_pos (by omega), if_pos trivial, w64 (by omega) (by omega)]
    exact ih k (i + 1) (by omega) (by omega) (by omega)
theorem eqInts_f (l : List Int) (hl : l.length ≤ 1048576) (k : Nat) (hk : l.length < k) : laws_eqInt64S.f k l l = some true := by
  unfold laws_eqInt64S.f
  rw [if_pos rfl]
  exact eqInts_l l hl l.length k 0 (by omega) (by omega) hk
theorem FnExactWithFilters : laws_FnExactWithFilters.Pure := by
  intro a b c l ha hb hc h0 _ _
  refine ⟨1048600, ?_⟩
  unfold laws_FnExactWithFilters.f
  by_cases g : (l.length : Int) > 1048576
  · rw [if_pos g]
  · rw [if_neg g]
    obtain ⟨z, z1, z2⟩ := fil_f l a b c (wf8 ha) (wf8 hb) (wf8 hc) 1048600 (by omega)
    simp only [laws_toSetting.f, laws_eqSetting.f, Option.bind_some, toInts_f l (by omega) 1048600 (by omega), z1, z2, if_true, bne_self_eq_false, laws_FnExactWithFilters.j0, toInts_f l (by omega) 1048599 (by omega), eqInts_f l (by omega) 1048599 (by omega), Bool.false_eq_true, if_false]

end Go.Proofs.Ytclneihcbnbmbaa.Pure
