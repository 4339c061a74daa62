/- Proves, in plain numbers and lists, that the law FnTimes answers true at all inputs. No condition is added. -/
import Derived.Test.YtglgfobfmcipoaaPFnTimesx3
import Derived.Test.YtglgfobfmcipoaaPFnTimesx3
import Derived.Test.YtglgfobfmcipoaaPFnTimesx3
import Derived.Test.YtglgfobfmcipoaaPFnTimesx3
namespace Go.Proofs.Ytglgfobfmcipoaa.Pure
open Go.RowKit Go.Proofs.Ytglgfobfmcipoaa.PFnTimes Go.Proofs.YtglgfobfmcipoaaW.PrintWords Go.Proofs.YtglgfobfmcipoaaW.PrintLast Go.Proofs.YtglgfobfmcipoaaW.PrintMore
set_option linter.unusedVariables false
set_option linter.unusedSimpArgs false
theorem w64 {x : Int} (h : -9223372036854775808 ≤ x) (h' : x ≤ 9223372036854775807) : wrap64 x = x := by unfold wrap64; omega
theorem wf8 {x : Int} (h : (Lit.int .i8 x).wf = true) : -128 ≤ x ∧ x ≤ 127 := by
  have h2 : (decide ((-128 : Int) ≤ x) && decide (x ≤ 127)) = true := h
  simpa using h2
theorem wf16 {x : Int} (h : (Lit.int .i16 x).wf = true) : -32768 ≤ x ∧ x ≤ 32767 := by
  have h2 : (decide ((-32768 : Int) ≤ x) && decide (x ≤ 32767)) = true := h
  simpa using h2
theorem wf64 {x : Int} (h : (Lit.int .i64 x).wf = true) : -9223372036854775808 ≤ x ∧ x ≤ 9223372036854775807 := by
  have h2 : (decide ((-9223372036854775808 : Int) ≤ x) && decide (x ≤ 9223372036854775807)) = true := h
  simpa using h2
theorem wfu64 {x : Int} (h : (Lit.int .u64 x).wf = true) : 0 ≤ x ∧ x ≤ 18446744073709551615 := by
  have h2 : (decide ((0 : Int) ≤ x) && decide (x ≤ 18446744073709551615)) = true := h
  simpa using h2
theorem i8w {x : Int} (h : -128 ≤ x) (h' : x ≤ 127) : IntKind.i8.wrap x = x := by
  show (if (true && decide (x % 256 ≥ 128)) = true then x % 256 - 256 else x % 256) = x
  by_cases e : x % 256 ≥ 128
  · rw [if_pos (by simpa using e)]; omega
  · rw [if_neg (by simpa using e)]; omega
theorem i16w {x : Int} (h : -32768 ≤ x) (h' : x ≤ 32767) : IntKind.i16.wrap x = x := by
  show (if (true && decide (x % 65536 ≥ 32768)) = true then x % 65536 - 65536 else x % 65536) = x
  by_cases e : x % 65536 ≥ 32768
  · rw [if_pos (by simpa using e)]; omega
  · rw [if_neg (by simpa using e)]; omega
theorem u64w {x : Int} (h : 0 ≤ x) (h' : x ≤ 18446744073709551615) : IntKind.u64.wrap x = x := by
  show (if (false && decide (x % 18446744073709551616 ≥ 9223372036854775808)) = true then x % 18446744073709551616 - 18446744073709551616 else x % 18446744073709551616) = x
  rw [if_neg (by simp)]; omega
theorem in_f (a b c : Int) : spec_l00In.f a b c = some (decide (b ≤ a ∧ a ≤ c)) := by
  unfold spec_l00In.f
  by_cases h : b ≤ a <;> simp [h]
theorem within_f (a b c : Int) : impl_within.f a b c = some (decide (b ≤ a ∧ a ≤ c)) := by
  unfold impl_within.f
  by_cases h : b ≤ a <;> simp [h]
def tm (n : Nat) : Int := [1000, 1260, 1587].getD (n % 3) 0 * 2 ^ (n / 3)
def tI (a : Int) : Int := tm a.toNat
theorem stime_nat : ∀ n : Fin 37, spec_l01Time.f (n.val : Int) = some (tm n.val) := by decide +kernel
theorem itime_nat : ∀ n : Fin 37, impl_timeOf.f (n.val : Int) = some (tm n.val) := by decide +kernel
theorem stime {a : Int} (h : 0 ≤ a) (h' : a ≤ 36) : spec_l01Time.f a = some (tI a) := by
  have := stime_nat ⟨a.toNat, by omega⟩
  simpa [tI, Int.toNat_of_nonneg h] using this
theorem itime {a : Int} (h : 0 ≤ a) (h' : a ≤ 36) : impl_timeOf.f a = some (tI a) := by
  have := itime_nat ⟨a.toNat, by omega⟩
  simpa [tI, Int.toNat_of_nonneg h] using this
theorem tm_lt_nat : ∀ i : Fin 37, ∀ j : Fin 37, i < j → tm i.val < tm j.val := by decide +kernel
theorem tm_bd_nat : ∀ i : Fin 37, 1000 ≤ tm i.val ∧ tm i.val ≤ 4096000 := by decide +kernel
theorem tI_lt {i j : Int} (h : 0 ≤ i) (h1 : i < j) (h2 : j ≤ 36) : tI i < tI j := tm_lt_nat ⟨i.toNat, by omega⟩ ⟨j.toNat, by omega⟩ (by show i.toNat < j.toNat; omega)
theorem tI_le {i j : Int} (h : 0 ≤ i) (h1 : i ≤ j) (h2 : j ≤ 36) : tI i ≤ tI j := by
  by_cases e : i = j
  · rw [e]; exact Int.le_refl _
  · have := tI_lt h (by omega) h2; omega
theorem tI_bd {i : Int} (h : 0 ≤ i) (h2 : i ≤ 36) : 1000 ≤ tI i ∧ tI i ≤ 4096000 := tm_bd_nat ⟨i.toNat, by omega⟩
/-- the greatest number of thirds within a time, or -1 -/
def IsIn (m r : Int) : Prop := -1 ≤ r ∧ r ≤ 36 ∧ (0 ≤ r → tI r ≤ m) ∧ (r < 36 → m < tI (r + 1))
theorem isin_le {m r s : Int} (h : IsIn m r) (h' : IsIn m s) : r ≤ s := by
  obtain ⟨a1, a2, a3, a4⟩ := h
  obtain ⟨b1, b2, b3, b4⟩ := h'
  by_cases c : r ≤ s
  · exact c
  · have x1 := a3 (by omega)
    have x2 := b4 (by omega)
    have x3 := tI_le (i := s + 1) (j := r) (by omega) (by omega) (by omega)
    omega
theorem isin_eq {m r s : Int} (h : IsIn m r) (h' : IsIn m s) : r = s := by
  have := isin_le h h'
  have := isin_le h' h
  omega
theorem sin_l (m : Int) (d : Nat) : ∀ (k : Nat) (x : Int), -1 ≤ x → x ≤ 36 → 36 - x = d → d < k → (0 ≤ x → tI x ≤ m) → ∃ r, spec_l01In.l0 k m x = some r ∧ IsIn m r := by
  induction d with
  | zero =>
    intro k x h0 h1 hd hk hx
    obtain ⟨k, rfl⟩ : ∃ n, k = n + 1 := ⟨k - 1, by omega⟩
    exact ⟨x, by simp only [spec_l01In.l0]; rw [if_neg (by omega)], h0, h1, hx, fun h => by omega⟩
  | succ d ih =>
    intro k x h0 h1 hd hk hx
    obtain ⟨k, rfl⟩ : ∃ n, k = n + 1 := ⟨k - 1, by omega⟩
    simp only [spec_l01In.l0]
    rw [if_pos (by omega), w64 (by omega) (by omega), stime (by omega) (by omega), Option.bind_some]
    by_cases c : tI (x + 1) ≤ m
    · rw [if_pos c]
      exact ih k (x + 1) (by omega) (by omega) (by omega) (by omega) (fun _ => c)
    · rw [if_neg c]
      exact ⟨x, rfl, h0, h1, hx, fun _ => by omega⟩
theorem sin_f (m : Int) (k : Nat) (hk : 37 < k) : ∃ r, spec_l01In.f k m = some r ∧ IsIn m r :=
  sin_l m 37 k (-1) (by omega) (by omega) (by omega) hk (fun h => by omega)
theorem iin_l (m : Int) (hm : 1000 ≤ m) (d : Nat) : ∀ (k : Nat) (x : Int), 0 ≤ x → x ≤ 36 → x = d → d < k → (x < 36 → m < tI (x + 1)) → ∃ r, impl_ThirdsIn.l0 k m x = some (r, 0) ∧ 0 ≤ r ∧ IsIn m r := by
  induction d with
  | zero =>
    intro k x h0 h1 hd hk hx
    obtain ⟨k, rfl⟩ : ∃ n, k = n + 1 := ⟨k - 1, by omega⟩
    have e : x = 0 := by omega
    subst e
    have e : tI 0 = 1000 := by decide
    refine ⟨0, ?_, by omega, by omega, by omega, fun _ => by omega, hx⟩
    simp only [impl_ThirdsIn.l0]
    rw [itime (by omega) (by omega), Option.bind_some, if_neg (by omega)]
  | succ d ih =>
    intro k x h0 h1 hd hk hx
    obtain ⟨k, rfl⟩ : ∃ n, k = n + 1 := ⟨k - 1, by omega⟩
    simp only [impl_ThirdsIn.l0]
    rw [itime (by omega) (by omega), Option.bind_some]
    by_cases c : tI x > m
    · rw [if_pos c, w64 (by omega) (by omega)]
      exact ih k (x - 1) (by omega) (by omega) (by omega) (by omega) (fun _ => by rw [show x - 1 + 1 = x by omega]; exact c)
    · rw [if_neg c]
      exact ⟨x, rfl, h0, by omega, h1, fun _ => by omega, hx⟩
theorem thin_f (m : Int) (hm : 0 ≤ m ∧ m ≤ 100000000) (k : Nat) (hk : 40 < k) : (m < 1000 ∧ impl_ThirdsIn.f k m = some (0, 6)) ∨ (1000 ≤ m ∧ ∃ r, impl_ThirdsIn.f k m = some (r, 0) ∧ 0 ≤ r ∧ r ≤ 36 ∧ IsIn m r) := by
  unfold impl_ThirdsIn.f impl_areMilliseconds.f
  have e : tI 0 = 1000 := by decide
  simp only [within_f, hm, and_self, decide_true, if_true, itime (a := 0) (by omega) (by omega), Option.bind_some]
  rw [e]
  by_cases c : m < 1000
  · rw [if_pos c]
    exact .inl ⟨c, rfl⟩
  · rw [if_neg c]
    obtain ⟨s, hs, s0, hj⟩ := iin_l m (by omega) 36 k 36 (by omega) (by omega) (by omega) (by omega) (fun h => by omega)
    exact .inr ⟨by omega, s, hs, s0, hj.2.1, hj⟩
theorem size_f {x : Int} (h : -9223372036854775808 < x) (h' : x ≤ 9223372036854775807) : impl_size.f x = some (if x < 0 then -x else x) := by
  unfold impl_size.f mx
  rw [w64 (by omega) (by omega)]
  by_cases c : x < 0
  · rw [if_pos (by omega), if_pos c]
  · by_cases e : x = 0
    · subst e; rfl
    · rw [if_neg (by omega), if_neg c]
def off (m j : Int) : Int := if tI j - m < 0 then -(tI j - m) else tI j - m
/-- the first of the numbers of thirds below n whose time is nearest -/
def IsNear (m n r : Int) : Prop := 0 ≤ r ∧ r < n ∧ (∀ j, 0 ≤ j → j < n → off m r ≤ off m j) ∧ (∀ j, 0 ≤ j → j < r → off m r < off m j)
theorem isnear_eq {m n r s : Int} (h : IsNear m n r) (h' : IsNear m n s) : r = s := by
  obtain ⟨a1, a2, a3, a4⟩ := h
  obtain ⟨b1, b2, b3, b4⟩ := h'
  by_cases c : r < s
  · have := b4 r a1 c
    have := a3 s b1 b2
    omega
  · by_cases c' : s < r
    · have := a4 s b1 c'
      have := b3 r a1 a2
      omega
    · omega
theorem near_l (m : Int) (hm : 0 ≤ m ∧ m ≤ 100000000) (d : Nat) : ∀ (k : Nat) (b x : Int), 1 ≤ x → x ≤ 37 → 37 - x = d → d < k → IsNear m x b → ∃ r, impl_nearestThirds.l0 k m b x = some r ∧ IsNear m 37 r := by
  induction d with
  | zero =>
    intro k b x h0 h1 hd hk hb
    obtain ⟨k, rfl⟩ : ∃ n, k = n + 1 := ⟨k - 1, by omega⟩
    have e : x = 37 := by omega
    subst e
    refine ⟨b, ?_, hb⟩
    simp only [impl_nearestThirds.l0, impl_areThirds.f, within_f, Option.bind_some]
    simp
  | succ d ih =>
    intro k b x h0 h1 hd hk hb
    obtain ⟨k, rfl⟩ : ∃ n, k = n + 1 := ⟨k - 1, by omega⟩
    have hb' := hb
    obtain ⟨b1, b2, b3, b4⟩ := hb'
    have tx := tI_bd (i := x) (by omega) (by omega)
    have tb := tI_bd (i := b) (by omega) (by omega)
    simp only [impl_nearestThirds.l0, impl_areThirds.f, within_f, Option.bind_some]
    rw [if_pos (by simp; omega), itime (a := x) (by omega) (by omega), itime (a := b) (by omega) (by omega)]
    simp only [Option.bind_some]
    rw [w64 (x := tI x - m) (by omega) (by omega), w64 (x := tI b - m) (by omega) (by omega), w64 (x := x + 1) (by omega) (by omega), size_f (by omega) (by omega), size_f (by omega) (by omega)]
    simp only [Option.bind_some]
    show ∃ r, (if off m x < off m b then impl_nearestThirds.l0 k m x (x + 1) else impl_nearestThirds.l0 k m b (x + 1)) = some r ∧ IsNear m 37 r
    by_cases c : off m x < off m b
    · rw [if_pos c]
      refine ih k x (x + 1) (by omega) (by omega) (by omega) (by omega) ⟨by omega, by omega, fun j j0 j1 => ?_, fun j j0 j1 => ?_⟩
      · by_cases e : j = x
        · rw [e]; exact Int.le_refl _
        · have := b3 j j0 (by omega); omega
      · have := b3 j j0 (by omega); omega
    · rw [if_neg c]
      refine ih k b (x + 1) (by omega) (by omega) (by omega) (by omega) ⟨by omega, by omega, fun j j0 j1 => ?_, b4⟩
      by_cases e : j = x
      · rw [e]; omega
      · exact b3 j j0 (by omega)
theorem inear_f (m : Int) (hm : 0 ≤ m ∧ m ≤ 100000000) (k : Nat) (hk : 37 ≤ k) : ∃ r, impl_nearestThirds.f k m = some r ∧ IsNear m 37 r := by
  refine near_l m hm 36 k 0 1 (by omega) (by omega) (by omega) (by omega) ⟨by omega, by omega, fun j j0 j1 => ?_, fun j j0 j1 => by omega⟩
  have : j = 0 := by omega
  rw [this]; exact Int.le_refl _
theorem max_f (a b : Int) : spec_l00Max.f a b = some (if a > b then a else b) := by
  unfold spec_l00Max.f
  split <;> rfl
theorem snear_f (m : Int) (hm : 0 ≤ m ∧ m ≤ 100000000) (k : Nat) (hk : 37 < k) : ∃ r, spec_l01Nearest.f k m = some r ∧ IsNear m 37 r := by
  obtain ⟨q, hq, q1, q2, q3, q4⟩ := sin_f m k hk
  unfold spec_l01Nearest.f
  simp only [hq, max_f, Option.bind_some]
  have t0 : tI 0 = 1000 := by decide
  by_cases c0 : q < 0
  · rw [if_pos (by omega), if_pos (by omega), w64 (x := 0 + 1) (by omega) (by omega), stime (by omega) (by omega), stime (by omega) (by omega)]
    have tb := tI_bd (i := 0 + 1) (by omega) (by omega)
    simp only [Option.bind_some]
    have hq0 : q = -1 := by omega
    have hm0 : m < tI 0 := by have := q4 (by omega); rw [hq0] at this; simpa using this
    have t1 := tI_lt (i := 0) (j := 0 + 1) (by omega) (by omega) (by omega)
    rw [w64 (by omega) (by omega), w64 (by omega) (by omega), if_neg (by omega)]
    refine ⟨0, rfl, by omega, by omega, fun j j0 j1 => ?_, fun j j0 j1 => by omega⟩
    have tj := tI_le (i := 0) (j := j) (by omega) (by omega) (by omega)
    unfold off
    rw [if_neg (by omega), if_neg (by omega)]
    omega
  · have e : (if (0 : Int) > q then 0 else q) = q := if_neg (by omega)
    rw [e]
    have hq3 := q3 (by omega)
    have lo : ∀ j, 0 ≤ j → j < q → off m q < off m j := fun j j0 j1 => by
      have t1 := tI_lt (i := j) (j := q) (by omega) (by omega) (by omega)
      unfold off
      rw [if_pos (c := tI j - m < 0) (by omega)]
      split <;> omega
    by_cases c : q < 36
    · have hq4 := q4 (by omega)
      have b0 := tI_bd (i := q) (by omega) (by omega)
      have b1 := tI_bd (i := q + 1) (by omega) (by omega)
      rw [if_pos c, w64 (x := q + 1) (by omega) (by omega), stime (by omega) (by omega), stime (by omega) (by omega)]
      simp only [Option.bind_some]
      rw [w64 (by omega) (by omega), w64 (by omega) (by omega)]
      have hi : ∀ j, q + 1 ≤ j → j < 37 → off m (q + 1) ≤ off m j := fun j j0 j1 => by
        have t1 := tI_le (i := q + 1) (j := j) (by omega) (by omega) (by omega)
        unfold off
        rw [if_neg (by omega), if_neg (by omega)]
        omega
      have eq0 : off m q = m - tI q := by unfold off; split <;> omega
      have eq1 : off m (q + 1) = tI (q + 1) - m := by unfold off; rw [if_neg (by omega)]
      by_cases g : tI (q + 1) - m < m - tI q
      · rw [if_pos g]
        refine ⟨q + 1, rfl, by omega, by omega, fun j j0 j1 => ?_, fun j j0 j1 => ?_⟩
        · by_cases e1 : q + 1 ≤ j
          · exact hi j e1 j1
          · by_cases e2 : j = q
            · rw [e2]; omega
            · have := lo j j0 (by omega); omega
        · by_cases e2 : j = q
          · rw [e2]; omega
          · have := lo j j0 (by omega); omega
      · rw [if_neg g]
        refine ⟨q, rfl, by omega, by omega, fun j j0 j1 => ?_, lo⟩
        by_cases e1 : q + 1 ≤ j
        · have := hi j e1 j1; omega
        · by_cases e2 : j = q
          · rw [e2]; exact Int.le_refl _
          · have := lo j j0 (by omega); omega
    · rw [if_neg c]
      refine ⟨q, rfl, by omega, by omega, fun j j0 j1 => ?_, lo⟩
      by_cases e2 : j = q
      · rw [e2]; exact Int.le_refl _
      · have := lo j j0 (by omega); omega
theorem near_f (m : Int) (hm : 0 ≤ m ∧ m ≤ 100000000) (k : Nat) (hk : 37 < k) : ∃ r, spec_l01Nearest.f k m = some r ∧ impl_nearestThirds.f k m = some r ∧ IsNear m 37 r := by
  obtain ⟨r, hr, h⟩ := snear_f m hm k hk
  obtain ⟨s, hs, h'⟩ := inear_f m hm k (by omega)
  have e := isnear_eq h h'
  subst e
  exact ⟨r, hr, hs, h⟩
theorem enl_j (a b c : Int) (ha : 0 ≤ a ∧ a ≤ 36) (hb : 1 ≤ b ∧ b ≤ 100) (hc : 1 ≤ c ∧ c ≤ 100) (k : Nat) (hk : 38 < k) :
    ∃ r, spec_EnlargedBy.j0 k a b c false = some r ∧ impl_EnlargedBy.j0 k a b c false = some r ∧ (tI a * c * c / (b * b) ≤ 100000000 → ∃ q, r = (q, 0) ∧ IsNear (tI a * c * c / (b * b)) 37 q) ∧ (100000000 < tI a * c * c / (b * b) → r = (0, 3)) := by
  obtain ⟨k, rfl⟩ : ∃ n, k = n + 1 := ⟨k - 1, by omega⟩
  have ta := tI_bd ha.1 ha.2
  have b1 : 1 ≤ b * b ∧ b * b ≤ 10000 := ⟨Int.mul_le_mul hb.1 hb.1 (by omega) (by omega), Int.mul_le_mul hb.2 hb.2 (by omega) (by omega)⟩
  have c1 : 0 ≤ tI a * c ∧ tI a * c ≤ 409600000 := ⟨Int.mul_nonneg (by omega) (by omega), Int.mul_le_mul (a := tI a) (b := c) (c := 4096000) (d := 100) (by omega) hc.2 (by omega) (by omega)⟩
  have c2 : 0 ≤ tI a * c * c ∧ tI a * c * c ≤ 40960000000 := ⟨Int.mul_nonneg (by omega) (by omega), Int.mul_le_mul (a := tI a * c) (b := c) (c := 409600000) (d := 100) (by omega) hc.2 (by omega) (by omega)⟩
  have e1 : Int.tdiv (tI a * c * c) (b * b) = tI a * c * c / (b * b) := Int.tdiv_eq_ediv_of_nonneg c2.1
  have e2 : 0 ≤ tI a * c * c / (b * b) := Int.ediv_nonneg c2.1 (by omega)
  have e3 : tI a * c * c / (b * b) ≤ 40960000000 := Int.le_trans (Int.ediv_le_self _ c2.1) c2.2
  simp only [spec_EnlargedBy.j0, impl_EnlargedBy.j0, spec_l01Milliseconds.f, impl_areMilliseconds.f, in_f, within_f]
  rw [stime ha.1 ha.2, itime ha.1 ha.2]
  simp only [Option.bind_some, Bool.false_eq_true, if_false]
  rw [w64 (x := b * b) (by omega) (by omega), w64 (x := tI a * c) (by omega) (by omega), w64 (x := tI a * c * c) (by omega) (by omega), e1, w64 (x := tI a * c * c / (b * b)) (by omega) (by omega)]
  have g : ¬ b * b = 0 := by omega
  simp only [g, if_false]
  generalize tI a * c * c / (b * b) = m at *
  by_cases h : m ≤ 100000000
  · obtain ⟨r, hr, hs, hn⟩ := near_f m ⟨e2, h⟩ k (by omega)
    have g2 : 0 ≤ m ∧ m ≤ 100000000 := ⟨e2, h⟩
    simp only [g2, and_self, decide_true, if_true, hr, hs, Option.bind_some]
    exact ⟨_, rfl, rfl, fun _ => ⟨r, rfl, hn⟩, fun h' => by omega⟩
  · have g2 : ¬ (0 ≤ m ∧ m ≤ 100000000) := by omega
    simp only [g2, decide_false, Bool.false_eq_true, if_false]
    exact ⟨_, rfl, rfl, fun h' => by omega, fun _ => rfl⟩
theorem enl_f (a b c : Int) (k : Nat) (hk : 38 < k) : ∃ r, spec_EnlargedBy.f k a b c = some r ∧ impl_EnlargedBy.f k a b c = some r := by
  have g : ∀ x y z, spec_EnlargedBy.j0 k x y z true = some (0, 2) ∧ impl_EnlargedBy.j0 k x y z true = some (0, 2) := fun x y z => by
    obtain ⟨k, rfl⟩ : ∃ n, k = n + 1 := ⟨k - 1, by omega⟩
    exact ⟨rfl, rfl⟩
  unfold spec_EnlargedBy.f impl_EnlargedBy.f impl_areThirds.f
  simp only [in_f, within_f, Option.bind_some]
  by_cases h1 : 0 ≤ a ∧ a ≤ 36
  · by_cases h2 : 1 ≤ b ∧ b ≤ 100
    · by_cases h3 : 1 ≤ c ∧ c ≤ 100
      · simp only [h1, h2, h3, and_self, decide_true, if_true, Bool.not_true]
        obtain ⟨r, hr, hs, _⟩ := enl_j a b c h1 h2 h3 k hk
        exact ⟨r, hr, hs⟩
      · simp only [h1, h2, h3, and_self, decide_true, decide_false, if_true, Bool.not_false]
        exact ⟨_, (g _ _ _).1, (g _ _ _).2⟩
    · simp only [h1, h2, and_self, decide_true, decide_false, if_true, Bool.false_eq_true, if_false]
      exact ⟨_, (g _ _ _).1, (g _ _ _).2⟩
  · simp only [h1, decide_false, Bool.false_eq_true, if_false]
    exact ⟨_, (g _ _ _).1, (g _ _ _).2⟩
def Bytes (l : List Int) : Prop := ∀ x ∈ l, 0 ≤ x ∧ x ≤ 255
theorem bytes_rd {l : List Int} (h : Bytes l) (i : Nat) (hi : i < l.length) : 0 ≤ rd l i ∧ rd l i ≤ 255 := by
  have hm : l.getD i 0 ∈ l := by
    rw [List.getD_eq_getElem?_getD, List.getElem?_eq_getElem hi]
    exact List.getElem_mem hi
  have := h _ hm
  simpa [rd] using this
theorem and255 (x : Int) (h : 0 ≤ x) (h' : x < 18446744073709551616) : Go.bits .and .u64 x 255 = x % 256 :=
  bits_mask .u64 64 (by decide) (fun n a b => u64w a (by omega)) 8 (by decide) x h h'
theorem u64wr (x : Int) : 0 ≤ IntKind.u64.wrap x ∧ IntKind.u64.wrap x < 18446744073709551616 := by
  show 0 ≤ (if (false && decide (x % 18446744073709551616 ≥ 9223372036854775808)) = true then x % 18446744073709551616 - 18446744073709551616 else x % 18446744073709551616) ∧ (if (false && decide (x % 18446744073709551616 ≥ 9223372036854775808)) = true then x % 18446744073709551616 - 18446744073709551616 else x % 18446744073709551616) < 18446744073709551616
  rw [if_neg (by simp)]
  omega
/-- what comes next is a byte; the place goes on by one -/
theorem next_f (l : List Int) (hb : Bytes l) (hl : l.length ≤ 4096) (i : Nat) (hi : i ≤ 100000) (s : Int) : ∃ v s', spec_l00Src_next.f l i s = some (v, ((i + 1 : Nat) : Int), s') ∧ 0 ≤ v ∧ v ≤ 255 := by
  unfold spec_l00Src_next.f
  have ec : wrap64 ((i : Int) + 1) = ((i + 1 : Nat) : Int) := w64 (by omega) (by omega)
  have hq : ∀ y : Int, ∃ v, wrap64 (Go.bits .and .u64 (IntKind.u64.wrap y / 1099511627776) 255) = v ∧ 0 ≤ v ∧ v ≤ 255 := fun y => by
    have u := u64wr y
    have d0 : 0 ≤ IntKind.u64.wrap y / 1099511627776 := by omega
    have d1 : IntKind.u64.wrap y / 1099511627776 < 18446744073709551616 := by omega
    refine ⟨_, rfl, ?_⟩
    rw [and255 _ d0 d1, w64 (by omega) (by omega)]
    omega
  rw [ec]
  by_cases c : (i : Int) < (l.length : Int)
  · have v := bytes_rd hb i (by omega)
    rw [if_pos c, if_pos (by omega), if_pos (by omega), w64 (x := rd l i) (by omega) (by omega)]
    exact ⟨_, _, rfl, v⟩
  · rw [if_neg c, if_neg (by omega)]
    obtain ⟨v, e, h⟩ := hq (IntKind.u64.wrap (IntKind.u64.wrap (s * 6364136223846793005)) + 1442695040888963407)
    rw [e]
    exact ⟨_, _, rfl, h⟩
/-- a number that is picked lies below n -/
theorem pick_f (l : List Int) (hb : Bytes l) (hl : l.length ≤ 4096) (i : Nat) (hi : i ≤ 90000) (s n : Int) (hn : 1 ≤ n) (hn' : n ≤ 100000000) : ∃ v, ∃ i' : Nat, ∃ s', spec_l00Src_pick.f l i s n = some (v, (i' : Int), s') ∧ 0 ≤ v ∧ v < n ∧ i' ≤ i + 2 := by
  unfold spec_l00Src_pick.f
  by_cases c : n ≤ 1
  · rw [if_pos c]
    exact ⟨0, i, s, rfl, by omega, by omega, by omega⟩
  · rw [if_neg c]
    obtain ⟨v, s', e, v0, v1⟩ := next_f l hb hl i (by omega) s
    rw [e]
    simp only [Option.bind_some]
    by_cases c2 : n > 200
    · rw [if_pos c2]
      obtain ⟨u, s'', e', u0, u1⟩ := next_f l hb hl (i + 1) (by omega) s'
      rw [e']
      simp only [Option.bind_some]
      rw [if_neg (by omega), w64 (x := v * 256) (by omega) (by omega), w64 (x := v * 256 + u) (by omega) (by omega), Int.tmod_eq_emod_of_nonneg (by omega)]
      have m1 := Int.emod_nonneg (v * 256 + u) (show n ≠ 0 by omega)
      have m2 := Int.emod_lt_of_pos (v * 256 + u) (show 0 < n by omega)
      exact ⟨_, i + 1 + 1, _, rfl, m1, m2, by omega⟩
    · rw [if_neg c2, if_neg (by omega), Int.tmod_eq_emod_of_nonneg (by omega)]
      have m1 := Int.emod_nonneg v (show n ≠ 0 by omega)
      have m2 := Int.emod_lt_of_pos v (show 0 < n by omega)
      exact ⟨_, i + 1, _, rfl, m1, m2, by omega⟩
theorem p6_f (l : List Int) (hb : Bytes l) (hl : l.length ≤ 4096) (n : Int) (hn : 1 ≤ n) (hn' : n ≤ 100000000) : ∃ v, spec_P6Pick.f l n = some v ∧ 0 ≤ v ∧ v < n := by
  obtain ⟨v, i', s', e, v0, v1, _⟩ := pick_f l hb hl 0 (by omega) 0 n hn hn'
  have e' : spec_l00Src_pick.f l 0 0 n = some (v, (i' : Int), s') := e
  unfold spec_P6Pick.f spec_l00From.f
  simp only [Option.bind_some, e']
  exact ⟨v, rfl, v0, v1⟩
theorem up {α : Type} {g : Nat → Option α} (h : ∀ k, LeO (g k) (g (k + 1))) {r q : α} (i j : Nat) (hr : g i = some r) (hq : g j = some q) : g j = some r := by
  have a := at_rounds h (Nat.le_max_left i j) hr
  have b := at_rounds h (Nat.le_max_right i j) hq
  rw [a] at b
  rw [hq, Option.some.inj b]
theorem in_near {m r q : Int} (h : IsIn m r) (hr : 0 ≤ r) (h' : IsNear m 37 q) : r ≤ q := by
  obtain ⟨a1, a2, a3, a4⟩ := h
  obtain ⟨b1, b2, b3, b4⟩ := h'
  by_cases c : r ≤ q
  · exact c
  · exfalso
    have t1 := tI_lt (i := q) (j := r) b1 (by omega) a2
    have t2 := a3 hr
    have t3 := b3 r hr (by omega)
    have e1 : off m q = m - tI q := by unfold off; rw [if_pos (by omega)]; omega
    have e2 : off m r ≤ m - tI r := by unfold off; split <;> omega
    omega
theorem near_ge {m k q : Int} (hk : 0 ≤ k ∧ k ≤ 36) (hm : tI k ≤ m) (h' : IsNear m 37 q) : k ≤ q := by
  obtain ⟨b1, b2, b3, b4⟩ := h'
  by_cases c : k ≤ q
  · exact c
  · exfalso
    have t1 := tI_lt (i := q) (j := k) b1 (by omega) hk.2
    have t3 := b3 k hk.1 (by omega)
    have e1 : off m q = m - tI q := by unfold off; rw [if_pos (by omega)]; omega
    have e2 : off m k ≤ m - tI k := by unfold off; split <;> omega
    omega
theorem near_self {k : Int} (hk : 0 ≤ k ∧ k ≤ 36) : IsNear (tI k) 37 k := by
  have e0 : off (tI k) k = 0 := by unfold off; rw [if_neg (by omega)]; omega
  refine ⟨hk.1, by omega, fun j j0 j1 => ?_, fun j j0 j1 => ?_⟩
  · rw [e0]; unfold off; split <;> omega
  · have t1 := tI_lt (i := j) (j := k) j0 j1 hk.2
    rw [e0]; unfold off; rw [if_pos (by omega)]; omega
theorem in_self {k : Int} (hk : 0 ≤ k ∧ k ≤ 36) : IsIn (tI k) k := ⟨by omega, hk.2, fun _ => Int.le_refl _, fun h => tI_lt hk.1 (by omega) (by omega)⟩
theorem tm_three : ∀ n : Fin 34, tm (n.val + 3) = 2 * tm n.val := by decide +kernel
theorem tI_three {k : Int} (h0 : 0 ≤ k) (h1 : k ≤ 33) : tI (k + 3) = 2 * tI k := by
  have := tm_three ⟨k.toNat, by omega⟩
  unfold tI
  rw [show (k + 3).toNat = k.toNat + 3 by omega]
  exact this
theorem sh_f : ∀ n : Fin 22, 0 ≤ IntKind.u64.wrap (wrap64 (1 + (n.val : Int))) ∧ 2 ≤ shl .i64 1 (IntKind.u64.wrap (wrap64 (1 + (n.val : Int)))) ∧ shl .i64 1 (IntKind.u64.wrap (wrap64 (1 + (n.val : Int)))) ≤ 4194304 := by decide +kernel
theorem sh {v : Int} (h0 : 0 ≤ v) (h1 : v < 22) : 0 ≤ IntKind.u64.wrap (wrap64 (1 + v)) ∧ 2 ≤ shl .i64 1 (IntKind.u64.wrap (wrap64 (1 + v))) ∧ shl .i64 1 (IntKind.u64.wrap (wrap64 (1 + v))) ≤ 4194304 := by
  have := sh_f ⟨v.toNat, by omega⟩
  have e : ((v.toNat : Nat) : Int) = v := by omega
  simpa only [e] using this
theorem st_t {a : Int} (h : 0 ≤ a ∧ a ≤ 36) : spec_TimeOf.f a = some (tI a, 0) ∧ impl_TimeOf.f a = some (tI a, 0) := by
  unfold spec_TimeOf.f impl_TimeOf.f impl_areThirds.f
  simp [in_f, within_f, h, stime h.1 h.2, itime h.1 h.2]
theorem near_t {m : Int} (hm : 0 ≤ m ∧ m ≤ 100000000) (k : Nat) (hk : 40 < k) : ∃ q, spec_NearestThirds.f k m = some (q, 0) ∧ impl_NearestThirds.f k m = some (q, 0) ∧ IsNear m 37 q := by
  obtain ⟨r, hr, hs, h⟩ := near_f m hm k (by omega)
  unfold spec_NearestThirds.f impl_NearestThirds.f spec_l01Milliseconds.f impl_areMilliseconds.f
  simp only [in_f, within_f, hm, and_self, decide_true, if_true, hr, hs, Option.bind_some]
  exact ⟨r, rfl, rfl, h⟩
theorem sum3 (a b c : Int) (ha : 0 ≤ a ∧ a ≤ 36) (hb : 0 ≤ b ∧ b ≤ 36) (hc : 0 ≤ c ∧ c ≤ 36) (k : Nat) (hk : 10 < k) : impl_TimesOf.f k [a, b, c] = some (tI a + tI b + tI c, 0) := by
  obtain ⟨k, rfl⟩ : ∃ n, k = n + 1 + 1 + 1 + 1 := ⟨k - 4, by omega⟩
  have ta := tI_bd ha.1 ha.2
  have tb := tI_bd hb.1 hb.2
  have tc := tI_bd hc.1 hc.2
  unfold impl_TimesOf.f
  have l3 : (([a, b, c] : List Int).length : Int) = 3 := rfl
  have r0 : rd [a, b, c] 0 = a := rfl
  have r1 : rd [a, b, c] 1 = b := rfl
  have r2 : rd [a, b, c] 2 = c := rfl
  have w1 : wrap64 (0 + 1) = 1 := by rw [w64 (by decide) (by decide)]; rfl
  have w2 : wrap64 (1 + 1) = 2 := by rw [w64 (by decide) (by decide)]; rfl
  have w3 : wrap64 (2 + 1) = 3 := by rw [w64 (by decide) (by decide)]; rfl
  rw [l3, if_neg (by decide)]
  simp only [impl_TimesOf.l0, impl_areThirds.f, within_f, Option.bind_some, l3, r0, w1, r1, w2, r2, w3, ha, hb, hc, and_self, decide_true, if_true, itime ha.1 ha.2, itime hb.1 hb.2, itime hc.1 hc.2]
  clear w1 w2 w3
  rw [w64 (x := 0 + tI a) (by omega) (by omega), w64 (x := 0 + tI a + tI b) (by omega) (by omega), w64 (x := 0 + tI a + tI b + tI c) (by omega) (by omega)]
  simp
theorem enl_t (a b c : Int) (ha : 0 ≤ a ∧ a ≤ 36) (hb : 1 ≤ b ∧ b ≤ 100) (hc : 1 ≤ c ∧ c ≤ 100) (k : Nat) (hk : 40 < k) : ∃ r, spec_EnlargedBy.f k a b c = some r ∧ impl_EnlargedBy.f k a b c = some r ∧ (tI a * c * c / (b * b) ≤ 100000000 → ∃ q, r = (q, 0) ∧ IsNear (tI a * c * c / (b * b)) 37 q) ∧ (100000000 < tI a * c * c / (b * b) → r = (0, 3)) := by
  obtain ⟨r, e1, e2, e3, e4⟩ := enl_j a b c ha hb hc k (by omega)
  refine ⟨r, ?_, ?_, e3, e4⟩
  · unfold spec_EnlargedBy.f
    simp only [in_f, ha, hb, hc, and_self, decide_true, if_true, Option.bind_some, Bool.not_true]
    exact e1
  · unfold impl_EnlargedBy.f impl_areThirds.f
    simp only [within_f, ha, hb, hc, and_self, decide_true, if_true, Option.bind_some, Bool.not_true]
    exact e2
theorem mx_off {t n : Int} (ht : 0 ≤ t ∧ t ≤ 10000000) (hn : 0 ≤ n ∧ n ≤ 10000000) : mx (wrap64 (t - n)) (wrap64 (n - t)) = (if t - n < 0 then -(t - n) else t - n) := by
  rw [w64 (by omega) (by omega), w64 (by omega) (by omega)]
  unfold mx
  by_cases c : t - n < 0
  · rw [if_pos (by omega), if_pos c]; omega
  · by_cases c2 : t = n
    · subst c2; simp
    · rw [if_neg (by omega), if_neg c]
theorem j5_t (l : List Int) (hb : Bytes l) (hl : l.length ≤ 4096) (x : Int) (hx : 0 ≤ x ∧ x ≤ 36) (k : Nat) (hk : 100 < k) : laws_FnTimes.j7 k l x = some true := by
  obtain ⟨k, rfl⟩ : ∃ n, k = n + 1 := ⟨k - 1, by omega⟩
  obtain ⟨t, et, t0, t1⟩ := p6_f l hb hl 60 (by omega) (by omega)
  simp only [laws_FnTimes.j7, et, Option.bind_some]
  rw [w64 (x := 1 + t) (by omega) (by omega), w64 (x := 1 + t + 1) (by omega) (by omega)]
  have tx := tI_bd hx.1 hx.2
  obtain ⟨h, eh⟩ : ∃ h, h = 1 + t := ⟨_, rfl⟩
  rw [← eh]
  obtain ⟨r, _, r2, r3, _⟩ := enl_t x h h hx (by omega) (by omega) k (by omega)
  obtain ⟨s, s1, s2, s3, s4⟩ := enl_t x h (h + 1) hx (by omega) (by omega) k (by omega)
  have hh : 0 < h * h := Int.mul_pos (by omega) (by omega)
  have e1 : tI x * h * h / (h * h) = tI x := by
    rw [Int.mul_assoc]
    exact Int.mul_ediv_cancel _ (by omega)
  rw [e1] at r3
  obtain ⟨q, rfl, hq⟩ := r3 (by omega)
  have eq := isnear_eq hq (near_self hx)
  subst eq
  simp only [r2, s1, s2, Option.bind_some, if_true]
  by_cases c : tI q * (h + 1) * (h + 1) / (h * h) ≤ 100000000
  · obtain ⟨p, rfl, hp⟩ := s3 c
    simp only [if_true]
    have m1 : tI q * (h * h) ≤ tI q * ((h + 1) * (h + 1)) := Int.mul_le_mul_of_nonneg_left (Int.mul_le_mul (by omega) (by omega) (by omega) (by omega)) (by omega)
    have m2 : tI q ≤ tI q * (h + 1) * (h + 1) / (h * h) := by
      rw [Int.mul_assoc]
      rw [Int.le_ediv_iff_mul_le hh]
      exact m1
    have := near_ge hx m2 hp
    simp [this]
  · have := s4 (by omega)
    subst this
    simp
theorem FnTimes : laws_FnTimes.Pure := by
  intro l m l0 l1 lw m0 m1 mw
  refine ⟨2000, ?_⟩
  have hl : Bytes l := fun x hx => by
    have h2 : (decide ((0 : Int) ≤ x) && decide (x ≤ 255)) = true := lw x hx
    simpa using h2
  have hm : Bytes m := fun x hx => by
    have h2 : (decide ((0 : Int) ≤ x) && decide (x ≤ 255)) = true := mw x hx
    simpa using h2
  have yes : laws_FnTimes.j0 2000 l m true = some true := rfl
  unfold laws_FnTimes.f laws_f6big.f
  simp only [Option.bind_some]
  by_cases c1 : (l.length : Int) > 4096
  · simp only [c1, decide_true, if_true]
    exact yes
  · by_cases c2 : (m.length : Int) > 4096
    · simp only [c1, c2, decide_true, decide_false, Bool.false_eq_true, if_false]
      exact yes
    · simp only [c1, c2, decide_false, Bool.false_eq_true, if_false, laws_FnTimes.j0]
      obtain ⟨x, ex, x0, x1⟩ := p6_f l hl (by omega) 36 (by omega) (by omega)
      simp only [ex, Option.bind_some]
      rw [w64 (x := x + 1) (by omega) (by omega)]
      obtain ⟨a1, a2⟩ := st_t (a := x) (by omega)
      obtain ⟨b1, b2⟩ := st_t (a := x + 1) (by omega)
      have s3 := sum3 x (x + 1) x (by omega) (by omega) (by omega) 1999 (by omega)
      have tx := tI_bd (i := x) (by omega) (by omega)
      have ty := tI_bd (i := x + 1) (by omega) (by omega)
      have tlt := tI_lt (i := x) (j := x + 1) (by omega) (by omega) (by omega)
      obtain ⟨p, p1, p2, p3⟩ := near_t (m := tI x) (by omega) 1999 (by omega)
      have ep := isnear_eq p3 (near_self (k := x) (by omega))
      have hin : impl_ThirdsIn.f 1999 (tI x) = some (x, 0) := by
        rcases thin_f (tI x) (by omega) 1999 (by omega) with ⟨h, _⟩ | ⟨h, r, e, r0, r1, hr⟩
        · omega
        · rw [e, isin_eq hr (in_self (k := x) (by omega))]
      subst ep
      have g1 : ¬ tI (p + 1) ≤ tI p := by omega
      simp only [a1, a2, b2, s3, hin, p2, Option.bind_some, if_true, g1, if_false]
      rw [w64 (x := 2 * tI p) (by omega) (by omega), w64 (x := 2 * tI p + tI (p + 1)) (by omega) (by omega), if_pos (by omega)]
      simp only [bne_self_eq_false, laws_FnTimes.j1, Bool.false_eq_true, if_false]
      have rest : laws_FnTimes.j2 1998 l m p = some true := by
        obtain ⟨v, ev, v0, v1⟩ := p6_f l hl (by omega) 22 (by omega) (by omega)
        obtain ⟨h1, h2, h3⟩ := sh v0 v1
        simp only [laws_FnTimes.j2, ev, Option.bind_some]
        rw [if_pos h1]
        obtain ⟨n, en, n0, n1⟩ := p6_f m hm (by omega) (shl .i64 1 (IntKind.u64.wrap (wrap64 (1 + v)))) (by omega) (by omega)
        obtain ⟨q, q1, q2, q3⟩ := near_t (m := n) (by omega) 1997 (by omega)
        have q4 : 0 ≤ q ∧ q ≤ 36 := ⟨q3.1, by have := q3.2.1; omega⟩
        obtain ⟨d1, d2⟩ := st_t (a := q) q4
        have tq := tI_bd q4.1 q4.2
        simp only [en, q1, q2, d2, Option.bind_some, if_true, bne_self_eq_false, laws_FnTimes.j3, Bool.false_eq_true, if_false]
        have loop : ∀ (d k : Nat) (j : Int), 0 ≤ j → j ≤ 37 → 37 - j = d → 2 * d + 1000 < k → laws_FnTimes.l0 k m p n q (tI q) j = some true := by
          intro d
          induction d with
          | zero =>
            intro k j j0 j1 hd hk
            obtain ⟨k, rfl⟩ : ∃ n, k = n + 1 + 1 := ⟨k - 2, by omega⟩
            simp only [laws_FnTimes.l0]
            rw [if_neg (by omega)]
            rcases thin_f n (by omega) (k + 1) (by omega) with ⟨h, e⟩ | ⟨h, r, e, r0, r1, hr⟩
            · rw [e, Option.bind_some, if_pos h]
              simp only [if_true]
              exact j5_t m hm (by omega) p (by omega) (k + 1) (by omega)
            · have hle := in_near hr r0 q3
              have hti := hr.2.2.1 r0
              rw [e, Option.bind_some, if_neg (by omega), (st_t (a := r) ⟨r0, r1⟩).1]
              simp only [Option.bind_some, if_true]
              have gq : decide (r > q) = false := decide_eq_false (by omega)
              rw [if_neg (by omega), gq]
              simp only [laws_FnTimes.j6, Bool.false_eq_true, if_false]
              exact j5_t m hm (by omega) p (by omega) k (by omega)
          | succ d ih =>
            intro k j j0 j1 hd hk
            obtain ⟨k, rfl⟩ : ∃ n, k = n + 1 + 1 := ⟨k - 2, by omega⟩
            have tj := tI_bd (i := j) (by omega) (by omega)
            simp only [laws_FnTimes.l0]
            rw [if_pos (by omega), (st_t (a := j) (by omega)).1]
            simp only [Option.bind_some, if_true]
            rw [mx_off (t := tI j) (n := n) (by omega) (by omega), mx_off (t := tI q) (n := n) (by omega) (by omega)]
            have wj : ∀ z, z = j + 1 → wrap64 z = z := fun z hz => by subst hz; exact w64 (by omega) (by omega)
            have nx := ih k (j + 1) (by omega) (by omega) (by omega) (by omega)
            have e1 : (if tI j - n < 0 then -(tI j - n) else tI j - n) = off n j := rfl
            have e2 : (if tI q - n < 0 then -(tI q - n) else tI q - n) = off n q := rfl
            rw [e1, e2]
            have o1 := q3.2.2.1 j j0 (by omega)
            rw [if_neg (by omega)]
            by_cases g : j < q
            · have o2 := q3.2.2.2 j j0 g
              have gq : (off n j == off n q) = false := beq_eq_false_iff_ne.mpr (by omega)
              rw [if_pos g, gq]
              simp only [laws_FnTimes.j5, Bool.false_eq_true, if_false]
              rw [wj _ rfl]
              exact nx
            · rw [if_neg g]
              simp only [laws_FnTimes.j5, Bool.false_eq_true, if_false]
              rw [wj _ rfl]
              exact nx
        exact loop 37 1996 0 (by omega) (by omega) (by omega) (by omega)
      rw [w64 (x := p + 3) (by omega) (by omega)]
      by_cases c3 : p + 3 ≤ 36
      · rw [if_pos c3, (st_t (a := p + 3) (by omega)).2]
        simp only [Option.bind_some, if_true]
        rw [w64 (x := 2 * tI p) (by omega) (by omega), if_pos (tI_three (by omega) (by omega))]
        exact rest
      · rw [if_neg c3]
        exact rest

end Go.Proofs.Ytglgfobfmcipoaa.Pure
