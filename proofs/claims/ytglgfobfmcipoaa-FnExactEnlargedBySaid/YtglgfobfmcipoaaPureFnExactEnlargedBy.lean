/- Proves, in plain numbers and lists, that the law FnExactEnlargedBy answers true at all inputs. No condition is added. -/
import Derived.Test.YtglgfobfmcipoaaPFnExactEnlargedByx0
import Derived.Test.YtglgfobfmcipoaaPFnExactEnlargedByx1
import Derived.Test.YtglgfobfmcipoaaPFnExactEnlargedByx2
namespace Go.Proofs.Ytglgfobfmcipoaa.Pure
open Go.RowKit Go.Proofs.Ytglgfobfmcipoaa.PFnExactEnlargedBy Go.Proofs.YtglgfobfmcipoaaW.PrintWords Go.Proofs.YtglgfobfmcipoaaW.PrintLast Go.Proofs.YtglgfobfmcipoaaW.PrintMore
theorem in_f (a b c : Int) : spec_l00In.f a b c = some (decide (b ≤ a ∧ a ≤ c)) := by
  unfold spec_l00In.f
  by_cases h : b ≤ a <;> simp [h]
theorem within_f (a b c : Int) : impl_within.f a b c = some (decide (b ≤ a ∧ a ≤ c)) := by
  unfold impl_within.f
  by_cases h : b ≤ a <;> simp [h]
theorem w64 {x : Int} (h : -9223372036854775808 ≤ x) (h' : x ≤ 9223372036854775807) : wrap64 x = x := by unfold wrap64; omega
theorem wf8 {x : Int} (h : (Lit.int .i8 x).wf = true) : -128 ≤ x ∧ x ≤ 127 := by
  have h2 : (decide ((-128 : Int) ≤ x) && decide (x ≤ 127)) = true := h
  simpa using h2
theorem wf16 {x : Int} (h : (Lit.int .i16 x).wf = true) : -32768 ≤ x ∧ x ≤ 32767 := by
  have h2 : (decide ((-32768 : Int) ≤ x) && decide (x ≤ 32767)) = true := h
  simpa using h2
theorem wf64 {x : Int} (h : (Lit.int .i64 x).wf = true) : -9223372036854775808 ≤ x ∧ x ≤ 9223372036854775807 := by
  have h2 : (decide ((-9223372036854775808 : Int) ≤ x) && decide (x ≤ 9223372036854775807)) = true := h
  simpa using h2
theorem wfu64 {x : Int} (h : (Lit.int .u64 x).wf = true) : 0 ≤ x ∧ x ≤ 18446744073709551615 := by
  have h2 : (decide ((0 : Int) ≤ x) && decide (x ≤ 18446744073709551615)) = true := h
  simpa using h2
theorem i8w {x : Int} (h : -128 ≤ x) (h' : x ≤ 127) : IntKind.i8.wrap x = x := by
  show (if (true && decide (x % 256 ≥ 128)) = true then x % 256 - 256 else x % 256) = x
  by_cases e : x % 256 ≥ 128
  · rw [if_pos (by simpa using e)]; omega
  · rw [if_neg (by simpa using e)]; omega
theorem i16w {x : Int} (h : -32768 ≤ x) (h' : x ≤ 32767) : IntKind.i16.wrap x = x := by
  show (if (true && decide (x % 65536 ≥ 32768)) = true then x % 65536 - 65536 else x % 65536) = x
  by_cases e : x % 65536 ≥ 32768
  · rw [if_pos (by simpa using e)]; omega
  · rw [if_neg (by simpa using e)]; omega
theorem u64w {x : Int} (h : 0 ≤ x) (h' : x ≤ 18446744073709551615) : IntKind.u64.wrap x = x := by
  show (if (false && decide (x % 18446744073709551616 ≥ 9223372036854775808)) = true then x % 18446744073709551616 - 18446744073709551616 else x % 18446744073709551616) = x
  rw [if_neg (by simp)]; omega
def tm (n : Nat) : Int := [1000, 1260, 1587].getD (n % 3) 0 * 2 ^ (n / 3)
def tI (a : Int) : Int := tm a.toNat
theorem stime_nat : ∀ n : Fin 37, spec_l01Time.f (n.val : Int) = some (tm n.val) := by decide +kernel
theorem itime_nat : ∀ n : Fin 37, impl_timeOf.f (n.val : Int) = some (tm n.val) := by decide +kernel
theorem stime {a : Int} (h : 0 ≤ a) (h' : a ≤ 36) : spec_l01Time.f a = some (tI a) := by
  have := stime_nat ⟨a.toNat, by omega⟩
  simpa [tI, Int.toNat_of_nonneg h] using this
theorem itime {a : Int} (h : 0 ≤ a) (h' : a ≤ 36) : impl_timeOf.f a = some (tI a) := by
  have := itime_nat ⟨a.toNat, by omega⟩
  simpa [tI, Int.toNat_of_nonneg h] using this
theorem tm_lt_nat : ∀ i : Fin 37, ∀ j : Fin 37, i < j → tm i.val < tm j.val := by decide +kernel
theorem tm_bd_nat : ∀ i : Fin 37, 1000 ≤ tm i.val ∧ tm i.val ≤ 4096000 := by decide +kernel
theorem tI_lt {i j : Int} (h : 0 ≤ i) (h1 : i < j) (h2 : j ≤ 36) : tI i < tI j := tm_lt_nat ⟨i.toNat, by omega⟩ ⟨j.toNat, by omega⟩ (by show i.toNat < j.toNat; omega)
theorem tI_le {i j : Int} (h : 0 ≤ i) (h1 : i ≤ j) (h2 : j ≤ 36) : tI i ≤ tI j := by
  by_cases e : i = j
  · rw [e]; exact Int.le_refl _
  · have := tI_lt h (by omega) h2; omega
theorem tI_bd {i : Int} (h : 0 ≤ i) (h2 : i ≤ 36) : 1000 ≤ tI i ∧ tI i ≤ 4096000 := tm_bd_nat ⟨i.toNat, by omega⟩
/-- the greatest number of thirds within a time, or -1 -/
def IsIn (m r : Int) : Prop := -1 ≤ r ∧ r ≤ 36 ∧ (0 ≤ r → tI r ≤ m) ∧ (r < 36 → m < tI (r + 1))
theorem isin_le {m r s : Int} (h : IsIn m r) (h' : IsIn m s) : r ≤ s := by
  obtain ⟨a1, a2, a3, a4⟩ := h
  obtain ⟨b1, b2, b3, b4⟩ := h'
  by_cases c : r ≤ s
  · exact c
  · have x1 := a3 (by omega)
    have x2 := b4 (by omega)
    have x3 := tI_le (i := s + 1) (j := r) (by omega) (by omega) (by omega)
    omega
theorem isin_eq {m r s : Int} (h : IsIn m r) (h' : IsIn m s) : r = s := by
  have := isin_le h h'
  have := isin_le h' h
  omega
theorem sin_l (m : Int) (d : Nat) : ∀ (k : Nat) (x : Int), -1 ≤ x → x ≤ 36 → 36 - x = d → d < k → (0 ≤ x → tI x ≤ m) → ∃ r, spec_l01In.l0 k m x = some r ∧ IsIn m r := by
  induction d with
  | zero =>
    intro k x h0 h1 hd hk hx
    obtain ⟨k, rfl⟩ : ∃ n, k = n + 1 := ⟨k - 1, by omega⟩
    exact ⟨x, by simp only [spec_l01In.l0]; rw [if_neg (by omega)], h0, h1, hx, fun h => by omega⟩
  | succ d ih =>
    intro k x h0 h1 hd hk hx
    obtain ⟨k, rfl⟩ : ∃ n, k = n + 1 := ⟨k - 1, by omega⟩
    simp only [spec_l01In.l0]
    rw [if_pos (by omega), w64 (by omega) (by omega), stime (by omega) (by omega), Option.bind_some]
    by_cases c : tI (x + 1) ≤ m
    · rw [if_pos c]
      exact ih k (x + 1) (by omega) (by omega) (by omega) (by omega) (fun _ => c)
    · rw [if_neg c]
      exact ⟨x, rfl, h0, h1, hx, fun _ => by omega⟩
theorem sin_f (m : Int) (k : Nat) (hk : 37 < k) : ∃ r, spec_l01In.f k m = some r ∧ IsIn m r :=
  sin_l m 37 k (-1) (by omega) (by omega) (by omega) hk (fun h => by omega)
theorem size_f {x : Int} (h : -9223372036854775808 < x) (h' : x ≤ 9223372036854775807) : impl_size.f x = some (if x < 0 then -x else x) := by
  unfold impl_size.f mx
  rw [w64 (by omega) (by omega)]
  by_cases c : x < 0
  · rw [if_pos (by omega), if_pos c]
  · by_cases e : x = 0
    · subst e; rfl
    · rw [if_neg (by omega), if_neg c]
def off (m j : Int) : Int := if tI j - m < 0 then -(tI j - m) else tI j - m
/-- the first of the numbers of thirds below n whose time is nearest -/
def IsNear (m n r : Int) : Prop := 0 ≤ r ∧ r < n ∧ (∀ j, 0 ≤ j → j < n → off m r ≤ off m j) ∧ (∀ j, 0 ≤ j → j < r → off m r < off m j)
theorem isnear_eq {m n r s : Int} (h : IsNear m n r) (h' : IsNear m n s) : r = s := by
  obtain ⟨a1, a2, a3, a4⟩ := h
  obtain ⟨b1, b2, b3, b4⟩ := h'
  by_cases c : r < s
  · have := b4 r a1 c
    have := a3 s b1 b2
    omega
  · by_cases c' : s < r
    · have := a4 s b1 c'
      have := b3 r a1 a2
      omega
    · omega
theorem near_l (m : Int) (hm : 0 ≤ m ∧ m ≤ 100000000) (d : Nat) : ∀ (k : Nat) (b x : Int), 1 ≤ x → x ≤ 37 → 37 - x = d → d < k → IsNear m x b → ∃ r, impl_nearestThirds.l0 k m b x = some r ∧ IsNear m 37 r := by
  induction d with
  | zero =>
    intro k b x h0 h1 hd hk hb
    obtain ⟨k, rfl⟩ : ∃ n, k = n + 1 := ⟨k - 1, by omega⟩
    have e : x = 37 := by omega
    subst e
    refine ⟨b, ?_, hb⟩
    simp only [impl_nearestThirds.l0, impl_areThirds.f, within_f, Option.bind_some]
    simp
  | succ d ih =>
    intro k b x h0 h1 hd hk hb
    obtain ⟨k, rfl⟩ : ∃ n, k = n + 1 := ⟨k - 1, by omega⟩
    have hb' := hb
    obtain ⟨b1, b2, b3, b4⟩ := hb'
    have tx := tI_bd (i := x) (by omega) (by omega)
    have tb := tI_bd (i := b) (by omega) (by omega)
    simp only [impl_nearestThirds.l0, impl_areThirds.f, within_f, Option.bind_some]
    rw [if_pos (by simp; omega), itime (a := x) (by omega) (by omega), itime (a := b) (by omega) (by omega)]
    simp only [Option.bind_some]
    rw [w64 (x := tI x - m) (by omega) (by omega), w64 (x := tI b - m) (by omega) (by omega), w64 (x := x + 1) (by omega) (by omega), size_f (by omega) (by omega), size_f (by omega) (by omega)]
    simp only [Option.bind_some]
    show ∃ r, (if off m x < off m b then impl_nearestThirds.l0 k m x (x + 1) else impl_nearestThirds.l0 k m b (x + 1)) = some r ∧ IsNear m 37 r
    by_cases c : off m x < off m b
    · rw [if_pos c]
      refine ih k x (x + 1) (by omega) (by omega) (by omega) (by omega) ⟨by omega, by omega, fun j j0 j1 => ?_, fun j j0 j1 => ?_⟩
      · by_cases e : j = x
        · rw [e]; exact Int.le_refl _
        · have := b3 j j0 (by omega); omega
      · have := b3 j j0 (by omega); omega
    · rw [if_neg c]
      refine ih k b (x + 1) (by omega) (by omega) (by omega) (by omega) ⟨by omega, by omega, fun j j0 j1 => ?_, b4⟩
      by_cases e : j = x
      · rw [e]; omega
      · exact b3 j j0 (by omega)
theorem inear_f (m : Int) (hm : 0 ≤ m ∧ m ≤ 100000000) (k : Nat) (hk : 37 ≤ k) : ∃ r, impl_nearestThirds.f k m = some r ∧ IsNear m 37 r := by
  refine near_l m hm 36 k 0 1 (by omega) (by omega) (by omega) (by omega) ⟨by omega, by omega, fun j j0 j1 => ?_, fun j j0 j1 => by omega⟩
  have : j = 0 := by omega
  rw [this]; exact Int.le_refl _
theorem max_f (a b : Int) : spec_l00Max.f a b = some (if a > b then a else b) := by
  unfold spec_l00Max.f
  split <;> rfl
theorem snear_f (m : Int) (hm : 0 ≤ m ∧ m ≤ 100000000) (k : Nat) (hk : 37 < k) : ∃ r, spec_l01Nearest.f k m = some r ∧ IsNear m 37 r := by
  obtain ⟨q, hq, q1, q2, q3, q4⟩ := sin_f m k hk
  unfold spec_l01Nearest.f
  simp only [hq, max_f, Option.bind_some]
  have t0 : tI 0 = 1000 := by decide
  by_cases c0 : q < 0
  · rw [if_pos (by omega), if_pos (by omega), w64 (x := 0 + 1) (by omega) (by omega), stime (by omega) (by omega), stime (by omega) (by omega)]
    have tb := tI_bd (i := 0 + 1) (by omega) (by omega)
    simp only [Option.bind_some]
    have hq0 : q = -1 := by omega
    have hm0 : m < tI 0 := by have := q4 (by omega); rw [hq0] at this; simpa using this
    have t1 := tI_lt (i := 0) (j := 0 + 1) (by omega) (by omega) (by omega)
    rw [w64 (by omega) (by omega), w64 (by omega) (by omega), if_neg (by omega)]
    refine ⟨0, rfl, by omega, by omega, fun j j0 j1 => ?_, fun j j0 j1 => by omega⟩
    have tj := tI_le (i := 0) (j := j) (by omega) (by omega) (by omega)
    unfold off
    rw [if_neg (by omega), if_neg (by omega)]
    omega
  · have e : (if (0 : Int) > q then 0 else q) = q := if_neg (by omega)
    rw [e]
    have hq3 := q3 (by omega)
    have lo : ∀ j, 0 ≤ j → j < q → off m q < off m j := fun j j0 j1 => by
      have t1 := tI_lt (i := j) (j := q) (by omega) (by omega) (by omega)
      unfold off
      rw [if_pos (c := tI j - m < 0) (by omega)]
      split <;> omega
    by_cases c : q < 36
    · have hq4 := q4 (by omega)
      have b0 := tI_bd (i := q) (by omega) (by omega)
      have b1 := tI_bd (i := q + 1) (by omega) (by omega)
      rw [if_pos c, w64 (x := q + 1) (by omega) (by omega), stime (by omega) (by omega), stime (by omega) (by omega)]
      simp only [Option.bind_some]
      rw [w64 (by omega) (by omega), w64 (by omega) (by omega)]
      have hi : ∀ j, q + 1 ≤ j → j < 37 → off m (q + 1) ≤ off m j := fun j j0 j1 => by
        have t1 := tI_le (i := q + 1) (j := j) (by omega) (by omega) (by omega)
        unfold off
        rw [if_neg (by omega), if_neg (by omega)]
        omega
      have eq0 : off m q = m - tI q := by unfold off; split <;> omega
      have eq1 : off m (q + 1) = tI (q + 1) - m := by unfold off; rw [if_neg (by omega)]
      by_cases g : tI (q + 1) - m < m - tI q
      · rw [if_pos g]
        refine ⟨q + 1, rfl, by omega, by omega, fun j j0 j1 => ?_, fun j j0 j1 => ?_⟩
        · by_cases e1 : q + 1 ≤ j
          · exact hi j e1 j1
          · by_cases e2 : j = q
            · rw [e2]; omega
            · have := lo j j0 (by omega); omega
        · by_cases e2 : j = q
          · rw [e2]; omega
          · have := lo j j0 (by omega); omega
      · rw [if_neg g]
        refine ⟨q, rfl, by omega, by omega, fun j j0 j1 => ?_, lo⟩
        by_cases e1 : q + 1 ≤ j
        · have := hi j e1 j1; omega
        · by_cases e2 : j = q
          · rw [e2]; exact Int.le_refl _
          · have := lo j j0 (by omega); omega
    · rw [if_neg c]
      refine ⟨q, rfl, by omega, by omega, fun j j0 j1 => ?_, lo⟩
      by_cases e2 : j = q
      · rw [e2]; exact Int.le_refl _
      · have := lo j j0 (by omega); omega
theorem near_f (m : Int) (hm : 0 ≤ m ∧ m ≤ 100000000) (k : Nat) (hk : 37 < k) : ∃ r, spec_l01Nearest.f k m = some r ∧ impl_nearestThirds.f k m = some r ∧ IsNear m 37 r := by
  obtain ⟨r, hr, h⟩ := snear_f m hm k hk
  obtain ⟨s, hs, h'⟩ := inear_f m hm k (by omega)
  have e := isnear_eq h h'
  subst e
  exact ⟨r, hr, hs, h⟩
theorem enl_j (a b c : Int) (ha : 0 ≤ a ∧ a ≤ 36) (hb : 1 ≤ b ∧ b ≤ 100) (hc : 1 ≤ c ∧ c ≤ 100) (k : Nat) (hk : 38 < k) :
    ∃ r, spec_EnlargedBy.j0 k a b c false = some r ∧ impl_EnlargedBy.j0 k a b c false = some r ∧ (tI a * c * c / (b * b) ≤ 100000000 → ∃ q, r = (q, 0) ∧ IsNear (tI a * c * c / (b * b)) 37 q) ∧ (100000000 < tI a * c * c / (b * b) → r = (0, 3)) := by
  obtain ⟨k, rfl⟩ : ∃ n, k = n + 1 := ⟨k - 1, by omega⟩
  have ta := tI_bd ha.1 ha.2
  have b1 : 1 ≤ b * b ∧ b * b ≤ 10000 := ⟨Int.mul_le_mul hb.1 hb.1 (by omega) (by omega), Int.mul_le_mul hb.2 hb.2 (by omega) (by omega)⟩
  have c1 : 0 ≤ tI a * c ∧ tI a * c ≤ 409600000 := ⟨Int.mul_nonneg (by omega) (by omega), Int.mul_le_mul (a := tI a) (b := c) (c := 4096000) (d := 100) (by omega) hc.2 (by omega) (by omega)⟩
  have c2 : 0 ≤ tI a * c * c ∧ tI a * c * c ≤ 40960000000 := ⟨Int.mul_nonneg (by omega) (by omega), Int.mul_le_mul (a := tI a * c) (b := c) (c := 409600000) (d := 100) (by omega) hc.2 (by omega) (by omega)⟩
  have e1 : Int.tdiv (tI a * c * c) (b * b) = tI a * c * c / (b * b) := Int.tdiv_eq_ediv_of_nonneg c2.1
  have e2 : 0 ≤ tI a * c * c / (b * b) := Int.ediv_nonneg c2.1 (by omega)
  have e3 : tI a * c * c / (b * b) ≤ 40960000000 := Int.le_trans (Int.ediv_le_self _ c2.1) c2.2
  simp only [spec_EnlargedBy.j0, impl_EnlargedBy.j0, spec_l01Milliseconds.f, impl_areMilliseconds.f, in_f, within_f]
  rw [stime ha.1 ha.2, itime ha.1 ha.2]
  simp only [Option.bind_some, Bool.false_eq_true, if_false]
  rw [w64 (x := b * b) (by omega) (by omega), w64 (x := tI a * c) (by omega) (by omega), w64 (x := tI a * c * c) (by omega) (by omega), e1, w64 (x := tI a * c * c / (b * b)) (by omega) (by omega)]
  have g : ¬ b * b = 0 := by omega
  simp only [g, if_false]
  generalize tI a * c * c / (b * b) = m at *
  by_cases h : m ≤ 100000000
  · obtain ⟨r, hr, hs, hn⟩ := near_f m ⟨e2, h⟩ k (by omega)
    have g2 : 0 ≤ m ∧ m ≤ 100000000 := ⟨e2, h⟩
    simp only [g2, and_self, decide_true, if_true, hr, hs, Option.bind_some]
    exact ⟨_, rfl, rfl, fun _ => ⟨r, rfl, hn⟩, fun h' => by omega⟩
  · have g2 : ¬ (0 ≤ m ∧ m ≤ 100000000) := by omega
    simp only [g2, decide_false, Bool.false_eq_true, if_false]
    exact ⟨_, rfl, rfl, fun h' => by omega, fun _ => rfl⟩
theorem enl_f (a b c : Int) (k : Nat) (hk : 38 < k) : ∃ r, spec_EnlargedBy.f k a b c = some r ∧ impl_EnlargedBy.f k a b c = some r := by
  have g : ∀ x y z, spec_EnlargedBy.j0 k x y z true = some (0, 2) ∧ impl_EnlargedBy.j0 k x y z true = some (0, 2) := fun x y z => by
    obtain ⟨k, rfl⟩ : ∃ n, k = n + 1 := ⟨k - 1, by omega⟩
    exact ⟨rfl, rfl⟩
  unfold spec_EnlargedBy.f impl_EnlargedBy.f impl_areThirds.f
  simp only [in_f, within_f, Option.bind_some]
  by_cases h1 : 0 ≤ a ∧ a ≤ 36
  · by_cases h2 : 1 ≤ b ∧ b ≤ 100
    · by_cases h3 : 1 ≤ c ∧ c ≤ 100
      · simp only [h1, h2, h3, and_self, decide_true, if_true, Bool.not_true]
        obtain ⟨r, hr, hs, _⟩ := enl_j a b c h1 h2 h3 k hk
        exact ⟨r, hr, hs⟩
      · simp only [h1, h2, h3, and_self, decide_true, decide_false, if_true, Bool.not_false]
        exact ⟨_, (g _ _ _).1, (g _ _ _).2⟩
    · simp only [h1, h2, and_self, decide_true, decide_false, if_true, Bool.false_eq_true, if_false]
      exact ⟨_, (g _ _ _).1, (g _ _ _).2⟩
  · simp only [h1, decide_false, Bool.false_eq_true, if_false]
    exact ⟨_, (g _ _ _).1, (g _ _ _).2⟩
theorem FnExactEnlargedBy : laws_FnExactEnlargedBy.Pure := by
  intro a b c _ _ _
  obtain ⟨r, hr, hs⟩ := enl_f a b c 40 (by omega)
  refine ⟨40, ?_⟩
  unfold laws_FnExactEnlargedBy.f
  simp [hr, hs]

end Go.Proofs.Ytglgfobfmcipoaa.Pure
