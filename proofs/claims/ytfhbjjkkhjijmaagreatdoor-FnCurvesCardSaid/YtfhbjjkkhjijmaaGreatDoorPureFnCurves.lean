/- Proves, in plain numbers and lists, that the law FnCurves answers true at all inputs. No condition is added. -/
import Derived.Test.YtfhbjjkkhjijmaaGreatDoorPFnCurvesx0
import Derived.Test.YtfhbjjkkhjijmaaGreatDoorPFnCurvesx1
import Derived.Test.YtfhbjjkkhjijmaaGreatDoorPFnCurvesx2
import Derived.Test.YtfhbjjkkhjijmaaGreatDoorPFnCurvesx3
import Derived.Test.YtfhbjjkkhjijmaaGreatDoorPFnCurvesx4
import Derived.Test.YtfhbjjkkhjijmaaGreatDoorPFnCurvesx5
import Derived.Test.YtfhbjjkkhjijmaaGreatDoorPFnCurvesx6
import Derived.Test.YtfhbjjkkhjijmaaGreatDoorPFnCurvesx7
import Derived.Test.YtfhbjjkkhjijmaaGreatDoorPFnCurvesx8
import Derived.Test.YtfhbjjkkhjijmaaGreatDoorPFnCurvesx9
import Derived.Test.YtfhbjjkkhjijmaaGreatDoorPFnCurvesx10
import Derived.Test.YtfhbjjkkhjijmaaGreatDoorPFnCurvesx11
namespace Go.Proofs.YtfhbjjkkhjijmaaGreatDoor.Pure
open Go.RowKit Go.Proofs.YtfhbjjkkhjijmaaGreatDoor.PFnCurves Go.Proofs.YtfhbjjkkhjijmaaGreatDoorW.PrintWords Go.Proofs.YtfhbjjkkhjijmaaGreatDoorW.PrintLast Go.Proofs.YtfhbjjkkhjijmaaGreatDoorW.PrintMore
set_option linter.unusedVariables false
set_option linter.unusedSimpArgs false
theorem w64 {x : Int} (h : -9223372036854775808 ≤ x) (h' : x ≤ 9223372036854775807) : wrap64 x = x := by unfold wrap64; omega
theorem i16w {x : Int} (h : -32768 ≤ x) (h' : x ≤ 32767) : IntKind.i16.wrap x = x := by
 show (if (true && decide (x % 65536 ≥ 32768)) = true then x % 65536 - 65536 else x % 65536) = x
 by_cases e : x % 65536 ≥ 32768
 · rw [if_pos (by simpa using e)]; omega
 · rw [if_neg (by simpa using e)]; omega
theorem u64w {x : Int} (h : 0 ≤ x) (h' : x ≤ 18446744073709551615) : IntKind.u64.wrap x = x := by
 show (if (false && decide (x % 18446744073709551616 ≥ 9223372036854775808)) = true then x % 18446744073709551616 - 18446744073709551616 else x % 18446744073709551616) = x
 rw [if_neg (by simp)]; omega
theorem getD_mem {α : Type} (l : List α) (i : Nat) (d : α) (h : i < l.length) : l.getD i d ∈ l := by
 rw [List.getD_eq_getElem?_getD, List.getElem?_eq_getElem h]
 exact List.getElem_mem h
theorem in_f (a b c : Int) : spec_l00In.f a b c = some (decide (b ≤ a ∧ a ≤ c)) := by
 unfold spec_l00In.f
 by_cases h : b ≤ a <;> simp [h]
theorem within_f (a b c : Int) : impl_within.f a b c = some (decide (b ≤ a ∧ a ≤ c)) := by
 unfold impl_within.f
 by_cases h : b ≤ a <;> simp [h]
def SmP (m : List S40) : Prop := ∀ x ∈ m, (-32768 ≤ x.f0 ∧ x.f0 ≤ 32767) ∧ (-32768 ≤ x.f1 ∧ x.f1 ≤ 32767)
theorem smp_rd {m : List S40} (h : SmP m) (i : Nat) (hi : i < m.length) : (-32768 ≤ (rd_T40 m i).f0 ∧ (rd_T40 m i).f0 ≤ 32767) ∧ (-32768 ≤ (rd_T40 m i).f1 ∧ (rd_T40 m i).f1 ≤ 32767) := by
 have := h _ (getD_mem m i z40 hi)
 simpa [rd_T40] using this
def Pt (p : S40) : Prop := (-200 ≤ p.f0 ∧ p.f0 ≤ 200) ∧ (0 ≤ p.f1 ∧ p.f1 ≤ 400)
theorem spt_f {p : S40} (h : -32768 ≤ p.f0 ∧ p.f0 ≤ 32767) (h' : -32768 ≤ p.f1 ∧ p.f1 ≤ 32767) : spec_l02Point.f p.f0 p.f1 = some (decide ((-200 ≤ p.f0 ∧ p.f0 ≤ 200) ∧ (0 ≤ p.f1 ∧ p.f1 ≤ 400))) := by
 unfold spec_l02Point.f spec_l02Place.f spec_l02Density.f
 rw [w64 (x := p.f0) (by omega) (by omega), w64 (x := p.f1) (by omega) (by omega)]
 simp only [in_f, Option.bind_some]
 by_cases c : -200 ≤ p.f0 ∧ p.f0 ≤ 200 <;> simp [c]
theorem ipt_f {p : S40} (h : -32768 ≤ p.f0 ∧ p.f0 ≤ 32767) (h' : -32768 ≤ p.f1 ∧ p.f1 ≤ 32767) : impl_isPoint.f p.f0 p.f1 = some (decide ((-200 ≤ p.f0 ∧ p.f0 ≤ 200) ∧ (0 ≤ p.f1 ∧ p.f1 ≤ 400))) := by
 unfold impl_isPoint.f impl_isPlace.f impl_isDensity.f
 rw [w64 (x := p.f0) (by omega) (by omega), w64 (x := p.f1) (by omega) (by omega)]
 simp only [within_f, Option.bind_some]
 by_cases c : -200 ≤ p.f0 ∧ p.f0 ≤ 200 <;> simp [c]
def Shp (m : List S40) (i : Nat) : Prop := 0 < m.length ∧ ∀ j : Nat, i ≤ j → j < m.length → Pt (rd_T40 m j) ∧ (0 < j → (rd_T40 m (j - 1 : Nat)).f0 < (rd_T40 m j).f0 ∧ (rd_T40 m (j - 1 : Nat)).f1 ≤ (rd_T40 m j).f1)
def Cur (m : List S40) : Prop := m.length ≤ 12 ∧ Shp m 0
theorem shp_mono {m : List S40} (h : Shp m 0) (j : Nat) : ∀ i : Nat, i ≤ j → j < m.length → (rd_T40 m i).f0 ≤ (rd_T40 m j).f0 ∧ (rd_T40 m i).f1 ≤ (rd_T40 m j).f1 := by
 induction j with
 | zero =>
  intro i hi hj
  obtain rfl : i = 0 := by omega
  exact ⟨Int.le_refl _, Int.le_refl _⟩
 | succ j ih =>
  intro i hi hj
  by_cases e : i = j + 1
  · subst e
    exact ⟨Int.le_refl _, Int.le_refl _⟩
  · obtain ⟨a1, a2⟩ := ih i (by omega) (by omega)
    obtain ⟨_, b⟩ := h.2 (j + 1) (by omega) hj
    obtain ⟨b1, b2⟩ := b (by omega)
    rw [show j + 1 - 1 = j by omega] at b1 b2
    omega
theorem shp_pt {m : List S40} (h : Shp m 0) (i : Nat) (hi : i < m.length) : Pt (rd_T40 m i) := (h.2 i (by omega) hi).1
theorem shp_next {m : List S40} (h : Shp m 0) (i : Nat) (hi : i + 1 < m.length) : (rd_T40 m i).f0 < (rd_T40 m (i + 1 : Nat)).f0 ∧ (rd_T40 m i).f1 ≤ (rd_T40 m (i + 1 : Nat)).f1 := by
 have := (h.2 (i + 1) (by omega) hi).2 (by omega)
 rw [show i + 1 - 1 = i by omega] at this
 exact this
theorem gcd_l (n : Nat) (hn : n ≤ 1000000) : ∀ (k : Nat) (a b : Int), 0 ≤ a → a ≤ 1000000 → 0 ≤ b → b ≤ n → n < k → (0 < a ∨ 0 < b) → ∃ g, spec_l02Gcd.f k a b = some g ∧ impl_divisor.l0 k a b = some g ∧ 0 < g := by
 induction n with
 | zero =>
  intro k a b a0 a1 b0 b1 hk h
  obtain ⟨k, rfl⟩ : ∃ n, k = n + 1 := ⟨k - 1, by omega⟩
  have e : b = 0 := by omega
  subst e
  simp only [spec_l02Gcd.f, impl_divisor.l0, if_true, impl_size.f, Option.bind_some, mx]
  rw [w64 (x := -a) (by omega) (by omega), if_neg (by omega)]
  exact ⟨a, rfl, rfl, by omega⟩
 | succ n ih =>
  intro k a b a0 a1 b0 b1 hk h
  obtain ⟨k, rfl⟩ : ∃ n, k = n + 1 := ⟨k - 1, by omega⟩
  by_cases e : b = 0
  · subst e
    simp only [spec_l02Gcd.f, impl_divisor.l0, if_true, impl_size.f, Option.bind_some, mx]
    rw [w64 (x := -a) (by omega) (by omega), if_neg (by omega)]
    exact ⟨a, rfl, rfl, by omega⟩
  · simp only [spec_l02Gcd.f, impl_divisor.l0, e, if_false]
    rw [Int.tmod_eq_emod_of_nonneg a0]
    have m1 := Int.emod_nonneg a e
    have m2 := Int.emod_lt_of_pos a (show 0 < b by omega)
    obtain ⟨g, g1, g2, g3⟩ := ih (by omega) k b (a % b) b0 (by omega) m1 (by omega) (by omega) (.inl (by omega))
    rw [g1, g2]
    exact ⟨g, rfl, rfl, g3⟩
theorem steep_l (m : List S40) (h : Cur m) (h2 : 2 ≤ m.length) (d : Nat) : ∀ (k : Nat) (i : Nat) (b p q : Int), i + 1 ≤ m.length → m.length - 1 - i = d → d + 500 < k → (i = 0 ∧ p = -1 ∧ q = 1 ∨ 0 < i ∧ 0 ≤ p ∧ p ≤ 400 ∧ 1 ≤ q ∧ q ≤ 400) →
 ∃ z, spec_SteepestPart.l0 k m b p q i = some z ∧ impl_SteepestPart.l0 k m b p q (m.take (m.length - 1)) ((m.take (m.length - 1)).length : Int) i = some z := by
 obtain ⟨hlen, hs⟩ := h
 have tl : (m.take (m.length - 1)).length = m.length - 1 := by rw [List.length_take]; omega
 rw [tl]
 induction d with
 | zero =>
  intro k i b p q hi hd hk hr
  obtain ⟨k, rfl⟩ : ∃ n, k = n + 1 := ⟨k - 1, by omega⟩
  simp only [spec_SteepestPart.l0, impl_SteepestPart.l0]
  rw [w64 (x := (i : Int) + 1) (by omega) (by omega)]
  have g1 : ¬ (i : Int) + 1 < (m.length : Int) := by omega
  have g2 : ¬ (i : Int) < ((m.length - 1 : Nat) : Int) := by omega
  simp only [g1, g2, if_false]
  have hp : 0 ≤ p ∧ p ≤ 400 ∧ 1 ≤ q ∧ q ≤ 400 := by rcases hr with h | h <;> omega
  obtain ⟨g, e1, e2, e3⟩ := gcd_l q.toNat (by omega) k p q (by omega) (by omega) (by omega) (by omega) (by omega) (.inr (by omega))
  have g3 : ¬ g = 0 := by omega
  simp only [impl_divisor.f, e1, e2, Option.bind_some, g3, if_false]
  exact ⟨_, rfl, rfl⟩
 | succ d ih =>
  intro k i b p q hi hd hk hr
  obtain ⟨k, rfl⟩ : ∃ n, k = n + 1 := ⟨k - 1, by omega⟩
  obtain ⟨p11, p12⟩ := shp_pt hs i (by omega)
  obtain ⟨p21, p22⟩ := shp_pt hs (i + 1) (by omega)
  have n := shp_next hs i (by omega)
  have ec : ((i : Int) + 1) = ((i + 1 : Nat) : Int) := by omega
  have rt : rd_T40 (m.take (m.length - 1)) i = rd_T40 m i := by
   simp only [rd_T40, Int.toNat_natCast, List.getD_eq_getElem?_getD]
   rw [List.getElem?_take_of_lt (by omega)]
  simp only [spec_SteepestPart.l0, impl_SteepestPart.l0, tl, rt]
  rw [w64 (x := (i : Int) + 1) (by omega) (by omega)]
  have g1 : (i : Int) + 1 < (m.length : Int) := by omega
  have g2 : (i : Int) < ((m.length - 1 : Nat) : Int) := by omega
  have g3 : 0 ≤ (i : Int) + 1 := by omega
  have g4 : 0 ≤ (i : Int) := by omega
  have g5 : (i : Int) < (m.length : Int) := by omega
  simp only [g1, g2, g3, g4, g5, if_true]
  rw [ec, w64 (x := (rd_T40 m (i + 1 : Nat)).f0) (by omega) (by omega), w64 (x := (rd_T40 m (i + 1 : Nat)).f1) (by omega) (by omega), w64 (x := (rd_T40 m i).f0) (by omega) (by omega), w64 (x := (rd_T40 m i).f1) (by omega) (by omega)]
  rw [i16w (x := (rd_T40 m (i + 1 : Nat)).f0 - (rd_T40 m i).f0) (by omega) (by omega), i16w (x := (rd_T40 m (i + 1 : Nat)).f1 - (rd_T40 m i).f1) (by omega) (by omega)]
  rw [w64 (x := (rd_T40 m (i + 1 : Nat)).f0 - (rd_T40 m i).f0) (by omega) (by omega), w64 (x := (rd_T40 m (i + 1 : Nat)).f1 - (rd_T40 m i).f1) (by omega) (by omega)]
  by_cases c : wrap64 (((rd_T40 m (i + 1 : Nat)).f1 - (rd_T40 m i).f1) * q) > wrap64 (p * ((rd_T40 m (i + 1 : Nat)).f0 - (rd_T40 m i).f0))
  · simp only [c, if_true]
    exact ih k (i + 1) _ _ _ (by omega) (by omega) (by omega) (.inr ⟨by omega, by omega, by omega, by omega, by omega⟩)
  · simp only [c, if_false]
    refine ih k (i + 1) _ _ _ (by omega) (by omega) (by omega) (.inr ?_)
    rcases hr with ⟨_, rfl, rfl⟩ | hr
    · exfalso
      apply c
      rw [w64 (by omega) (by omega), w64 (by omega) (by omega)]
      omega
    · omega
theorem steep_f (m : List S40) (h : Cur m) (h2 : 2 ≤ m.length) (k : Nat) (hk : 600 < k) : ∃ z, spec_SteepestPart.l0 k m 0 (-1) 1 0 = some z ∧ (some (m.take (m.length - 1) : List S40)).bind (fun y => impl_SteepestPart.l0 k m 0 (-1) 1 y (y.length : Int) 0) = some z :=
 steep_l m h h2 (m.length - 1) k 0 0 (-1) 1 (by omega) (by omega) (by have := h.1; omega) (.inl ⟨rfl, rfl, rfl⟩)
theorem gcd_d : ∀ (k : Nat) (a b g : Int), 0 ≤ a → 0 ≤ b → spec_l02Gcd.f k a b = some g → g ∣ a ∧ g ∣ b
 | 0, a, b, g, _, _, h => by simp [spec_l02Gcd.f] at h
 | k + 1, a, b, g, ha, hb, h => by
  simp only [spec_l02Gcd.f] at h
  by_cases e : b = 0
  · rw [if_pos e] at h
    obtain rfl := Option.some.inj h
    exact ⟨Int.dvd_refl _, by rw [e]; exact Int.dvd_zero _⟩
  · rw [if_neg e, Int.tmod_eq_emod_of_nonneg ha] at h
    obtain ⟨g', e1, e2⟩ := Option.bind_eq_some_iff.1 h
    obtain rfl := Option.some.inj e2
    obtain ⟨d1, d2⟩ := gcd_d k b (a % b) g' hb (Int.emod_nonneg a e) e1
    refine ⟨?_, d1⟩
    have := Int.mul_ediv_add_emod a b
    rw [← this]
    exact Int.dvd_add (Int.dvd_trans d1 (Int.dvd_mul_right _ _)) d2
def Stp (m : List S40) (i : Nat) (p q : Int) : Prop := ∀ j : Nat, j < i → ((rd_T40 m (j + 1 : Nat)).f1 - (rd_T40 m j).f1) * q ≤ p * ((rd_T40 m (j + 1 : Nat)).f0 - (rd_T40 m j).f0)
theorem stp_turn {x y p q u v : Int} (hq : 0 < q) (hy : 0 < y) (hv : 0 < v) (h : x * q ≤ p * y) (h' : p * v < u * q) : x * v ≤ u * y := by
 have a : x * q * v ≤ p * y * v := Int.mul_le_mul_of_nonneg_right h (Int.le_of_lt hv)
 have b : p * v * y ≤ u * q * y := Int.mul_le_mul_of_nonneg_right (Int.le_of_lt h') (Int.le_of_lt hy)
 have e1 : x * q * v = (x * v) * q := by rw [Int.mul_assoc, Int.mul_comm q v, ← Int.mul_assoc]
 have e2 : p * y * v = p * v * y := by rw [Int.mul_assoc, Int.mul_comm y v, ← Int.mul_assoc]
 have e3 : u * q * y = (u * y) * q := by rw [Int.mul_assoc, Int.mul_comm q y, ← Int.mul_assoc]
 exact Int.le_of_mul_le_mul_right (by omega) hq
theorem stv_l (m : List S40) (h : Cur m) (h2 : 2 ≤ m.length) (d : Nat) : ∀ (k : Nat) (i : Nat) (b p q : Int), i + 1 ≤ m.length → m.length - 1 - i = d → d + 500 < k → (i = 0 ∧ p = -1 ∧ q = 1 ∨ 0 < i ∧ 0 ≤ p ∧ p ≤ 400 ∧ 1 ≤ q ∧ q ≤ 400) → Stp m i p q →
 ∃ z : Int × Int × Int × Int, spec_SteepestPart.l0 k m b p q i = some z ∧ z.2.2.2 = 0 ∧ (0 ≤ z.2.1 ∧ z.2.1 ≤ 400) ∧ (1 ≤ z.2.2.1 ∧ z.2.2.1 ≤ 400) ∧ Stp m (m.length - 1) z.2.1 z.2.2.1 := by
 obtain ⟨hlen, hs⟩ := h
 induction d with
 | zero =>
  intro k i b p q hi hd hk hr hst
  obtain ⟨k, rfl⟩ : ∃ n, k = n + 1 := ⟨k - 1, by omega⟩
  have ei : i = m.length - 1 := by omega
  simp only [spec_SteepestPart.l0]
  rw [w64 (x := (i : Int) + 1) (by omega) (by omega)]
  have g1 : ¬ (i : Int) + 1 < (m.length : Int) := by omega
  simp only [g1, if_false]
  have hp : 0 ≤ p ∧ p ≤ 400 ∧ 1 ≤ q ∧ q ≤ 400 := by rcases hr with h | h <;> omega
  obtain ⟨g, e1, _, e3⟩ := gcd_l q.toNat (by omega) k p q (by omega) (by omega) (by omega) (by omega) (by omega) (.inr (by omega))
  obtain ⟨⟨p', dp⟩, ⟨q', dq⟩⟩ := gcd_d k p q g (by omega) (by omega) e1
  have g3 : ¬ g = 0 := by omega
  have p0 : 0 ≤ p' := by
   rcases Int.lt_or_le p' 0 with n | n
   · have := Int.mul_lt_mul_of_pos_left n e3
     omega
   · exact n
  have q0 : 0 < q' := by
   rcases Int.lt_or_le 0 q' with n | n
   · exact n
   · have := Int.mul_le_mul_of_nonneg_left n (Int.le_of_lt e3)
     omega
  have pl : p' ≤ p := by rw [dp]; have := Int.mul_le_mul_of_nonneg_right (show (1 : Int) ≤ g by omega) p0; omega
  have ql : q' ≤ q := by rw [dq]; have := Int.mul_le_mul_of_nonneg_right (show (1 : Int) ≤ g by omega) (Int.le_of_lt q0); omega
  have t1 : Int.tdiv p g = p' := by rw [dp]; exact Int.mul_tdiv_cancel_left _ g3
  have t2 : Int.tdiv q g = q' := by rw [dq]; exact Int.mul_tdiv_cancel_left _ g3
  rw [e1, Option.bind_some, if_neg g3, t1, t2, w64 (x := p') (by omega) (by omega), w64 (x := q') (by omega) (by omega)]
  refine ⟨_, rfl, rfl, ⟨p0, by show p' ≤ 400; omega⟩, ⟨by show 1 ≤ q'; omega, by show q' ≤ 400; omega⟩, fun j hj => ?_⟩
  have w := hst j (by omega)
  rw [dp, dq] at w
  have a : ((rd_T40 m (j + 1 : Nat)).f1 - (rd_T40 m j).f1) * (g * q') = (((rd_T40 m (j + 1 : Nat)).f1 - (rd_T40 m j).f1) * q') * g := by rw [Int.mul_comm g q', ← Int.mul_assoc]
  have b : g * p' * ((rd_T40 m (j + 1 : Nat)).f0 - (rd_T40 m j).f0) = (p' * ((rd_T40 m (j + 1 : Nat)).f0 - (rd_T40 m j).f0)) * g := by rw [Int.mul_assoc, Int.mul_comm]
  rw [a, b] at w
  exact Int.le_of_mul_le_mul_right w e3
 | succ d ih =>
  intro k i b p q hi hd hk hr hst
  obtain ⟨k, rfl⟩ : ∃ n, k = n + 1 := ⟨k - 1, by omega⟩
  obtain ⟨p11, p12⟩ := shp_pt hs i (by omega)
  obtain ⟨p21, p22⟩ := shp_pt hs (i + 1) (by omega)
  have n := shp_next hs i (by omega)
  have ec : ((i : Int) + 1) = ((i + 1 : Nat) : Int) := by omega
  simp only [spec_SteepestPart.l0]
  rw [w64 (x := (i : Int) + 1) (by omega) (by omega)]
  have g1 : (i : Int) + 1 < (m.length : Int) := by omega
  have g3 : 0 ≤ (i : Int) + 1 := by omega
  have g4 : 0 ≤ (i : Int) := by omega
  have g5 : (i : Int) < (m.length : Int) := by omega
  simp only [g1, g3, g4, g5, if_true]
  rw [ec, w64 (x := (rd_T40 m (i + 1 : Nat)).f0) (by omega) (by omega), w64 (x := (rd_T40 m (i + 1 : Nat)).f1) (by omega) (by omega), w64 (x := (rd_T40 m i).f0) (by omega) (by omega), w64 (x := (rd_T40 m i).f1) (by omega) (by omega)]
  rw [w64 (x := (rd_T40 m (i + 1 : Nat)).f0 - (rd_T40 m i).f0) (by omega) (by omega), w64 (x := (rd_T40 m (i + 1 : Nat)).f1 - (rd_T40 m i).f1) (by omega) (by omega)]
  have dx : ∀ j : Nat, j < i → 0 < (rd_T40 m (j + 1 : Nat)).f0 - (rd_T40 m j).f0 := fun j hj => by have := shp_next hs j (by omega); omega
  obtain ⟨u, hu⟩ : ∃ u, (rd_T40 m (i + 1 : Nat)).f1 - (rd_T40 m i).f1 = u := ⟨_, rfl⟩
  obtain ⟨v, hv⟩ : ∃ v, (rd_T40 m (i + 1 : Nat)).f0 - (rd_T40 m i).f0 = v := ⟨_, rfl⟩
  have hpq : -1 ≤ p ∧ p ≤ 400 ∧ 1 ≤ q ∧ q ≤ 400 := by rcases hr with h | h <;> omega
  have ub : 0 ≤ u ∧ u ≤ 400 := by omega
  have vb : 1 ≤ v ∧ v ≤ 400 := by omega
  have m1 : 0 ≤ u * q ∧ u * q ≤ 160000 := by
   have a := Int.mul_nonneg ub.1 (show 0 ≤ q by omega)
   have b := Int.mul_le_mul ub.2 (show q ≤ 400 by omega) (by omega) (by omega)
   omega
  have m2 : -400 ≤ p * v ∧ p * v ≤ 160000 := by
   have a := Int.mul_nonneg (show 0 ≤ p + 1 by omega) (show 0 ≤ v by omega)
   have b := Int.mul_le_mul_of_nonneg_right (show p ≤ 400 by omega) (show 0 ≤ v by omega)
   rw [Int.add_mul] at a
   omega
  rw [hu, hv, w64 (x := u * q) (by omega) (by omega), w64 (x := p * v) (by omega) (by omega)]
  by_cases c : u * q > p * v
  · rw [if_pos c]
    refine ih k (i + 1) _ u v (by omega) (by omega) (by omega) (.inr ⟨by omega, by omega, by omega, by omega, by omega⟩) (fun j hj => ?_)
    by_cases e : j = i
    · subst e
      rw [hu, hv]
      exact Int.le_refl _
    · exact stp_turn (by omega) (dx j (by omega)) (by omega) (hst j (by omega)) (by omega)
  · rw [if_neg c]
    refine ih k (i + 1) _ p q (by omega) (by omega) (by omega) (.inr ?_) (fun j hj => ?_)
    · rcases hr with ⟨_, rfl, rfl⟩ | hr
      · exfalso
        apply c
        omega
      · omega
    · by_cases e : j = i
      · subst e
        rw [hu, hv]
        omega
      · exact hst j (by omega)
theorem up {α : Type} {g : Nat → Option α} (h : ∀ k, LeO (g k) (g (k + 1))) {r q : α} (i j : Nat) (hr : g i = some r) (hq : g j = some q) : g j = some r := by
 have a := at_rounds h (Nat.le_max_left i j) hr
 have b := at_rounds h (Nat.le_max_right i j) hq
 rw [a] at b
 rw [hq, Option.some.inj b]
def seg (p q : S40) (x : Int) : Int := p.f1 + (q.f1 - p.f1) * (x - p.f0) / (q.f0 - p.f0)
theorem seg_bd {p q : S40} {x : Int} (h1 : p.f0 ≤ x) (h2 : x ≤ q.f0) (h3 : p.f0 < q.f0) (h4 : p.f1 ≤ q.f1) : p.f1 ≤ seg p q x ∧ seg p q x ≤ q.f1 := by
 unfold seg
 have a1 : 0 ≤ (q.f1 - p.f1) * (x - p.f0) := Int.mul_nonneg (by omega) (by omega)
 have a2 : (q.f1 - p.f1) * (x - p.f0) ≤ (q.f1 - p.f1) * (q.f0 - p.f0) := Int.mul_le_mul_of_nonneg_left (by omega) (by omega)
 have b1 : 0 ≤ (q.f1 - p.f1) * (x - p.f0) / (q.f0 - p.f0) := Int.ediv_nonneg a1 (by omega)
 have b2 : (q.f1 - p.f1) * (x - p.f0) / (q.f0 - p.f0) ≤ (q.f1 - p.f1) * (q.f0 - p.f0) / (q.f0 - p.f0) := Int.ediv_le_ediv (by omega) a2
 rw [Int.mul_ediv_cancel _ (by omega)] at b2
 omega
theorem seg_mono {p q : S40} {x y : Int} (h : x ≤ y) (h3 : p.f0 < q.f0) (h4 : p.f1 ≤ q.f1) : seg p q x ≤ seg p q y := by
 unfold seg
 have a2 : (q.f1 - p.f1) * (x - p.f0) ≤ (q.f1 - p.f1) * (y - p.f0) := Int.mul_le_mul_of_nonneg_left (by omega) (by omega)
 have b2 := Int.ediv_le_ediv (c := q.f0 - p.f0) (by omega) a2
 omega
def IsAt (m : List S40) (x r : Int) : Prop :=
 (x ≤ (rd_T40 m (0 : Nat)).f0 ∧ r = (rd_T40 m (0 : Nat)).f1) ∨ ((rd_T40 m (0 : Nat)).f0 < x ∧ (rd_T40 m (m.length - 1 : Nat)).f0 ≤ x ∧ r = (rd_T40 m (m.length - 1 : Nat)).f1) ∨
  ∃ i : Nat, i + 1 < m.length ∧ (rd_T40 m (0 : Nat)).f0 < x ∧ (rd_T40 m i).f0 ≤ x ∧ x < (rd_T40 m (i + 1 : Nat)).f0 ∧ r = seg (rd_T40 m i) (rd_T40 m (i + 1 : Nat)) x
theorem isat_mono {m : List S40} (h : Shp m 0) {x y r s : Int} (hx : IsAt m x r) (hy : IsAt m y s) (hxy : x ≤ y) : r ≤ s := by
 have hl := h.1
 have top := shp_mono h (m.length - 1) 0 (by omega) (by omega)
 rcases hx with ⟨x1, rfl⟩ | ⟨x1, x2, rfl⟩ | ⟨i, i1, x1, x2, x3, rfl⟩
 · rcases hy with ⟨y1, rfl⟩ | ⟨y1, y2, rfl⟩ | ⟨j, j1, y1, y2, y3, rfl⟩
   · exact Int.le_refl _
   · exact top.2
   · have n := shp_next h j j1
     have b := seg_bd y2 (Int.le_of_lt y3) n.1 n.2
     have c := shp_mono h j 0 (by omega) (by omega)
     omega
 · rcases hy with ⟨y1, rfl⟩ | ⟨y1, y2, rfl⟩ | ⟨j, j1, y1, y2, y3, rfl⟩
   · omega
   · exact Int.le_refl _
   · have c := shp_mono h (m.length - 1) (j + 1) (by omega) (by omega)
     omega
 · have n := shp_next h i i1
   have b := seg_bd x2 (Int.le_of_lt x3) n.1 n.2
   rcases hy with ⟨y1, rfl⟩ | ⟨y1, y2, rfl⟩ | ⟨j, j1, y1, y2, y3, rfl⟩
   · omega
   · have c := shp_mono h (m.length - 1) (i + 1) (by omega) (by omega)
     omega
   · have n' := shp_next h j j1
     have b' := seg_bd y2 (Int.le_of_lt y3) n'.1 n'.2
     by_cases e : i = j
     · subst e
       exact seg_mono hxy n.1 n.2
     · by_cases e' : i < j
       · have c := shp_mono h j (i + 1) (by omega) (by omega)
         omega
       · have c := shp_mono h i (j + 1) (by omega) (by omega)
         omega
theorem isat_bd {m : List S40} (h : Shp m 0) {x r : Int} (hx : IsAt m x r) : (rd_T40 m (0 : Nat)).f1 ≤ r ∧ r ≤ (rd_T40 m (m.length - 1 : Nat)).f1 := by
 have hl := h.1
 have top := shp_mono h (m.length - 1) 0 (by omega) (by omega)
 rcases hx with ⟨x1, rfl⟩ | ⟨x1, x2, rfl⟩ | ⟨i, i1, x1, x2, x3, rfl⟩
 · omega
 · omega
 · have n := shp_next h i i1
   have b := seg_bd x2 (Int.le_of_lt x3) n.1 n.2
   have c := shp_mono h (m.length - 1) (i + 1) (by omega) (by omega)
   have c' := shp_mono h i 0 (by omega) (by omega)
   omega
theorem at_l (m : List S40) (h : Cur m) (x : Int) (hx : -1000000 ≤ x ∧ x ≤ 1000000) (h0 : (rd_T40 m (0 : Nat)).f0 < x) (hlast : x < (rd_T40 m (m.length - 1 : Nat)).f0) (d : Nat) : ∀ (k i : Nat), i + 1 < m.length → m.length - i = d → d < k → (rd_T40 m i).f0 ≤ x →
 ∃ r, spec_l02At.l0 k m x i = some r ∧ impl_Curve_at.l0 k m x ((i : Int) + 1) = some r ∧ IsAt m x r := by
 induction d with
 | zero => intro k i hi hd hk hr; omega
 | succ d ih =>
  intro k i hi hd hk hr
  obtain ⟨k, rfl⟩ : ∃ n, k = n + 1 := ⟨k - 1, by omega⟩
  obtain ⟨hlen, hs⟩ := h
  have p1 := shp_pt hs i (by omega)
  have p2 := shp_pt hs (i + 1) hi
  obtain ⟨p11, p12⟩ := p1
  obtain ⟨p21, p22⟩ := p2
  have n := shp_next hs i hi
  have g1 : 0 ≤ (i : Int) + 1 := by omega
  have g2 : (i : Int) + 1 < (m.length : Int) := by omega
  have g3 : 0 ≤ (i : Int) := by omega
  have g4 : (i : Int) < (m.length : Int) := by omega
  have ec : ((i : Int) + 1) = ((i + 1 : Nat) : Int) := by omega
  simp only [spec_l02At.l0, impl_Curve_at.l0]
  rw [w64 (x := (i : Int) + 1) (by omega) (by omega), w64 (x := (i : Int) + 1 + 1) (by omega) (by omega), w64 (x := (i : Int) + 1 - 1) (by omega) (by omega), show (i : Int) + 1 - 1 = (i : Int) by omega]
  simp only [g1, g2, g3, g4, if_true]
  rw [ec, w64 (x := (rd_T40 m (i + 1 : Nat)).f0) (by omega) (by omega)]
  by_cases c : (rd_T40 m (i + 1 : Nat)).f0 ≤ x
  · simp only [c, if_true]
    by_cases e : i + 1 + 1 < m.length
    · obtain ⟨r, r1, r2, r3⟩ := ih k (i + 1) e (by omega) (by omega) c
      exact ⟨r, r1, r2, r3⟩
    · rw [show m.length - 1 = i + 1 by omega] at hlast
      omega
  · simp only [c, if_false]
    rw [w64 (x := (rd_T40 m i).f0) (by omega) (by omega), w64 (x := (rd_T40 m (i + 1 : Nat)).f1) (by omega) (by omega), w64 (x := (rd_T40 m i).f1) (by omega) (by omega)]
    rw [i16w (x := (rd_T40 m (i + 1 : Nat)).f0 - (rd_T40 m i).f0) (by omega) (by omega), i16w (x := (rd_T40 m (i + 1 : Nat)).f1 - (rd_T40 m i).f1) (by omega) (by omega)]
    have q1 : 0 ≤ ((rd_T40 m (i + 1 : Nat)).f1 - (rd_T40 m i).f1) * (x - (rd_T40 m i).f0) := Int.mul_nonneg (by omega) (by omega)
    have q2 : ((rd_T40 m (i + 1 : Nat)).f1 - (rd_T40 m i).f1) * (x - (rd_T40 m i).f0) ≤ 400 * 400 := Int.mul_le_mul (by omega) (by omega) (by omega) (by omega)
    rw [w64 (x := (rd_T40 m (i + 1 : Nat)).f0 - (rd_T40 m i).f0) (by omega) (by omega), w64 (x := (rd_T40 m (i + 1 : Nat)).f1 - (rd_T40 m i).f1) (by omega) (by omega), w64 (x := x - (rd_T40 m i).f0) (by omega) (by omega), w64 (x := ((rd_T40 m (i + 1 : Nat)).f1 - (rd_T40 m i).f1) * (x - (rd_T40 m i).f0)) (by omega) (by omega), Int.tdiv_eq_ediv_of_nonneg q1]
    have b := seg_bd hr (show x ≤ (rd_T40 m (i + 1 : Nat)).f0 by omega) n.1 n.2
    have eb : (rd_T40 m i).f1 + ((rd_T40 m (i + 1 : Nat)).f1 - (rd_T40 m i).f1) * (x - (rd_T40 m i).f0) / ((rd_T40 m (i + 1 : Nat)).f0 - (rd_T40 m i).f0) = seg (rd_T40 m i) (rd_T40 m (i + 1 : Nat)) x := rfl
    rw [w64 (x := ((rd_T40 m (i + 1 : Nat)).f1 - (rd_T40 m i).f1) * (x - (rd_T40 m i).f0) / ((rd_T40 m (i + 1 : Nat)).f0 - (rd_T40 m i).f0)) (by omega) (by omega), eb, w64 (x := seg (rd_T40 m i) (rd_T40 m (i + 1 : Nat)) x) (by omega) (by omega)]
    have g5 : ¬ (rd_T40 m (i + 1 : Nat)).f0 - (rd_T40 m i).f0 = 0 := by omega
    simp only [g5, if_false]
    exact ⟨_, rfl, rfl, .inr (.inr ⟨i, hi, h0, hr, by omega, rfl⟩)⟩
theorem at_k (m : List S40) (h : Cur m) (x : Int) (hx : -1000000 ≤ x ∧ x ≤ 1000000) (k : Nat) (hk : 13 < k) : ∃ r, spec_l02At.f k m x = some r ∧ impl_Curve_at.f k m x = some r ∧ IsAt m x r := by
 obtain ⟨hlen, hs⟩ := h
 have hl := hs.1
 obtain ⟨p11, p12⟩ := shp_pt hs 0 (by omega)
 obtain ⟨p21, p22⟩ := shp_pt hs (m.length - 1) (by omega)
 unfold spec_l02At.f impl_Curve_at.f
 have g1 : 0 < (m.length : Int) := by omega
 have g2 : 0 ≤ ((m.length - 1 : Nat) : Int) := by omega
 have g3 : ((m.length - 1 : Nat) : Int) < (m.length : Int) := by omega
 rw [w64 (x := (m.length : Int) - 1) (by omega) (by omega), show ((m.length : Int) - 1) = ((m.length - 1 : Nat) : Int) by omega]
 have z : rd_T40 m 0 = rd_T40 m (0 : Nat) := rfl
 rw [z, w64 (x := (rd_T40 m (0 : Nat)).f0) (by omega) (by omega), w64 (x := (rd_T40 m (0 : Nat)).f1) (by omega) (by omega), w64 (x := (rd_T40 m (m.length - 1 : Nat)).f0) (by omega) (by omega), w64 (x := (rd_T40 m (m.length - 1 : Nat)).f1) (by omega) (by omega)]
 simp only [g1, g2, g3, if_true]
 by_cases c : x ≤ (rd_T40 m (0 : Nat)).f0
 · simp only [c, if_true]
   exact ⟨_, rfl, rfl, .inl ⟨c, rfl⟩⟩
 · simp only [c, if_false]
   by_cases c2 : x ≥ (rd_T40 m (m.length - 1 : Nat)).f0
   · simp only [c2, if_true]
     exact ⟨_, rfl, rfl, .inr (.inl ⟨by omega, c2, rfl⟩)⟩
   · simp only [c2, if_false]
     have hne : 0 + 1 < m.length := by
      by_cases e : m.length = 1
      · rw [e] at c2
        exact absurd (show x ≥ (rd_T40 m (0 : Nat)).f0 by omega) c2
      · omega
     exact at_l m ⟨hlen, hs⟩ x hx (by omega) (by omega) m.length k 0 hne (by omega) (by omega) (by omega)
def atV (m : List S40) (x : Int) : Int := (spec_l02At.f 20 m x).getD 0
theorem at_f (m : List S40) (h : Cur m) (x : Int) (hx : -1000000 ≤ x ∧ x ≤ 1000000) : (∀ k, 13 < k → spec_l02At.f k m x = some (atV m x) ∧ impl_Curve_at.f k m x = some (atV m x)) ∧ IsAt m x (atV m x) ∧ 0 ≤ atV m x ∧ atV m x ≤ 400 := by
 obtain ⟨r, r1, r2, r3⟩ := at_k m h x hx 20 (by omega)
 have e : atV m x = r := by unfold atV; rw [r1]; rfl
 have b := isat_bd h.2 r3
 obtain ⟨_, p12⟩ := shp_pt h.2 0 h.2.1
 obtain ⟨_, p22⟩ := shp_pt h.2 (m.length - 1) (by have := h.2.1; omega)
 rw [e]
 refine ⟨fun k hk => ?_, r3, by omega, by omega⟩
 obtain ⟨s, s1, s2, _⟩ := at_k m h x hx k hk
 exact ⟨up (spec_l02At.mono m x) 20 k r1 s1, up (impl_Curve_at.mono m x) 20 k r2 s2⟩
theorem fp_l (m : List S40) (h : Cur m) (y : Int) (d : Nat) : ∀ (k : Nat) (x : Int), -200 ≤ x → x ≤ 201 → 201 - x = d → d + 14 < k →
 ∃ r, spec_l02For.l0 k m y x = some r ∧ impl_Curve_firstPlace.l0 k m y x = some r ∧ x ≤ r ∧ r ≤ 201 ∧ (∀ j, x ≤ j → j < r → atV m j < y) ∧ (r ≤ 200 → y ≤ atV m r) := by
 induction d with
 | zero =>
  intro k x h0 h1 hd hk
  obtain ⟨k, rfl⟩ : ∃ n, k = n + 1 := ⟨k - 1, by omega⟩
  simp only [spec_l02For.l0, impl_Curve_firstPlace.l0]
  have g : ¬ x ≤ 200 := by omega
  simp only [g, if_false]
  exact ⟨x, rfl, rfl, by omega, by omega, fun j j0 j1 => by omega, fun h => by omega⟩
 | succ d ih =>
  intro k x h0 h1 hd hk
  obtain ⟨k, rfl⟩ : ∃ n, k = n + 1 := ⟨k - 1, by omega⟩
  simp only [spec_l02For.l0, impl_Curve_firstPlace.l0]
  have g : x ≤ 200 := by omega
  obtain ⟨a1, _⟩ := at_f m h x (by omega)
  obtain ⟨b1, b2⟩ := a1 k (by omega)
  simp only [g, if_true, b1, b2, Option.bind_some]
  rw [w64 (x := x + 1) (by omega) (by omega)]
  by_cases c : atV m x < y
  · simp only [c, if_true]
    obtain ⟨r, r1, r2, r3, r4, r5, r6⟩ := ih k (x + 1) (by omega) (by omega) (by omega) (by omega)
    refine ⟨r, r1, r2, by omega, r4, fun j j0 j1 => ?_, r6⟩
    by_cases e : j = x
    · rw [e]; exact c
    · exact r5 j (by omega) j1
  · simp only [c, if_false]
    exact ⟨x, rfl, rfl, by omega, by omega, fun j j0 j1 => by omega, fun _ => by omega⟩
theorem fp_f (m : List S40) (h : Cur m) (y : Int) (k : Nat) (hk : 420 < k) : ∃ r, spec_l02For.f k m y = some r ∧ impl_Curve_firstPlace.f k m y = some r ∧ -200 ≤ r ∧ r ≤ 201 ∧ (∀ j, -200 ≤ j → j < r → atV m j < y) ∧ (r ≤ 200 → y ≤ atV m r) :=
 fp_l m h y 401 k (-200) (by omega) (by omega) (by omega) (by omega)
theorem size_list (s : ByteArray) : s.data.toList.length = s.size := by
 rw [Array.length_toList]; rfl
theorem ba_ext {s t : ByteArray} (h : s.data.toList = t.data.toList) : s = t := by
 obtain ⟨⟨a⟩⟩ := s
 obtain ⟨⟨b⟩⟩ := t
 simp at h
 rw [h]
def spl (c : UInt8) : List UInt8 → List (List UInt8)
 | [] => [[]]
 | b :: r => if b = c then [] :: spl c r else match spl c r with | [] => [[b]] | h :: t => (b :: h) :: t
theorem spl_ne (c : UInt8) (l : List UInt8) : ∃ h t, spl c l = h :: t := by
 induction l with
 | nil => exact ⟨[], [], rfl⟩
 | cons b r ih =>
  obtain ⟨h, t, e⟩ := ih
  simp only [spl]
  by_cases q : b = c
  · rw [if_pos q]; exact ⟨_, _, rfl⟩
  · rw [if_neg q, e]; exact ⟨_, _, rfl⟩
theorem spl_len (c : UInt8) (l : List UInt8) : (spl c l).length ≤ l.length + 1 := by
 induction l with
 | nil => simp [spl]
 | cons b r ih =>
  obtain ⟨h, t, e⟩ := spl_ne c r
  simp only [spl]
  by_cases q : b = c
  · rw [if_pos q]; simp only [List.length_cons]; omega
  · rw [if_neg q]
    rw [e] at ih ⊢
    simp only [List.length_cons] at ih ⊢
    omega
theorem spl_idx (c : UInt8) : ∀ s : List UInt8, (Lib.index s [c] = -1 ∧ spl c s = [s]) ∨ ∃ j : Nat, Lib.index s [c] = (j : Int) ∧ spl c s = s.take j :: spl c (s.drop (j + 1))
 | [] => .inl ⟨rfl, rfl⟩
 | b :: l => by
  by_cases q : b = c
  · subst q
    refine .inr ⟨0, ?_, ?_⟩
    · simp [Lib.index, List.isPrefixOf]
    · simp [spl]
  · have nq : ¬ (List.isPrefixOf [c] (b :: l)) = true := by
     simp [List.isPrefixOf]
     exact fun h => q h.symm
    rcases spl_idx c l with ⟨e1, e2⟩ | ⟨j, e1, e2⟩
    · refine .inl ⟨?_, ?_⟩
      · rw [Lib.index, if_neg nq, e1]; rfl
      · simp only [spl]; rw [if_neg q, e2]
    · refine .inr ⟨j + 1, ?_, ?_⟩
      · rw [Lib.index, if_neg nq, e1, if_neg (by simp)]; rfl
      · simp only [spl]; rw [if_neg q, e2]; rfl
theorem splitK_spl (c : UInt8) : ∀ (k : Nat) (s : List UInt8), ((spl c s).length ≤ k + 1 → Lib.splitK [c] 0 k s = spl c s) ∧ (k + 1 < (spl c s).length → (Lib.splitK [c] 0 k s).length = k + 1)
 | 0, s => by
  rcases spl_idx c s with ⟨_, e2⟩ | ⟨j, _, e2⟩
  · exact ⟨fun _ => by rw [e2]; rfl, fun h => by rw [e2] at h; simp at h⟩
  · obtain ⟨h', t', e'⟩ := spl_ne c (s.drop (j + 1))
    exact ⟨fun h => by rw [e2, e'] at h; simp at h, fun _ => rfl⟩
 | k + 1, s => by
  unfold Lib.splitK
  rcases spl_idx c s with ⟨e1, e2⟩ | ⟨j, e1, e2⟩
  · rw [if_pos (by rw [e1]; rfl)]
    exact ⟨fun _ => e2.symm, fun h => by rw [e2] at h; simp at h⟩
  · have ih := splitK_spl c k (s.drop (j + 1))
    rw [if_neg (by rw [e1]; simp), e1, e2]
    simp only [Int.toNat_natCast, Nat.add_zero, List.length_cons, List.length_nil, Nat.zero_add]
    exact ⟨fun h => by rw [ih.1 (by omega)], fun h => by rw [ih.2 (by omega)]⟩
def decB (x : Int) : ByteArray := ⟨(Lib.itoa x).toArray⟩
def ptB (p : S40) : ByteArray := (decB p.f0 ++ (⟨#[58]⟩ : ByteArray)) ++ decB p.f1
def ptL (p : S40) : List UInt8 := (ptB p).data.toList
theorem all_sz : (List.range 601).all (fun n => decide ((decB ((n : Int) - 200)).size ≤ 4)) = true := by kernel_rfl
theorem sz_f (x : Int) (h : -200 ≤ x ∧ x ≤ 400) : (decB x).size ≤ 4 := by
 obtain ⟨n, hn⟩ : ∃ n : Nat, (n : Int) - 200 = x := ⟨(x + 200).toNat, by omega⟩
 have q := List.all_eq_true.1 all_sz n (List.mem_range.2 (by omega))
 rw [hn] at q
 exact of_decide_eq_true q
theorem im_f (x : Int) (h : -200 ≤ x ∧ x ≤ 400) : impl_decimal.f x = some (decB x) := by
 unfold impl_decimal.f
 rw [if_pos (by omega)]
 rfl
theorem one58 : (⟨#[58]⟩ : ByteArray).size = 1 := rfl
theorem ptB_size (p : S40) (h : Pt p) : (ptB p).size ≤ 9 ∧ (decB p.f0).size + 1 ≤ 9223372036854775807 ∧ (decB p.f0 ++ (⟨#[58]⟩ : ByteArray)).size + (decB p.f1).size ≤ 9223372036854775807 := by
 unfold Pt at h
 have a := sz_f p.f0 (by omega)
 have b := sz_f p.f1 (by omega)
 unfold ptB
 rw [ByteArray.size_append, ByteArray.size_append, one58]
 omega
theorem join_snoc (xs : List (List UInt8)) (y : List UInt8) : Lib.join (xs ++ [y]) [32] = if xs = [] then y else Lib.join xs [32] ++ [32] ++ y := by
 cases xs with
 | nil => rw [if_pos rfl, List.nil_append, Lib.join_one]
 | cons x r =>
  rw [if_neg (by simp), List.cons_append, Lib.join_cons, Lib.join_cons]
  simp [Lib.joinTail, List.append_assoc]
theorem w64s (i : Nat) (h : i < 1000000) : wrap64 ((i : Int) + 1) = ((i + 1 : Nat) : Int) := by rw [w64 (by omega) (by omega)]; rfl
theorem itext_l (l : List S40) (hl : l.length ≤ 12) (hp : ∀ j : Nat, j < l.length → Pt (rd_T40 l j)) (d : Nat) : ∀ (k i : Nat), i ≤ l.length → l.length - i = d → d < k →
 impl_curveText.l0 k ((l.take i).map ptB) l (l.length : Int) i = strings_Join.f (l.map ptB) (⟨#[32]⟩ : ByteArray) := by
 induction d with
 | zero =>
  intro k i h0 hd hk
  obtain ⟨k, rfl⟩ : ∃ n, k = n + 1 := ⟨k - 1, by omega⟩
  simp only [impl_curveText.l0]
  rw [if_neg (by omega), List.take_of_length_le (by omega)]
  cases strings_Join.f (l.map ptB) (⟨#[32]⟩ : ByteArray) <;> rfl
 | succ d ih =>
  intro k i h0 hd hk
  obtain ⟨k, rfl⟩ : ∃ n, k = n + 1 := ⟨k - 1, by omega⟩
  have p := hp i (by omega)
  obtain ⟨z1, z2, z3⟩ := ptB_size _ p
  unfold Pt at p
  have e1 := im_f (rd_T40 l i).f0 (by omega)
  have e2 := im_f (rd_T40 l i).f1 (by omega)
  have eb : (decB (rd_T40 l i).f0 ++ (⟨#[58]⟩ : ByteArray)) ++ decB (rd_T40 l i).f1 = ptB (rd_T40 l i) := rfl
  have tk : (l.take i).map ptB ++ [ptB (rd_T40 l i)] = (l.take (i + 1)).map ptB := by
   rw [List.take_add_one, List.getElem?_eq_getElem (by omega), List.map_append]
   simp [rd_T40, List.getD_eq_getElem?_getD, show i < l.length by omega]
  have g0 : (i : Int) < (l.length : Int) := by omega
  have g1 : 0 ≤ (i : Int) := by omega
  have g2 : ((l.take i).map ptB).length < 8796093022208 := by rw [List.length_map, List.length_take]; omega
  simp only [impl_curveText.l0, w64s i (show i < 1000000 by omega)]
  rw [if_pos g0, if_pos g1, if_pos g0, w64 (x := (rd_T40 l i).f0) (by omega) (by omega), e1, Option.bind_some, if_pos z2, w64 (x := (rd_T40 l i).f1) (by omega) (by omega), e2, Option.bind_some, if_pos z3, if_pos g2, eb, tk]
  exact ih k (i + 1) (by omega) (by omega) (by omega)
theorem join_sz (l : List S40) (hp : ∀ p ∈ l, Pt p) : (Lib.join (l.map ptL) [32]).length ≤ 20 * l.length := by
 have key : ∀ (n : Nat) (l : List S40), l.length = n → (∀ p ∈ l, Pt p) → (Lib.join (l.map ptL) [32]).length ≤ 20 * l.length := by
  intro n
  induction n with
  | zero =>
   intro l h _
   rw [List.length_eq_zero_iff.1 h]
   exact Nat.le_refl _
  | succ n ih =>
   intro l h hp
   have hne : l ≠ [] := fun e => by rw [e] at h; simp at h
   obtain ⟨r, p, rfl⟩ : ∃ r p, l = r ++ [p] := ⟨l.dropLast, l.getLast hne, (List.dropLast_concat_getLast hne).symm⟩
   have h1 := ih r (by simp at h; omega) (fun q hq => hp q (by simp [hq]))
   have h2 := (ptB_size p (hp p (by simp))).1
   have h3 : (ptL p).length = (ptB p).size := by unfold ptL; rw [Array.length_toList]; rfl
   rw [List.map_append, List.map_singleton, join_snoc, List.length_append, List.length_singleton]
   split
   · omega
   · rw [List.length_append, List.length_append]
     show _ + 1 + _ ≤ _
     omega
 exact key l.length l rfl hp
theorem ictext_f (l : List S40) (hc : Cur l) (k : Nat) (hk : 40 < k) : ∃ v, impl_curveText.f k l = some v ∧ v.data.toList = Lib.join (l.map ptL) [32] := by
 have hp : ∀ j : Nat, j < l.length → Pt (rd_T40 l j) := fun j hj => (hc.2.2 j (by omega) hj).1
 have hl := hc.1
 have h0 := hc.2.1
 have e4 := itext_l l hl hp l.length k 0 (by omega) (by omega) (by omega)
 have hp' : ∀ p ∈ l, Pt p := fun p hm => by
  obtain ⟨i, hi, e⟩ := List.getElem_of_mem hm
  have := hp i hi
  have r : rd_T40 l i = p := by simp [rd_T40, List.getD_eq_getElem?_getD, hi, e]
  rwa [r] at this
 have js := join_sz l hp'
 refine ⟨⟨(Lib.join (l.map ptL) [32]).toArray⟩, ?_, rfl⟩
 have e4' : impl_curveText.f k l = strings_Join.f (l.map ptB) (⟨#[32]⟩ : ByteArray) := e4
 rw [e4']
 unfold strings_Join.f
 have jj : Lib.join ((l.map ptB).map (·.data.toList)) (⟨#[32]⟩ : ByteArray).data.toList = Lib.join (l.map ptL) [32] := by rw [List.map_map]; rfl
 rw [if_pos (by rw [List.length_map]; omega), jj, if_pos (by omega), if_neg (by rw [List.length_map]; omega)]
def Bytes (l : List Int) : Prop := ∀ x ∈ l, 0 ≤ x ∧ x ≤ 255
theorem bytes_rd {l : List Int} (h : Bytes l) (i : Nat) (hi : i < l.length) : 0 ≤ rd l i ∧ rd l i ≤ 255 := by
 have hm : l.getD i 0 ∈ l := by
  rw [List.getD_eq_getElem?_getD, List.getElem?_eq_getElem hi]
  exact List.getElem_mem hi
 have := h _ hm
 simpa [rd] using this
theorem and255 (x : Int) (h : 0 ≤ x) (h' : x < 18446744073709551616) : Go.bits .and .u64 x 255 = x % 256 :=
 bits_mask .u64 64 (by decide) (fun n a b => u64w a (by omega)) 8 (by decide) x h h'
theorem u64wr (x : Int) : 0 ≤ IntKind.u64.wrap x ∧ IntKind.u64.wrap x < 18446744073709551616 := by
 show 0 ≤ (if (false && decide (x % 18446744073709551616 ≥ 9223372036854775808)) = true then x % 18446744073709551616 - 18446744073709551616 else x % 18446744073709551616) ∧ (if (false && decide (x % 18446744073709551616 ≥ 9223372036854775808)) = true then x % 18446744073709551616 - 18446744073709551616 else x % 18446744073709551616) < 18446744073709551616
 rw [if_neg (by simp)]
 omega
theorem next_f (l : List Int) (hb : Bytes l) (hl : l.length ≤ 4096) (i : Nat) (hi : i ≤ 100000) (s : Int) : ∃ v s', spec_l00Src_next.f l i s = some (v, ((i + 1 : Nat) : Int), s') ∧ 0 ≤ v ∧ v ≤ 255 := by
 unfold spec_l00Src_next.f
 have ec : wrap64 ((i : Int) + 1) = ((i + 1 : Nat) : Int) := w64 (by omega) (by omega)
 have hq : ∀ y : Int, ∃ v, wrap64 (Go.bits .and .u64 (IntKind.u64.wrap y / 1099511627776) 255) = v ∧ 0 ≤ v ∧ v ≤ 255 := fun y => by
  have u := u64wr y
  have d0 : 0 ≤ IntKind.u64.wrap y / 1099511627776 := by omega
  have d1 : IntKind.u64.wrap y / 1099511627776 < 18446744073709551616 := by omega
  refine ⟨_, rfl, ?_⟩
  rw [and255 _ d0 d1, w64 (by omega) (by omega)]
  omega
 rw [ec]
 by_cases c : (i : Int) < (l.length : Int)
 · have v := bytes_rd hb i (by omega)
   rw [if_pos c, if_pos (by omega), if_pos (by omega), w64 (x := rd l i) (by omega) (by omega)]
   exact ⟨_, _, rfl, v⟩
 · rw [if_neg c, if_neg (by omega)]
   obtain ⟨v, e, h⟩ := hq (IntKind.u64.wrap (IntKind.u64.wrap (s * 6364136223846793005)) + 1442695040888963407)
   rw [e]
   exact ⟨_, _, rfl, h⟩
theorem pick_f (l : List Int) (hb : Bytes l) (hl : l.length ≤ 4096) (i : Nat) (hi : i ≤ 90000) (s n : Int) (hn : 1 ≤ n) (hn' : n ≤ 100000000) : ∃ v, ∃ i' : Nat, ∃ s', spec_l00Src_pick.f l i s n = some (v, (i' : Int), s') ∧ 0 ≤ v ∧ v < n ∧ i' ≤ i + 2 := by
 unfold spec_l00Src_pick.f
 by_cases c : n ≤ 1
 · rw [if_pos c]
   exact ⟨0, i, s, rfl, by omega, by omega, by omega⟩
 · rw [if_neg c]
   obtain ⟨v, s', e, v0, v1⟩ := next_f l hb hl i (by omega) s
   rw [e]
   simp only [Option.bind_some]
   by_cases c2 : n > 200
   · rw [if_pos c2]
     obtain ⟨u, s'', e', u0, u1⟩ := next_f l hb hl (i + 1) (by omega) s'
     rw [e']
     simp only [Option.bind_some]
     rw [if_neg (by omega), w64 (x := v * 256) (by omega) (by omega), w64 (x := v * 256 + u) (by omega) (by omega), Int.tmod_eq_emod_of_nonneg (by omega)]
     have m1 := Int.emod_nonneg (v * 256 + u) (show n ≠ 0 by omega)
     have m2 := Int.emod_lt_of_pos (v * 256 + u) (show 0 < n by omega)
     exact ⟨_, i + 1 + 1, _, rfl, m1, m2, by omega⟩
   · rw [if_neg c2, if_neg (by omega), Int.tmod_eq_emod_of_nonneg (by omega)]
     have m1 := Int.emod_nonneg v (show n ≠ 0 by omega)
     have m2 := Int.emod_lt_of_pos v (show 0 < n by omega)
     exact ⟨_, i + 1, _, rfl, m1, m2, by omega⟩
theorem shp_snoc {m : List S40} {p : S40} (h : m = [] ∨ Shp m 0) (hp : Pt p) (hq : m ≠ [] → (rd_T40 m (m.length - 1 : Nat)).f0 < p.f0 ∧ (rd_T40 m (m.length - 1 : Nat)).f1 ≤ p.f1) : Shp (m ++ [p]) 0 := by
 have r0 : ∀ j : Nat, j < m.length → rd_T40 (m ++ [p]) j = rd_T40 m j := fun j hj => by
  simp only [rd_T40, Int.toNat_natCast, List.getD_eq_getElem?_getD]
  rw [List.getElem?_append_left hj]
 have r1 : rd_T40 (m ++ [p]) (m.length : Nat) = p := by
  simp [rd_T40, List.getD_eq_getElem?_getD]
 refine ⟨by simp, fun j _ hj => ?_⟩
 simp only [List.length_append, List.length_singleton] at hj
 by_cases e : j = m.length
 · subst e
   rw [r1]
   refine ⟨hp, fun h0 => ?_⟩
   rw [r0 (m.length - 1) (by omega)]
   exact hq (fun h => by rw [h] at h0; simp at h0)
 · rw [r0 j (by omega)]
   rcases h with h | h
   · rw [h] at hj e
     simp only [List.length_nil] at hj e
     omega
   · obtain ⟨a, b⟩ := h.2 j (by omega) (by omega)
     refine ⟨a, fun h0 => ?_⟩
     rw [r0 (j - 1) (by omega)]
     exact b h0
theorem last_snoc (m : List S40) (p : S40) : rd_T40 (m ++ [p]) ((m ++ [p]).length - 1 : Nat) = p := by
 simp [rd_T40, List.getD_eq_getElem?_getD]
theorem drawn_l (l : List Int) (hb : Bytes l) (hl : l.length ≤ 4096) (n : Nat) : ∀ (k : Nat) (m : List S40) (x y : Int) (i : Nat) (s : Int), m.length + n ≤ 6 → i ≤ 100 * m.length + 100 → n < k → (m = [] ∨ Shp m 0) → (m = [] → 0 < n) →
 -20 ≤ x → x ≤ 9 + 9 * m.length → 0 ≤ y → y ≤ 19 + 49 * m.length → (m ≠ [] → (rd_T40 m (m.length - 1 : Nat)).f0 < x ∧ (rd_T40 m (m.length - 1 : Nat)).f1 ≤ y) →
 (∀ j : Nat, j < m.length → -20 ≤ (rd_T40 m j).f0 ∧ (rd_T40 m j).f0 ≤ 54) →
 ∃ m' : List S40, ∃ i' : Nat, ∃ s', spec_l02Drawn.l0 k m x y n l i s = some (m', (i' : Int), s') ∧ m'.length ≤ 6 ∧ Shp m' 0 ∧ (∀ j : Nat, j < m'.length → -20 ≤ (rd_T40 m' j).f0 ∧ (rd_T40 m' j).f0 ≤ 54) := by
 induction n with
 | zero =>
  intro k m x y i s hn hi hk hm h0 x0 x1 y0 y1 hq hj
  obtain ⟨k, rfl⟩ : ∃ n, k = n + 1 := ⟨k - 1, by omega⟩
  simp only [spec_l02Drawn.l0]
  rw [if_neg (by omega)]
  have hm' : Shp m 0 := by
   rcases hm with h | h
   · exact absurd (h0 h) (by omega)
   · exact h
  exact ⟨m, i, s, rfl, by omega, hm', hj⟩
 | succ n ih =>
  intro k m x y i s hn hi hk hm h0 x0 x1 y0 y1 hq hj
  obtain ⟨k, rfl⟩ : ∃ n, k = n + 1 := ⟨k - 1, by omega⟩
  simp only [spec_l02Drawn.l0]
  obtain ⟨v, i1, s1, e1, v0, v1, w1⟩ := pick_f l hb hl i (by omega) s 9 (by omega) (by omega)
  obtain ⟨u, i2, s2, e2, u0, u1, w2⟩ := pick_f l hb hl i1 (by omega) s1 50 (by omega) (by omega)
  rw [if_pos (by omega), if_pos (by omega), e1]
  simp only [Option.bind_some]
  rw [e2]
  simp only [Option.bind_some]
  have b1 : x ≤ 60 := by omega
  have b2 : y ≤ 300 := by omega
  rw [i16w (x := x) (by omega) (by omega), i16w (x := y) (by omega) (by omega), w64 (x := 1 + v) (by omega) (by omega), w64 (x := x + (1 + v)) (by omega) (by omega), w64 (x := y + u) (by omega) (by omega), w64 (x := ((n + 1 : Nat) : Int) - 1) (by omega) (by omega), show ((n + 1 : Nat) : Int) - 1 = (n : Int) by omega]
  have hlen : (m ++ [(⟨x, y⟩ : S40)]).length = m.length + 1 := by simp
  refine ih k (m ++ [⟨x, y⟩]) (x + (1 + v)) (y + u) i2 s2 (by omega) (by omega) (by omega) (.inr (shp_snoc hm ⟨⟨by show -200 ≤ x; omega, by show x ≤ 200; omega⟩, ⟨y0, by show y ≤ 400; omega⟩⟩ hq)) (fun h => by simp at h) (by omega) (by omega) (by omega) (by omega) (fun _ => ?_) (fun j hj' => ?_)
  · rw [last_snoc]
    exact ⟨by show x < _; omega, by show y ≤ _; omega⟩
  · rw [hlen] at hj'
    by_cases e : j = m.length
    · subst e
      have r1 : rd_T40 (m ++ [(⟨x, y⟩ : S40)]) (m.length : Nat) = ⟨x, y⟩ := by simp [rd_T40, List.getD_eq_getElem?_getD]
      rw [r1]
      exact ⟨x0, by show x ≤ 54; omega⟩
    · have r0 : rd_T40 (m ++ [(⟨x, y⟩ : S40)]) j = rd_T40 m j := by
       simp only [rd_T40, Int.toNat_natCast, List.getD_eq_getElem?_getD]
       rw [List.getElem?_append_left (by omega)]
      rw [r0]
      exact hj j (by omega)
theorem a2curve (l : List Int) (hb : Bytes l) (hl : l.length ≤ 4096) (k : Nat) (hk : 10 < k) : ∃ m, spec_A2Curve.f k l = some m ∧ Cur m ∧ (∀ j : Nat, j < m.length → -20 ≤ (rd_T40 m j).f0 ∧ (rd_T40 m j).f0 ≤ 54) := by
 unfold spec_A2Curve.f spec_l00From.f spec_l02Drawn.f
 simp only [Option.bind_some]
 obtain ⟨v, i1, s1, e1, v0, v1, w1⟩ := pick_f l hb hl 0 (by omega) 0 30 (by omega) (by omega)
 obtain ⟨u, i2, s2, e2, u0, u1, w2⟩ := pick_f l hb hl i1 (by omega) s1 20 (by omega) (by omega)
 obtain ⟨t, i3, s3, e3, t0, t1, w3⟩ := pick_f l hb hl i2 (by omega) s2 6 (by omega) (by omega)
 have e1' : spec_l00Src_pick.f l 0 0 30 = some (v, (i1 : Int), s1) := e1
 simp only [e1', e2, e3, Option.bind_some]
 rw [w64 (x := v - 20) (by omega) (by omega), w64 (x := 1 + t) (by omega) (by omega)]
 obtain ⟨n, hn⟩ : ∃ n : Nat, 1 + t = n := ⟨(1 + t).toNat, by omega⟩
 obtain ⟨m, i', s', e, hlen, hs, hj⟩ := drawn_l l hb hl n k [] (v - 20) u i3 s3 (by show 0 + n ≤ 6; omega) (by show i3 ≤ 100 * 0 + 100; omega) (by omega) (.inl rfl) (fun _ => by omega) (by omega) (by show v - 20 ≤ 9 + 9 * ((0 : Nat) : Int); omega) (by omega) (by show u ≤ 19 + 49 * ((0 : Nat) : Int); omega) (fun h => absurd rfl h) (fun j hj => absurd hj (by show ¬ j < 0; omega))
 rw [hn, e]
 exact ⟨m, rfl, ⟨by omega, hs⟩, hj⟩
theorem smp_cur {m : List S40} (h : Cur m) : SmP m := by
 intro x hx
 obtain ⟨i, hi, e⟩ := List.getElem_of_mem hx
 have := shp_pt h.2 i hi
 have r : rd_T40 m i = x := by simp [rd_T40, List.getD_eq_getElem?_getD, hi, e]
 rw [r] at this
 obtain ⟨⟨a, b⟩, c, d⟩ := this
 omega
theorem shape_t (m : List S40) (h : Cur m) (d : Nat) : ∀ (k i : Nat), i ≤ m.length → m.length - i = d → d < k → spec_l02Shape.l0 k m i = some true ∧ impl_isCurve.l0 k m m (m.length : Int) i = some true := by
 have hlen := h.1
 have hm := smp_cur h
 induction d with
 | zero =>
  intro k i h0 hd hk
  obtain ⟨k, rfl⟩ : ∃ n, k = n + 1 := ⟨k - 1, by omega⟩
  simp only [spec_l02Shape.l0, impl_isCurve.l0]
  have g1 : ¬ (i : Int) < (m.length : Int) := by omega
  have g2 : (m.length : Int) > 0 := by have := h.2.1; omega
  simp only [g1, g2, if_false, decide_true, and_self]
 | succ d ih =>
  intro k i h0 hd hk
  obtain ⟨k, rfl⟩ : ∃ n, k = n + 1 := ⟨k - 1, by omega⟩
  obtain ⟨s1, s2⟩ := smp_rd hm i (by omega)
  obtain ⟨p, hp⟩ := h.2.2 i (by omega) (by omega)
  have g1 : (i : Int) < (m.length : Int) := by omega
  have g2 : 0 ≤ (i : Int) := by omega
  obtain ⟨e1, e2⟩ := ih k (i + 1) (by omega) (by omega) (by omega)
  have e1' : spec_l02Shape.l0 k m ((i : Int) + 1) = some true := e1
  have e2' : impl_isCurve.l0 k m m (m.length : Int) ((i : Int) + 1) = some true := e2
  simp only [spec_l02Shape.l0, impl_isCurve.l0, spt_f s1 s2, ipt_f s1 s2, g1, g2, if_true, Option.bind_some]
  rw [w64 (x := (i : Int) + 1) (by omega) (by omega), w64 (x := (i : Int) - 1) (by omega) (by omega), e1', e2']
  have pp : (-200 ≤ (rd_T40 m i).f0 ∧ (rd_T40 m i).f0 ≤ 200) ∧ (0 ≤ (rd_T40 m i).f1 ∧ (rd_T40 m i).f1 ≤ 400) := p
  simp only [pp, and_self, decide_true, if_true]
  by_cases z : i = 0
  · subst z
    have g3 : ¬ ((0 : Nat) : Int) > 0 := by omega
    simp only [g3, if_false, and_self]
  · have ei : ((i : Int) - 1) = ((i - 1 : Nat) : Int) := by omega
    have g3 : (i : Int) > 0 := by omega
    have g4 : 0 ≤ ((i - 1 : Nat) : Int) := by omega
    have g5 : ((i - 1 : Nat) : Int) < (m.length : Int) := by omega
    obtain ⟨q1, q2⟩ := hp (by omega)
    have c3 : ¬ (rd_T40 m i).f0 ≤ (rd_T40 m (i - 1 : Nat)).f0 := by omega
    have c3' : ¬ (rd_T40 m (i - 1 : Nat)).f0 ≥ (rd_T40 m i).f0 := by omega
    have c4 : ¬ (rd_T40 m i).f1 < (rd_T40 m (i - 1 : Nat)).f1 := by omega
    have c4' : ¬ (rd_T40 m (i - 1 : Nat)).f1 > (rd_T40 m i).f1 := by omega
    rw [ei]
    simp only [g3, g4, g5, c3, c3', c4, c4', if_true, if_false, and_self]
theorem cur_t (m : List S40) (h : Cur m) (k : Nat) (hk : 12 < k) : spec_l02Ok.f k m = some true ∧ impl_ValidCurve.f k m = some true := by
 have hlen := h.1
 obtain ⟨e1, e2⟩ := shape_t m h m.length k 0 (by omega) (by omega) (by omega)
 have e1' : spec_l02Shape.f k m = some true := e1
 have e2' : impl_isCurve.f k m = some true := e2
 have g : (m.length : Int) ≤ 12 := by omega
 unfold spec_l02Ok.f impl_ValidCurve.f
 simp only [e1', e2', Option.bind_some, if_true, g, decide_true, and_self]
theorem all_ri : (List.range 601).all (fun n => decide (strconv_ParseInt.v (decB ((n : Int) - 200)).data.toList = (n : Int) - 200) && (strconv_ParseInt.b (decB ((n : Int) - 200)).data.toList == false) && (decB ((n : Int) - 200)).data.toList.all (fun b => b != 32 && b != 58)) = true := by kernel_rfl
theorem rd_f (x : Int) (h : -200 ≤ x ∧ x ≤ 400) (k : Nat) (hk : 20 ≤ k) : True ∧ strconv_ParseInt.f (decB x) 10 16 = some (x, false) ∧ ∀ b ∈ (decB x).data.toList, b ≠ 32 ∧ b ≠ 58 := by
 obtain ⟨n, hn⟩ : ∃ n : Nat, (n : Int) - 200 = x := ⟨(x + 200).toNat, by omega⟩
 have q := List.all_eq_true.1 all_ri n (List.mem_range.2 (by omega))
 rw [hn, Bool.and_eq_true, Bool.and_eq_true] at q
 obtain ⟨⟨q2, q3⟩, q4⟩ := q
 have sz := sz_f x h
 refine ⟨trivial, ?_, fun b hb => ?_⟩
 · unfold strconv_ParseInt.f
   rw [if_pos ⟨rfl, rfl, by omega⟩, of_decide_eq_true q2, eq_of_beq q3]
 · have := List.all_eq_true.1 q4 b hb
   simpa using this
theorem spl_app (c : UInt8) : ∀ (p r : List UInt8), (∀ b ∈ p, b ≠ c) → spl c (p ++ c :: r) = p :: spl c r
 | [], r, _ => by simp [spl]
 | b :: p, r, h => by
  have hb : b ≠ c := h b (by simp)
  have ih := spl_app c p r (fun x hx => h x (by simp [hx]))
  simp only [List.cons_append, spl]
  rw [if_neg hb, ih]
theorem spl_one (c : UInt8) : ∀ (p : List UInt8), (∀ b ∈ p, b ≠ c) → spl c p = [p]
 | [], _ => rfl
 | b :: p, h => by
  have hb : b ≠ c := h b (by simp)
  have ih := spl_one c p (fun x hx => h x (by simp [hx]))
  simp only [spl]
  rw [if_neg hb, ih]
theorem jt_cons (c : UInt8) (x : List UInt8) (r : List (List UInt8)) : Lib.joinTail [c] (x :: r) = c :: (x ++ Lib.joinTail [c] r) := by
 simp [Lib.joinTail]
theorem spl_join (c : UInt8) : ∀ l : List UInt8, Lib.join (spl c l) [c] = l
 | [] => by simp [spl, Lib.join_one]
 | b :: r => by
  have ih := spl_join c r
  obtain ⟨h, t, e⟩ := spl_ne c r
  simp only [spl]
  by_cases q : b = c
  · subst q
    rw [if_pos rfl, Lib.join_cons, e, jt_cons, List.nil_append, ← Lib.join_cons, ← e, ih]
  · rw [if_neg q, e]
    rw [e] at ih
    show Lib.join ((b :: h) :: t) [c] = _
    rw [Lib.join_cons, List.cons_append, ← Lib.join_cons, ih]
theorem join_spl (c : UInt8) : ∀ (w : List UInt8) (ws : List (List UInt8)), (∀ x ∈ w :: ws, ∀ b ∈ x, b ≠ c) → spl c (Lib.join (w :: ws) [c]) = w :: ws
 | w, [], h => by rw [Lib.join_one, spl_one c w (h w (by simp))]
 | w, x :: ws, h => by
  rw [Lib.join_cons, jt_cons, spl_app c w _ (h w (by simp)), ← Lib.join_cons, join_spl c x ws (fun y hy => h y (by simp [List.mem_cons.1 hy]))]
theorem pt_bytes (p : S40) (h : Pt p) : (∀ b ∈ (decB p.f0).data.toList, b ≠ 32 ∧ b ≠ 58) ∧ (∀ b ∈ (decB p.f1).data.toList, b ≠ 32 ∧ b ≠ 58) := by
 unfold Pt at h
 exact ⟨(rd_f p.f0 (by omega) 20 (by omega)).2.2, (rd_f p.f1 (by omega) 20 (by omega)).2.2⟩
theorem ptL_eq (p : S40) : ptL p = (decB p.f0).data.toList ++ 58 :: (decB p.f1).data.toList := by
 unfold ptL ptB
 rw [ByteArray.data_append, ByteArray.data_append, Array.toList_append, Array.toList_append]
 simp
theorem ptL_no32 (p : S40) (h : Pt p) : ∀ b ∈ ptL p, b ≠ 32 := by
 obtain ⟨a, b⟩ := pt_bytes p h
 intro x hx
 rw [ptL_eq] at hx
 rcases List.mem_append.1 hx with hx | hx
 · exact (a x hx).1
 · rcases List.mem_cons.1 hx with rfl | hx
   · decide
   · exact (b x hx).1
theorem ptL_spl (p : S40) (h : Pt p) : spl 58 (ptL p) = [(decB p.f0).data.toList, (decB p.f1).data.toList] := by
 obtain ⟨a, b⟩ := pt_bytes p h
 rw [ptL_eq, spl_app 58 _ _ (fun x hx => (a x hx).2), spl_one 58 _ (fun x hx => (b x hx).2)]
theorem ptL_cut (p : S40) (h : Pt p) : Lib.cut (ptL p) [58] = ((decB p.f0).data.toList, (decB p.f1).data.toList, true) := by
 have e := ptL_spl p h
 rcases spl_idx 58 (ptL p) with ⟨_, e2⟩ | ⟨j, e1, e2⟩
 · rw [e2] at e; simp at e
 · rw [e2] at e
   simp only [List.cons.injEq] at e
   obtain ⟨ea, eb⟩ := e
   have ej := spl_join 58 ((ptL p).drop (j + 1))
   rw [eb, Lib.join_one] at ej
   unfold Lib.cut
   rw [e1, if_pos (by omega), Int.toNat_natCast, ea]
   show (_, (ptL p).drop (j + 1), true) = _
   rw [← ej]
theorem cur_pt {c : List S40} (h : Cur c) : ∀ p ∈ c, Pt p := fun p hm => by
 obtain ⟨i, hi, e⟩ := List.getElem_of_mem hm
 have := (h.2.2 i (by omega) hi).1
 have r : rd_T40 c i = p := by simp [rd_T40, List.getD_eq_getElem?_getD, hi, e]
 rwa [r] at this
theorem icp_l (s : ByteArray) (R : List ByteArray) (c : List S40) (hc : Cur c) (hR : R.map (·.data.toList) = c.map ptL) (hs : s.data.toList = Lib.join (c.map ptL) [32]) (d : Nat) : ∀ (k i : Nat), i ≤ c.length → c.length - i = d → d + 100 < k →
 impl_ReadCurve.l0 k s (c.take i) R (R.length : Int) i = some (c, 0) := by
 have rl : R.length = c.length := by
  have := congrArg List.length hR
  rw [List.length_map, List.length_map] at this
  exact this
 have cl := hc.1
 induction d with
 | zero =>
  intro k i hi hd hk
  obtain ⟨k, rfl⟩ : ∃ n, k = n + 1 := ⟨k - 1, by omega⟩
  obtain ⟨v, v1, v2⟩ := ictext_f c hc k (by omega)
  simp only [impl_ReadCurve.l0]
  rw [if_neg (by omega), List.take_of_length_le (by omega), (cur_t c hc k (by omega)).2, Option.bind_some, if_pos rfl, v1, Option.bind_some, Lib.toList_data, Lib.toList_data, if_pos (by rw [v2, hs])]
 | succ d ih =>
  intro k i hi hd hk
  obtain ⟨k, rfl⟩ : ∃ n, k = n + 1 := ⟨k - 1, by omega⟩
  have hi : i < c.length := by omega
  have hir : i < R.length := by omega
  have hp := cur_pt hc c[i] (List.getElem_mem _)
  obtain ⟨w, hw⟩ : ∃ w, R[i] = w := ⟨_, rfl⟩
  have rw_ : rdOf ByteArray.empty R (i : Int) = w := by rw [← hw]; simp [rdOf, List.getD_eq_getElem?_getD, hir]
  have we : w.data.toList = ptL c[i] := by
   have h1 : (R.map (·.data.toList))[i]? = some w.data.toList := by rw [List.getElem?_map, List.getElem?_eq_getElem hir, hw]; rfl
   rw [hR, List.getElem?_map, List.getElem?_eq_getElem hi] at h1
   exact (Option.some.inj h1).symm
  have wb : w = ptB c[i] := ba_ext we
  have ws : w.size ≤ 9 := by rw [wb]; exact (ptB_size _ hp).1
  have e0 : strings_Cut.f w (⟨#[58]⟩ : ByteArray) = some (decB c[i].f0, decB c[i].f1, true) := by
   unfold strings_Cut.f
   have cu : Lib.cut w.data.toList (⟨#[58]⟩ : ByteArray).data.toList = ((decB c[i].f0).data.toList, (decB c[i].f1).data.toList, true) := by rw [we]; exact ptL_cut _ hp
   rw [if_pos (by omega), cu]
  unfold Pt at hp
  simp only [impl_ReadCurve.l0]
  rw [if_pos (by omega), if_pos (by omega), if_pos (by omega), rw_, e0, Option.bind_some]
  simp only []
  rw [(rd_f c[i].f0 (by omega) 20 (by omega)).2.1, Option.bind_some, (rd_f c[i].f1 (by omega) 20 (by omega)).2.1, Option.bind_some]
  simp only [Bool.false_eq_true, if_false]
  rw [if_pos (by rw [List.length_take]; omega), w64 (x := (i : Int) + 1) (by omega) (by omega), i16w (x := c[i].f0) (by omega) (by omega), i16w (x := c[i].f1) (by omega) (by omega)]
  have tk : c.take i ++ [(⟨c[i].f0, c[i].f1⟩ : S40)] = c.take (i + 1) := by
   rw [List.take_add_one, List.getElem?_eq_getElem hi]
   rfl
  rw [tk]
  exact ih k (i + 1) (by omega) (by omega) (by omega)
theorem rb_f (s : ByteArray) (c : List S40) (hc : Cur c) (js : s.data.toList = Lib.join (c.map ptL) [32]) (k : Nat) (hk : 200 < k) : impl_ReadCurve.f k s = some (c, 0) := by
 have sl := size_list s
 have cl := hc.1
 have c0 := hc.2.1
 have jz := join_sz c (cur_pt hc)
 have ss : s.size ≤ 240 := by rw [← sl, js]; omega
 have hw : spl 32 s.data.toList = c.map ptL := by
  obtain ⟨p, t, e⟩ : ∃ p t, c = p :: t := by
   cases c with
   | nil => simp at c0
   | cons p t => exact ⟨p, t, rfl⟩
  rw [js, e, List.map_cons, join_spl]
  intro x hx
  have hx' : x ∈ c.map ptL := by rw [e, List.map_cons]; exact hx
  obtain ⟨q, hq, rfl⟩ := List.mem_map.1 hx'
  exact ptL_no32 q (cur_pt hc q hq)
 have ln := spl_len 32 s.data.toList
 rw [hw, List.length_map] at ln
 obtain ⟨R, q1, q2⟩ : ∃ R, strings_SplitN.f s (⟨#[32]⟩ : ByteArray) 13 = some R ∧ R.map (·.data.toList) = Lib.splitK [32] 0 (min 13 (s.size + 1) - 1) s.data.toList := by
  refine ⟨Lib.splitB (⟨#[32]⟩ : ByteArray) 0 (min 13 (s.size + 1) - 1) s, ?_, Lib.splitB_data _ _ _ _⟩
  unfold strings_SplitN.f
  rw [if_pos (by omega), if_pos (by decide), if_pos (by omega)]
  rfl
 have k1 := (splitK_spl 32 (min 13 (s.size + 1) - 1) s.data.toList).1 (by rw [hw, List.length_map]; omega)
 have hR : R.map (·.data.toList) = c.map ptL := by rw [q2, k1, hw]
 have w := icp_l s R c hc hR js c.length k 0 (by omega) (by omega) (by omega)
 have w' : impl_ReadCurve.l0 k s [] R (R.length : Int) 0 = some (c, 0) := w
 unfold impl_ReadCurve.f
 rw [q1, Option.bind_some, w']
theorem a2at_f (l : List Int) (hb : Bytes l) (i : Nat) (n : Int) (hn : 1 ≤ n ∧ n ≤ 100000) : ∃ v, laws_a2At.f l i n = some v ∧ 0 ≤ v ∧ v < n := by
 unfold laws_a2At.f
 by_cases c : (i : Int) ≥ (l.length : Int)
 · rw [if_pos c]
   exact ⟨0, rfl, by omega, by omega⟩
 · have v := bytes_rd hb i (by omega)
   rw [if_neg c, if_neg (by omega), if_pos (by omega), if_pos (by omega), if_neg (by omega), w64 (x := rd l i) (by omega) (by omega), Int.tmod_eq_emod_of_nonneg (by omega)]
   exact ⟨_, rfl, Int.emod_nonneg _ (by omega), Int.emod_lt_of_pos _ (by omega)⟩
theorem byt {l : List Int} (h : ∀ x ∈ l, (Lit.int .u8 x).wf = true) : Bytes l := by
 intro x hx
 have h2 : (decide ((0 : Int) ≤ x) && decide (x ≤ 255)) = true := h x hx
 simpa using h2
theorem knot (m : List S40) (h : Cur m) (i : Nat) (hi : i < m.length) : atV m (rd_T40 m i).f0 = (rd_T40 m i).f1 := by
 have p := shp_pt h.2 i hi
 unfold Pt at p
 have lt : ∀ a b : Nat, a < b → b < m.length → (rd_T40 m a).f0 < (rd_T40 m b).f0 := fun a b hab hb => by
  have n := shp_next h.2 (b - 1) (by omega)
  have e := shp_mono h.2 (b - 1) a (by omega) (by omega)
  rw [show b - 1 + 1 = b by omega] at n
  omega
 obtain ⟨_, q, _⟩ := at_f m h (rd_T40 m i).f0 (by omega)
 have hl := h.2.1
 rcases q with ⟨x1, r⟩ | ⟨x1, x2, r⟩ | ⟨j, j1, x1, x2, x3, r⟩
 · have : i = 0 := by
    rcases Nat.eq_zero_or_pos i with z | z
    · exact z
    · have := lt 0 i z hi; omega
   rw [r, this]
 · have : i = m.length - 1 := by
    by_cases z : i = m.length - 1
    · exact z
    · have := lt i (m.length - 1) (by omega) (by omega); omega
   rw [r, this]
 · have : i = j := by
    rcases Nat.lt_trichotomy i j with z | z | z
    · have := lt i j z (by omega); omega
    · exact z
    · have := shp_mono h.2 i (j + 1) (by omega) hi; omega
   rw [r, this]
   unfold seg
   rw [Int.sub_self, Int.mul_zero, Int.zero_ediv, Int.add_zero]
theorem code0 (m : List S40) (h : Cur m) (k : Nat) (hk : 20 < k) : impl_curveCode.f k m true = some 0 := by
 unfold impl_curveCode.f
 rw [(cur_t m h k (by omega)).2, Option.bind_some, if_pos rfl, if_pos rfl]
theorem cat_f (m : List S40) (h : Cur m) (x : Int) (hx : -200 ≤ x ∧ x ≤ 200) (k : Nat) (hk : 20 < k) : impl_CurveAt.f k m x = some (atV m x, 0) ∧ spec_CurveAt.f k m x = some (atV m x, 0) := by
 obtain ⟨a, _⟩ := at_f m h x (by omega)
 obtain ⟨b, c⟩ := a k (by omega)
 unfold impl_CurveAt.f spec_CurveAt.f impl_isPlace.f spec_l02Asked.f spec_l02Place.f
 have hd : decide (-200 ≤ x ∧ x ≤ 200) = true := decide_eq_true hx
 simp only [within_f, in_f, hd, Option.bind_some, code0 m h k hk, if_true, c, b, (cur_t m h k (by omega)).1, and_self]
theorem ris_f (m : List S40) (h : Cur m) (x : Int) (hx : -200 ≤ x ∧ x ≤ 199) (k : Nat) (hk : 20 < k) : impl_RiseAt.f k m x = some (atV m (x + 1) - atV m x, 0) := by
 obtain ⟨a, _, b1, b2⟩ := at_f m h x (by omega)
 obtain ⟨_, c⟩ := a k (by omega)
 obtain ⟨a', _, b1', b2'⟩ := at_f m h (x + 1) (by omega)
 obtain ⟨_, c'⟩ := a' k (by omega)
 unfold impl_RiseAt.f impl_isPlace.f
 have hd : decide (-200 ≤ x ∧ x ≤ 200) = true := decide_eq_true (by omega)
 simp only [within_f, hd, Option.bind_some, code0 m h k hk, if_true]
 rw [w64 (x := x + 1) (by omega) (by omega), c', Option.bind_some, c, Option.bind_some, w64 (by omega) (by omega)]
theorem mono_v (m : List S40) (h : Cur m) (x x' : Int) (hx : -1000 ≤ x) (hxx : x ≤ x') (hx' : x' ≤ 1000) : atV m x ≤ atV m x' := by
 obtain ⟨_, a, _⟩ := at_f m h x (by omega)
 obtain ⟨_, b, _⟩ := at_f m h x' (by omega)
 exact isat_mono h.2 a b hxx
theorem bd_v (m : List S40) (h : Cur m) (x : Int) (hx : -1000 ≤ x ∧ x ≤ 1000) : (rd_T40 m (0 : Nat)).f1 ≤ atV m x ∧ atV m x ≤ (rd_T40 m (m.length - 1 : Nat)).f1 := by
 obtain ⟨_, a, _⟩ := at_f m h x (by omega)
 exact isat_bd h.2 a
theorem l2_l (m : List S40) (h : Cur m) (P Q v4 : Int) (s : Bool) (hP : 0 ≤ P ∧ P ≤ 400) (hQ : 0 ≤ Q ∧ Q ≤ 400) (st : Stp m (m.length - 1) P Q) (d : Nat) : ∀ (k i : Nat), i + 1 ≤ m.length → m.length - 1 - i = d → d < k → laws_FnCurves.l2 k m v4 s P Q i = some (s == (v4 == 0)) := by
 have hlen := h.1
 induction d with
 | zero =>
  intro k i hi hd hk
  obtain ⟨k, rfl⟩ : ∃ n, k = n + 1 := ⟨k - 1, by omega⟩
  simp only [laws_FnCurves.l2]
  rw [w64 (x := (i : Int) + 1) (by omega) (by omega), if_neg (by omega)]
 | succ d ih =>
  intro k i hi hd hk
  obtain ⟨k, rfl⟩ : ∃ n, k = n + 1 := ⟨k - 1, by omega⟩
  obtain ⟨p11, p12⟩ := shp_pt h.2 i (by omega)
  obtain ⟨p21, p22⟩ := shp_pt h.2 (i + 1) (by omega)
  have n := shp_next h.2 i (by omega)
  have w := st i (by omega)
  have ec : ((i : Int) + 1) = ((i + 1 : Nat) : Int) := by omega
  simp only [laws_FnCurves.l2]
  rw [w64 (x := (i : Int) + 1) (by omega) (by omega), if_pos (by omega), if_pos (by omega), if_pos (by omega), if_pos (by omega)]
  rw [ec, w64 (x := (rd_T40 m (i + 1 : Nat)).f0) (by omega) (by omega), w64 (x := (rd_T40 m (i + 1 : Nat)).f1) (by omega) (by omega), w64 (x := (rd_T40 m i).f0) (by omega) (by omega), w64 (x := (rd_T40 m i).f1) (by omega) (by omega)]
  rw [w64 (x := (rd_T40 m (i + 1 : Nat)).f0 - (rd_T40 m i).f0) (by omega) (by omega), w64 (x := (rd_T40 m (i + 1 : Nat)).f1 - (rd_T40 m i).f1) (by omega) (by omega)]
  obtain ⟨u, hu⟩ : ∃ u, (rd_T40 m (i + 1 : Nat)).f1 - (rd_T40 m i).f1 = u := ⟨_, rfl⟩
  obtain ⟨v, hv⟩ : ∃ v, (rd_T40 m (i + 1 : Nat)).f0 - (rd_T40 m i).f0 = v := ⟨_, rfl⟩
  rw [hu, hv] at w ⊢
  have m1 : 0 ≤ u * Q ∧ u * Q ≤ 160000 := by
   have a := Int.mul_nonneg (show 0 ≤ u by omega) hQ.1
   have b := Int.mul_le_mul (show u ≤ 400 by omega) hQ.2 hQ.1 (by omega)
   omega
  have m2 : 0 ≤ P * v ∧ P * v ≤ 160000 := by
   have a := Int.mul_nonneg hP.1 (show 0 ≤ v by omega)
   have b := Int.mul_le_mul hP.2 (show v ≤ 400 by omega) (by omega) (by omega)
   omega
  rw [w64 (x := u * Q) (by omega) (by omega), w64 (x := P * v) (by omega) (by omega), if_neg (by omega)]
  exact ih k (i + 1) (by omega) (by omega) (by omega)
theorem l1_l (m : List S40) (h : Cur m) (v4 : Int) (s r : Bool) (K : Nat) (ht : ∀ k : Nat, K ≤ k → laws_FnCurves.l1 k m v4 s (m.length : Int) = some r) (d : Nat) : ∀ (k i : Nat), i ≤ m.length → m.length - i = d → d + K + 30 < k → laws_FnCurves.l1 k m v4 s i = some r := by
 have hlen := h.1
 induction d with
 | zero =>
  intro k i hi hd hk
  obtain rfl : i = m.length := by omega
  exact ht k (by omega)
 | succ d ih =>
  intro k i hi hd hk
  obtain ⟨k, rfl⟩ : ∃ n, k = n + 1 := ⟨k - 1, by omega⟩
  obtain ⟨p11, p12⟩ := shp_pt h.2 i (by omega)
  simp only [laws_FnCurves.l1]
  rw [if_pos (by omega), if_pos (by omega), w64 (x := (rd_T40 m i).f0) (by omega) (by omega), (cat_f m h _ (by omega) k (by omega)).2, Option.bind_some]
  simp only [if_true]
  rw [w64 (x := (rd_T40 m i).f1) (by omega) (by omega), if_pos (knot m h i (by omega)), w64 (x := (i : Int) + 1) (by omega) (by omega)]
  exact ih k (i + 1) (by omega) (by omega) (by omega)
def Som (m : List S40) (y x : Int) (b : Bool) : Prop := (b = true → ∃ j, -40 ≤ j ∧ j < x ∧ atV m j = y) ∧ (b = false → ∀ j, -40 ≤ j → j < x → atV m j ≠ y)
theorem l0_l (m : List S40) (h : Cur m) (y r s c3 c4 due fr tu : Int) (hy : 0 ≤ y ∧ y ≤ 400) (hr : -200 ≤ r ∧ r ≤ 201) (hs : -200 ≤ s ∧ s ≤ 201) (r1 : ∀ x, -200 ≤ x → x ≤ 200 → (y ≤ atV m x ↔ r ≤ x)) (s1 : ∀ x, -200 ≤ x → x ≤ 200 → (y + 1 ≤ atV m x ↔ s ≤ x))
 (f3 : c3 = 0 ∧ due = r ∧ r ≤ 200 ∨ c3 = 6 ∧ r = 201) (f4 : c4 = 0 ∧ fr = r ∧ tu = s - 1 ∧ r < s ∨ c4 = 6 ∧ ¬ r < s) (K : Nat)
 (ht : ∀ (k : Nat) (b : Bool), K ≤ k → Som m y 91 b → laws_FnCurves.l1 k m c4 b 0 = some true) (d : Nat) : ∀ (k : Nat) (x e : Int) (b : Bool), -40 ≤ x → x ≤ 91 → 91 - x = d → 4 * d + K + 30 < k → (-1 ≤ e ∧ e ≤ atV m x) → Som m y x b →
 laws_FnCurves.l0 k m (rd_T40 m (0 : Nat)).f1 (rd_T40 m (m.length - 1 : Nat)).f1 y c3 due c4 fr tu e b x = some true := by
 induction d with
 | zero =>
  intro k x e b hx0 hx1 hd hk he hb
  obtain ⟨k, rfl⟩ : ∃ n, k = n + 1 := ⟨k - 1, by omega⟩
  obtain rfl : x = 91 := by omega
  simp only [laws_FnCurves.l0]
  rw [if_neg (by omega)]
  exact ht k b (by omega) hb
 | succ d ih =>
  intro k x e b hx0 hx1 hd hk he hb
  obtain ⟨k, rfl⟩ : ∃ n, k = n + 1 + 1 + 1 + 1 := ⟨k - 4, by omega⟩
  have b1 := bd_v m h x (by omega)
  have mo := mono_v m h x (x + 1) (by omega) (by omega) (by omega)
  obtain ⟨_, _, a0, a1⟩ := at_f m h x (by omega)
  obtain ⟨_, _, a0', a1'⟩ := at_f m h (x + 1) (by omega)
  have q1 := r1 x (by omega) (by omega)
  have q2 := s1 x (by omega) (by omega)
  rw [laws_FnCurves.l0]
  rw [if_pos (by omega), (cat_f m h x (by omega) _ (by omega)).1, Option.bind_some, (cat_f m h x (by omega) _ (by omega)).2, Option.bind_some, ris_f m h x (by omega) _ (by omega), Option.bind_some, w64 (x := x + 1) (by omega) (by omega), (cat_f m h (x + 1) (by omega) _ (by omega)).2, Option.bind_some]
  simp only [if_true]
  rw [if_neg (by omega), if_neg (by omega), if_neg (by omega), w64 (x := atV m (x + 1) - atV m x) (by omega) (by omega), bne_self_eq_false, laws_FnCurves.j3, if_neg (by simp)]
  have nx : ∀ b' : Bool, Som m y (x + 1) b' → laws_FnCurves.l0 (k + 1) m (rd_T40 m (0 : Nat)).f1 (rd_T40 m (m.length - 1 : Nat)).f1 y c3 due c4 fr tu (atV m x) b' (x + 1) = some true := fun b' hb' => ih (k + 1) (x + 1) (atV m x) b' (by omega) (by omega) (by omega) (by omega) (by omega) hb'
  have j4 : laws_FnCurves.j4 (k + 1 + 1) m (rd_T40 m (0 : Nat)).f1 (rd_T40 m (m.length - 1 : Nat)).f1 y c3 due c4 fr tu b x (atV m x) false = some true := by
   have n0 : ∀ k', k + 1 = k' → ∀ b', laws_FnCurves.j6 (k + 1) m (rd_T40 m (0 : Nat)).f1 (rd_T40 m (m.length - 1 : Nat)).f1 y c3 due c4 fr tu b' x (atV m x) false = laws_FnCurves.l0 k m (rd_T40 m (0 : Nat)).f1 (rd_T40 m (m.length - 1 : Nat)).f1 y c3 due c4 fr tu (atV m x) b' (wrap64 (x + 1)) := fun _ _ b' => by rw [laws_FnCurves.j6, if_neg (by simp)]
   have nx' : ∀ b' : Bool, Som m y (x + 1) b' → laws_FnCurves.l0 k m (rd_T40 m (0 : Nat)).f1 (rd_T40 m (m.length - 1 : Nat)).f1 y c3 due c4 fr tu (atV m x) b' (wrap64 (x + 1)) = some true := fun b' hb' => by
    rw [w64 (by omega) (by omega)]
    exact ih k (x + 1) (atV m x) b' (by omega) (by omega) (by omega) (by omega) (by omega) hb'
   rw [laws_FnCurves.j4, if_neg (by simp)]
   by_cases c : atV m x = y
   · have c4z : c4 = 0 ∧ fr = r ∧ tu = s - 1 ∧ r < s := by
      rcases f4 with f | f
      · exact f
      · exfalso; have := q1.1 (by omega); have : ¬ s ≤ x := fun z => by have := q2.2 z; omega
        omega
     obtain ⟨z1, z2, z3, z4⟩ := c4z
     have u1 := q1.1 (by omega)
     have u2 : ¬ s ≤ x := fun z => by have := q2.2 z; omega
     rw [if_pos c, if_pos z1, if_neg (by omega), show decide (x > tu) = false from decide_eq_false (by omega), laws_FnCurves.j5, if_neg (by simp)]
     exact nx' true ⟨fun _ => ⟨x, hx0, by omega, c⟩, fun e => by cases e⟩
   · have sb : Som m y (x + 1) b := ⟨fun e => by obtain ⟨j, j0, j1, j2⟩ := hb.1 e; exact ⟨j, j0, by omega, j2⟩, fun e j j0 j1 => by
      by_cases z : j = x
      · rw [z]; exact c
      · exact hb.2 e j j0 (by omega)⟩
     rw [if_neg c]
     by_cases z1 : c4 = 0
     · rw [if_pos z1]
       have f := f4.resolve_right (by omega)
       by_cases z2 : x ≥ fr
       · have : ¬ x ≤ tu := fun z => by
          have u1 := q1.2 (by omega)
          have : ¬ y + 1 ≤ atV m x := fun w => by have := q2.1 w; omega
          omega
         rw [if_pos z2, show decide (x ≤ tu) = false from decide_eq_false this, n0 _ rfl]
         exact nx' b sb
       · rw [if_neg z2, n0 _ rfl]
         exact nx' b sb
     · rw [if_neg z1, n0 _ rfl]
       exact nx' b sb
  by_cases c : c3 = 0
  · have f := f3.resolve_right (by omega)
    have : (decide (atV m x ≥ y) != decide (x ≥ due)) = false := by
     rw [f.2.1]
     by_cases z : r ≤ x
     · have := q1.2 z
       rw [decide_eq_true (show atV m x ≥ y by omega), decide_eq_true (show x ≥ r by omega)]; rfl
     · have : ¬ y ≤ atV m x := fun w => z (q1.1 w)
       rw [decide_eq_false (show ¬ atV m x ≥ y by omega), decide_eq_false (show ¬ x ≥ r by omega)]; rfl
    rw [if_pos c, this]
    exact j4
  · rw [if_neg c]
    exact j4
theorem same_r (m : List S40) (hl : m.length ≤ 12) (d : Nat) : ∀ (k i : Nat), i ≤ m.length → m.length - i = d → d < k → spec_l02Same.l0 k m m i = some true ∧ impl_Point.l0 k m m (m.length : Int) i = some true := by
 induction d with
 | zero =>
  intro k i h0 hd hk
  obtain ⟨k, rfl⟩ : ∃ n, k = n + 1 := ⟨k - 1, by omega⟩
  simp only [spec_l02Same.l0, impl_Point.l0]
  have g1 : ¬ (i : Int) < (m.length : Int) := by omega
  simp only [g1, if_false, and_self]
 | succ d ih =>
  intro k i h0 hd hk
  obtain ⟨k, rfl⟩ : ∃ n, k = n + 1 := ⟨k - 1, by omega⟩
  have g1 : (i : Int) < (m.length : Int) := by omega
  have g3 : 0 ≤ (i : Int) := by omega
  have n := ih k (i + 1) (by omega) (by omega) (by omega)
  simp only [spec_l02Same.l0, impl_Point.l0]
  simp only [g1, g3, if_true]
  rw [w64 (x := (i : Int) + 1) (by omega) (by omega)]
  simpa using n
theorem exp_f (m : List S40) (h : Cur m) (y r : Int) (hy : 0 ≤ y ∧ y ≤ 300) (k : Nat) (hk : 20 < k) (r0 : -200 ≤ r ∧ r ≤ 201) (p1 : spec_l02For.f k m y = some r) (p2 : impl_Curve_firstPlace.f k m y = some r) :
 impl_ExposureFor.f k m y = some (if r ≤ 200 then (r, 0) else (0, 6)) ∧ spec_ExposureFor.f k m y = some (if r ≤ 200 then (r, 0) else (0, 6)) := by
 unfold impl_ExposureFor.f spec_ExposureFor.f impl_isDensity.f impl_isPlace.f spec_l02Dense.f spec_l02Density.f
 have hd : decide (0 ≤ y ∧ y ≤ 400) = true := decide_eq_true (by omega)
 simp only [within_f, in_f, hd, Option.bind_some, code0 m h k hk, if_true, (cur_t m h k (by omega)).1, p1, p2]
 by_cases c : r ≤ 200
 · have g : decide (-200 ≤ r ∧ r ≤ 200) = true := decide_eq_true (by omega)
   rw [if_pos g, if_pos c, if_neg (by omega)]
   exact ⟨rfl, rfl⟩
 · have g : decide (-200 ≤ r ∧ r ≤ 200) = false := decide_eq_false (by omega)
   have c' : r > 200 := by omega
   simp only [g, Bool.false_eq_true, if_false]
   rw [if_neg c, if_pos c']
   exact ⟨rfl, rfl⟩
theorem exs_f (m : List S40) (h : Cur m) (y r s : Int) (hy : 0 ≤ y ∧ y ≤ 300) (k : Nat) (hk : 20 < k) (r0 : -200 ≤ r ∧ r ≤ 201) (s0 : -200 ≤ s ∧ s ≤ 201) (p1 : spec_l02For.f k m y = some r) (p2 : impl_Curve_firstPlace.f k m y = some r) (q1 : spec_l02For.f k m (y + 1) = some s) (q2 : impl_Curve_firstPlace.f k m (y + 1) = some s)
 (c1 : r < s → r ≤ 200 ∧ atV m r = y) (c2 : ¬ r < s → ¬ (r ≤ 200 ∧ atV m r = y)) :
 impl_ExposuresFor.f k m y = some (if r < s then (r, s - 1, 0) else (0, 0, 6)) ∧ spec_ExposuresFor.f k m y = some (if r < s then (r, s - 1, 0) else (0, 0, 6)) := by
 unfold impl_ExposuresFor.f spec_ExposuresFor.f impl_isDensity.f spec_l02Dense.f spec_l02Density.f
 have hd : decide (0 ≤ y ∧ y ≤ 400) = true := decide_eq_true (by omega)
 obtain ⟨a, _⟩ := at_f m h r (by omega)
 simp only [within_f, in_f, hd, Option.bind_some, code0 m h k hk, if_true, (cur_t m h k (by omega)).1, p1, p2, (a k (by omega)).1, w64 (x := y + 1) (by omega) (by omega), q1, q2, w64 (x := s - 1) (by omega) (by omega)]
 by_cases c : r < s
 · obtain ⟨d1, d2⟩ := c1 c
   rw [if_pos c, if_neg (by omega), if_neg (by omega), if_pos d2]
   exact ⟨rfl, rfl⟩
 · have d := c2 c
   rw [if_neg c, if_pos (by omega)]
   refine ⟨rfl, ?_⟩
   by_cases e : r > 200
   · rw [if_pos e]
   · rw [if_neg e, if_neg (fun z => d ⟨by omega, z⟩)]
theorem FnCurves : laws_FnCurves.Pure := by
 intro l0 l1 h0 _ w0 h1 _ w1
 refine ⟨5000, ?_⟩
 unfold laws_FnCurves.f laws_a2Long.f
 by_cases b0 : (l0.length : Int) > 3000
 · rw [if_pos b0, Option.bind_some, if_pos rfl]
 rw [if_neg b0, Option.bind_some]
 by_cases b1 : (l1.length : Int) > 3000
 · rw [if_pos (decide_eq_true b1)]
 rw [if_neg (by simpa using b1)]
 have y0 := byt w0
 have y1 := byt w1
 obtain ⟨m, e1, hc, hb⟩ := a2curve l0 y0 (by omega) 5000 (by omega)
 have hl := hc.1
 have hp := hc.2.1
 obtain ⟨v, v1, v2⟩ := ictext_f m hc 5000 (by omega)
 have cv := (cur_t m hc 5000 (by omega)).2
 have ct : impl_CurveText.f 5000 m = some v := by
  unfold impl_CurveText.f
  rw [cv, Option.bind_some, if_pos rfl, v1]
  rfl
 have rb := rb_f v m hc v2 5000 (by omega)
 have pf := shp_pt hc.2 0 (by omega)
 have pl := shp_pt hc.2 (m.length - 1) (by omega)
 unfold Pt at pf pl
 have de : impl_DensitiesOf.f 5000 m = some ((rd_T40 m (0 : Nat)).f1, (rd_T40 m (m.length - 1 : Nat)).f1, 0) := by
  unfold impl_DensitiesOf.f
  rw [cv, Option.bind_some, if_pos rfl, if_pos (by omega), w64 (x := (m.length : Int) - 1) (by omega) (by omega), if_pos (by omega), if_pos (by omega), show (m.length : Int) - 1 = ((m.length - 1 : Nat) : Int) by omega, w64 (x := (rd_T40 m (m.length - 1 : Nat)).f1) (by omega) (by omega)]
  have : wrap64 (rd_T40 m 0).f1 = (rd_T40 m (0 : Nat)).f1 := w64 (x := (rd_T40 m (0 : Nat)).f1) (by omega) (by omega)
  rw [this]
 obtain ⟨sa, sb⟩ := same_r m hl m.length 5000 0 (by omega) (by omega) (by omega)
 have sa' : spec_SameCurve.f 5000 m m = some true := by
  unfold spec_SameCurve.f spec_l02Same.f
  rw [if_pos rfl]
  exact (congrArg (fun o => Option.bind o fun t => some t) sa)
 have sb' : impl_SameCurve.f 5000 m m = some true := by
  unfold impl_SameCurve.f impl_Point.f
  rw [if_pos rfl]
  exact (congrArg (fun o => Option.bind o fun t => some t) sb)
 rw [e1, Option.bind_some, ct, Option.bind_some, rb, Option.bind_some, de, Option.bind_some]
 simp only [if_true, sa', sb', cv, Option.bind_some, bne_self_eq_false]
 obtain ⟨y, e2, ya, yb⟩ := a2at_f l1 y1 0 256 (by omega)
 have e2' : laws_a2At.f l1 0 256 = some y := e2
 obtain ⟨r, p1, p2, ra, rb', rc, rd'⟩ := fp_f m hc y 4999 (by omega)
 obtain ⟨s, q1, q2, sa1, sb1, sc, sd⟩ := fp_f m hc (y + 1) 4999 (by omega)
 have r1 : ∀ x, -200 ≤ x → x ≤ 200 → (y ≤ atV m x ↔ r ≤ x) := fun x x0 x1 => ⟨fun z => by
  rcases Int.lt_or_le x r with n | n
  · have := rc x x0 n; omega
  · exact n, fun z => by have := rd' (by omega); have := mono_v m hc r x (by omega) z (by omega); omega⟩
 have s1 : ∀ x, -200 ≤ x → x ≤ 200 → (y + 1 ≤ atV m x ↔ s ≤ x) := fun x x0 x1 => ⟨fun z => by
  rcases Int.lt_or_le x s with n | n
  · have := sc x x0 n; omega
  · exact n, fun z => by have := sd (by omega); have := mono_v m hc s x (by omega) z (by omega); omega⟩
 have c1 : r < s → r ≤ 200 ∧ atV m r = y := fun z => by
  have a := rd' (by omega)
  have b : ¬ y + 1 ≤ atV m r := fun w => by have := (s1 r (by omega) (by omega)).1 w; omega
  omega
 have c2 : ¬ r < s → ¬ (r ≤ 200 ∧ atV m r = y) := fun z ⟨w, e⟩ => by
  have := (s1 r (by omega) w).2 (by omega)
  omega
 obtain ⟨x1, x2⟩ := exp_f m hc y r (by omega) 4999 (by omega) (by omega) p1 p2
 obtain ⟨z1, z2⟩ := exs_f m hc y r s (by omega) 4999 (by omega) (by omega) (by omega) p1 p2 q1 q2 c1 c2
 have top : atV m 200 = (rd_T40 m (m.length - 1 : Nat)).f1 := by
  have k := knot m hc (m.length - 1) (by omega)
  have a := mono_v m hc (rd_T40 m (m.length - 1 : Nat)).f0 200 (by omega) (by omega) (by omega)
  have b := bd_v m hc 200 (by omega)
  omega
 have hi := (r1 200 (by omega) (by omega))
 have tail : ∀ (k : Nat) (b : Bool), 1000 ≤ k → Som m y 91 b → laws_FnCurves.l1 k m (if r < s then 0 else 6) b 0 = some true := by
  intro k b hk hsom
  have bq : (b == ((if r < s then (0 : Int) else 6) == 0)) = true := by
   by_cases z : r < s
   · rw [if_pos z]
     obtain ⟨w1, w2⟩ := c1 z
     cases b with
     | true => rfl
     | false =>
      exfalso
      have n := hsom.2 rfl
      have h0 := hb 0 (by omega)
      have hL := hb (m.length - 1) (by omega)
      have k0 := knot m hc 0 (by omega)
      have kL := knot m hc (m.length - 1) (by omega)
      by_cases lo : r < -40
      · have a := mono_v m hc r (-40) (by omega) (by omega) (by omega)
        have a2 := mono_v m hc (-40) (rd_T40 m (0 : Nat)).f0 (by omega) (by omega) (by omega)
        have a3 := bd_v m hc r (by omega)
        exact n (-40) (by omega) (by omega) (by omega)
      · by_cases up : r > 90
        · have a := rc 90 (by omega) (by omega)
          have a2 := mono_v m hc (rd_T40 m (m.length - 1 : Nat)).f0 90 (by omega) (by omega) (by omega)
          have a3 := bd_v m hc r (by omega)
          omega
        · exact n r (by omega) (by omega) w2
   · rw [if_neg z]
     cases b with
     | false => rfl
     | true =>
      exfalso
      obtain ⟨j, j0, j1, j2⟩ := hsom.1 rfl
      have a := (r1 j (by omega) (by omega)).1 (by omega)
      have a2 : ¬ s ≤ j := fun w => by have := (s1 j (by omega) (by omega)).2 w; omega
      omega
  refine l1_l m hc _ b true 700 (fun k hk => ?_) m.length k 0 (by omega) (by omega) (by omega)
  obtain ⟨k, rfl⟩ : ∃ n, k = n + 1 + 1 := ⟨k - 2, by omega⟩
  rw [laws_FnCurves.l1, if_neg (by omega)]
  have cvk := cur_t m hc (k + 1) (by omega)
  by_cases one : m.length = 1
  · have i1 : impl_SteepestPart.f (k + 1) m = some (0, 0, 0, 6) := by
     unfold impl_SteepestPart.f
     rw [cvk.2, Option.bind_some, if_pos rfl, if_pos (by omega)]
    have i2 : spec_SteepestPart.f (k + 1) m = some (0, 0, 0, 6) := by
     unfold spec_SteepestPart.f
     rw [cvk.1, Option.bind_some, if_pos rfl, if_pos (by omega)]
    rw [i1, Option.bind_some, i2, Option.bind_some]
    simp only [if_true]
    rw [show (((6 : Int) == 0) != decide ((m.length : Int) > 1)) = false by rw [decide_eq_false (by omega)]; rfl, laws_FnCurves.j8, if_neg (by simp)]
    exact (l2_l m hc 0 0 _ b (by omega) (by omega) (fun j hj => by omega) (m.length - 1) k 0 (by omega) (by omega) (by omega)).trans (congrArg some bq)
  · obtain ⟨z, g1, g2, g3, g4, g5⟩ := stv_l m hc (by omega) (m.length - 1) (k + 1) 0 0 (-1) 1 (by omega) (by omega) (by omega) (.inl ⟨rfl, rfl, rfl⟩) (fun j hj => by omega)
    obtain ⟨z', g1', g2'⟩ := steep_f m hc (by omega) (k + 1) (by omega)
    have g1'' : spec_SteepestPart.l0 (k + 1) m 0 (-1) 1 0 = some z := g1
    rw [g1''] at g1'
    obtain rfl := Option.some.inj g1'
    have i2 : spec_SteepestPart.f (k + 1) m = some z := by
     unfold spec_SteepestPart.f
     rw [cvk.1, Option.bind_some, if_pos rfl, if_neg (by omega), g1'']
    have i1 : impl_SteepestPart.f (k + 1) m = some z := by
     unfold impl_SteepestPart.f
     rw [cvk.2, Option.bind_some, if_pos rfl, if_neg (by omega), w64 (x := (m.length : Int) - 1) (by omega) (by omega), if_pos (by omega), if_pos (by omega), show ((m.length : Int) - 1).toNat = m.length - 1 by omega]
     exact g2'
    rw [i1, Option.bind_some, i2, Option.bind_some]
    simp only [if_true]
    rw [g2, show (((0 : Int) == 0) != decide ((m.length : Int) > 1)) = false by rw [decide_eq_true (by omega)]; rfl, laws_FnCurves.j8, if_neg (by simp)]
    exact (l2_l m hc z.2.1 z.2.2.1 _ b g3 (by omega) g5 (m.length - 1) k 0 (by omega) (by omega) (by omega)).trans (congrArg some bq)
 have go : laws_FnCurves.l0 4998 m (rd_T40 m (0 : Nat)).f1 (rd_T40 m (m.length - 1 : Nat)).f1 y (if r ≤ 200 then (0 : Int) else 6) (if r ≤ 200 then r else 0) (if r < s then (0 : Int) else 6) (if r < s then r else 0) (if r < s then s - 1 else 0) (-1) false (-40) = some true := by
  have a := at_f m hc (-40) (by omega)
  refine l0_l m hc y r s _ _ _ _ _ (by omega) (by omega) (by omega) r1 s1 ?_ ?_ 1000 tail 131 4998 (-40) (-1) false (by omega) (by omega) (by omega) (by omega) (by omega) ⟨fun e => by simp at e, fun _ j j0 j1 => by omega⟩
  · by_cases c : r ≤ 200
    · rw [if_pos c, if_pos c]; exact .inl ⟨rfl, rfl, c⟩
    · rw [if_neg c]; exact .inr ⟨rfl, by omega⟩
  · by_cases c : r < s
    · rw [if_pos c, if_pos c, if_pos c]; exact .inl ⟨rfl, rfl, rfl, c⟩
    · rw [if_neg c]; exact .inr ⟨rfl, c⟩
 rw [laws_FnCurves.j0, if_neg (by simp), e2', Option.bind_some, x1, Option.bind_some, x2, Option.bind_some, z1, Option.bind_some, z2, Option.bind_some]
 simp only [if_true]
 have sx : (if r ≤ 200 then (r, (0 : Int)) else (0, 6)) = (if r ≤ 200 then r else 0, if r ≤ 200 then 0 else 6) := by split <;> rfl
 have sz : (if r < s then (r, s - 1, (0 : Int)) else (0, 0, 6)) = (if r < s then r else 0, if r < s then s - 1 else 0, if r < s then 0 else 6) := by split <;> rfl
 rw [sx, sz]
 simp only []
 by_cases c : r ≤ 200
 · have hy := hi.2 c
   rw [if_pos c] at go
   rw [if_pos c] at go
   rw [if_pos c, if_pos c, show (((0 : Int) == 0) != decide (y ≤ (rd_T40 m (m.length - 1 : Nat)).f1)) = false by rw [decide_eq_true (by omega)]; rfl, if_neg (by simp), if_pos rfl, laws_FnCurves.j1, if_neg (by simp)]
   exact go
 · have hy : ¬ y ≤ atV m 200 := fun w => c (hi.1 w)
   rw [if_neg c] at go
   rw [if_neg c] at go
   rw [if_neg c, if_neg c, show (((6 : Int) == 0) != decide (y ≤ (rd_T40 m (m.length - 1 : Nat)).f1)) = false by rw [decide_eq_false (by omega)]; rfl, if_neg (by simp), if_neg (by omega), show ((6 : Int) != 6) = false from rfl, laws_FnCurves.j1, if_neg (by simp)]
   exact go
end Go.Proofs.YtfhbjjkkhjijmaaGreatDoor.Pure
