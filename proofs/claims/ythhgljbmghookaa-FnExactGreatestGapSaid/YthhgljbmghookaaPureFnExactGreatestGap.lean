/- Proves, in plain numbers and lists, that the law FnExactGreatestGap answers true at all inputs. No condition is added. -/
import Derived.Test.YthhgljbmghookaaPFnExactGreatestGapx0
import Derived.Test.YthhgljbmghookaaPFnExactGreatestGapx1
import Derived.Test.YthhgljbmghookaaPFnExactGreatestGapx2
import Derived.Test.YthhgljbmghookaaPFnExactGreatestGapx3
import Derived.Test.YthhgljbmghookaaPFnExactGreatestGapx4
import Derived.Test.YthhgljbmghookaaPFnExactGreatestGapx5
import Derived.Test.YthhgljbmghookaaPFnExactGreatestGapx6
import Derived.Test.YthhgljbmghookaaPFnExactGreatestGapx7
namespace Go.Proofs.Ythhgljbmghookaa.Pure
open Go.RowKit Go.Proofs.Ythhgljbmghookaa.PFnExactGreatestGap Go.Proofs.YthhgljbmghookaaW.PrintWords Go.Proofs.YthhgljbmghookaaW.PrintLast Go.Proofs.YthhgljbmghookaaW.PrintMore
set_option linter.unusedVariables false
set_option linter.unusedSimpArgs false
theorem w64 {x : Int} (h : -9223372036854775808 ≤ x) (h' : x ≤ 9223372036854775807) : wrap64 x = x := by unfold wrap64; omega
theorem wf8 {x : Int} (h : (Lit.int .i8 x).wf = true) : -128 ≤ x ∧ x ≤ 127 := by
  have h2 : (decide ((-128 : Int) ≤ x) && decide (x ≤ 127)) = true := h
  simpa using h2
theorem wf16 {x : Int} (h : (Lit.int .i16 x).wf = true) : -32768 ≤ x ∧ x ≤ 32767 := by
  have h2 : (decide ((-32768 : Int) ≤ x) && decide (x ≤ 32767)) = true := h
  simpa using h2
theorem wf64 {x : Int} (h : (Lit.int .i64 x).wf = true) : -9223372036854775808 ≤ x ∧ x ≤ 9223372036854775807 := by
  have h2 : (decide ((-9223372036854775808 : Int) ≤ x) && decide (x ≤ 9223372036854775807)) = true := h
  simpa using h2
theorem wfu64 {x : Int} (h : (Lit.int .u64 x).wf = true) : 0 ≤ x ∧ x ≤ 18446744073709551615 := by
  have h2 : (decide ((0 : Int) ≤ x) && decide (x ≤ 18446744073709551615)) = true := h
  simpa using h2
theorem i8w {x : Int} (h : -128 ≤ x) (h' : x ≤ 127) : IntKind.i8.wrap x = x := by
  show (if (true && decide (x % 256 ≥ 128)) = true then x % 256 - 256 else x % 256) = x
  by_cases e : x % 256 ≥ 128
  · rw [if_pos (by simpa using e)]; omega
  · rw [if_neg (by simpa using e)]; omega
theorem i16w {x : Int} (h : -32768 ≤ x) (h' : x ≤ 32767) : IntKind.i16.wrap x = x := by
  show (if (true && decide (x % 65536 ≥ 32768)) = true then x % 65536 - 65536 else x % 65536) = x
  by_cases e : x % 65536 ≥ 32768
  · rw [if_pos (by simpa using e)]; omega
  · rw [if_neg (by simpa using e)]; omega
theorem u64w {x : Int} (h : 0 ≤ x) (h' : x ≤ 18446744073709551615) : IntKind.u64.wrap x = x := by
  show (if (false && decide (x % 18446744073709551616 ≥ 9223372036854775808)) = true then x % 18446744073709551616 - 18446744073709551616 else x % 18446744073709551616) = x
  rw [if_neg (by simp)]; omega
theorem szCurve_f (l : List S62) (hl : l.length ≤ 9223372036854775807) : laws_szCurve.f l 1048576 = some (if l.length ≤ 1048576 then 1048576 - (l.length : Int) else -1) := by
  unfold laws_szCurve.f
  rw [w64 (by omega) (by omega)]
  by_cases c : l.length ≤ 1048576
  · rw [if_neg (by omega), if_pos c]
  · rw [if_pos (by omega), if_neg c]
theorem szCurve_g (l : List S62) (a : Int) (ha : 0 ≤ a ∧ a ≤ 1048576) (hl : l.length ≤ 9223372036854775807) : laws_szCurve.f l a = some (if (l.length : Int) ≤ a then a - (l.length : Int) else -1) := by
  unfold laws_szCurve.f
  rw [w64 (by omega) (by omega)]
  by_cases c : (l.length : Int) ≤ a
  · rw [if_neg (by omega), if_pos c]
  · rw [if_pos (by omega), if_neg c]
theorem set_nextg {α β : Type} (f : α → β) (z : β) (d : α) (l : List α) (i : Nat) (h : i < l.length) : ((l.take i).map f ++ List.replicate (l.length - i) z).set i (f (l.getD i d)) = (l.take (i + 1)).map f ++ List.replicate (l.length - (i + 1)) z := by
  apply List.ext_getElem
  · simp; omega
  · intro j h1 h2
    simp only [List.getElem_set, List.getElem_append, List.length_map, List.length_take, List.getElem_map, List.getElem_take, List.getElem_replicate]
    by_cases e : i = j
    · subst e
      rw [if_pos rfl, dif_pos (by omega)]
      simp [h]
    · rw [if_neg e]
      by_cases c : j < i
      · rw [dif_pos (by omega), dif_pos (by omega)]
      · rw [dif_neg (by omega), dif_neg (by omega)]
theorem getD_mem {α : Type} (l : List α) (i : Nat) (d : α) (h : i < l.length) : l.getD i d ∈ l := by
  rw [List.getD_eq_getElem?_getD, List.getElem?_eq_getElem h]
  exact List.getElem_mem h
theorem getD_set_ne {α : Type} (l : List α) (i j : Nat) (x d : α) (h : i ≠ j) : (l.set i x).getD j d = l.getD j d := by
  simp [List.getD_eq_getElem?_getD, List.getElem?_set_ne h]
theorem getD_set_eq {α : Type} (l : List α) (i : Nat) (x d : α) (h : i < l.length) : (l.set i x).getD i d = x := by
  simp [List.getD_eq_getElem?_getD, List.getElem?_set_self h]
def cvCurve (x : S62) : S54 := ⟨x.f0, x.f1⟩
theorem toCurve_l (l : List S62) (hl : l.length ≤ 1048576) (d : Nat) : ∀ (k : Nat) (i : Nat), i ≤ l.length → l.length - i = d → d < k → laws_toCurve.l0 k l ((l.take i).map cvCurve ++ List.replicate (l.length - i) z54) i = some (l.map cvCurve) := by
  induction d with
  | zero =>
    intro k i h0 hd hk
    obtain ⟨k, rfl⟩ : ∃ n, k = n + 1 := ⟨k - 1, by omega⟩
    have e : i = l.length := by omega
    subst e
    simp only [laws_toCurve.l0]
    rw [if_neg (by omega)]
    simp
  | succ d ih =>
    intro k i h0 hd hk
    obtain ⟨k, rfl⟩ : ∃ n, k = n + 1 := ⟨k - 1, by omega⟩
    simp only [laws_toCurve.l0, laws_toPoint.f, Option.bind_some]
    rw [if_pos (by omega), if_pos (by omega), if_pos (by simp; omega), w64 (by omega) (by omega)]
    have e := ih k (i + 1) (by omega) (by omega) (by omega)
    rw [← set_nextg cvCurve z54 z62 l i (by omega)] at e
    simpa [rd_T62, cvCurve] using e
theorem toCurve_f (l : List S62) (hl : l.length ≤ 1048576) (k : Nat) (hk : l.length < k) : laws_toCurve.f k l = some (l.map cvCurve) := by
  have e := toCurve_l l hl l.length k 0 (by omega) (by omega) hk
  unfold laws_toCurve.f
  rw [if_pos (by omega), if_pos (by omega)]
  simpa using e
theorem eqCurve_l (l : List S54) (hl : l.length ≤ 1048576) (d : Nat) : ∀ (k : Nat) (i : Nat), i ≤ l.length → l.length - i = d → d < k → laws_eqCurve.l0 k l l i = some true := by
  induction d with
  | zero =>
    intro k i h0 hd hk
    obtain ⟨k, rfl⟩ : ∃ n, k = n + 1 := ⟨k - 1, by omega⟩
    simp only [laws_eqCurve.l0]
    rw [if_neg (by omega)]
  | succ d ih =>
    intro k i h0 hd hk
    obtain ⟨k, rfl⟩ : ∃ n, k = n + 1 := ⟨k - 1, by omega⟩
    simp only [laws_eqCurve.l0, laws_eqPoint.f, if_true, Option.bind_some]
    rw [if_pos (by omega), if_pos (by omega), if_pos (by omega), w64 (by omega) (by omega)]
    exact ih k (i + 1) (by omega) (by omega) (by omega)
theorem eqCurve_f (l : List S54) (hl : l.length ≤ 1048576) (k : Nat) (hk : l.length < k) : laws_eqCurve.f k l l = some true := by
  unfold laws_eqCurve.f
  rw [if_pos rfl]
  exact eqCurve_l l hl l.length k 0 (by omega) (by omega) hk
theorem in_f (a b c : Int) : spec_l00In.f a b c = some (decide (b ≤ a ∧ a ≤ c)) := by
  unfold spec_l00In.f
  by_cases h : b ≤ a <;> simp [h]
theorem within_f (a b c : Int) : impl_within.f a b c = some (decide (b ≤ a ∧ a ≤ c)) := by
  unfold impl_within.f
  by_cases h : b ≤ a <;> simp [h]
def SmP (m : List S54) : Prop := ∀ x ∈ m, (-32768 ≤ x.f0 ∧ x.f0 ≤ 32767) ∧ (-32768 ≤ x.f1 ∧ x.f1 ≤ 32767)
theorem smp_rd {m : List S54} (h : SmP m) (i : Nat) (hi : i < m.length) : (-32768 ≤ (rd_T54 m i).f0 ∧ (rd_T54 m i).f0 ≤ 32767) ∧ (-32768 ≤ (rd_T54 m i).f1 ∧ (rd_T54 m i).f1 ≤ 32767) := by
  have := h _ (getD_mem m i z54 hi)
  simpa [rd_T54] using this
/-- a point as it may be -/
def Pt (p : S54) : Prop := (-200 ≤ p.f0 ∧ p.f0 ≤ 200) ∧ (0 ≤ p.f1 ∧ p.f1 ≤ 400)
/-- points from i on are as they may be -/
def Shp (m : List S54) (i : Nat) : Prop := 0 < m.length ∧ ∀ j : Nat, i ≤ j → j < m.length → Pt (rd_T54 m j) ∧ (0 < j → (rd_T54 m (j - 1 : Nat)).f0 < (rd_T54 m j).f0 ∧ (rd_T54 m (j - 1 : Nat)).f1 ≤ (rd_T54 m j).f1)
def Cur (m : List S54) : Prop := m.length ≤ 12 ∧ Shp m 0
theorem spt_f {p : S54} (h : -32768 ≤ p.f0 ∧ p.f0 ≤ 32767) (h' : -32768 ≤ p.f1 ∧ p.f1 ≤ 32767) : spec_l02Point.f p.f0 p.f1 = some (decide ((-200 ≤ p.f0 ∧ p.f0 ≤ 200) ∧ (0 ≤ p.f1 ∧ p.f1 ≤ 400))) := by
  unfold spec_l02Point.f spec_l02Place.f spec_l02Density.f
  rw [w64 (x := p.f0) (by omega) (by omega), w64 (x := p.f1) (by omega) (by omega)]
  simp only [in_f, Option.bind_some]
  by_cases c : -200 ≤ p.f0 ∧ p.f0 ≤ 200 <;> simp [c]
theorem ipt_f {p : S54} (h : -32768 ≤ p.f0 ∧ p.f0 ≤ 32767) (h' : -32768 ≤ p.f1 ∧ p.f1 ≤ 32767) : impl_isPoint.f p.f0 p.f1 = some (decide ((-200 ≤ p.f0 ∧ p.f0 ≤ 200) ∧ (0 ≤ p.f1 ∧ p.f1 ≤ 400))) := by
  unfold impl_isPoint.f impl_isPlace.f impl_isDensity.f
  rw [w64 (x := p.f0) (by omega) (by omega), w64 (x := p.f1) (by omega) (by omega)]
  simp only [within_f, Option.bind_some]
  by_cases c : -200 ≤ p.f0 ∧ p.f0 ≤ 200 <;> simp [c]
theorem shape_l (m : List S54) (hm : SmP m) (hl : m.length ≤ 1048576) (d : Nat) : ∀ (k i : Nat), i ≤ m.length → m.length - i = d → d < k →
    ∃ r, spec_l02Shape.l0 k m i = some r ∧ impl_isCurve.l0 k m m (m.length : Int) i = some r ∧ (r = true → Shp m i) := by
  induction d with
  | zero =>
    intro k i h0 hd hk
    obtain ⟨k, rfl⟩ : ∃ n, k = n + 1 := ⟨k - 1, by omega⟩
    simp only [spec_l02Shape.l0, impl_isCurve.l0]
    have g1 : ¬ (i : Int) < (m.length : Int) := by omega
    simp only [g1, if_false]
    refine ⟨_, rfl, rfl, fun h => ⟨?_, fun j j0 j1 => by omega⟩⟩
    have := of_decide_eq_true h
    omega
  | succ d ih =>
    intro k i h0 hd hk
    obtain ⟨k, rfl⟩ : ∃ n, k = n + 1 := ⟨k - 1, by omega⟩
    obtain ⟨s1, s2⟩ := smp_rd hm i (by omega)
    have g1 : (i : Int) < (m.length : Int) := by omega
    have g2 : 0 ≤ (i : Int) := by omega
    have hpos : 0 < m.length := by omega
    obtain ⟨r, e1, e2, e3⟩ := ih k (i + 1) (by omega) (by omega) (by omega)
    have e1' : spec_l02Shape.l0 k m ((i : Int) + 1) = some r := e1
    have e2' : impl_isCurve.l0 k m m (m.length : Int) ((i : Int) + 1) = some r := e2
    have fin : Pt (rd_T54 m i) → (0 < i → (rd_T54 m (i - 1 : Nat)).f0 < (rd_T54 m i).f0 ∧ (rd_T54 m (i - 1 : Nat)).f1 ≤ (rd_T54 m i).f1) → r = true → Shp m i := by
      intro p1 p2 hr
      obtain ⟨_, t2⟩ := e3 hr
      refine ⟨hpos, fun j j0 j1 => ?_⟩
      by_cases e : j = i
      · subst e; exact ⟨p1, p2⟩
      · exact t2 j (by omega) j1
    simp only [spec_l02Shape.l0, impl_isCurve.l0, spt_f s1 s2, ipt_f s1 s2, g1, g2, if_true, Option.bind_some]
    rw [w64 (x := (i : Int) + 1) (by omega) (by omega), w64 (x := (i : Int) - 1) (by omega) (by omega), e1', e2']
    by_cases c : (-200 ≤ (rd_T54 m i).f0 ∧ (rd_T54 m i).f0 ≤ 200) ∧ (0 ≤ (rd_T54 m i).f1 ∧ (rd_T54 m i).f1 ≤ 400)
    · simp only [c, and_self, decide_true, if_true]
      by_cases z : i = 0
      · subst z
        have g3 : ¬ ((0 : Nat) : Int) > 0 := by omega
        simp only [g3, if_false]
        exact ⟨r, rfl, rfl, fin c (fun h => by omega)⟩
      · have ei : ((i : Int) - 1) = ((i - 1 : Nat) : Int) := by omega
        have g3 : (i : Int) > 0 := by omega
        have g4 : 0 ≤ ((i - 1 : Nat) : Int) := by omega
        have g5 : ((i - 1 : Nat) : Int) < (m.length : Int) := by omega
        rw [ei]
        simp only [g3, g4, g5, if_true]
        by_cases c3 : (rd_T54 m i).f0 ≤ (rd_T54 m (i - 1 : Nat)).f0
        · have c3' : (rd_T54 m (i - 1 : Nat)).f0 ≥ (rd_T54 m i).f0 := c3
          simp only [c3, c3', if_true]
          exact ⟨_, rfl, rfl, fun h => by cases h⟩
        · have c3' : ¬ (rd_T54 m (i - 1 : Nat)).f0 ≥ (rd_T54 m i).f0 := c3
          simp only [c3, c3', if_false]
          by_cases c4 : (rd_T54 m i).f1 < (rd_T54 m (i - 1 : Nat)).f1
          · have c4' : (rd_T54 m (i - 1 : Nat)).f1 > (rd_T54 m i).f1 := c4
            simp only [c4, c4', if_true]
            exact ⟨_, rfl, rfl, fun h => by cases h⟩
          · have c4' : ¬ (rd_T54 m (i - 1 : Nat)).f1 > (rd_T54 m i).f1 := c4
            simp only [c4, c4', if_false]
            exact ⟨r, rfl, rfl, fin c (fun _ => by omega)⟩
    · simp only [c, decide_false, Bool.false_eq_true, if_false]
      exact ⟨_, rfl, rfl, fun h => by cases h⟩
theorem shape_f (m : List S54) (hm : SmP m) (hl : m.length ≤ 1048576) (k : Nat) (hk : m.length < k) : ∃ r, spec_l02Shape.f k m = some r ∧ impl_isCurve.f k m = some r ∧ (r = true → Shp m 0) :=
  shape_l m hm hl m.length k 0 (by omega) (by omega) hk
theorem cur_f (m : List S54) (hm : SmP m) (hl : m.length ≤ 1048576) (k : Nat) (hk : m.length < k) : ∃ r, spec_l02Ok.f k m = some r ∧ impl_ValidCurve.f k m = some r ∧ (r = true → Cur m) := by
  obtain ⟨r, e1, e2, e3⟩ := shape_f m hm hl k hk
  unfold spec_l02Ok.f impl_ValidCurve.f
  simp only [e1, e2, Option.bind_some]
  cases r with
  | true =>
    simp only [if_true]
    exact ⟨_, rfl, rfl, fun h => ⟨by have := of_decide_eq_true h; omega, e3 rfl⟩⟩
  | false =>
    simp only [Bool.false_eq_true, if_false]
    exact ⟨_, rfl, rfl, fun h => by cases h⟩
theorem smp_map {l : List S62} (hw : ∀ x ∈ l, (Lit.int .i16 x.f0).wf = true ∧ (Lit.int .i16 x.f1).wf = true) : SmP (l.map cvCurve) := by
  intro x hx
  obtain ⟨y, hy, rfl⟩ := List.mem_map.1 hx
  exact ⟨wf16 (hw y hy).1, wf16 (hw y hy).2⟩
theorem shp_mono {m : List S54} (h : Shp m 0) (j : Nat) : ∀ i : Nat, i ≤ j → j < m.length → (rd_T54 m i).f0 ≤ (rd_T54 m j).f0 ∧ (rd_T54 m i).f1 ≤ (rd_T54 m j).f1 := by
  induction j with
  | zero =>
    intro i hi hj
    obtain rfl : i = 0 := by omega
    exact ⟨Int.le_refl _, Int.le_refl _⟩
  | succ j ih =>
    intro i hi hj
    by_cases e : i = j + 1
    · subst e
      exact ⟨Int.le_refl _, Int.le_refl _⟩
    · obtain ⟨a1, a2⟩ := ih i (by omega) (by omega)
      obtain ⟨_, b⟩ := h.2 (j + 1) (by omega) hj
      obtain ⟨b1, b2⟩ := b (by omega)
      rw [show j + 1 - 1 = j by omega] at b1 b2
      omega
theorem shp_pt {m : List S54} (h : Shp m 0) (i : Nat) (hi : i < m.length) : Pt (rd_T54 m i) := (h.2 i (by omega) hi).1
theorem shp_next {m : List S54} (h : Shp m 0) (i : Nat) (hi : i + 1 < m.length) : (rd_T54 m i).f0 < (rd_T54 m (i + 1 : Nat)).f0 ∧ (rd_T54 m i).f1 ≤ (rd_T54 m (i + 1 : Nat)).f1 := by
  have := (h.2 (i + 1) (by omega) hi).2 (by omega)
  rw [show i + 1 - 1 = i by omega] at this
  exact this
theorem up {α : Type} {g : Nat → Option α} (h : ∀ k, LeO (g k) (g (k + 1))) {r q : α} (i j : Nat) (hr : g i = some r) (hq : g j = some q) : g j = some r := by
  have a := at_rounds h (Nat.le_max_left i j) hr
  have b := at_rounds h (Nat.le_max_right i j) hq
  rw [a] at b
  rw [hq, Option.some.inj b]
/-- the density between two points -/
def seg (p q : S54) (x : Int) : Int := p.f1 + (q.f1 - p.f1) * (x - p.f0) / (q.f0 - p.f0)
theorem seg_bd {p q : S54} {x : Int} (h1 : p.f0 ≤ x) (h2 : x ≤ q.f0) (h3 : p.f0 < q.f0) (h4 : p.f1 ≤ q.f1) : p.f1 ≤ seg p q x ∧ seg p q x ≤ q.f1 := by
  unfold seg
  have a1 : 0 ≤ (q.f1 - p.f1) * (x - p.f0) := Int.mul_nonneg (by omega) (by omega)
  have a2 : (q.f1 - p.f1) * (x - p.f0) ≤ (q.f1 - p.f1) * (q.f0 - p.f0) := Int.mul_le_mul_of_nonneg_left (by omega) (by omega)
  have b1 : 0 ≤ (q.f1 - p.f1) * (x - p.f0) / (q.f0 - p.f0) := Int.ediv_nonneg a1 (by omega)
  have b2 : (q.f1 - p.f1) * (x - p.f0) / (q.f0 - p.f0) ≤ (q.f1 - p.f1) * (q.f0 - p.f0) / (q.f0 - p.f0) := Int.ediv_le_ediv (by omega) a2
  rw [Int.mul_ediv_cancel _ (by omega)] at b2
  omega
theorem seg_mono {p q : S54} {x y : Int} (h : x ≤ y) (h3 : p.f0 < q.f0) (h4 : p.f1 ≤ q.f1) : seg p q x ≤ seg p q y := by
  unfold seg
  have a2 : (q.f1 - p.f1) * (x - p.f0) ≤ (q.f1 - p.f1) * (y - p.f0) := Int.mul_le_mul_of_nonneg_left (by omega) (by omega)
  have b2 := Int.ediv_le_ediv (c := q.f0 - p.f0) (by omega) a2
  omega
def IsAt (m : List S54) (x r : Int) : Prop :=
  (x ≤ (rd_T54 m (0 : Nat)).f0 ∧ r = (rd_T54 m (0 : Nat)).f1) ∨ ((rd_T54 m (0 : Nat)).f0 < x ∧ (rd_T54 m (m.length - 1 : Nat)).f0 ≤ x ∧ r = (rd_T54 m (m.length - 1 : Nat)).f1) ∨
    ∃ i : Nat, i + 1 < m.length ∧ (rd_T54 m (0 : Nat)).f0 < x ∧ (rd_T54 m i).f0 ≤ x ∧ x < (rd_T54 m (i + 1 : Nat)).f0 ∧ r = seg (rd_T54 m i) (rd_T54 m (i + 1 : Nat)) x
theorem isat_mono {m : List S54} (h : Shp m 0) {x y r s : Int} (hx : IsAt m x r) (hy : IsAt m y s) (hxy : x ≤ y) : r ≤ s := by
  have hl := h.1
  have top := shp_mono h (m.length - 1) 0 (by omega) (by omega)
  rcases hx with ⟨x1, rfl⟩ | ⟨x1, x2, rfl⟩ | ⟨i, i1, x1, x2, x3, rfl⟩
  · rcases hy with ⟨y1, rfl⟩ | ⟨y1, y2, rfl⟩ | ⟨j, j1, y1, y2, y3, rfl⟩
    · exact Int.le_refl _
    · exact top.2
    · have n := shp_next h j j1
      have b := seg_bd y2 (Int.le_of_lt y3) n.1 n.2
      have c := shp_mono h j 0 (by omega) (by omega)
      omega
  · rcases hy with ⟨y1, rfl⟩ | ⟨y1, y2, rfl⟩ | ⟨j, j1, y1, y2, y3, rfl⟩
    · omega
    · exact Int.le_refl _
    · have c := shp_mono h (m.length - 1) (j + 1) (by omega) (by omega)
      omega
  · have n := shp_next h i i1
    have b := seg_bd x2 (Int.le_of_lt x3) n.1 n.2
    rcases hy with ⟨y1, rfl⟩ | ⟨y1, y2, rfl⟩ | ⟨j, j1, y1, y2, y3, rfl⟩
    · omega
    · have c := shp_mono h (m.length - 1) (i + 1) (by omega) (by omega)
      omega
    · have n' := shp_next h j j1
      have b' := seg_bd y2 (Int.le_of_lt y3) n'.1 n'.2
      by_cases e : i = j
      · subst e
        exact seg_mono hxy n.1 n.2
      · by_cases e' : i < j
        · have c := shp_mono h j (i + 1) (by omega) (by omega)
          omega
        · have c := shp_mono h i (j + 1) (by omega) (by omega)
          omega
theorem isat_bd {m : List S54} (h : Shp m 0) {x r : Int} (hx : IsAt m x r) : (rd_T54 m (0 : Nat)).f1 ≤ r ∧ r ≤ (rd_T54 m (m.length - 1 : Nat)).f1 := by
  have hl := h.1
  have top := shp_mono h (m.length - 1) 0 (by omega) (by omega)
  rcases hx with ⟨x1, rfl⟩ | ⟨x1, x2, rfl⟩ | ⟨i, i1, x1, x2, x3, rfl⟩
  · omega
  · omega
  · have n := shp_next h i i1
    have b := seg_bd x2 (Int.le_of_lt x3) n.1 n.2
    have c := shp_mono h (m.length - 1) (i + 1) (by omega) (by omega)
    have c' := shp_mono h i 0 (by omega) (by omega)
    omega
theorem at_l (m : List S54) (h : Cur m) (x : Int) (hx : -1000000 ≤ x ∧ x ≤ 1000000) (h0 : (rd_T54 m (0 : Nat)).f0 < x) (hlast : x < (rd_T54 m (m.length - 1 : Nat)).f0) (d : Nat) : ∀ (k i : Nat), i + 1 < m.length → m.length - i = d → d < k → (rd_T54 m i).f0 ≤ x →
    ∃ r, spec_l02At.l0 k m x i = some r ∧ impl_Curve_at.l0 k m x ((i : Int) + 1) = some r ∧ IsAt m x r := by
  induction d with
  | zero => intro k i hi hd hk hr; omega
  | succ d ih =>
    intro k i hi hd hk hr
    obtain ⟨k, rfl⟩ : ∃ n, k = n + 1 := ⟨k - 1, by omega⟩
    obtain ⟨hlen, hs⟩ := h
    have p1 := shp_pt hs i (by omega)
    have p2 := shp_pt hs (i + 1) hi
    obtain ⟨p11, p12⟩ := p1
    obtain ⟨p21, p22⟩ := p2
    have n := shp_next hs i hi
    have g1 : 0 ≤ (i : Int) + 1 := by omega
    have g2 : (i : Int) + 1 < (m.length : Int) := by omega
    have g3 : 0 ≤ (i : Int) := by omega
    have g4 : (i : Int) < (m.length : Int) := by omega
    have ec : ((i : Int) + 1) = ((i + 1 : Nat) : Int) := by omega
    simp only [spec_l02At.l0, impl_Curve_at.l0]
    rw [w64 (x := (i : Int) + 1) (by omega) (by omega), w64 (x := (i : Int) + 1 + 1) (by omega) (by omega), w64 (x := (i : Int) + 1 - 1) (by omega) (by omega), show (i : Int) + 1 - 1 = (i : Int) by omega]
    simp only [g1, g2, g3, g4, if_true]
    rw [ec, w64 (x := (rd_T54 m (i + 1 : Nat)).f0) (by omega) (by omega)]
    by_cases c : (rd_T54 m (i + 1 : Nat)).f0 ≤ x
    · simp only [c, if_true]
      by_cases e : i + 1 + 1 < m.length
      · obtain ⟨r, r1, r2, r3⟩ := ih k (i + 1) e (by omega) (by omega) c
        exact ⟨r, r1, r2, r3⟩
      · rw [show m.length - 1 = i + 1 by omega] at hlast
        omega
    · simp only [c, if_false]
      rw [w64 (x := (rd_T54 m i).f0) (by omega) (by omega), w64 (x := (rd_T54 m (i + 1 : Nat)).f1) (by omega) (by omega), w64 (x := (rd_T54 m i).f1) (by omega) (by omega)]
      rw [i16w (x := (rd_T54 m (i + 1 : Nat)).f0 - (rd_T54 m i).f0) (by omega) (by omega), i16w (x := (rd_T54 m (i + 1 : Nat)).f1 - (rd_T54 m i).f1) (by omega) (by omega)]
      have q1 : 0 ≤ ((rd_T54 m (i + 1 : Nat)).f1 - (rd_T54 m i).f1) * (x - (rd_T54 m i).f0) := Int.mul_nonneg (by omega) (by omega)
      have q2 : ((rd_T54 m (i + 1 : Nat)).f1 - (rd_T54 m i).f1) * (x - (rd_T54 m i).f0) ≤ 400 * 400 := Int.mul_le_mul (by omega) (by omega) (by omega) (by omega)
      rw [w64 (x := (rd_T54 m (i + 1 : Nat)).f0 - (rd_T54 m i).f0) (by omega) (by omega), w64 (x := (rd_T54 m (i + 1 : Nat)).f1 - (rd_T54 m i).f1) (by omega) (by omega), w64 (x := x - (rd_T54 m i).f0) (by omega) (by omega), w64 (x := ((rd_T54 m (i + 1 : Nat)).f1 - (rd_T54 m i).f1) * (x - (rd_T54 m i).f0)) (by omega) (by omega), Int.tdiv_eq_ediv_of_nonneg q1]
      have b := seg_bd hr (show x ≤ (rd_T54 m (i + 1 : Nat)).f0 by omega) n.1 n.2
      have eb : (rd_T54 m i).f1 + ((rd_T54 m (i + 1 : Nat)).f1 - (rd_T54 m i).f1) * (x - (rd_T54 m i).f0) / ((rd_T54 m (i + 1 : Nat)).f0 - (rd_T54 m i).f0) = seg (rd_T54 m i) (rd_T54 m (i + 1 : Nat)) x := rfl
      rw [w64 (x := ((rd_T54 m (i + 1 : Nat)).f1 - (rd_T54 m i).f1) * (x - (rd_T54 m i).f0) / ((rd_T54 m (i + 1 : Nat)).f0 - (rd_T54 m i).f0)) (by omega) (by omega), eb, w64 (x := seg (rd_T54 m i) (rd_T54 m (i + 1 : Nat)) x) (by omega) (by omega)]
      have g5 : ¬ (rd_T54 m (i + 1 : Nat)).f0 - (rd_T54 m i).f0 = 0 := by omega
      simp only [g5, if_false]
      exact ⟨_, rfl, rfl, .inr (.inr ⟨i, hi, h0, hr, by omega, rfl⟩)⟩
theorem at_k (m : List S54) (h : Cur m) (x : Int) (hx : -1000000 ≤ x ∧ x ≤ 1000000) (k : Nat) (hk : 13 < k) : ∃ r, spec_l02At.f k m x = some r ∧ impl_Curve_at.f k m x = some r ∧ IsAt m x r := by
  obtain ⟨hlen, hs⟩ := h
  have hl := hs.1
  obtain ⟨p11, p12⟩ := shp_pt hs 0 (by omega)
  obtain ⟨p21, p22⟩ := shp_pt hs (m.length - 1) (by omega)
  unfold spec_l02At.f impl_Curve_at.f
  have g1 : 0 < (m.length : Int) := by omega
  have g2 : 0 ≤ ((m.length - 1 : Nat) : Int) := by omega
  have g3 : ((m.length - 1 : Nat) : Int) < (m.length : Int) := by omega
  rw [w64 (x := (m.length : Int) - 1) (by omega) (by omega), show ((m.length : Int) - 1) = ((m.length - 1 : Nat) : Int) by omega]
  have z : rd_T54 m 0 = rd_T54 m (0 : Nat) := rfl
  rw [z, w64 (x := (rd_T54 m (0 : Nat)).f0) (by omega) (by omega), w64 (x := (rd_T54 m (0 : Nat)).f1) (by omega) (by omega), w64 (x := (rd_T54 m (m.length - 1 : Nat)).f0) (by omega) (by omega), w64 (x := (rd_T54 m (m.length - 1 : Nat)).f1) (by omega) (by omega)]
  simp only [g1, g2, g3, if_true]
  by_cases c : x ≤ (rd_T54 m (0 : Nat)).f0
  · simp only [c, if_true]
    exact ⟨_, rfl, rfl, .inl ⟨c, rfl⟩⟩
  · simp only [c, if_false]
    by_cases c2 : x ≥ (rd_T54 m (m.length - 1 : Nat)).f0
    · simp only [c2, if_true]
      exact ⟨_, rfl, rfl, .inr (.inl ⟨by omega, c2, rfl⟩)⟩
    · simp only [c2, if_false]
      have hne : 0 + 1 < m.length := by
        by_cases e : m.length = 1
        · rw [e] at c2
          exact absurd (show x ≥ (rd_T54 m (0 : Nat)).f0 by omega) c2
        · omega
      exact at_l m ⟨hlen, hs⟩ x hx (by omega) (by omega) m.length k 0 hne (by omega) (by omega) (by omega)
def atV (m : List S54) (x : Int) : Int := (spec_l02At.f 20 m x).getD 0
theorem at_f (m : List S54) (h : Cur m) (x : Int) (hx : -1000000 ≤ x ∧ x ≤ 1000000) : (∀ k, 13 < k → spec_l02At.f k m x = some (atV m x) ∧ impl_Curve_at.f k m x = some (atV m x)) ∧ IsAt m x (atV m x) ∧ 0 ≤ atV m x ∧ atV m x ≤ 400 := by
  obtain ⟨r, r1, r2, r3⟩ := at_k m h x hx 20 (by omega)
  have e : atV m x = r := by unfold atV; rw [r1]; rfl
  have b := isat_bd h.2 r3
  obtain ⟨_, p12⟩ := shp_pt h.2 0 h.2.1
  obtain ⟨_, p22⟩ := shp_pt h.2 (m.length - 1) (by have := h.2.1; omega)
  rw [e]
  refine ⟨fun k hk => ?_, r3, by omega, by omega⟩
  obtain ⟨s, s1, s2, _⟩ := at_k m h x hx k hk
  exact ⟨up (spec_l02At.mono m x) 20 k r1 s1, up (impl_Curve_at.mono m x) 20 k r2 s2⟩
theorem szs_f {x : Int} (h : -1000000 < x ∧ x < 1000000) : spec_l01Size.f x = some (if x < 0 then -x else x) ∧ impl_size.f x = some (if x < 0 then -x else x) := by
  constructor
  · unfold spec_l01Size.f
    rw [w64 (by omega) (by omega)]
    split <;> rfl
  · unfold impl_size.f mx
    rw [w64 (by omega) (by omega)]
    by_cases c : x < 0
    · rw [if_pos (by omega), if_pos c]
    · by_cases e : x = 0
      · subst e; rfl
      · rw [if_neg (by omega), if_neg c]
def gp (a b : List S54) (x : Int) : Int := atV b x - atV a x
def ab (x : Int) : Int := if x < 0 then -x else x
/-- the first place up to n at which densities differ most -/
def IsGap (a b : List S54) (n p g : Int) : Prop := -200 ≤ p ∧ p ≤ n ∧ g = gp a b p ∧ (∀ j, -200 ≤ j → j ≤ n → ab (gp a b j) ≤ ab g) ∧ (∀ j, -200 ≤ j → j < p → ab (gp a b j) < ab g)
theorem gap_l (a b : List S54) (ha : Cur a) (hb : Cur b) (d : Nat) : ∀ (k : Nat) (x p g : Int), -199 ≤ x → x ≤ 201 → 201 - x = d → d + 20 < k → IsGap a b (x - 1) p g →
    ∃ z, spec_l02Gap.l0 k a b p g x = some z ∧ impl_gap.l0 k a b p g x = some z ∧ IsGap a b 200 z.1 z.2 := by
  induction d with
  | zero =>
    intro k x p g h0 h1 hd hk hg
    obtain ⟨k, rfl⟩ : ∃ n, k = n + 1 := ⟨k - 1, by omega⟩
    simp only [spec_l02Gap.l0, impl_gap.l0, impl_isPlace.f, within_f, Option.bind_some]
    have g1 : ¬ x ≤ 200 := by omega
    simp only [g1, and_false, decide_false, Bool.false_eq_true, if_false]
    rw [show x - 1 = 200 by omega] at hg
    exact ⟨_, rfl, rfl, hg⟩
  | succ d ih =>
    intro k x p g h0 h1 hd hk hg
    obtain ⟨k, rfl⟩ : ∃ n, k = n + 1 := ⟨k - 1, by omega⟩
    have hg' := hg
    obtain ⟨q0, q1, q2, q3, q4⟩ := hg'
    obtain ⟨a1, _, a2, a3⟩ := at_f a ha x (by omega)
    obtain ⟨b1, _, b2, b3⟩ := at_f b hb x (by omega)
    obtain ⟨_, _, a4, a5⟩ := at_f a ha p (by omega)
    obtain ⟨_, _, b4, b5⟩ := at_f b hb p (by omega)
    have gb : -400 ≤ g ∧ g ≤ 400 := by rw [q2]; unfold gp; omega
    have xb : -400 ≤ gp a b x ∧ gp a b x ≤ 400 := by unfold gp; omega
    simp only [spec_l02Gap.l0, impl_gap.l0, impl_isPlace.f, within_f, Option.bind_some, (a1 k (by omega)).1, (a1 k (by omega)).2, (b1 k (by omega)).1, (b1 k (by omega)).2]
    have eg : atV b x - atV a x = gp a b x := rfl
    rw [w64 (x := atV b x - atV a x) (by omega) (by omega), w64 (x := x + 1) (by omega) (by omega), eg, (szs_f (x := gp a b x) (by omega)).1, (szs_f (x := gp a b x) (by omega)).2, (szs_f (x := g) (by omega)).1, (szs_f (x := g) (by omega)).2]
    have g1 : x ≤ 200 := by omega
    have g2 : -200 ≤ x := by omega
    simp only [g1, g2, and_self, decide_true, if_true, Option.bind_some]
    have ex : (if gp a b x < 0 then -gp a b x else gp a b x) = ab (gp a b x) := rfl
    have eg' : (if g < 0 then -g else g) = ab g := rfl
    rw [ex, eg']
    by_cases c : ab (gp a b x) > ab g
    · simp only [c, if_true]
      refine ih k (x + 1) x (gp a b x) (by omega) (by omega) (by omega) (by omega) ⟨by omega, by omega, rfl, fun j j0 j1 => ?_, fun j j0 j1 => ?_⟩
      · by_cases e : j = x
        · rw [e]; exact Int.le_refl _
        · have := q3 j j0 (by omega); omega
      · have := q3 j j0 (by omega); omega
    · simp only [c, if_false]
      refine ih k (x + 1) p g (by omega) (by omega) (by omega) (by omega) ⟨q0, by omega, q2, fun j j0 j1 => ?_, q4⟩
      by_cases e : j = x
      · rw [e]; omega
      · exact q3 j j0 (by omega)
theorem gap_f (a b : List S54) (ha : Cur a) (hb : Cur b) (k : Nat) (hk : 500 < k) : ∃ z, spec_l02Gap.f k a b = some z ∧ impl_gap.f k a b = some z ∧ IsGap a b 200 z.1 z.2 := by
  obtain ⟨a1, _, a2, a3⟩ := at_f a ha (-200) (by omega)
  obtain ⟨b1, _, b2, b3⟩ := at_f b hb (-200) (by omega)
  have xb : -400 ≤ gp a b (-200) ∧ gp a b (-200) ≤ 400 := by unfold gp; omega
  obtain ⟨k, rfl⟩ : ∃ n, k = n + 1 := ⟨k - 1, by omega⟩
  have start : IsGap a b (-200) (-200) (gp a b (-200)) := ⟨by omega, by omega, rfl, fun j j0 j1 => by rw [show j = -200 by omega]; exact Int.le_refl _, fun j j0 j1 => by omega⟩
  obtain ⟨z, z1, z2, z3⟩ := gap_l a b ha hb 400 k (-199) (-200) (gp a b (-200)) (by omega) (by omega) (by omega) (by omega) start
  obtain ⟨z', z1', z2', z3'⟩ := gap_l a b ha hb 400 (k + 1) (-199) (-200) (gp a b (-200)) (by omega) (by omega) (by omega) (by omega) start
  have ez : z' = z := by
    have := spec_l02Gap.mono_l k a b (-200) (gp a b (-200)) (-199) z z1
    rw [z1'] at this
    exact Option.some.inj this
  subst ez
  refine ⟨z', ?_, ?_, z3⟩
  · unfold spec_l02Gap.f
    rw [(b1 (k + 1) (by omega)).1, (a1 (k + 1) (by omega)).1]
    simp only [Option.bind_some]
    rw [w64 (by omega) (by omega)]
    exact z1'
  · unfold impl_gap.f
    simp only [impl_gap.l0, impl_isPlace.f, within_f, Option.bind_some]
    have eg : atV b (-200) - atV a (-200) = gp a b (-200) := rfl
    rw [(b1 k (by omega)).2, (a1 k (by omega)).2]
    simp only [Option.bind_some]
    rw [w64 (by omega) (by omega), eg, (szs_f (x := gp a b (-200)) (by omega)).2, (szs_f (x := 0) (by omega)).2, w64 (x := -200 + 1) (by omega) (by omega)]
    simp only [Option.bind_some]
    rw [if_pos (by decide)]
    have s0 : IsGap a b (-200) (-200) (gp a b (-200)) := start
    by_cases c : gp a b (-200) = 0
    · rw [c] at z2 ⊢
      rw [if_neg (by simp)]
      exact z2
    · rw [if_pos (by split <;> simp <;> omega)]
      exact z2
theorem GreatestGap_same (a b : List S54) (ha : SmP a) (hal : a.length ≤ 1048576) (hb : SmP b) (hbl : b.length ≤ 1048576) (dummy : Int) (k : Nat) (hk : a.length + b.length + 3000 < k) : ∃ z, spec_GreatestGap.f k a b = some z ∧ impl_GreatestGap.f k a b = some z := by
  obtain ⟨r, e1, e2, e3⟩ := cur_f a ha hal k (by omega)
  obtain ⟨s, f1, f2, f3⟩ := cur_f b hb hbl k (by omega)
  unfold spec_GreatestGap.f impl_GreatestGap.f
  simp only [e1, e2, f1, f2, Option.bind_some]
  cases r with
  | false => exact ⟨_, rfl, rfl⟩
  | true =>
    cases s with
    | false => exact ⟨_, rfl, rfl⟩
    | true =>
      obtain ⟨z, z1, z2, _⟩ := gap_f a b (e3 rfl) (f3 rfl) k (by omega)
      simp only [if_true, z1, z2, Option.bind_some]
      exact ⟨_, rfl, rfl⟩
theorem FnExactGreatestGap : laws_FnExactGreatestGap.Pure := by
  intro l m  h0 h0w h1 h1w
  refine ⟨3000000, ?_⟩
  unfold laws_FnExactGreatestGap.f
  rw [szCurve_g l 1048576 (by omega) (by omega), Option.bind_some]
  by_cases c : (l.length : Int) ≤ 1048576
  · rw [if_pos c, if_neg (by omega), szCurve_g m (1048576 - (l.length : Int)) (by omega) (by omega), Option.bind_some]
    by_cases c' : (m.length : Int) ≤ 1048576 - (l.length : Int)
    · rw [if_pos c', if_neg (by omega), toCurve_f l (by omega) _ (by omega), toCurve_f m (by omega) _ (by omega)]
      have hl : (l.map cvCurve).length ≤ 1048576 := by rw [List.length_map]; omega
      have hm : (m.map cvCurve).length ≤ 1048576 := by rw [List.length_map]; omega
      obtain ⟨z, z1, z2⟩ := GreatestGap_same _ _ (smp_map h0w) hl (smp_map h1w) hm  0 3000000 (by omega)
      simp only [Option.bind_some, z1, z2, if_true, bne_self_eq_false, laws_FnExactGreatestGap.j0, Bool.false_eq_true, if_false, toCurve_f l (show l.length ≤ 1048576 by omega) 2999999 (by omega), toCurve_f m (show m.length ≤ 1048576 by omega) 2999999 (by omega), eqCurve_f _ hl 2999999 (by omega), eqCurve_f _ hm 2999999 (by omega)]
    · rw [if_neg c', if_pos (by omega)]
  · rw [if_neg c, if_pos (by omega)]

end Go.Proofs.Ythhgljbmghookaa.Pure
