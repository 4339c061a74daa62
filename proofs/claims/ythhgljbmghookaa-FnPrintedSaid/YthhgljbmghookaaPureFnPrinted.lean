/- Proves, in plain numbers and lists, that the law FnPrinted answers true at all inputs. No condition is added. -/
import Derived.Test.YthhgljbmghookaaPFnPrintedx0
import Derived.Test.YthhgljbmghookaaPFnPrintedx1
import Derived.Test.YthhgljbmghookaaPFnPrintedx2
import Derived.Test.YthhgljbmghookaaPFnPrintedx3
import Derived.Test.YthhgljbmghookaaPFnPrintedx4
import Derived.Test.YthhgljbmghookaaPFnPrintedx5
import Derived.Test.YthhgljbmghookaaPFnPrintedx6
import Derived.Test.YthhgljbmghookaaPFnPrintedx7
import Derived.Test.YthhgljbmghookaaPFnPrintedx8
import Derived.Test.YthhgljbmghookaaPFnPrintedx9
namespace Go.Proofs.Ythhgljbmghookaa.Pure
open Go.RowKit Go.Proofs.Ythhgljbmghookaa.PFnPrinted Go.Proofs.YthhgljbmghookaaW.PrintWords Go.Proofs.YthhgljbmghookaaW.PrintLast Go.Proofs.YthhgljbmghookaaW.PrintMore
set_option linter.unusedVariables false
set_option linter.unusedSimpArgs false
theorem w64 {x : Int} (h : -9223372036854775808 ≤ x) (h' : x ≤ 9223372036854775807) : wrap64 x = x := by unfold wrap64; omega
theorem wf8 {x : Int} (h : (Lit.int .i8 x).wf = true) : -128 ≤ x ∧ x ≤ 127 := by
  have h2 : (decide ((-128 : Int) ≤ x) && decide (x ≤ 127)) = true := h
  simpa using h2
theorem wf16 {x : Int} (h : (Lit.int .i16 x).wf = true) : -32768 ≤ x ∧ x ≤ 32767 := by
  have h2 : (decide ((-32768 : Int) ≤ x) && decide (x ≤ 32767)) = true := h
  simpa using h2
theorem wf64 {x : Int} (h : (Lit.int .i64 x).wf = true) : -9223372036854775808 ≤ x ∧ x ≤ 9223372036854775807 := by
  have h2 : (decide ((-9223372036854775808 : Int) ≤ x) && decide (x ≤ 9223372036854775807)) = true := h
  simpa using h2
theorem wfu64 {x : Int} (h : (Lit.int .u64 x).wf = true) : 0 ≤ x ∧ x ≤ 18446744073709551615 := by
  have h2 : (decide ((0 : Int) ≤ x) && decide (x ≤ 18446744073709551615)) = true := h
  simpa using h2
theorem i8w {x : Int} (h : -128 ≤ x) (h' : x ≤ 127) : IntKind.i8.wrap x = x := by
  show (if (true && decide (x % 256 ≥ 128)) = true then x % 256 - 256 else x % 256) = x
  by_cases e : x % 256 ≥ 128
  · rw [if_pos (by simpa using e)]; omega
  · rw [if_neg (by simpa using e)]; omega
theorem i16w {x : Int} (h : -32768 ≤ x) (h' : x ≤ 32767) : IntKind.i16.wrap x = x := by
  show (if (true && decide (x % 65536 ≥ 32768)) = true then x % 65536 - 65536 else x % 65536) = x
  by_cases e : x % 65536 ≥ 32768
  · rw [if_pos (by simpa using e)]; omega
  · rw [if_neg (by simpa using e)]; omega
theorem u64w {x : Int} (h : 0 ≤ x) (h' : x ≤ 18446744073709551615) : IntKind.u64.wrap x = x := by
  show (if (false && decide (x % 18446744073709551616 ≥ 9223372036854775808)) = true then x % 18446744073709551616 - 18446744073709551616 else x % 18446744073709551616) = x
  rw [if_neg (by simp)]; omega
theorem set_nextg {α β : Type} (f : α → β) (z : β) (d : α) (l : List α) (i : Nat) (h : i < l.length) : ((l.take i).map f ++ List.replicate (l.length - i) z).set i (f (l.getD i d)) = (l.take (i + 1)).map f ++ List.replicate (l.length - (i + 1)) z := by
  apply List.ext_getElem
  · simp; omega
  · intro j h1 h2
    simp only [List.getElem_set, List.getElem_append, List.length_map, List.length_take, List.getElem_map, List.getElem_take, List.getElem_replicate]
    by_cases e : i = j
    · subst e
      rw [if_pos rfl, dif_pos (by omega)]
      simp [h]
    · rw [if_neg e]
      by_cases c : j < i
      · rw [dif_pos (by omega), dif_pos (by omega)]
      · rw [dif_neg (by omega), dif_neg (by omega)]
theorem getD_mem {α : Type} (l : List α) (i : Nat) (d : α) (h : i < l.length) : l.getD i d ∈ l := by
  rw [List.getD_eq_getElem?_getD, List.getElem?_eq_getElem h]
  exact List.getElem_mem h
theorem getD_set_ne {α : Type} (l : List α) (i j : Nat) (x d : α) (h : i ≠ j) : (l.set i x).getD j d = l.getD j d := by
  simp [List.getD_eq_getElem?_getD, List.getElem?_set_ne h]
theorem getD_set_eq {α : Type} (l : List α) (i : Nat) (x d : α) (h : i < l.length) : (l.set i x).getD i d = x := by
  simp [List.getD_eq_getElem?_getD, List.getElem?_set_self h]
theorem in_f (a b c : Int) : spec_l00In.f a b c = some (decide (b ≤ a ∧ a ≤ c)) := by
  unfold spec_l00In.f
  by_cases h : b ≤ a <;> simp [h]
theorem within_f (a b c : Int) : impl_within.f a b c = some (decide (b ≤ a ∧ a ≤ c)) := by
  unfold impl_within.f
  by_cases h : b ≤ a <;> simp [h]
def SmP (m : List S54) : Prop := ∀ x ∈ m, (-32768 ≤ x.f0 ∧ x.f0 ≤ 32767) ∧ (-32768 ≤ x.f1 ∧ x.f1 ≤ 32767)
theorem smp_rd {m : List S54} (h : SmP m) (i : Nat) (hi : i < m.length) : (-32768 ≤ (rd_T54 m i).f0 ∧ (rd_T54 m i).f0 ≤ 32767) ∧ (-32768 ≤ (rd_T54 m i).f1 ∧ (rd_T54 m i).f1 ≤ 32767) := by
  have := h _ (getD_mem m i z54 hi)
  simpa [rd_T54] using this
/-- a point as it may be -/
def Pt (p : S54) : Prop := (-200 ≤ p.f0 ∧ p.f0 ≤ 200) ∧ (0 ≤ p.f1 ∧ p.f1 ≤ 400)
/-- points from i on are as they may be -/
def Shp (m : List S54) (i : Nat) : Prop := 0 < m.length ∧ ∀ j : Nat, i ≤ j → j < m.length → Pt (rd_T54 m j) ∧ (0 < j → (rd_T54 m (j - 1 : Nat)).f0 < (rd_T54 m j).f0 ∧ (rd_T54 m (j - 1 : Nat)).f1 ≤ (rd_T54 m j).f1)
def Cur (m : List S54) : Prop := m.length ≤ 12 ∧ Shp m 0
theorem spt_f {p : S54} (h : -32768 ≤ p.f0 ∧ p.f0 ≤ 32767) (h' : -32768 ≤ p.f1 ∧ p.f1 ≤ 32767) : spec_l02Point.f p.f0 p.f1 = some (decide ((-200 ≤ p.f0 ∧ p.f0 ≤ 200) ∧ (0 ≤ p.f1 ∧ p.f1 ≤ 400))) := by
  unfold spec_l02Point.f spec_l02Place.f spec_l02Density.f
  rw [w64 (x := p.f0) (by omega) (by omega), w64 (x := p.f1) (by omega) (by omega)]
  simp only [in_f, Option.bind_some]
  by_cases c : -200 ≤ p.f0 ∧ p.f0 ≤ 200 <;> simp [c]
theorem ipt_f {p : S54} (h : -32768 ≤ p.f0 ∧ p.f0 ≤ 32767) (h' : -32768 ≤ p.f1 ∧ p.f1 ≤ 32767) : impl_isPoint.f p.f0 p.f1 = some (decide ((-200 ≤ p.f0 ∧ p.f0 ≤ 200) ∧ (0 ≤ p.f1 ∧ p.f1 ≤ 400))) := by
  unfold impl_isPoint.f impl_isPlace.f impl_isDensity.f
  rw [w64 (x := p.f0) (by omega) (by omega), w64 (x := p.f1) (by omega) (by omega)]
  simp only [within_f, Option.bind_some]
  by_cases c : -200 ≤ p.f0 ∧ p.f0 ≤ 200 <;> simp [c]
theorem shape_l (m : List S54) (hm : SmP m) (hl : m.length ≤ 1048576) (d : Nat) : ∀ (k i : Nat), i ≤ m.length → m.length - i = d → d < k →
    ∃ r, spec_l02Shape.l0 k m i = some r ∧ impl_isCurve.l0 k m m (m.length : Int) i = some r ∧ (r = true → Shp m i) := by
  induction d with
  | zero =>
    intro k i h0 hd hk
    obtain ⟨k, rfl⟩ : ∃ n, k = n + 1 := ⟨k - 1, by omega⟩
    simp only [spec_l02Shape.l0, impl_isCurve.l0]
    have g1 : ¬ (i : Int) < (m.length : Int) := by omega
    simp only [g1, if_false]
    refine ⟨_, rfl, rfl, fun h => ⟨?_, fun j j0 j1 => by omega⟩⟩
    have := of_decide_eq_true h
    omega
  | succ d ih =>
    intro k i h0 hd hk
    obtain ⟨k, rfl⟩ : ∃ n, k = n + 1 := ⟨k - 1, by omega⟩
    obtain ⟨s1, s2⟩ := smp_rd hm i (by omega)
    have g1 : (i : Int) < (m.length : Int) := by omega
    have g2 : 0 ≤ (i : Int) := by omega
    have hpos : 0 < m.length := by omega
    obtain ⟨r, e1, e2, e3⟩ := ih k (i + 1) (by omega) (by omega) (by omega)
    have e1' : spec_l02Shape.l0 k m ((i : Int) + 1) = some r := e1
    have e2' : impl_isCurve.l0 k m m (m.length : Int) ((i : Int) + 1) = some r := e2
    have fin : Pt (rd_T54 m i) → (0 < i → (rd_T54 m (i - 1 : Nat)).f0 < (rd_T54 m i).f0 ∧ (rd_T54 m (i - 1 : Nat)).f1 ≤ (rd_T54 m i).f1) → r = true → Shp m i := by
      intro p1 p2 hr
      obtain ⟨_, t2⟩ := e3 hr
      refine ⟨hpos, fun j j0 j1 => ?_⟩
      by_cases e : j = i
      · subst e; exact ⟨p1, p2⟩
      · exact t2 j (by omega) j1
    simp only [spec_l02Shape.l0, impl_isCurve.l0, spt_f s1 s2, ipt_f s1 s2, g1, g2, if_true, Option.bind_some]
    rw [w64 (x := (i : Int) + 1) (by omega) (by omega), w64 (x := (i : Int) - 1) (by omega) (by omega), e1', e2']
    by_cases c : (-200 ≤ (rd_T54 m i).f0 ∧ (rd_T54 m i).f0 ≤ 200) ∧ (0 ≤ (rd_T54 m i).f1 ∧ (rd_T54 m i).f1 ≤ 400)
    · simp only [c, and_self, decide_true, if_true]
      by_cases z : i = 0
      · subst z
        have g3 : ¬ ((0 : Nat) : Int) > 0 := by omega
        simp only [g3, if_false]
        exact ⟨r, rfl, rfl, fin c (fun h => by omega)⟩
      · have ei : ((i : Int) - 1) = ((i - 1 : Nat) : Int) := by omega
        have g3 : (i : Int) > 0 := by omega
        have g4 : 0 ≤ ((i - 1 : Nat) : Int) := by omega
        have g5 : ((i - 1 : Nat) : Int) < (m.length : Int) := by omega
        rw [ei]
        simp only [g3, g4, g5, if_true]
        by_cases c3 : (rd_T54 m i).f0 ≤ (rd_T54 m (i - 1 : Nat)).f0
        · have c3' : (rd_T54 m (i - 1 : Nat)).f0 ≥ (rd_T54 m i).f0 := c3
          simp only [c3, c3', if_true]
          exact ⟨_, rfl, rfl, fun h => by cases h⟩
        · have c3' : ¬ (rd_T54 m (i - 1 : Nat)).f0 ≥ (rd_T54 m i).f0 := c3
          simp only [c3, c3', if_false]
          by_cases c4 : (rd_T54 m i).f1 < (rd_T54 m (i - 1 : Nat)).f1
          · have c4' : (rd_T54 m (i - 1 : Nat)).f1 > (rd_T54 m i).f1 := c4
            simp only [c4, c4', if_true]
            exact ⟨_, rfl, rfl, fun h => by cases h⟩
          · have c4' : ¬ (rd_T54 m (i - 1 : Nat)).f1 > (rd_T54 m i).f1 := c4
            simp only [c4, c4', if_false]
            exact ⟨r, rfl, rfl, fin c (fun _ => by omega)⟩
    · simp only [c, decide_false, Bool.false_eq_true, if_false]
      exact ⟨_, rfl, rfl, fun h => by cases h⟩
theorem shape_f (m : List S54) (hm : SmP m) (hl : m.length ≤ 1048576) (k : Nat) (hk : m.length < k) : ∃ r, spec_l02Shape.f k m = some r ∧ impl_isCurve.f k m = some r ∧ (r = true → Shp m 0) :=
  shape_l m hm hl m.length k 0 (by omega) (by omega) hk
theorem cur_f (m : List S54) (hm : SmP m) (hl : m.length ≤ 1048576) (k : Nat) (hk : m.length < k) : ∃ r, spec_l02Ok.f k m = some r ∧ impl_ValidCurve.f k m = some r ∧ (r = true → Cur m) := by
  obtain ⟨r, e1, e2, e3⟩ := shape_f m hm hl k hk
  unfold spec_l02Ok.f impl_ValidCurve.f
  simp only [e1, e2, Option.bind_some]
  cases r with
  | true =>
    simp only [if_true]
    exact ⟨_, rfl, rfl, fun h => ⟨by have := of_decide_eq_true h; omega, e3 rfl⟩⟩
  | false =>
    simp only [Bool.false_eq_true, if_false]
    exact ⟨_, rfl, rfl, fun h => by cases h⟩
theorem shp_mono {m : List S54} (h : Shp m 0) (j : Nat) : ∀ i : Nat, i ≤ j → j < m.length → (rd_T54 m i).f0 ≤ (rd_T54 m j).f0 ∧ (rd_T54 m i).f1 ≤ (rd_T54 m j).f1 := by
  induction j with
  | zero =>
    intro i hi hj
    obtain rfl : i = 0 := by omega
    exact ⟨Int.le_refl _, Int.le_refl _⟩
  | succ j ih =>
    intro i hi hj
    by_cases e : i = j + 1
    · subst e
      exact ⟨Int.le_refl _, Int.le_refl _⟩
    · obtain ⟨a1, a2⟩ := ih i (by omega) (by omega)
      obtain ⟨_, b⟩ := h.2 (j + 1) (by omega) hj
      obtain ⟨b1, b2⟩ := b (by omega)
      rw [show j + 1 - 1 = j by omega] at b1 b2
      omega
theorem shp_pt {m : List S54} (h : Shp m 0) (i : Nat) (hi : i < m.length) : Pt (rd_T54 m i) := (h.2 i (by omega) hi).1
theorem shp_next {m : List S54} (h : Shp m 0) (i : Nat) (hi : i + 1 < m.length) : (rd_T54 m i).f0 < (rd_T54 m (i + 1 : Nat)).f0 ∧ (rd_T54 m i).f1 ≤ (rd_T54 m (i + 1 : Nat)).f1 := by
  have := (h.2 (i + 1) (by omega) hi).2 (by omega)
  rw [show i + 1 - 1 = i by omega] at this
  exact this
theorem up {α : Type} {g : Nat → Option α} (h : ∀ k, LeO (g k) (g (k + 1))) {r q : α} (i j : Nat) (hr : g i = some r) (hq : g j = some q) : g j = some r := by
  have a := at_rounds h (Nat.le_max_left i j) hr
  have b := at_rounds h (Nat.le_max_right i j) hq
  rw [a] at b
  rw [hq, Option.some.inj b]
/-- the density between two points -/
def seg (p q : S54) (x : Int) : Int := p.f1 + (q.f1 - p.f1) * (x - p.f0) / (q.f0 - p.f0)
theorem seg_bd {p q : S54} {x : Int} (h1 : p.f0 ≤ x) (h2 : x ≤ q.f0) (h3 : p.f0 < q.f0) (h4 : p.f1 ≤ q.f1) : p.f1 ≤ seg p q x ∧ seg p q x ≤ q.f1 := by
  unfold seg
  have a1 : 0 ≤ (q.f1 - p.f1) * (x - p.f0) := Int.mul_nonneg (by omega) (by omega)
  have a2 : (q.f1 - p.f1) * (x - p.f0) ≤ (q.f1 - p.f1) * (q.f0 - p.f0) := Int.mul_le_mul_of_nonneg_left (by omega) (by omega)
  have b1 : 0 ≤ (q.f1 - p.f1) * (x - p.f0) / (q.f0 - p.f0) := Int.ediv_nonneg a1 (by omega)
  have b2 : (q.f1 - p.f1) * (x - p.f0) / (q.f0 - p.f0) ≤ (q.f1 - p.f1) * (q.f0 - p.f0) / (q.f0 - p.f0) := Int.ediv_le_ediv (by omega) a2
  rw [Int.mul_ediv_cancel _ (by omega)] at b2
  omega
theorem seg_mono {p q : S54} {x y : Int} (h : x ≤ y) (h3 : p.f0 < q.f0) (h4 : p.f1 ≤ q.f1) : seg p q x ≤ seg p q y := by
  unfold seg
  have a2 : (q.f1 - p.f1) * (x - p.f0) ≤ (q.f1 - p.f1) * (y - p.f0) := Int.mul_le_mul_of_nonneg_left (by omega) (by omega)
  have b2 := Int.ediv_le_ediv (c := q.f0 - p.f0) (by omega) a2
  omega
def IsAt (m : List S54) (x r : Int) : Prop :=
  (x ≤ (rd_T54 m (0 : Nat)).f0 ∧ r = (rd_T54 m (0 : Nat)).f1) ∨ ((rd_T54 m (0 : Nat)).f0 < x ∧ (rd_T54 m (m.length - 1 : Nat)).f0 ≤ x ∧ r = (rd_T54 m (m.length - 1 : Nat)).f1) ∨
    ∃ i : Nat, i + 1 < m.length ∧ (rd_T54 m (0 : Nat)).f0 < x ∧ (rd_T54 m i).f0 ≤ x ∧ x < (rd_T54 m (i + 1 : Nat)).f0 ∧ r = seg (rd_T54 m i) (rd_T54 m (i + 1 : Nat)) x
theorem isat_mono {m : List S54} (h : Shp m 0) {x y r s : Int} (hx : IsAt m x r) (hy : IsAt m y s) (hxy : x ≤ y) : r ≤ s := by
  have hl := h.1
  have top := shp_mono h (m.length - 1) 0 (by omega) (by omega)
  rcases hx with ⟨x1, rfl⟩ | ⟨x1, x2, rfl⟩ | ⟨i, i1, x1, x2, x3, rfl⟩
  · rcases hy with ⟨y1, rfl⟩ | ⟨y1, y2, rfl⟩ | ⟨j, j1, y1, y2, y3, rfl⟩
    · exact Int.le_refl _
    · exact top.2
    · have n := shp_next h j j1
      have b := seg_bd y2 (Int.le_of_lt y3) n.1 n.2
      have c := shp_mono h j 0 (by omega) (by omega)
      omega
  · rcases hy with ⟨y1, rfl⟩ | ⟨y1, y2, rfl⟩ | ⟨j, j1, y1, y2, y3, rfl⟩
    · omega
    · exact Int.le_refl _
    · have c := shp_mono h (m.length - 1) (j + 1) (by omega) (by omega)
      omega
  · have n := shp_next h i i1
    have b := seg_bd x2 (Int.le_of_lt x3) n.1 n.2
    rcases hy with ⟨y1, rfl⟩ | ⟨y1, y2, rfl⟩ | ⟨j, j1, y1, y2, y3, rfl⟩
    · omega
    · have c := shp_mono h (m.length - 1) (i + 1) (by omega) (by omega)
      omega
    · have n' := shp_next h j j1
      have b' := seg_bd y2 (Int.le_of_lt y3) n'.1 n'.2
      by_cases e : i = j
      · subst e
        exact seg_mono hxy n.1 n.2
      · by_cases e' : i < j
        · have c := shp_mono h j (i + 1) (by omega) (by omega)
          omega
        · have c := shp_mono h i (j + 1) (by omega) (by omega)
          omega
theorem isat_bd {m : List S54} (h : Shp m 0) {x r : Int} (hx : IsAt m x r) : (rd_T54 m (0 : Nat)).f1 ≤ r ∧ r ≤ (rd_T54 m (m.length - 1 : Nat)).f1 := by
  have hl := h.1
  have top := shp_mono h (m.length - 1) 0 (by omega) (by omega)
  rcases hx with ⟨x1, rfl⟩ | ⟨x1, x2, rfl⟩ | ⟨i, i1, x1, x2, x3, rfl⟩
  · omega
  · omega
  · have n := shp_next h i i1
    have b := seg_bd x2 (Int.le_of_lt x3) n.1 n.2
    have c := shp_mono h (m.length - 1) (i + 1) (by omega) (by omega)
    have c' := shp_mono h i 0 (by omega) (by omega)
    omega
theorem at_l (m : List S54) (h : Cur m) (x : Int) (hx : -1000000 ≤ x ∧ x ≤ 1000000) (h0 : (rd_T54 m (0 : Nat)).f0 < x) (hlast : x < (rd_T54 m (m.length - 1 : Nat)).f0) (d : Nat) : ∀ (k i : Nat), i + 1 < m.length → m.length - i = d → d < k → (rd_T54 m i).f0 ≤ x →
    ∃ r, spec_l02At.l0 k m x i = some r ∧ impl_Curve_at.l0 k m x ((i : Int) + 1) = some r ∧ IsAt m x r := by
  induction d with
  | zero => intro k i hi hd hk hr; omega
  | succ d ih =>
    intro k i hi hd hk hr
    obtain ⟨k, rfl⟩ : ∃ n, k = n + 1 := ⟨k - 1, by omega⟩
    obtain ⟨hlen, hs⟩ := h
    have p1 := shp_pt hs i (by omega)
    have p2 := shp_pt hs (i + 1) hi
    obtain ⟨p11, p12⟩ := p1
    obtain ⟨p21, p22⟩ := p2
    have n := shp_next hs i hi
    have g1 : 0 ≤ (i : Int) + 1 := by omega
    have g2 : (i : Int) + 1 < (m.length : Int) := by omega
    have g3 : 0 ≤ (i : Int) := by omega
    have g4 : (i : Int) < (m.length : Int) := by omega
    have ec : ((i : Int) + 1) = ((i + 1 : Nat) : Int) := by omega
    simp only [spec_l02At.l0, impl_Curve_at.l0]
    rw [w64 (x := (i : Int) + 1) (by omega) (by omega), w64 (x := (i : Int) + 1 + 1) (by omega) (by omega), w64 (x := (i : Int) + 1 - 1) (by omega) (by omega), show (i : Int) + 1 - 1 = (i : Int) by omega]
    simp only [g1, g2, g3, g4, if_true]
    rw [ec, w64 (x := (rd_T54 m (i + 1 : Nat)).f0) (by omega) (by omega)]
    by_cases c : (rd_T54 m (i + 1 : Nat)).f0 ≤ x
    · simp only [c, if_true]
      by_cases e : i + 1 + 1 < m.length
      · obtain ⟨r, r1, r2, r3⟩ := ih k (i + 1) e (by omega) (by omega) c
        exact ⟨r, r1, r2, r3⟩
      · rw [show m.length - 1 = i + 1 by omega] at hlast
        omega
    · simp only [c, if_false]
      rw [w64 (x := (rd_T54 m i).f0) (by omega) (by omega), w64 (x := (rd_T54 m (i + 1 : Nat)).f1) (by omega) (by omega), w64 (x := (rd_T54 m i).f1) (by omega) (by omega)]
      rw [i16w (x := (rd_T54 m (i + 1 : Nat)).f0 - (rd_T54 m i).f0) (by omega) (by omega), i16w (x := (rd_T54 m (i + 1 : Nat)).f1 - (rd_T54 m i).f1) (by omega) (by omega)]
      have q1 : 0 ≤ ((rd_T54 m (i + 1 : Nat)).f1 - (rd_T54 m i).f1) * (x - (rd_T54 m i).f0) := Int.mul_nonneg (by omega) (by omega)
      have q2 : ((rd_T54 m (i + 1 : Nat)).f1 - (rd_T54 m i).f1) * (x - (rd_T54 m i).f0) ≤ 400 * 400 := Int.mul_le_mul (by omega) (by omega) (by omega) (by omega)
      rw [w64 (x := (rd_T54 m (i + 1 : Nat)).f0 - (rd_T54 m i).f0) (by omega) (by omega), w64 (x := (rd_T54 m (i + 1 : Nat)).f1 - (rd_T54 m i).f1) (by omega) (by omega), w64 (x := x - (rd_T54 m i).f0) (by omega) (by omega), w64 (x := ((rd_T54 m (i + 1 : Nat)).f1 - (rd_T54 m i).f1) * (x - (rd_T54 m i).f0)) (by omega) (by omega), Int.tdiv_eq_ediv_of_nonneg q1]
      have b := seg_bd hr (show x ≤ (rd_T54 m (i + 1 : Nat)).f0 by omega) n.1 n.2
      have eb : (rd_T54 m i).f1 + ((rd_T54 m (i + 1 : Nat)).f1 - (rd_T54 m i).f1) * (x - (rd_T54 m i).f0) / ((rd_T54 m (i + 1 : Nat)).f0 - (rd_T54 m i).f0) = seg (rd_T54 m i) (rd_T54 m (i + 1 : Nat)) x := rfl
      rw [w64 (x := ((rd_T54 m (i + 1 : Nat)).f1 - (rd_T54 m i).f1) * (x - (rd_T54 m i).f0) / ((rd_T54 m (i + 1 : Nat)).f0 - (rd_T54 m i).f0)) (by omega) (by omega), eb, w64 (x := seg (rd_T54 m i) (rd_T54 m (i + 1 : Nat)) x) (by omega) (by omega)]
      have g5 : ¬ (rd_T54 m (i + 1 : Nat)).f0 - (rd_T54 m i).f0 = 0 := by omega
      simp only [g5, if_false]
      exact ⟨_, rfl, rfl, .inr (.inr ⟨i, hi, h0, hr, by omega, rfl⟩)⟩
theorem at_k (m : List S54) (h : Cur m) (x : Int) (hx : -1000000 ≤ x ∧ x ≤ 1000000) (k : Nat) (hk : 13 < k) : ∃ r, spec_l02At.f k m x = some r ∧ impl_Curve_at.f k m x = some r ∧ IsAt m x r := by
  obtain ⟨hlen, hs⟩ := h
  have hl := hs.1
  obtain ⟨p11, p12⟩ := shp_pt hs 0 (by omega)
  obtain ⟨p21, p22⟩ := shp_pt hs (m.length - 1) (by omega)
  unfold spec_l02At.f impl_Curve_at.f
  have g1 : 0 < (m.length : Int) := by omega
  have g2 : 0 ≤ ((m.length - 1 : Nat) : Int) := by omega
  have g3 : ((m.length - 1 : Nat) : Int) < (m.length : Int) := by omega
  rw [w64 (x := (m.length : Int) - 1) (by omega) (by omega), show ((m.length : Int) - 1) = ((m.length - 1 : Nat) : Int) by omega]
  have z : rd_T54 m 0 = rd_T54 m (0 : Nat) := rfl
  rw [z, w64 (x := (rd_T54 m (0 : Nat)).f0) (by omega) (by omega), w64 (x := (rd_T54 m (0 : Nat)).f1) (by omega) (by omega), w64 (x := (rd_T54 m (m.length - 1 : Nat)).f0) (by omega) (by omega), w64 (x := (rd_T54 m (m.length - 1 : Nat)).f1) (by omega) (by omega)]
  simp only [g1, g2, g3, if_true]
  by_cases c : x ≤ (rd_T54 m (0 : Nat)).f0
  · simp only [c, if_true]
    exact ⟨_, rfl, rfl, .inl ⟨c, rfl⟩⟩
  · simp only [c, if_false]
    by_cases c2 : x ≥ (rd_T54 m (m.length - 1 : Nat)).f0
    · simp only [c2, if_true]
      exact ⟨_, rfl, rfl, .inr (.inl ⟨by omega, c2, rfl⟩)⟩
    · simp only [c2, if_false]
      have hne : 0 + 1 < m.length := by
        by_cases e : m.length = 1
        · rw [e] at c2
          exact absurd (show x ≥ (rd_T54 m (0 : Nat)).f0 by omega) c2
        · omega
      exact at_l m ⟨hlen, hs⟩ x hx (by omega) (by omega) m.length k 0 hne (by omega) (by omega) (by omega)
def atV (m : List S54) (x : Int) : Int := (spec_l02At.f 20 m x).getD 0
theorem at_f (m : List S54) (h : Cur m) (x : Int) (hx : -1000000 ≤ x ∧ x ≤ 1000000) : (∀ k, 13 < k → spec_l02At.f k m x = some (atV m x) ∧ impl_Curve_at.f k m x = some (atV m x)) ∧ IsAt m x (atV m x) ∧ 0 ≤ atV m x ∧ atV m x ≤ 400 := by
  obtain ⟨r, r1, r2, r3⟩ := at_k m h x hx 20 (by omega)
  have e : atV m x = r := by unfold atV; rw [r1]; rfl
  have b := isat_bd h.2 r3
  obtain ⟨_, p12⟩ := shp_pt h.2 0 h.2.1
  obtain ⟨_, p22⟩ := shp_pt h.2 (m.length - 1) (by have := h.2.1; omega)
  rw [e]
  refine ⟨fun k hk => ?_, r3, by omega, by omega⟩
  obtain ⟨s, s1, s2, _⟩ := at_k m h x hx k hk
  exact ⟨up (spec_l02At.mono m x) 20 k r1 s1, up (impl_Curve_at.mono m x) 20 k r2 s2⟩
theorem code_c (m : List S54) (hm : SmP m) (hl : m.length ≤ 1048576) (b : Bool) (k : Nat) (hk : m.length < k) : ∃ r, (spec_l02Ok.f k m).bind (fun t => if t = true then (if b = true then some (0 : Int) else some 2) else some 1) = some r ∧ impl_curveCode.f k m b = some r ∧ (r = 0 → Cur m ∧ b = true) := by
  obtain ⟨t, e1, e2, e3⟩ := cur_f m hm hl k hk
  unfold impl_curveCode.f
  simp only [e1, e2, Option.bind_some]
  cases t with
  | true =>
    cases b with
    | true => exact ⟨_, rfl, rfl, fun _ => ⟨e3 rfl, rfl⟩⟩
    | false => exact ⟨_, rfl, rfl, fun h => by cases h⟩
  | false => exact ⟨_, rfl, rfl, fun h => by cases h⟩
def prV (a b : List S54) (x l : Int) : Int := atV b (l - (atV a x + 5) / 10)
theorem pr_f (a b : List S54) (ha : Cur a) (hb : Cur b) (x l : Int) (hx : -100000 ≤ x ∧ x ≤ 100000) (hl : -100000 ≤ l ∧ l ≤ 100000) :
    (∀ k, 13 < k → spec_l02Printed.f k a b x l = some (prV a b x l) ∧ impl_printed.f k a b x l = some (prV a b x l)) ∧ 0 ≤ prV a b x l ∧ prV a b x l ≤ 400 := by
  obtain ⟨a1, _, a2, a3⟩ := at_f a ha x (by omega)
  have d0 : 0 ≤ (atV a x + 5) / 10 ∧ (atV a x + 5) / 10 ≤ 100 := by omega
  obtain ⟨b1, _, b2, b3⟩ := at_f b hb (l - (atV a x + 5) / 10) (by omega)
  refine ⟨fun k hk => ?_, b2, b3⟩
  obtain ⟨a4, a5⟩ := a1 k hk
  obtain ⟨b4, b5⟩ := b1 k hk
  unfold spec_l02Printed.f impl_printed.f
  simp only [a4, a5, Option.bind_some]
  rw [w64 (x := atV a x + 5) (by omega) (by omega), Int.tdiv_eq_ediv_of_nonneg (by omega), w64 (x := (atV a x + 5) / 10) (by omega) (by omega), w64 (x := l - (atV a x + 5) / 10) (by omega) (by omega)]
  simp only [b4, b5, Option.bind_some]
  exact ⟨rfl, rfl⟩
theorem pr_light {a b : List S54} (ha : Cur a) (hb : Cur b) {x l l' : Int} (hx : -100000 ≤ x ∧ x ≤ 100000) (hl : -100000 ≤ l) (h : l ≤ l') (hl' : l' ≤ 100000) : prV a b x l ≤ prV a b x l' := by
  obtain ⟨_, _, a2, a3⟩ := at_f a ha x (by omega)
  obtain ⟨_, b2, _⟩ := at_f b hb (l - (atV a x + 5) / 10) (by omega)
  obtain ⟨_, c2, _⟩ := at_f b hb (l' - (atV a x + 5) / 10) (by omega)
  exact isat_mono hb.2 b2 c2 (by omega)
theorem pr_film {a b : List S54} (ha : Cur a) (hb : Cur b) {x x' l : Int} (hx : -100000 ≤ x) (h : x ≤ x') (hx' : x' ≤ 100000) (hl : -100000 ≤ l ∧ l ≤ 100000) : prV a b x' l ≤ prV a b x l := by
  obtain ⟨_, a1, a2, a3⟩ := at_f a ha x (by omega)
  obtain ⟨_, a1', a2', a3'⟩ := at_f a ha x' (by omega)
  have m := isat_mono ha.2 a1 a1' h
  obtain ⟨_, b2, _⟩ := at_f b hb (l - (atV a x + 5) / 10) (by omega)
  obtain ⟨_, c2, _⟩ := at_f b hb (l - (atV a x' + 5) / 10) (by omega)
  exact isat_mono hb.2 c2 b2 (by omega)
theorem both_f (a b : List S54) (ha : SmP a) (hal : a.length ≤ 1048576) (hb : SmP b) (hbl : b.length ≤ 1048576) (k : Nat) (hk : a.length + b.length + 1 < k) :
    ∃ v : Bool, (v = true → Cur a ∧ Cur b) ∧ (∀ x l, spec_l02Both.f k a b x l = some (if v = true then (if (-200 ≤ x ∧ x ≤ 200) ∧ (-200 ≤ l ∧ l ≤ 200) then 0 else 2) else 1)) ∧ (∀ fine, impl_printCode.f k a b fine = some (if v = true then (if fine = true then 0 else 2) else 1)) := by
  obtain ⟨r, e1, e2, e3⟩ := cur_f a ha hal k (by omega)
  obtain ⟨s, f1, f2, f3⟩ := cur_f b hb hbl k (by omega)
  refine ⟨r && s, fun h => ?_, fun x l => ?_, fun fine => ?_⟩
  · cases r <;> cases s <;> simp at h
    exact ⟨e3 rfl, f3 rfl⟩
  · obtain ⟨k, rfl⟩ : ∃ n, k = n + 1 := ⟨k - 1, by omega⟩
    unfold spec_l02Both.f
    simp only [e1, f1, Option.bind_some]
    cases r <;> cases s <;> simp [spec_l02Both.j0, spec_l02Place.f, in_f]
    by_cases c : -200 ≤ x ∧ x ≤ 200 <;> by_cases c' : -200 ≤ l ∧ l ≤ 200 <;> simp [c, c']
  · unfold impl_printCode.f impl_curveCode.f
    simp only [e2, f2, Option.bind_some]
    cases r <;> cases s <;> cases fine <;> simp
def Bytes (l : List Int) : Prop := ∀ x ∈ l, 0 ≤ x ∧ x ≤ 255
theorem bytes_rd {l : List Int} (h : Bytes l) (i : Nat) (hi : i < l.length) : 0 ≤ rd l i ∧ rd l i ≤ 255 := by
  have hm : l.getD i 0 ∈ l := by
    rw [List.getD_eq_getElem?_getD, List.getElem?_eq_getElem hi]
    exact List.getElem_mem hi
  have := h _ hm
  simpa [rd] using this
theorem and255 (x : Int) (h : 0 ≤ x) (h' : x < 18446744073709551616) : Go.bits .and .u64 x 255 = x % 256 :=
  bits_mask .u64 64 (by decide) (fun n a b => u64w a (by omega)) 8 (by decide) x h h'
theorem u64wr (x : Int) : 0 ≤ IntKind.u64.wrap x ∧ IntKind.u64.wrap x < 18446744073709551616 := by
  show 0 ≤ (if (false && decide (x % 18446744073709551616 ≥ 9223372036854775808)) = true then x % 18446744073709551616 - 18446744073709551616 else x % 18446744073709551616) ∧ (if (false && decide (x % 18446744073709551616 ≥ 9223372036854775808)) = true then x % 18446744073709551616 - 18446744073709551616 else x % 18446744073709551616) < 18446744073709551616
  rw [if_neg (by simp)]
  omega
/-- what comes next is a byte; the place goes on by one -/
theorem next_f (l : List Int) (hb : Bytes l) (hl : l.length ≤ 4096) (i : Nat) (hi : i ≤ 100000) (s : Int) : ∃ v s', spec_l00Src_next.f l i s = some (v, ((i + 1 : Nat) : Int), s') ∧ 0 ≤ v ∧ v ≤ 255 := by
  unfold spec_l00Src_next.f
  have ec : wrap64 ((i : Int) + 1) = ((i + 1 : Nat) : Int) := w64 (by omega) (by omega)
  have hq : ∀ y : Int, ∃ v, wrap64 (Go.bits .and .u64 (IntKind.u64.wrap y / 1099511627776) 255) = v ∧ 0 ≤ v ∧ v ≤ 255 := fun y => by
    have u := u64wr y
    have d0 : 0 ≤ IntKind.u64.wrap y / 1099511627776 := by omega
    have d1 : IntKind.u64.wrap y / 1099511627776 < 18446744073709551616 := by omega
    refine ⟨_, rfl, ?_⟩
    rw [and255 _ d0 d1, w64 (by omega) (by omega)]
    omega
  rw [ec]
  by_cases c : (i : Int) < (l.length : Int)
  · have v := bytes_rd hb i (by omega)
    rw [if_pos c, if_pos (by omega), if_pos (by omega), w64 (x := rd l i) (by omega) (by omega)]
    exact ⟨_, _, rfl, v⟩
  · rw [if_neg c, if_neg (by omega)]
    obtain ⟨v, e, h⟩ := hq (IntKind.u64.wrap (IntKind.u64.wrap (s * 6364136223846793005)) + 1442695040888963407)
    rw [e]
    exact ⟨_, _, rfl, h⟩
/-- a number that is picked lies below n -/
theorem pick_f (l : List Int) (hb : Bytes l) (hl : l.length ≤ 4096) (i : Nat) (hi : i ≤ 90000) (s n : Int) (hn : 1 ≤ n) (hn' : n ≤ 100000000) : ∃ v, ∃ i' : Nat, ∃ s', spec_l00Src_pick.f l i s n = some (v, (i' : Int), s') ∧ 0 ≤ v ∧ v < n ∧ i' ≤ i + 2 := by
  unfold spec_l00Src_pick.f
  by_cases c : n ≤ 1
  · rw [if_pos c]
    exact ⟨0, i, s, rfl, by omega, by omega, by omega⟩
  · rw [if_neg c]
    obtain ⟨v, s', e, v0, v1⟩ := next_f l hb hl i (by omega) s
    rw [e]
    simp only [Option.bind_some]
    by_cases c2 : n > 200
    · rw [if_pos c2]
      obtain ⟨u, s'', e', u0, u1⟩ := next_f l hb hl (i + 1) (by omega) s'
      rw [e']
      simp only [Option.bind_some]
      rw [if_neg (by omega), w64 (x := v * 256) (by omega) (by omega), w64 (x := v * 256 + u) (by omega) (by omega), Int.tmod_eq_emod_of_nonneg (by omega)]
      have m1 := Int.emod_nonneg (v * 256 + u) (show n ≠ 0 by omega)
      have m2 := Int.emod_lt_of_pos (v * 256 + u) (show 0 < n by omega)
      exact ⟨_, i + 1 + 1, _, rfl, m1, m2, by omega⟩
    · rw [if_neg c2, if_neg (by omega), Int.tmod_eq_emod_of_nonneg (by omega)]
      have m1 := Int.emod_nonneg v (show n ≠ 0 by omega)
      have m2 := Int.emod_lt_of_pos v (show 0 < n by omega)
      exact ⟨_, i + 1, _, rfl, m1, m2, by omega⟩
theorem shp_snoc {m : List S54} {p : S54} (h : m = [] ∨ Shp m 0) (hp : Pt p) (hq : m ≠ [] → (rd_T54 m (m.length - 1 : Nat)).f0 < p.f0 ∧ (rd_T54 m (m.length - 1 : Nat)).f1 ≤ p.f1) : Shp (m ++ [p]) 0 := by
  have r0 : ∀ j : Nat, j < m.length → rd_T54 (m ++ [p]) j = rd_T54 m j := fun j hj => by
    simp only [rd_T54, Int.toNat_natCast, List.getD_eq_getElem?_getD]
    rw [List.getElem?_append_left hj]
  have r1 : rd_T54 (m ++ [p]) (m.length : Nat) = p := by
    simp [rd_T54, List.getD_eq_getElem?_getD]
  refine ⟨by simp, fun j _ hj => ?_⟩
  simp only [List.length_append, List.length_singleton] at hj
  by_cases e : j = m.length
  · subst e
    rw [r1]
    refine ⟨hp, fun h0 => ?_⟩
    rw [r0 (m.length - 1) (by omega)]
    exact hq (fun h => by rw [h] at h0; simp at h0)
  · rw [r0 j (by omega)]
    rcases h with h | h
    · rw [h] at hj e
      simp only [List.length_nil] at hj e
      omega
    · obtain ⟨a, b⟩ := h.2 j (by omega) (by omega)
      refine ⟨a, fun h0 => ?_⟩
      rw [r0 (j - 1) (by omega)]
      exact b h0
theorem last_snoc (m : List S54) (p : S54) : rd_T54 (m ++ [p]) ((m ++ [p]).length - 1 : Nat) = p := by
  simp [rd_T54, List.getD_eq_getElem?_getD]
theorem drawn_l (l : List Int) (hb : Bytes l) (hl : l.length ≤ 4096) (n : Nat) : ∀ (k : Nat) (m : List S54) (x y : Int) (i : Nat) (s : Int), m.length + n ≤ 6 → i ≤ 100 * m.length + 100 → n < k → (m = [] ∨ Shp m 0) → (m = [] → 0 < n) →
    -20 ≤ x → x ≤ 9 + 9 * m.length → 0 ≤ y → y ≤ 19 + 49 * m.length → (m ≠ [] → (rd_T54 m (m.length - 1 : Nat)).f0 < x ∧ (rd_T54 m (m.length - 1 : Nat)).f1 ≤ y) →
    (∀ j : Nat, j < m.length → -20 ≤ (rd_T54 m j).f0 ∧ (rd_T54 m j).f0 ≤ 54) →
    ∃ m' : List S54, ∃ i' : Nat, ∃ s', spec_l02Drawn.l0 k m x y n l i s = some (m', (i' : Int), s') ∧ m'.length ≤ 6 ∧ Shp m' 0 ∧ (∀ j : Nat, j < m'.length → -20 ≤ (rd_T54 m' j).f0 ∧ (rd_T54 m' j).f0 ≤ 54) := by
  induction n with
  | zero =>
    intro k m x y i s hn hi hk hm h0 x0 x1 y0 y1 hq hj
    obtain ⟨k, rfl⟩ : ∃ n, k = n + 1 := ⟨k - 1, by omega⟩
    simp only [spec_l02Drawn.l0]
    rw [if_neg (by omega)]
    have hm' : Shp m 0 := by
      rcases hm with h | h
      · exact absurd (h0 h) (by omega)
      · exact h
    exact ⟨m, i, s, rfl, by omega, hm', hj⟩
  | succ n ih =>
    intro k m x y i s hn hi hk hm h0 x0 x1 y0 y1 hq hj
    obtain ⟨k, rfl⟩ : ∃ n, k = n + 1 := ⟨k - 1, by omega⟩
    simp only [spec_l02Drawn.l0]
    obtain ⟨v, i1, s1, e1, v0, v1, w1⟩ := pick_f l hb hl i (by omega) s 9 (by omega) (by omega)
    obtain ⟨u, i2, s2, e2, u0, u1, w2⟩ := pick_f l hb hl i1 (by omega) s1 50 (by omega) (by omega)
    rw [if_pos (by omega), if_pos (by omega), e1]
    simp only [Option.bind_some]
    rw [e2]
    simp only [Option.bind_some]
    have b1 : x ≤ 60 := by omega
    have b2 : y ≤ 300 := by omega
    rw [i16w (x := x) (by omega) (by omega), i16w (x := y) (by omega) (by omega), w64 (x := 1 + v) (by omega) (by omega), w64 (x := x + (1 + v)) (by omega) (by omega), w64 (x := y + u) (by omega) (by omega), w64 (x := ((n + 1 : Nat) : Int) - 1) (by omega) (by omega), show ((n + 1 : Nat) : Int) - 1 = (n : Int) by omega]
    have hlen : (m ++ [(⟨x, y⟩ : S54)]).length = m.length + 1 := by simp
    refine ih k (m ++ [⟨x, y⟩]) (x + (1 + v)) (y + u) i2 s2 (by omega) (by omega) (by omega) (.inr (shp_snoc hm ⟨⟨by show -200 ≤ x; omega, by show x ≤ 200; omega⟩, ⟨y0, by show y ≤ 400; omega⟩⟩ hq)) (fun h => by simp at h) (by omega) (by omega) (by omega) (by omega) (fun _ => ?_) (fun j hj' => ?_)
    · rw [last_snoc]
      exact ⟨by show x < _; omega, by show y ≤ _; omega⟩
    · rw [hlen] at hj'
      by_cases e : j = m.length
      · subst e
        have r1 : rd_T54 (m ++ [(⟨x, y⟩ : S54)]) (m.length : Nat) = ⟨x, y⟩ := by simp [rd_T54, List.getD_eq_getElem?_getD]
        rw [r1]
        exact ⟨x0, by show x ≤ 54; omega⟩
      · have r0 : rd_T54 (m ++ [(⟨x, y⟩ : S54)]) j = rd_T54 m j := by
          simp only [rd_T54, Int.toNat_natCast, List.getD_eq_getElem?_getD]
          rw [List.getElem?_append_left (by omega)]
        rw [r0]
        exact hj j (by omega)
theorem a2curve (l : List Int) (hb : Bytes l) (hl : l.length ≤ 4096) (k : Nat) (hk : 10 < k) : ∃ m, spec_A2Curve.f k l = some m ∧ Cur m ∧ (∀ j : Nat, j < m.length → -20 ≤ (rd_T54 m j).f0 ∧ (rd_T54 m j).f0 ≤ 54) := by
  unfold spec_A2Curve.f spec_l00From.f spec_l02Drawn.f
  simp only [Option.bind_some]
  obtain ⟨v, i1, s1, e1, v0, v1, w1⟩ := pick_f l hb hl 0 (by omega) 0 30 (by omega) (by omega)
  obtain ⟨u, i2, s2, e2, u0, u1, w2⟩ := pick_f l hb hl i1 (by omega) s1 20 (by omega) (by omega)
  obtain ⟨t, i3, s3, e3, t0, t1, w3⟩ := pick_f l hb hl i2 (by omega) s2 6 (by omega) (by omega)
  have e1' : spec_l00Src_pick.f l 0 0 30 = some (v, (i1 : Int), s1) := e1
  simp only [e1', e2, e3, Option.bind_some]
  rw [w64 (x := v - 20) (by omega) (by omega), w64 (x := 1 + t) (by omega) (by omega)]
  obtain ⟨n, hn⟩ : ∃ n : Nat, 1 + t = n := ⟨(1 + t).toNat, by omega⟩
  obtain ⟨m, i', s', e, hlen, hs, hj⟩ := drawn_l l hb hl n k [] (v - 20) u i3 s3 (by show 0 + n ≤ 6; omega) (by show i3 ≤ 100 * 0 + 100; omega) (by omega) (.inl rfl) (fun _ => by omega) (by omega) (by show v - 20 ≤ 9 + 9 * ((0 : Nat) : Int); omega) (by omega) (by show u ≤ 19 + 49 * ((0 : Nat) : Int); omega) (fun h => absurd rfl h) (fun j hj => absurd hj (by show ¬ j < 0; omega))
  rw [hn, e]
  exact ⟨m, rfl, ⟨by omega, hs⟩, hj⟩
theorem smp_cur {m : List S54} (h : Cur m) : SmP m := by
  intro x hx
  obtain ⟨i, hi, e⟩ := List.getElem_of_mem hx
  have := shp_pt h.2 i hi
  have r : rd_T54 m i = x := by simp [rd_T54, List.getD_eq_getElem?_getD, hi, e]
  rw [r] at this
  obtain ⟨⟨a, b⟩, c, d⟩ := this
  omega
theorem shape_t (m : List S54) (h : Cur m) (d : Nat) : ∀ (k i : Nat), i ≤ m.length → m.length - i = d → d < k → spec_l02Shape.l0 k m i = some true ∧ impl_isCurve.l0 k m m (m.length : Int) i = some true := by
  have hlen := h.1
  have hm := smp_cur h
  induction d with
  | zero =>
    intro k i h0 hd hk
    obtain ⟨k, rfl⟩ : ∃ n, k = n + 1 := ⟨k - 1, by omega⟩
    simp only [spec_l02Shape.l0, impl_isCurve.l0]
    have g1 : ¬ (i : Int) < (m.length : Int) := by omega
    have g2 : (m.length : Int) > 0 := by have := h.2.1; omega
    simp only [g1, g2, if_false, decide_true, and_self]
  | succ d ih =>
    intro k i h0 hd hk
    obtain ⟨k, rfl⟩ : ∃ n, k = n + 1 := ⟨k - 1, by omega⟩
    obtain ⟨s1, s2⟩ := smp_rd hm i (by omega)
    obtain ⟨p, hp⟩ := h.2.2 i (by omega) (by omega)
    have g1 : (i : Int) < (m.length : Int) := by omega
    have g2 : 0 ≤ (i : Int) := by omega
    obtain ⟨e1, e2⟩ := ih k (i + 1) (by omega) (by omega) (by omega)
    have e1' : spec_l02Shape.l0 k m ((i : Int) + 1) = some true := e1
    have e2' : impl_isCurve.l0 k m m (m.length : Int) ((i : Int) + 1) = some true := e2
    simp only [spec_l02Shape.l0, impl_isCurve.l0, spt_f s1 s2, ipt_f s1 s2, g1, g2, if_true, Option.bind_some]
    rw [w64 (x := (i : Int) + 1) (by omega) (by omega), w64 (x := (i : Int) - 1) (by omega) (by omega), e1', e2']
    have pp : (-200 ≤ (rd_T54 m i).f0 ∧ (rd_T54 m i).f0 ≤ 200) ∧ (0 ≤ (rd_T54 m i).f1 ∧ (rd_T54 m i).f1 ≤ 400) := p
    simp only [pp, and_self, decide_true, if_true]
    by_cases z : i = 0
    · subst z
      have g3 : ¬ ((0 : Nat) : Int) > 0 := by omega
      simp only [g3, if_false, and_self]
    · have ei : ((i : Int) - 1) = ((i - 1 : Nat) : Int) := by omega
      have g3 : (i : Int) > 0 := by omega
      have g4 : 0 ≤ ((i - 1 : Nat) : Int) := by omega
      have g5 : ((i - 1 : Nat) : Int) < (m.length : Int) := by omega
      obtain ⟨q1, q2⟩ := hp (by omega)
      have c3 : ¬ (rd_T54 m i).f0 ≤ (rd_T54 m (i - 1 : Nat)).f0 := by omega
      have c3' : ¬ (rd_T54 m (i - 1 : Nat)).f0 ≥ (rd_T54 m i).f0 := by omega
      have c4 : ¬ (rd_T54 m i).f1 < (rd_T54 m (i - 1 : Nat)).f1 := by omega
      have c4' : ¬ (rd_T54 m (i - 1 : Nat)).f1 > (rd_T54 m i).f1 := by omega
      rw [ei]
      simp only [g3, g4, g5, c3, c3', c4, c4', if_true, if_false, and_self]
theorem cur_t (m : List S54) (h : Cur m) (k : Nat) (hk : 12 < k) : spec_l02Ok.f k m = some true ∧ impl_ValidCurve.f k m = some true := by
  have hlen := h.1
  obtain ⟨e1, e2⟩ := shape_t m h m.length k 0 (by omega) (by omega) (by omega)
  have e1' : spec_l02Shape.f k m = some true := e1
  have e2' : impl_isCurve.f k m = some true := e2
  have g : (m.length : Int) ≤ 12 := by omega
  unfold spec_l02Ok.f impl_ValidCurve.f
  simp only [e1', e2', Option.bind_some, if_true, g, decide_true, and_self]
theorem a2at_f (l : List Int) (hb : Bytes l) (i : Nat) (n : Int) (hn : 1 ≤ n ∧ n ≤ 100000) : ∃ v, laws_a2At.f l i n = some v ∧ 0 ≤ v ∧ v < n := by
  unfold laws_a2At.f
  by_cases c : (i : Int) ≥ (l.length : Int)
  · rw [if_pos c]
    exact ⟨0, rfl, by omega, by omega⟩
  · have v := bytes_rd hb i (by omega)
    rw [if_neg c, if_neg (by omega), if_pos (by omega), if_pos (by omega), if_neg (by omega), w64 (x := rd l i) (by omega) (by omega), Int.tmod_eq_emod_of_nonneg (by omega)]
    exact ⟨_, rfl, Int.emod_nonneg _ (by omega), Int.emod_lt_of_pos _ (by omega)⟩
theorem pat_t (a b : List S54) (ha : Cur a) (hb : Cur b) (x l : Int) (hx : -200 ≤ x ∧ x ≤ 200) (hl : -200 ≤ l ∧ l ≤ 200) (k : Nat) (hk : 40 < k) : spec_PrintedAt.f k a b x l = some (prV a b x l, 0) ∧ impl_PrintedAt.f k a b x l = some (prV a b x l, 0) := by
  obtain ⟨p1, _⟩ := pr_f a b ha hb x l (by omega) (by omega)
  obtain ⟨p2, p3⟩ := p1 k (by omega)
  obtain ⟨a1, a2⟩ := cur_t a ha k (by omega)
  obtain ⟨b1, b2⟩ := cur_t b hb k (by omega)
  obtain ⟨k, rfl⟩ : ∃ n, k = n + 1 := ⟨k - 1, by omega⟩
  unfold spec_PrintedAt.f impl_PrintedAt.f impl_isPlace.f impl_printCode.f impl_curveCode.f spec_l02Both.f
  simp [a1, a2, b1, b2, spec_l02Both.j0, spec_l02Place.f, within_f, in_f, hx, hl, p2, p3]
theorem li_l (a b : List S54) (ha : Cur a) (hb : Cur b) (x y : Int) (hx : -200 ≤ x ∧ x ≤ 200) (d : Nat) : ∀ (k : Nat) (l : Int), -200 ≤ l → l ≤ 201 → 201 - l = d → d + 20 < k → (∀ j, -200 ≤ j → j < l → prV a b x j < y) →
    ∃ z : Int × Int, spec_LightFor.l0 k a b x y l = some z ∧ impl_LightFor.l0 k a b x y l = some z ∧ (z.2 = 0 ∧ -200 ≤ z.1 ∧ z.1 ≤ 200 ∧ y ≤ prV a b x z.1 ∧ (∀ j, -200 ≤ j → j < z.1 → prV a b x j < y) ∨ z.2 = 6 ∧ (∀ j, -200 ≤ j → j ≤ 200 → prV a b x j < y)) := by
  induction d with
  | zero =>
    intro k l h0 h1 hd hk hj
    obtain ⟨k, rfl⟩ : ∃ n, k = n + 1 := ⟨k - 1, by omega⟩
    simp only [spec_LightFor.l0, impl_LightFor.l0, impl_isPlace.f, within_f, Option.bind_some]
    have g1 : ¬ l ≤ 200 := by omega
    simp only [g1, and_false, decide_false, Bool.false_eq_true, if_false]
    exact ⟨_, rfl, rfl, .inr ⟨rfl, fun j j0 j1 => hj j j0 (by omega)⟩⟩
  | succ d ih =>
    intro k l h0 h1 hd hk hj
    obtain ⟨k, rfl⟩ : ∃ n, k = n + 1 := ⟨k - 1, by omega⟩
    obtain ⟨p1, _⟩ := pr_f a b ha hb x l (by omega) (by omega)
    obtain ⟨p2, p3⟩ := p1 k (by omega)
    simp only [spec_LightFor.l0, impl_LightFor.l0, impl_isPlace.f, within_f, Option.bind_some, p2, p3]
    have g1 : l ≤ 200 := by omega
    simp only [g1, h0, and_self, decide_true, if_true]
    rw [w64 (x := l + 1) (by omega) (by omega)]
    by_cases c : prV a b x l ≥ y
    · simp only [c, if_true]
      exact ⟨_, rfl, rfl, .inl ⟨rfl, h0, g1, c, hj⟩⟩
    · simp only [c, if_false]
      refine ih k (l + 1) (by omega) (by omega) (by omega) (by omega) (fun j j0 j1 => ?_)
      by_cases e : j = l
      · rw [e]; omega
      · exact hj j j0 (by omega)
theorem lf_t (a b : List S54) (ha : Cur a) (hb : Cur b) (x y : Int) (hx : -200 ≤ x ∧ x ≤ 200) (hy : 0 ≤ y ∧ y ≤ 400) (k : Nat) (hk : 600 < k) :
    ∃ z : Int × Int, spec_LightFor.f k a b x y = some z ∧ impl_LightFor.f k a b x y = some z ∧ (z.2 = 0 ∧ -200 ≤ z.1 ∧ z.1 ≤ 200 ∧ y ≤ prV a b x z.1 ∧ (∀ j, -200 ≤ j → j < z.1 → prV a b x j < y) ∨ z.2 = 6 ∧ (∀ j, -200 ≤ j → j ≤ 200 → prV a b x j < y)) := by
  obtain ⟨a1, a2⟩ := cur_t a ha k (by omega)
  obtain ⟨b1, b2⟩ := cur_t b hb k (by omega)
  obtain ⟨k, rfl⟩ : ∃ n, k = n + 1 + 1 := ⟨k - 2, by omega⟩
  obtain ⟨z, z1, z2, z3⟩ := li_l a b ha hb x y (by omega) 401 k (-200) (by omega) (by omega) (by omega) (by omega) (fun j j0 j1 => by omega)
  obtain ⟨z', _, z2', _⟩ := li_l a b ha hb x y (by omega) 401 (k + 1) (-200) (by omega) (by omega) (by omega) (by omega) (fun j j0 j1 => by omega)
  have e := up (g := fun k => impl_LightFor.l0 k a b x y (-200)) (fun k => (impl_LightFor.mono_l k).2 _ _ _ _ _) k (k + 1) z2 z2'
  have e' : impl_LightFor.l0 (k + 1) a b x y (-200) = some z := e
  refine ⟨z, ?_, ?_, z3⟩
  · unfold spec_LightFor.f spec_l02Both.f spec_l02Density.f
    simp [a1, b1, spec_l02Both.j0, spec_l02Place.f, in_f, hx, hy, spec_LightFor.j0, spec_LightFor.j1, z1]
  · unfold impl_LightFor.f impl_isPlace.f impl_isDensity.f impl_printCode.f impl_curveCode.f
    simp [a2, b2, within_f, hx, hy, impl_LightFor.j0, e']
theorem rng_l (a b : List S54) (ha : Cur a) (hb : Cur b) (x y l : Int) (hx : -200 ≤ x ∧ x ≤ 200) (hy : -200 ≤ y ∧ y ≤ 200) (hl : -200 ≤ l ∧ l ≤ 200) (hxy : x ≤ y) (d : Nat) : ∀ (k : Nat) (j : Int), x + 1 ≤ j → j ≤ y + 1 → y + 1 - j = d → d + 20 < k →
    spec_PrintedRange.l0 k a b y l (prV a b (j - 1) l) (prV a b x l) j = some (prV a b y l, prV a b x l, 0) := by
  induction d with
  | zero =>
    intro k j h0 h1 hd hk
    obtain ⟨k, rfl⟩ : ∃ n, k = n + 1 := ⟨k - 1, by omega⟩
    simp only [spec_PrintedRange.l0]
    rw [if_neg (by omega), show j - 1 = y by omega]
  | succ d ih =>
    intro k j h0 h1 hd hk
    obtain ⟨k, rfl⟩ : ∃ n, k = n + 1 := ⟨k - 1, by omega⟩
    obtain ⟨p1, _⟩ := pr_f a b ha hb j l (by omega) (by omega)
    have m1 := pr_film ha hb (x := j - 1) (x' := j) (l := l) (by omega) (by omega) (by omega) (by omega)
    have m2 := pr_film ha hb (x := x) (x' := j) (l := l) (by omega) (by omega) (by omega) (by omega)
    simp only [spec_PrintedRange.l0]
    rw [if_pos (by omega), (p1 k (by omega)).1]
    simp only [Option.bind_some, spec_l00Min.f, spec_l00Max.f]
    have e1 : (if prV a b (j - 1) l < prV a b j l then some (prV a b (j - 1) l) else some (prV a b j l)) = some (prV a b j l) := by
      split
      · omega
      · rfl
    have e2 : (if prV a b x l > prV a b j l then some (prV a b x l) else some (prV a b j l)) = some (prV a b x l) := by
      split
      · rfl
      · congr 1; omega
    rw [e1, Option.bind_some, e2, Option.bind_some, w64 (by omega) (by omega)]
    have := ih k (j + 1) (by omega) (by omega) (by omega) (by omega)
    rw [show j + 1 - 1 = j by omega] at this
    exact this
theorem rng_t (a b : List S54) (ha : Cur a) (hb : Cur b) (x y l : Int) (hx : -200 ≤ x ∧ x ≤ 200) (hy : -200 ≤ y ∧ y ≤ 200) (hl : -200 ≤ l ∧ l ≤ 200) (hxy : x ≤ y) (k : Nat) (hk : 600 < k) :
    spec_PrintedRange.f k a b x y l = some (prV a b y l, prV a b x l, 0) ∧ impl_PrintedRange.f k a b x y l = some (prV a b y l, prV a b x l, 0) := by
  obtain ⟨a1, a2⟩ := cur_t a ha k (by omega)
  obtain ⟨b1, b2⟩ := cur_t b hb k (by omega)
  obtain ⟨k, rfl⟩ : ∃ n, k = n + 1 + 1 + 1 + 1 := ⟨k - 4, by omega⟩
  have e1 := rng_l a b ha hb x y l hx hy hl (by omega) (y - x).toNat k (x + 1) (by omega) (by omega) (by omega) (by omega)
  rw [show x + 1 - 1 = x by omega] at e1
  obtain ⟨p1, _⟩ := pr_f a b ha hb x l (by omega) (by omega)
  obtain ⟨q1, _⟩ := pr_f a b ha hb y l (by omega) (by omega)
  have c4 : ¬ x > y := by omega
  constructor
  · unfold spec_PrintedRange.f spec_l02Both.f
    simp [a1, b1, spec_l02Both.j0, spec_l02Place.f, in_f, hx, hy, hl, c4, spec_PrintedRange.j0, spec_PrintedRange.j1, spec_PrintedRange.j2, spec_PrintedRange.j3, (p1 k (by omega)).1, w64 (x := x + 1) (by omega) (by omega), e1]
  · unfold impl_PrintedRange.f impl_isPlace.f impl_printCode.f impl_curveCode.f
    simp [a2, b2, within_f, hx, hy, hl, c4, impl_PrintedRange.j0, (p1 (k + 1 + 1 + 1) (by omega)).2, (q1 (k + 1 + 1 + 1) (by omega)).2]
theorem FnPrinted : laws_FnPrinted.Pure := by
  intro l m l0 l1 lw m0 m1 mw
  refine ⟨2000, ?_⟩
  have hl : Bytes l := fun x hx => by
    have h2 : (decide ((0 : Int) ≤ x) && decide (x ≤ 255)) = true := lw x hx
    simpa using h2
  have hm : Bytes m := fun x hx => by
    have h2 : (decide ((0 : Int) ≤ x) && decide (x ≤ 255)) = true := mw x hx
    simpa using h2
  unfold laws_FnPrinted.f laws_a2Long.f
  by_cases c1 : (l.length : Int) > 3000
  · rw [if_pos c1]
    rfl
  · by_cases c2 : (m.length : Int) > 3000
    · rw [if_neg c1]
      simp [c2]
    · rw [if_neg c1]
      simp only [c2, decide_false, Option.bind_some, Bool.false_eq_true, if_false]
      obtain ⟨a, ea, ha, _⟩ := a2curve l hl (by omega) 2000 (by omega)
      obtain ⟨b, eb, hb, _⟩ := a2curve m hm (by omega) 2000 (by omega)
      obtain ⟨t, et, t0, t1⟩ := a2at_f m hm 0 60 (by omega)
      obtain ⟨y, ey, y0, y1⟩ := a2at_f m hm 1 200 (by omega)
      have et' : laws_a2At.f m 0 60 = some t := et
      have ey' : laws_a2At.f m 1 200 = some y := ey
      simp only [ea, eb, et', ey', Option.bind_some]
      rw [w64 (x := t - 20) (by omega) (by omega)]
      obtain ⟨z, z1, z2, z3⟩ := lf_t a b ha hb (t - 20) y (by omega) (by omega) 2000 (by omega)
      obtain ⟨z', z1', z2', z3'⟩ := lf_t a b ha hb (t - 20) y (by omega) (by omega) 2000 (by omega)
      simp only [z1, z2, Option.bind_some, if_true, bne_self_eq_false, laws_FnPrinted.j0, Bool.false_eq_true, if_false]
      have loop : ∀ (d k : Nat) (q at_ : Int), -40 ≤ at_ → at_ ≤ 91 → 91 - at_ = d → d + 1000 < k → (∀ j, at_ ≤ j → j ≤ 200 → q ≤ prV a b (t - 20) j) → laws_FnPrinted.l0 k l a b (t - 20) y z.2 z.1 q at_ = some true := by
        intro d
        induction d with
        | zero =>
          intro k q at_ h0 h1 hd hk hq
          obtain ⟨k, rfl⟩ : ∃ n, k = n + 1 := ⟨k - 1, by omega⟩
          obtain ⟨u0, eu0, a0, a1⟩ := a2at_f l hl 0 40 (by omega)
          obtain ⟨u1, eu1, b0, b1⟩ := a2at_f l hl 1 30 (by omega)
          obtain ⟨u2, eu2, d0, d1⟩ := a2at_f l hl 2 20 (by omega)
          have eu0' : laws_a2At.f l 0 40 = some u0 := eu0
          have eu1' : laws_a2At.f l 1 30 = some u1 := eu1
          have eu2' : laws_a2At.f l 2 20 = some u2 := eu2
          simp only [laws_FnPrinted.l0]
          rw [if_neg (by omega), eu0', eu1', eu2']
          simp only [Option.bind_some]
          rw [w64 (x := u1 - 10) (by omega) (by omega), w64 (x := u1 - 10 + u2) (by omega) (by omega)]
          obtain ⟨r1, r2⟩ := rng_t a b ha hb (u1 - 10) (u1 - 10 + u2) u0 (by omega) (by omega) (by omega) (by omega) k (by omega)
          obtain ⟨_, p1⟩ := pat_t a b ha hb (u1 - 10) u0 (by omega) (by omega) k (by omega)
          obtain ⟨_, p2⟩ := pat_t a b ha hb (u1 - 10 + u2) u0 (by omega) (by omega) k (by omega)
          simp only [r1, r2, p1, p2, Option.bind_some, if_true]
          simp
        | succ d ih =>
          intro k q at_ h0 h1 hd hk hq
          obtain ⟨k, rfl⟩ : ∃ n, k = n + 1 := ⟨k - 1, by omega⟩
          obtain ⟨p1, p2⟩ := pat_t a b ha hb (t - 20) at_ (by omega) (by omega) k (by omega)
          simp only [laws_FnPrinted.l0]
          rw [if_pos (by omega), p1, p2]
          simp only [Option.bind_some, if_true]
          have e1 := hq at_ (Int.le_refl _) (by omega)
          rw [if_neg (by omega), w64 (x := at_ + 1) (by omega) (by omega)]
          have nx := ih k (prV a b (t - 20) at_) (at_ + 1) (by omega) (by omega) (by omega) (by omega) (fun j j0 j1 => pr_light ha hb (by omega) (by omega) (by omega) (by omega))
          rcases z3 with ⟨q0, q1, q2, q3, q4⟩ | ⟨q0, q1⟩
          · rw [if_pos q0]
            by_cases g : at_ ≥ z.1
            · have := pr_light ha hb (x := t - 20) (l := z.1) (l' := at_) (by omega) (by omega) g (by omega)
              have g2 : prV a b (t - 20) at_ ≥ y := by omega
              simp only [g, g2, decide_true, bne_self_eq_false, Bool.false_eq_true, if_false]
              exact nx
            · have := q4 at_ (by omega) (by omega)
              have g2 : ¬ prV a b (t - 20) at_ ≥ y := by omega
              simp only [g, g2, decide_false, bne_self_eq_false, Bool.false_eq_true, if_false]
              exact nx
          · have := q1 at_ (by omega) (by omega)
            rw [if_neg (by omega), if_neg (by omega)]
            exact nx
      exact loop 131 1999 (-1) (-40) (by omega) (by omega) (by omega) (by omega) (fun j j0 j1 => by
        obtain ⟨_, g, _⟩ := pr_f a b ha hb (t - 20) j (by omega) (by omega)
        omega)

end Go.Proofs.Ythhgljbmghookaa.Pure
