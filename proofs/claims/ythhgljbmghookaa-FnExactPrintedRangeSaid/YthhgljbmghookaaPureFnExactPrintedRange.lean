/- Proves, in plain numbers and lists, that the law FnExactPrintedRange answers true at all inputs. No condition is added. -/
import Derived.Test.YthhgljbmghookaaPFnExactPrintedRangex0
import Derived.Test.YthhgljbmghookaaPFnExactPrintedRangex1
import Derived.Test.YthhgljbmghookaaPFnExactPrintedRangex2
import Derived.Test.YthhgljbmghookaaPFnExactPrintedRangex3
import Derived.Test.YthhgljbmghookaaPFnExactPrintedRangex4
import Derived.Test.YthhgljbmghookaaPFnExactPrintedRangex5
import Derived.Test.YthhgljbmghookaaPFnExactPrintedRangex6
import Derived.Test.YthhgljbmghookaaPFnExactPrintedRangex7
import Derived.Test.YthhgljbmghookaaPFnExactPrintedRangex8
namespace Go.Proofs.Ythhgljbmghookaa.Pure
open Go.RowKit Go.Proofs.Ythhgljbmghookaa.PFnExactPrintedRange Go.Proofs.YthhgljbmghookaaW.PrintWords Go.Proofs.YthhgljbmghookaaW.PrintLast Go.Proofs.YthhgljbmghookaaW.PrintMore
set_option linter.unusedVariables false
set_option linter.unusedSimpArgs false
theorem w64 {x : Int} (h : -9223372036854775808 ≤ x) (h' : x ≤ 9223372036854775807) : wrap64 x = x := by unfold wrap64; omega
theorem wf8 {x : Int} (h : (Lit.int .i8 x).wf = true) : -128 ≤ x ∧ x ≤ 127 := by
  have h2 : (decide ((-128 : Int) ≤ x) && decide (x ≤ 127)) = true := h
  simpa using h2
theorem wf16 {x : Int} (h : (Lit.int .i16 x).wf = true) : -32768 ≤ x ∧ x ≤ 32767 := by
  have h2 : (decide ((-32768 : Int) ≤ x) && decide (x ≤ 32767)) = true := h
  simpa using h2
theorem wf64 {x : Int} (h : (Lit.int .i64 x).wf = true) : -9223372036854775808 ≤ x ∧ x ≤ 9223372036854775807 := by
  have h2 : (decide ((-9223372036854775808 : Int) ≤ x) && decide (x ≤ 9223372036854775807)) = true := h
  simpa using h2
theorem wfu64 {x : Int} (h : (Lit.int .u64 x).wf = true) : 0 ≤ x ∧ x ≤ 18446744073709551615 := by
  have h2 : (decide ((0 : Int) ≤ x) && decide (x ≤ 18446744073709551615)) = true := h
  simpa using h2
theorem i8w {x : Int} (h : -128 ≤ x) (h' : x ≤ 127) : IntKind.i8.wrap x = x := by
  show (if (true && decide (x % 256 ≥ 128)) = true then x % 256 - 256 else x % 256) = x
  by_cases e : x % 256 ≥ 128
  · rw [if_pos (by simpa using e)]; omega
  · rw [if_neg (by simpa using e)]; omega
theorem i16w {x : Int} (h : -32768 ≤ x) (h' : x ≤ 32767) : IntKind.i16.wrap x = x := by
  show (if (true && decide (x % 65536 ≥ 32768)) = true then x % 65536 - 65536 else x % 65536) = x
  by_cases e : x % 65536 ≥ 32768
  · rw [if_pos (by simpa using e)]; omega
  · rw [if_neg (by simpa using e)]; omega
theorem u64w {x : Int} (h : 0 ≤ x) (h' : x ≤ 18446744073709551615) : IntKind.u64.wrap x = x := by
  show (if (false && decide (x % 18446744073709551616 ≥ 9223372036854775808)) = true then x % 18446744073709551616 - 18446744073709551616 else x % 18446744073709551616) = x
  rw [if_neg (by simp)]; omega
theorem szCurve_f (l : List S62) (hl : l.length ≤ 9223372036854775807) : laws_szCurve.f l 1048576 = some (if l.length ≤ 1048576 then 1048576 - (l.length : Int) else -1) := by
  unfold laws_szCurve.f
  rw [w64 (by omega) (by omega)]
  by_cases c : l.length ≤ 1048576
  · rw [if_neg (by omega), if_pos c]
  · rw [if_pos (by omega), if_neg c]
theorem szCurve_g (l : List S62) (a : Int) (ha : 0 ≤ a ∧ a ≤ 1048576) (hl : l.length ≤ 9223372036854775807) : laws_szCurve.f l a = some (if (l.length : Int) ≤ a then a - (l.length : Int) else -1) := by
  unfold laws_szCurve.f
  rw [w64 (by omega) (by omega)]
  by_cases c : (l.length : Int) ≤ a
  · rw [if_neg (by omega), if_pos c]
  · rw [if_pos (by omega), if_neg c]
theorem set_nextg {α β : Type} (f : α → β) (z : β) (d : α) (l : List α) (i : Nat) (h : i < l.length) : ((l.take i).map f ++ List.replicate (l.length - i) z).set i (f (l.getD i d)) = (l.take (i + 1)).map f ++ List.replicate (l.length - (i + 1)) z := by
  apply List.ext_getElem
  · simp; omega
  · intro j h1 h2
    simp only [List.getElem_set, List.getElem_append, List.length_map, List.length_take, List.getElem_map, List.getElem_take, List.getElem_replicate]
    by_cases e : i = j
    · subst e
      rw [if_pos rfl, dif_pos (by omega)]
      simp [h]
    · rw [if_neg e]
      by_cases c : j < i
      · rw [dif_pos (by omega), dif_pos (by omega)]
      · rw [dif_neg (by omega), dif_neg (by omega)]
theorem getD_mem {α : Type} (l : List α) (i : Nat) (d : α) (h : i < l.length) : l.getD i d ∈ l := by
  rw [List.getD_eq_getElem?_getD, List.getElem?_eq_getElem h]
  exact List.getElem_mem h
theorem getD_set_ne {α : Type} (l : List α) (i j : Nat) (x d : α) (h : i ≠ j) : (l.set i x).getD j d = l.getD j d := by
  simp [List.getD_eq_getElem?_getD, List.getElem?_set_ne h]
theorem getD_set_eq {α : Type} (l : List α) (i : Nat) (x d : α) (h : i < l.length) : (l.set i x).getD i d = x := by
  simp [List.getD_eq_getElem?_getD, List.getElem?_set_self h]
def cvCurve (x : S62) : S54 := ⟨x.f0, x.f1⟩
theorem toCurve_l (l : List S62) (hl : l.length ≤ 1048576) (d : Nat) : ∀ (k : Nat) (i : Nat), i ≤ l.length → l.length - i = d → d < k → laws_toCurve.l0 k l ((l.take i).map cvCurve ++ List.replicate (l.length - i) z54) i = some (l.map cvCurve) := by
  induction d with
  | zero =>
    intro k i h0 hd hk
    obtain ⟨k, rfl⟩ : ∃ n, k = n + 1 := ⟨k - 1, by omega⟩
    have e : i = l.length := by omega
    subst e
    simp only [laws_toCurve.l0]
    rw [if_neg (by omega)]
    simp
  | succ d ih =>
    intro k i h0 hd hk
    obtain ⟨k, rfl⟩ : ∃ n, k = n + 1 := ⟨k - 1, by omega⟩
    simp only [laws_toCurve.l0, laws_toPoint.f, Option.bind_some]
    rw [if_pos (by omega), if_pos (by omega), if_pos (by simp; omega), w64 (by omega) (by omega)]
    have e := ih k (i + 1) (by omega) (by omega) (by omega)
    rw [← set_nextg cvCurve z54 z62 l i (by omega)] at e
    simpa [rd_T62, cvCurve] using e
theorem toCurve_f (l : List S62) (hl : l.length ≤ 1048576) (k : Nat) (hk : l.length < k) : laws_toCurve.f k l = some (l.map cvCurve) := by
  have e := toCurve_l l hl l.length k 0 (by omega) (by omega) hk
  unfold laws_toCurve.f
  rw [if_pos (by omega), if_pos (by omega)]
  simpa using e
theorem eqCurve_l (l : List S54) (hl : l.length ≤ 1048576) (d : Nat) : ∀ (k : Nat) (i : Nat), i ≤ l.length → l.length - i = d → d < k → laws_eqCurve.l0 k l l i = some true := by
  induction d with
  | zero =>
    intro k i h0 hd hk
    obtain ⟨k, rfl⟩ : ∃ n, k = n + 1 := ⟨k - 1, by omega⟩
    simp only [laws_eqCurve.l0]
    rw [if_neg (by omega)]
  | succ d ih =>
    intro k i h0 hd hk
    obtain ⟨k, rfl⟩ : ∃ n, k = n + 1 := ⟨k - 1, by omega⟩
    simp only [laws_eqCurve.l0, laws_eqPoint.f, if_true, Option.bind_some]
    rw [if_pos (by omega), if_pos (by omega), if_pos (by omega), w64 (by omega) (by omega)]
    exact ih k (i + 1) (by omega) (by omega) (by omega)
theorem eqCurve_f (l : List S54) (hl : l.length ≤ 1048576) (k : Nat) (hk : l.length < k) : laws_eqCurve.f k l l = some true := by
  unfold laws_eqCurve.f
  rw [if_pos rfl]
  exact eqCurve_l l hl l.length k 0 (by omega) (by omega) hk
theorem in_f (a b c : Int) : spec_l00In.f a b c = some (decide (b ≤ a ∧ a ≤ c)) := by
  unfold spec_l00In.f
  by_cases h : b ≤ a <;> simp [h]
theorem within_f (a b c : Int) : impl_within.f a b c = some (decide (b ≤ a ∧ a ≤ c)) := by
  unfold impl_within.f
  by_cases h : b ≤ a <;> simp [h]
def SmP (m : List S54) : Prop := ∀ x ∈ m, (-32768 ≤ x.f0 ∧ x.f0 ≤ 32767) ∧ (-32768 ≤ x.f1 ∧ x.f1 ≤ 32767)
theorem smp_rd {m : List S54} (h : SmP m) (i : Nat) (hi : i < m.length) : (-32768 ≤ (rd_T54 m i).f0 ∧ (rd_T54 m i).f0 ≤ 32767) ∧ (-32768 ≤ (rd_T54 m i).f1 ∧ (rd_T54 m i).f1 ≤ 32767) := by
  have := h _ (getD_mem m i z54 hi)
  simpa [rd_T54] using this
/-- a point as it may be -/
def Pt (p : S54) : Prop := (-200 ≤ p.f0 ∧ p.f0 ≤ 200) ∧ (0 ≤ p.f1 ∧ p.f1 ≤ 400)
/-- points from i on are as they may be -/
def Shp (m : List S54) (i : Nat) : Prop := 0 < m.length ∧ ∀ j : Nat, i ≤ j → j < m.length → Pt (rd_T54 m j) ∧ (0 < j → (rd_T54 m (j - 1 : Nat)).f0 < (rd_T54 m j).f0 ∧ (rd_T54 m (j - 1 : Nat)).f1 ≤ (rd_T54 m j).f1)
def Cur (m : List S54) : Prop := m.length ≤ 12 ∧ Shp m 0
theorem spt_f {p : S54} (h : -32768 ≤ p.f0 ∧ p.f0 ≤ 32767) (h' : -32768 ≤ p.f1 ∧ p.f1 ≤ 32767) : spec_l02Point.f p.f0 p.f1 = some (decide ((-200 ≤ p.f0 ∧ p.f0 ≤ 200) ∧ (0 ≤ p.f1 ∧ p.f1 ≤ 400))) := by
  unfold spec_l02Point.f spec_l02Place.f spec_l02Density.f
  rw [w64 (x := p.f0) (by omega) (by omega), w64 (x := p.f1) (by omega) (by omega)]
  simp only [in_f, Option.bind_some]
  by_cases c : -200 ≤ p.f0 ∧ p.f0 ≤ 200 <;> simp [c]
theorem ipt_f {p : S54} (h : -32768 ≤ p.f0 ∧ p.f0 ≤ 32767) (h' : -32768 ≤ p.f1 ∧ p.f1 ≤ 32767) : impl_isPoint.f p.f0 p.f1 = some (decide ((-200 ≤ p.f0 ∧ p.f0 ≤ 200) ∧ (0 ≤ p.f1 ∧ p.f1 ≤ 400))) := by
  unfold impl_isPoint.f impl_isPlace.f impl_isDensity.f
  rw [w64 (x := p.f0) (by omega) (by omega), w64 (x := p.f1) (by omega) (by omega)]
  simp only [within_f, Option.bind_some]
  by_cases c : -200 ≤ p.f0 ∧ p.f0 ≤ 200 <;> simp [c]
theorem shape_l (m : List S54) (hm : SmP m) (hl : m.length ≤ 1048576) (d : Nat) : ∀ (k i : Nat), i ≤ m.length → m.length - i = d → d < k →
    ∃ r, spec_l02Shape.l0 k m i = some r ∧ impl_isCurve.l0 k m m (m.length : Int) i = some r ∧ (r = true → Shp m i) := by
  induction d with
  | zero =>
    intro k i h0 hd hk
    obtain ⟨k, rfl⟩ : ∃ n, k = n + 1 := ⟨k - 1, by omega⟩
    simp only [spec_l02Shape.l0, impl_isCurve.l0]
    have g1 : ¬ (i : Int) < (m.length : Int) := by omega
    simp only [g1, if_false]
    refine ⟨_, rfl, rfl, fun h => ⟨?_, fun j j0 j1 => by omega⟩⟩
    have := of_decide_eq_true h
    omega
  | succ d ih =>
    intro k i h0 hd hk
    obtain ⟨k, rfl⟩ : ∃ n, k = n + 1 := ⟨k - 1, by omega⟩
    obtain ⟨s1, s2⟩ := smp_rd hm i (by omega)
    have g1 : (i : Int) < (m.length : Int) := by omega
    have g2 : 0 ≤ (i : Int) := by omega
    have hpos : 0 < m.length := by omega
    obtain ⟨r, e1, e2, e3⟩ := ih k (i + 1) (by omega) (by omega) (by omega)
    have e1' : spec_l02Shape.l0 k m ((i : Int) + 1) = some r := e1
    have e2' : impl_isCurve.l0 k m m (m.length : Int) ((i : Int) + 1) = some r := e2
    have fin : Pt (rd_T54 m i) → (0 < i → (rd_T54 m (i - 1 : Nat)).f0 < (rd_T54 m i).f0 ∧ (rd_T54 m (i - 1 : Nat)).f1 ≤ (rd_T54 m i).f1) → r = true → Shp m i := by
      intro p1 p2 hr
      obtain ⟨_, t2⟩ := e3 hr
      refine ⟨hpos, fun j j0 j1 => ?_⟩
      by_cases e : j = i
      · subst e; exact ⟨p1, p2⟩
      · exact t2 j (by omega) j1
    simp only [spec_l02Shape.l0, impl_isCurve.l0, spt_f s1 s2, ipt_f s1 s2, g1, g2, if_true, Option.bind_some]
    rw [w64 (x := (i : Int) + 1) (by omega) (by omega), w64 (x := (i : Int) - 1) (by omega) (by omega), e1', e2']
    by_cases c : (-200 ≤ (rd_T54 m i).f0 ∧ (rd_T54 m i).f0 ≤ 200) ∧ (0 ≤ (rd_T54 m i).f1 ∧ (rd_T54 m i).f1 ≤ 400)
    · simp only [c, and_self, decide_true, if_true]
      by_cases z : i = 0
      · subst z
        have g3 : ¬ ((0 : Nat) : Int) > 0 := by omega
        simp only [g3, if_false]
        exact ⟨r, rfl, rfl, fin c (fun h => by omega)⟩
      · have ei : ((i : Int) - 1) = ((i - 1 : Nat) : Int) := by omega
        have g3 : (i : Int) > 0 := by omega
        have g4 : 0 ≤ ((i - 1 : Nat) : Int) := by omega
        have g5 : ((i - 1 : Nat) : Int) < (m.length : Int) := by omega
        rw [ei]
        simp only [g3, g4, g5, if_true]
        by_cases c3 : (rd_T54 m i).f0 ≤ (rd_T54 m (i - 1 : Nat)).f0
        · have c3' : (rd_T54 m (i - 1 : Nat)).f0 ≥ (rd_T54 m i).f0 := c3
          simp only [c3, c3', if_true]
          exact ⟨_, rfl, rfl, fun h => by cases h⟩
        · have c3' : ¬ (rd_T54 m (i - 1 : Nat)).f0 ≥ (rd_T54 m i).f0 := c3
          simp only [c3, c3', if_false]
          by_cases c4 : (rd_T54 m i).f1 < (rd_T54 m (i - 1 : Nat)).f1
          · have c4' : (rd_T54 m (i - 1 : Nat)).f1 > (rd_T54 m i).f1 := c4
            simp only [c4, c4', if_true]
            exact ⟨_, rfl, rfl, fun h => by cases h⟩
          · have c4' : ¬ (rd_T54 m (i - 1 : Nat)).f1 > (rd_T54 m i).f1 := c4
            simp only [c4, c4', if_false]
            exact ⟨r, rfl, rfl, fin c (fun _ => by omega)⟩
    · simp only [c, decide_false, Bool.false_eq_true, if_false]
      exact ⟨_, rfl, rfl, fun h => by cases h⟩
theorem shape_f (m : List S54) (hm : SmP m) (hl : m.length ≤ 1048576) (k : Nat) (hk : m.length < k) : ∃ r, spec_l02Shape.f k m = some r ∧ impl_isCurve.f k m = some r ∧ (r = true → Shp m 0) :=
  shape_l m hm hl m.length k 0 (by omega) (by omega) hk
theorem cur_f (m : List S54) (hm : SmP m) (hl : m.length ≤ 1048576) (k : Nat) (hk : m.length < k) : ∃ r, spec_l02Ok.f k m = some r ∧ impl_ValidCurve.f k m = some r ∧ (r = true → Cur m) := by
  obtain ⟨r, e1, e2, e3⟩ := shape_f m hm hl k hk
  unfold spec_l02Ok.f impl_ValidCurve.f
  simp only [e1, e2, Option.bind_some]
  cases r with
  | true =>
    simp only [if_true]
    exact ⟨_, rfl, rfl, fun h => ⟨by have := of_decide_eq_true h; omega, e3 rfl⟩⟩
  | false =>
    simp only [Bool.false_eq_true, if_false]
    exact ⟨_, rfl, rfl, fun h => by cases h⟩
theorem smp_map {l : List S62} (hw : ∀ x ∈ l, (Lit.int .i16 x.f0).wf = true ∧ (Lit.int .i16 x.f1).wf = true) : SmP (l.map cvCurve) := by
  intro x hx
  obtain ⟨y, hy, rfl⟩ := List.mem_map.1 hx
  exact ⟨wf16 (hw y hy).1, wf16 (hw y hy).2⟩
theorem shp_mono {m : List S54} (h : Shp m 0) (j : Nat) : ∀ i : Nat, i ≤ j → j < m.length → (rd_T54 m i).f0 ≤ (rd_T54 m j).f0 ∧ (rd_T54 m i).f1 ≤ (rd_T54 m j).f1 := by
  induction j with
  | zero =>
    intro i hi hj
    obtain rfl : i = 0 := by omega
    exact ⟨Int.le_refl _, Int.le_refl _⟩
  | succ j ih =>
    intro i hi hj
    by_cases e : i = j + 1
    · subst e
      exact ⟨Int.le_refl _, Int.le_refl _⟩
    · obtain ⟨a1, a2⟩ := ih i (by omega) (by omega)
      obtain ⟨_, b⟩ := h.2 (j + 1) (by omega) hj
      obtain ⟨b1, b2⟩ := b (by omega)
      rw [show j + 1 - 1 = j by omega] at b1 b2
      omega
theorem shp_pt {m : List S54} (h : Shp m 0) (i : Nat) (hi : i < m.length) : Pt (rd_T54 m i) := (h.2 i (by omega) hi).1
theorem shp_next {m : List S54} (h : Shp m 0) (i : Nat) (hi : i + 1 < m.length) : (rd_T54 m i).f0 < (rd_T54 m (i + 1 : Nat)).f0 ∧ (rd_T54 m i).f1 ≤ (rd_T54 m (i + 1 : Nat)).f1 := by
  have := (h.2 (i + 1) (by omega) hi).2 (by omega)
  rw [show i + 1 - 1 = i by omega] at this
  exact this
theorem up {α : Type} {g : Nat → Option α} (h : ∀ k, LeO (g k) (g (k + 1))) {r q : α} (i j : Nat) (hr : g i = some r) (hq : g j = some q) : g j = some r := by
  have a := at_rounds h (Nat.le_max_left i j) hr
  have b := at_rounds h (Nat.le_max_right i j) hq
  rw [a] at b
  rw [hq, Option.some.inj b]
/-- the density between two points -/
def seg (p q : S54) (x : Int) : Int := p.f1 + (q.f1 - p.f1) * (x - p.f0) / (q.f0 - p.f0)
theorem seg_bd {p q : S54} {x : Int} (h1 : p.f0 ≤ x) (h2 : x ≤ q.f0) (h3 : p.f0 < q.f0) (h4 : p.f1 ≤ q.f1) : p.f1 ≤ seg p q x ∧ seg p q x ≤ q.f1 := by
  unfold seg
  have a1 : 0 ≤ (q.f1 - p.f1) * (x - p.f0) := Int.mul_nonneg (by omega) (by omega)
  have a2 : (q.f1 - p.f1) * (x - p.f0) ≤ (q.f1 - p.f1) * (q.f0 - p.f0) := Int.mul_le_mul_of_nonneg_left (by omega) (by omega)
  have b1 : 0 ≤ (q.f1 - p.f1) * (x - p.f0) / (q.f0 - p.f0) := Int.ediv_nonneg a1 (by omega)
  have b2 : (q.f1 - p.f1) * (x - p.f0) / (q.f0 - p.f0) ≤ (q.f1 - p.f1) * (q.f0 - p.f0) / (q.f0 - p.f0) := Int.ediv_le_ediv (by omega) a2
  rw [Int.mul_ediv_cancel _ (by omega)] at b2
  omega
theorem seg_mono {p q : S54} {x y : Int} (h : x ≤ y) (h3 : p.f0 < q.f0) (h4 : p.f1 ≤ q.f1) : seg p q x ≤ seg p q y := by
  unfold seg
  have a2 : (q.f1 - p.f1) * (x - p.f0) ≤ (q.f1 - p.f1) * (y - p.f0) := Int.mul_le_mul_of_nonneg_left (by omega) (by omega)
  have b2 := Int.ediv_le_ediv (c := q.f0 - p.f0) (by omega) a2
  omega
def IsAt (m : List S54) (x r : Int) : Prop :=
  (x ≤ (rd_T54 m (0 : Nat)).f0 ∧ r = (rd_T54 m (0 : Nat)).f1) ∨ ((rd_T54 m (0 : Nat)).f0 < x ∧ (rd_T54 m (m.length - 1 : Nat)).f0 ≤ x ∧ r = (rd_T54 m (m.length - 1 : Nat)).f1) ∨
    ∃ i : Nat, i + 1 < m.length ∧ (rd_T54 m (0 : Nat)).f0 < x ∧ (rd_T54 m i).f0 ≤ x ∧ x < (rd_T54 m (i + 1 : Nat)).f0 ∧ r = seg (rd_T54 m i) (rd_T54 m (i + 1 : Nat)) x
theorem isat_mono {m : List S54} (h : Shp m 0) {x y r s : Int} (hx : IsAt m x r) (hy : IsAt m y s) (hxy : x ≤ y) : r ≤ s := by
  have hl := h.1
  have top := shp_mono h (m.length - 1) 0 (by omega) (by omega)
  rcases hx with ⟨x1, rfl⟩ | ⟨x1, x2, rfl⟩ | ⟨i, i1, x1, x2, x3, rfl⟩
  · rcases hy with ⟨y1, rfl⟩ | ⟨y1, y2, rfl⟩ | ⟨j, j1, y1, y2, y3, rfl⟩
    · exact Int.le_refl _
    · exact top.2
    · have n := shp_next h j j1
      have b := seg_bd y2 (Int.le_of_lt y3) n.1 n.2
      have c := shp_mono h j 0 (by omega) (by omega)
      omega
  · rcases hy with ⟨y1, rfl⟩ | ⟨y1, y2, rfl⟩ | ⟨j, j1, y1, y2, y3, rfl⟩
    · omega
    · exact Int.le_refl _
    · have c := shp_mono h (m.length - 1) (j + 1) (by omega) (by omega)
      omega
  · have n := shp_next h i i1
    have b := seg_bd x2 (Int.le_of_lt x3) n.1 n.2
    rcases hy with ⟨y1, rfl⟩ | ⟨y1, y2, rfl⟩ | ⟨j, j1, y1, y2, y3, rfl⟩
    · omega
    · have c := shp_mono h (m.length - 1) (i + 1) (by omega) (by omega)
      omega
    · have n' := shp_next h j j1
      have b' := seg_bd y2 (Int.le_of_lt y3) n'.1 n'.2
      by_cases e : i = j
      · subst e
        exact seg_mono hxy n.1 n.2
      · by_cases e' : i < j
        · have c := shp_mono h j (i + 1) (by omega) (by omega)
          omega
        · have c := shp_mono h i (j + 1) (by omega) (by omega)
          omega
theorem isat_bd {m : List S54} (h : Shp m 0) {x r : Int} (hx : IsAt m x r) : (rd_T54 m (0 : Nat)).f1 ≤ r ∧ r ≤ (rd_T54 m (m.length - 1 : Nat)).f1 := by
  have hl := h.1
  have top := shp_mono h (m.length - 1) 0 (by omega) (by omega)
  rcases hx with ⟨x1, rfl⟩ | ⟨x1, x2, rfl⟩ | ⟨i, i1, x1, x2, x3, rfl⟩
  · omega
  · omega
  · have n := shp_next h i i1
    have b := seg_bd x2 (Int.le_of_lt x3) n.1 n.2
    have c := shp_mono h (m.length - 1) (i + 1) (by omega) (by omega)
    have c' := shp_mono h i 0 (by omega) (by omega)
    omega
theorem at_l (m : List S54) (h : Cur m) (x : Int) (hx : -1000000 ≤ x ∧ x ≤ 1000000) (h0 : (rd_T54 m (0 : Nat)).f0 < x) (hlast : x < (rd_T54 m (m.length - 1 : Nat)).f0) (d : Nat) : ∀ (k i : Nat), i + 1 < m.length → m.length - i = d → d < k → (rd_T54 m i).f0 ≤ x →
    ∃ r, spec_l02At.l0 k m x i = some r ∧ impl_Curve_at.l0 k m x ((i : Int) + 1) = some r ∧ IsAt m x r := by
  induction d with
  | zero => intro k i hi hd hk hr; omega
  | succ d ih =>
    intro k i hi hd hk hr
    obtain ⟨k, rfl⟩ : ∃ n, k = n + 1 := ⟨k - 1, by omega⟩
    obtain ⟨hlen, hs⟩ := h
    have p1 := shp_pt hs i (by omega)
    have p2 := shp_pt hs (i + 1) hi
    obtain ⟨p11, p12⟩ := p1
    obtain ⟨p21, p22⟩ := p2
    have n := shp_next hs i hi
    have g1 : 0 ≤ (i : Int) + 1 := by omega
    have g2 : (i : Int) + 1 < (m.length : Int) := by omega
    have g3 : 0 ≤ (i : Int) := by omega
    have g4 : (i : Int) < (m.length : Int) := by omega
    have ec : ((i : Int) + 1) = ((i + 1 : Nat) : Int) := by omega
    simp only [spec_l02At.l0, impl_Curve_at.l0]
    rw [w64 (x := (i : Int) + 1) (by omega) (by omega), w64 (x := (i : Int) + 1 + 1) (by omega) (by omega), w64 (x := (i : Int) + 1 - 1) (by omega) (by omega), show (i : Int) + 1 - 1 = (i : Int) by omega]
    simp only [g1, g2, g3, g4, if_true]
    rw [ec, w64 (x := (rd_T54 m (i + 1 : Nat)).f0) (by omega) (by omega)]
    by_cases c : (rd_T54 m (i + 1 : Nat)).f0 ≤ x
    · simp only [c, if_true]
      by_cases e : i + 1 + 1 < m.length
      · obtain ⟨r, r1, r2, r3⟩ := ih k (i + 1) e (by omega) (by omega) c
        exact ⟨r, r1, r2, r3⟩
      · rw [show m.length - 1 = i + 1 by omega] at hlast
        omega
    · simp only [c, if_false]
      rw [w64 (x := (rd_T54 m i).f0) (by omega) (by omega), w64 (x := (rd_T54 m (i + 1 : Nat)).f1) (by omega) (by omega), w64 (x := (rd_T54 m i).f1) (by omega) (by omega)]
      rw [i16w (x := (rd_T54 m (i + 1 : Nat)).f0 - (rd_T54 m i).f0) (by omega) (by omega), i16w (x := (rd_T54 m (i + 1 : Nat)).f1 - (rd_T54 m i).f1) (by omega) (by omega)]
      have q1 : 0 ≤ ((rd_T54 m (i + 1 : Nat)).f1 - (rd_T54 m i).f1) * (x - (rd_T54 m i).f0) := Int.mul_nonneg (by omega) (by omega)
      have q2 : ((rd_T54 m (i + 1 : Nat)).f1 - (rd_T54 m i).f1) * (x - (rd_T54 m i).f0) ≤ 400 * 400 := Int.mul_le_mul (by omega) (by omega) (by omega) (by omega)
      rw [w64 (x := (rd_T54 m (i + 1 : Nat)).f0 - (rd_T54 m i).f0) (by omega) (by omega), w64 (x := (rd_T54 m (i + 1 : Nat)).f1 - (rd_T54 m i).f1) (by omega) (by omega), w64 (x := x - (rd_T54 m i).f0) (by omega) (by omega), w64 (x := ((rd_T54 m (i + 1 : Nat)).f1 - (rd_T54 m i).f1) * (x - (rd_T54 m i).f0)) (by omega) (by omega), Int.tdiv_eq_ediv_of_nonneg q1]
      have b := seg_bd hr (show x ≤ (rd_T54 m (i + 1 : Nat)).f0 by omega) n.1 n.2
      have eb : (rd_T54 m i).f1 + ((rd_T54 m (i + 1 : Nat)).f1 - (rd_T54 m i).f1) * (x - (rd_T54 m i).f0) / ((rd_T54 m (i + 1 : Nat)).f0 - (rd_T54 m i).f0) = seg (rd_T54 m i) (rd_T54 m (i + 1 : Nat)) x := rfl
      rw [w64 (x := ((rd_T54 m (i + 1 : Nat)).f1 - (rd_T54 m i).f1) * (x - (rd_T54 m i).f0) / ((rd_T54 m (i + 1 : Nat)).f0 - (rd_T54 m i).f0)) (by omega) (by omega), eb, w64 (x := seg (rd_T54 m i) (rd_T54 m (i + 1 : Nat)) x) (by omega) (by omega)]
      have g5 : ¬ (rd_T54 m (i + 1 : Nat)).f0 - (rd_T54 m i).f0 = 0 := by omega
      simp only [g5, if_false]
      exact ⟨_, rfl, rfl, .inr (.inr ⟨i, hi, h0, hr, by omega, rfl⟩)⟩
theorem at_k (m : List S54) (h : Cur m) (x : Int) (hx : -1000000 ≤ x ∧ x ≤ 1000000) (k : Nat) (hk : 13 < k) : ∃ r, spec_l02At.f k m x = some r ∧ impl_Curve_at.f k m x = some r ∧ IsAt m x r := by
  obtain ⟨hlen, hs⟩ := h
  have hl := hs.1
  obtain ⟨p11, p12⟩ := shp_pt hs 0 (by omega)
  obtain ⟨p21, p22⟩ := shp_pt hs (m.length - 1) (by omega)
  unfold spec_l02At.f impl_Curve_at.f
  have g1 : 0 < (m.length : Int) := by omega
  have g2 : 0 ≤ ((m.length - 1 : Nat) : Int) := by omega
  have g3 : ((m.length - 1 : Nat) : Int) < (m.length : Int) := by omega
  rw [w64 (x := (m.length : Int) - 1) (by omega) (by omega), show ((m.length : Int) - 1) = ((m.length - 1 : Nat) : Int) by omega]
  have z : rd_T54 m 0 = rd_T54 m (0 : Nat) := rfl
  rw [z, w64 (x := (rd_T54 m (0 : Nat)).f0) (by omega) (by omega), w64 (x := (rd_T54 m (0 : Nat)).f1) (by omega) (by omega), w64 (x := (rd_T54 m (m.length - 1 : Nat)).f0) (by omega) (by omega), w64 (x := (rd_T54 m (m.length - 1 : Nat)).f1) (by omega) (by omega)]
  simp only [g1, g2, g3, if_true]
  by_cases c : x ≤ (rd_T54 m (0 : Nat)).f0
  · simp only [c, if_true]
    exact ⟨_, rfl, rfl, .inl ⟨c, rfl⟩⟩
  · simp only [c, if_false]
    by_cases c2 : x ≥ (rd_T54 m (m.length - 1 : Nat)).f0
    · simp only [c2, if_true]
      exact ⟨_, rfl, rfl, .inr (.inl ⟨by omega, c2, rfl⟩)⟩
    · simp only [c2, if_false]
      have hne : 0 + 1 < m.length := by
        by_cases e : m.length = 1
        · rw [e] at c2
          exact absurd (show x ≥ (rd_T54 m (0 : Nat)).f0 by omega) c2
        · omega
      exact at_l m ⟨hlen, hs⟩ x hx (by omega) (by omega) m.length k 0 hne (by omega) (by omega) (by omega)
def atV (m : List S54) (x : Int) : Int := (spec_l02At.f 20 m x).getD 0
theorem at_f (m : List S54) (h : Cur m) (x : Int) (hx : -1000000 ≤ x ∧ x ≤ 1000000) : (∀ k, 13 < k → spec_l02At.f k m x = some (atV m x) ∧ impl_Curve_at.f k m x = some (atV m x)) ∧ IsAt m x (atV m x) ∧ 0 ≤ atV m x ∧ atV m x ≤ 400 := by
  obtain ⟨r, r1, r2, r3⟩ := at_k m h x hx 20 (by omega)
  have e : atV m x = r := by unfold atV; rw [r1]; rfl
  have b := isat_bd h.2 r3
  obtain ⟨_, p12⟩ := shp_pt h.2 0 h.2.1
  obtain ⟨_, p22⟩ := shp_pt h.2 (m.length - 1) (by have := h.2.1; omega)
  rw [e]
  refine ⟨fun k hk => ?_, r3, by omega, by omega⟩
  obtain ⟨s, s1, s2, _⟩ := at_k m h x hx k hk
  exact ⟨up (spec_l02At.mono m x) 20 k r1 s1, up (impl_Curve_at.mono m x) 20 k r2 s2⟩
theorem code_c (m : List S54) (hm : SmP m) (hl : m.length ≤ 1048576) (b : Bool) (k : Nat) (hk : m.length < k) : ∃ r, (spec_l02Ok.f k m).bind (fun t => if t = true then (if b = true then some (0 : Int) else some 2) else some 1) = some r ∧ impl_curveCode.f k m b = some r ∧ (r = 0 → Cur m ∧ b = true) := by
  obtain ⟨t, e1, e2, e3⟩ := cur_f m hm hl k hk
  unfold impl_curveCode.f
  simp only [e1, e2, Option.bind_some]
  cases t with
  | true =>
    cases b with
    | true => exact ⟨_, rfl, rfl, fun _ => ⟨e3 rfl, rfl⟩⟩
    | false => exact ⟨_, rfl, rfl, fun h => by cases h⟩
  | false => exact ⟨_, rfl, rfl, fun h => by cases h⟩
def prV (a b : List S54) (x l : Int) : Int := atV b (l - (atV a x + 5) / 10)
theorem pr_f (a b : List S54) (ha : Cur a) (hb : Cur b) (x l : Int) (hx : -100000 ≤ x ∧ x ≤ 100000) (hl : -100000 ≤ l ∧ l ≤ 100000) :
    (∀ k, 13 < k → spec_l02Printed.f k a b x l = some (prV a b x l) ∧ impl_printed.f k a b x l = some (prV a b x l)) ∧ 0 ≤ prV a b x l ∧ prV a b x l ≤ 400 := by
  obtain ⟨a1, _, a2, a3⟩ := at_f a ha x (by omega)
  have d0 : 0 ≤ (atV a x + 5) / 10 ∧ (atV a x + 5) / 10 ≤ 100 := by omega
  obtain ⟨b1, _, b2, b3⟩ := at_f b hb (l - (atV a x + 5) / 10) (by omega)
  refine ⟨fun k hk => ?_, b2, b3⟩
  obtain ⟨a4, a5⟩ := a1 k hk
  obtain ⟨b4, b5⟩ := b1 k hk
  unfold spec_l02Printed.f impl_printed.f
  simp only [a4, a5, Option.bind_some]
  rw [w64 (x := atV a x + 5) (by omega) (by omega), Int.tdiv_eq_ediv_of_nonneg (by omega), w64 (x := (atV a x + 5) / 10) (by omega) (by omega), w64 (x := l - (atV a x + 5) / 10) (by omega) (by omega)]
  simp only [b4, b5, Option.bind_some]
  exact ⟨rfl, rfl⟩
theorem pr_light {a b : List S54} (ha : Cur a) (hb : Cur b) {x l l' : Int} (hx : -100000 ≤ x ∧ x ≤ 100000) (hl : -100000 ≤ l) (h : l ≤ l') (hl' : l' ≤ 100000) : prV a b x l ≤ prV a b x l' := by
  obtain ⟨_, _, a2, a3⟩ := at_f a ha x (by omega)
  obtain ⟨_, b2, _⟩ := at_f b hb (l - (atV a x + 5) / 10) (by omega)
  obtain ⟨_, c2, _⟩ := at_f b hb (l' - (atV a x + 5) / 10) (by omega)
  exact isat_mono hb.2 b2 c2 (by omega)
theorem pr_film {a b : List S54} (ha : Cur a) (hb : Cur b) {x x' l : Int} (hx : -100000 ≤ x) (h : x ≤ x') (hx' : x' ≤ 100000) (hl : -100000 ≤ l ∧ l ≤ 100000) : prV a b x' l ≤ prV a b x l := by
  obtain ⟨_, a1, a2, a3⟩ := at_f a ha x (by omega)
  obtain ⟨_, a1', a2', a3'⟩ := at_f a ha x' (by omega)
  have m := isat_mono ha.2 a1 a1' h
  obtain ⟨_, b2, _⟩ := at_f b hb (l - (atV a x + 5) / 10) (by omega)
  obtain ⟨_, c2, _⟩ := at_f b hb (l - (atV a x' + 5) / 10) (by omega)
  exact isat_mono hb.2 c2 b2 (by omega)
theorem both_f (a b : List S54) (ha : SmP a) (hal : a.length ≤ 1048576) (hb : SmP b) (hbl : b.length ≤ 1048576) (k : Nat) (hk : a.length + b.length + 1 < k) :
    ∃ v : Bool, (v = true → Cur a ∧ Cur b) ∧ (∀ x l, spec_l02Both.f k a b x l = some (if v = true then (if (-200 ≤ x ∧ x ≤ 200) ∧ (-200 ≤ l ∧ l ≤ 200) then 0 else 2) else 1)) ∧ (∀ fine, impl_printCode.f k a b fine = some (if v = true then (if fine = true then 0 else 2) else 1)) := by
  obtain ⟨r, e1, e2, e3⟩ := cur_f a ha hal k (by omega)
  obtain ⟨s, f1, f2, f3⟩ := cur_f b hb hbl k (by omega)
  refine ⟨r && s, fun h => ?_, fun x l => ?_, fun fine => ?_⟩
  · cases r <;> cases s <;> simp at h
    exact ⟨e3 rfl, f3 rfl⟩
  · obtain ⟨k, rfl⟩ : ∃ n, k = n + 1 := ⟨k - 1, by omega⟩
    unfold spec_l02Both.f
    simp only [e1, f1, Option.bind_some]
    cases r <;> cases s <;> simp [spec_l02Both.j0, spec_l02Place.f, in_f]
    by_cases c : -200 ≤ x ∧ x ≤ 200 <;> by_cases c' : -200 ≤ l ∧ l ≤ 200 <;> simp [c, c']
  · unfold impl_printCode.f impl_curveCode.f
    simp only [e2, f2, Option.bind_some]
    cases r <;> cases s <;> cases fine <;> simp
theorem range_l (a b : List S54) (ha : Cur a) (hb : Cur b) (x y l : Int) (hx : -200 ≤ x ∧ x ≤ 200) (hy : -200 ≤ y ∧ y ≤ 200) (hl : -200 ≤ l ∧ l ≤ 200) (hxy : x ≤ y) (d : Nat) : ∀ (k : Nat) (j : Int), x + 1 ≤ j → j ≤ y + 1 → y + 1 - j = d → d + 20 < k →
    spec_PrintedRange.l0 k a b y l (prV a b (j - 1) l) (prV a b x l) j = some (prV a b y l, prV a b x l, 0) := by
  induction d with
  | zero =>
    intro k j h0 h1 hd hk
    obtain ⟨k, rfl⟩ : ∃ n, k = n + 1 := ⟨k - 1, by omega⟩
    simp only [spec_PrintedRange.l0]
    rw [if_neg (by omega), show j - 1 = y by omega]
  | succ d ih =>
    intro k j h0 h1 hd hk
    obtain ⟨k, rfl⟩ : ∃ n, k = n + 1 := ⟨k - 1, by omega⟩
    obtain ⟨p1, _⟩ := pr_f a b ha hb j l (by omega) (by omega)
    have m1 := pr_film ha hb (x := j - 1) (x' := j) (l := l) (by omega) (by omega) (by omega) (by omega)
    have m2 := pr_film ha hb (x := x) (x' := j) (l := l) (by omega) (by omega) (by omega) (by omega)
    simp only [spec_PrintedRange.l0]
    rw [if_pos (by omega), (p1 k (by omega)).1]
    simp only [Option.bind_some, spec_l00Min.f, spec_l00Max.f]
    have e1 : (if prV a b (j - 1) l < prV a b j l then some (prV a b (j - 1) l) else some (prV a b j l)) = some (prV a b j l) := by
      split
      · omega
      · rfl
    have e2 : (if prV a b x l > prV a b j l then some (prV a b x l) else some (prV a b j l)) = some (prV a b x l) := by
      split
      · rfl
      · congr 1; omega
    rw [e1, Option.bind_some, e2, Option.bind_some, w64 (by omega) (by omega)]
    have := ih k (j + 1) (by omega) (by omega) (by omega) (by omega)
    rw [show j + 1 - 1 = j by omega] at this
    exact this
theorem PrintedRange_same (a b : List S54) (ha : SmP a) (hal : a.length ≤ 1048576) (hb : SmP b) (hbl : b.length ≤ 1048576) (x y li dummy : Int) (k : Nat) (hk : a.length + b.length + 3000 < k) : ∃ z, spec_PrintedRange.f k a b x y li = some z ∧ impl_PrintedRange.f k a b x y li = some z := by
  obtain ⟨v, v1, v2, v3⟩ := both_f a b ha hal hb hbl k (by omega)
  obtain ⟨k, rfl⟩ : ∃ n, k = n + 1 + 1 + 1 + 1 := ⟨k - 4, by omega⟩
  unfold spec_PrintedRange.f impl_PrintedRange.f impl_isPlace.f spec_l02Place.f
  simp only [within_f, in_f, v2, v3, Option.bind_some]
  cases v with
  | false =>
    by_cases c : -200 ≤ x ∧ x ≤ 200 <;> by_cases c2 : -200 ≤ y ∧ y ≤ 200 <;> simp [c, c2, spec_PrintedRange.j0, spec_PrintedRange.j1, spec_PrintedRange.j2, spec_PrintedRange.j3, impl_PrintedRange.j0]
  | true =>
    obtain ⟨ca, cb⟩ := v1 rfl
    by_cases c : -200 ≤ x ∧ x ≤ 200
    · by_cases c3 : -200 ≤ li ∧ li ≤ 200
      · by_cases c2 : -200 ≤ y ∧ y ≤ 200
        · by_cases c4 : x > y
          · simp [c, c2, c3, c4, spec_PrintedRange.j0, spec_PrintedRange.j1, spec_PrintedRange.j2, spec_PrintedRange.j3, impl_PrintedRange.j0]
          · have e1 := range_l a b ca cb x y li c c2 c3 (by omega) (y - x).toNat k (x + 1) (by omega) (by omega) (by omega) (by omega)
            rw [show x + 1 - 1 = x by omega] at e1
            obtain ⟨p1, _⟩ := pr_f a b ca cb x li (by omega) (by omega)
            obtain ⟨q1, _⟩ := pr_f a b ca cb y li (by omega) (by omega)
            simp [c, c2, c3, c4, spec_PrintedRange.j0, spec_PrintedRange.j1, spec_PrintedRange.j2, spec_PrintedRange.j3, impl_PrintedRange.j0, (p1 k (by omega)).1, (p1 (k + 1 + 1 + 1) (by omega)).2, (q1 (k + 1 + 1 + 1) (by omega)).2, w64 (x := x + 1) (by omega) (by omega), e1]
        · simp [c, c2, c3, spec_PrintedRange.j0, spec_PrintedRange.j1, spec_PrintedRange.j2, spec_PrintedRange.j3, impl_PrintedRange.j0]
      · by_cases c2 : -200 ≤ y ∧ y ≤ 200 <;> simp [c, c2, c3, spec_PrintedRange.j0, spec_PrintedRange.j1, spec_PrintedRange.j2, spec_PrintedRange.j3, impl_PrintedRange.j0]
    · simp [c, spec_PrintedRange.j0, spec_PrintedRange.j1, spec_PrintedRange.j2, spec_PrintedRange.j3, impl_PrintedRange.j0]
theorem FnExactPrintedRange : laws_FnExactPrintedRange.Pure := by
  intro l m x y li h0 h0w h1 h1w _ _ _
  refine ⟨3000000, ?_⟩
  unfold laws_FnExactPrintedRange.f
  rw [szCurve_g l 1048576 (by omega) (by omega), Option.bind_some]
  by_cases c : (l.length : Int) ≤ 1048576
  · rw [if_pos c, if_neg (by omega), szCurve_g m (1048576 - (l.length : Int)) (by omega) (by omega), Option.bind_some]
    by_cases c' : (m.length : Int) ≤ 1048576 - (l.length : Int)
    · rw [if_pos c', if_neg (by omega), toCurve_f l (by omega) _ (by omega), toCurve_f m (by omega) _ (by omega)]
      have hl : (l.map cvCurve).length ≤ 1048576 := by rw [List.length_map]; omega
      have hm : (m.map cvCurve).length ≤ 1048576 := by rw [List.length_map]; omega
      obtain ⟨z, z1, z2⟩ := PrintedRange_same _ _ (smp_map h0w) hl (smp_map h1w) hm x y li 0 3000000 (by omega)
      simp only [Option.bind_some, z1, z2, if_true, bne_self_eq_false, laws_FnExactPrintedRange.j0, Bool.false_eq_true, if_false, toCurve_f l (show l.length ≤ 1048576 by omega) 2999999 (by omega), toCurve_f m (show m.length ≤ 1048576 by omega) 2999999 (by omega), eqCurve_f _ hl 2999999 (by omega), eqCurve_f _ hm 2999999 (by omega)]
    · rw [if_neg c', if_pos (by omega)]
  · rw [if_neg c, if_pos (by omega)]

end Go.Proofs.Ythhgljbmghookaa.Pure
