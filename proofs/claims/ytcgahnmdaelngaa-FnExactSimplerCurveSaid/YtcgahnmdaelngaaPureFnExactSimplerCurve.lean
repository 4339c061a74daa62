/- Proves, in plain numbers and lists, that the law FnExactSimplerCurve answers true at all inputs. No condition is added. -/
import Derived.Test.YtcgahnmdaelngaaPFnExactSimplerCurvex0
import Derived.Test.YtcgahnmdaelngaaPFnExactSimplerCurvex1
import Derived.Test.YtcgahnmdaelngaaPFnExactSimplerCurvex2
import Derived.Test.YtcgahnmdaelngaaPFnExactSimplerCurvex3
import Derived.Test.YtcgahnmdaelngaaPFnExactSimplerCurvex4
import Derived.Test.YtcgahnmdaelngaaPFnExactSimplerCurvex5
import Derived.Test.YtcgahnmdaelngaaPFnExactSimplerCurvex6
import Derived.Test.YtcgahnmdaelngaaPFnExactSimplerCurvex7
import Derived.Test.YtcgahnmdaelngaaPFnExactSimplerCurvex8
import Derived.Test.YtcgahnmdaelngaaPFnExactSimplerCurvex9
import Derived.Test.YtcgahnmdaelngaaPFnExactSimplerCurvex10
namespace Go.Proofs.Ytcgahnmdaelngaa.Pure
open Go.RowKit Go.Proofs.Ytcgahnmdaelngaa.PFnExactSimplerCurve Go.Proofs.YtcgahnmdaelngaaW.PrintWords Go.Proofs.YtcgahnmdaelngaaW.PrintLast Go.Proofs.YtcgahnmdaelngaaW.PrintMore
set_option linter.unusedVariables false
set_option linter.unusedSimpArgs false
theorem w64 {x : Int} (h : -9223372036854775808 ≤ x) (h' : x ≤ 9223372036854775807) : wrap64 x = x := by unfold wrap64; omega
theorem wf8 {x : Int} (h : (Lit.int .i8 x).wf = true) : -128 ≤ x ∧ x ≤ 127 := by
  have h2 : (decide ((-128 : Int) ≤ x) && decide (x ≤ 127)) = true := h
  simpa using h2
theorem wf16 {x : Int} (h : (Lit.int .i16 x).wf = true) : -32768 ≤ x ∧ x ≤ 32767 := by
  have h2 : (decide ((-32768 : Int) ≤ x) && decide (x ≤ 32767)) = true := h
  simpa using h2
theorem wf64 {x : Int} (h : (Lit.int .i64 x).wf = true) : -9223372036854775808 ≤ x ∧ x ≤ 9223372036854775807 := by
  have h2 : (decide ((-9223372036854775808 : Int) ≤ x) && decide (x ≤ 9223372036854775807)) = true := h
  simpa using h2
theorem wfu64 {x : Int} (h : (Lit.int .u64 x).wf = true) : 0 ≤ x ∧ x ≤ 18446744073709551615 := by
  have h2 : (decide ((0 : Int) ≤ x) && decide (x ≤ 18446744073709551615)) = true := h
  simpa using h2
theorem i8w {x : Int} (h : -128 ≤ x) (h' : x ≤ 127) : IntKind.i8.wrap x = x := by
  show (if (true && decide (x % 256 ≥ 128)) = true then x % 256 - 256 else x % 256) = x
  by_cases e : x % 256 ≥ 128
  · rw [if_pos (by simpa using e)]; omega
  · rw [if_neg (by simpa using e)]; omega
theorem i16w {x : Int} (h : -32768 ≤ x) (h' : x ≤ 32767) : IntKind.i16.wrap x = x := by
  show (if (true && decide (x % 65536 ≥ 32768)) = true then x % 65536 - 65536 else x % 65536) = x
  by_cases e : x % 65536 ≥ 32768
  · rw [if_pos (by simpa using e)]; omega
  · rw [if_neg (by simpa using e)]; omega
theorem u64w {x : Int} (h : 0 ≤ x) (h' : x ≤ 18446744073709551615) : IntKind.u64.wrap x = x := by
  show (if (false && decide (x % 18446744073709551616 ≥ 9223372036854775808)) = true then x % 18446744073709551616 - 18446744073709551616 else x % 18446744073709551616) = x
  rw [if_neg (by simp)]; omega
theorem szCurve_f (l : List S79) (hl : l.length ≤ 9223372036854775807) : laws_szCurve.f l 1048576 = some (if l.length ≤ 1048576 then 1048576 - (l.length : Int) else -1) := by
  unfold laws_szCurve.f
  rw [w64 (by omega) (by omega)]
  by_cases c : l.length ≤ 1048576
  · rw [if_neg (by omega), if_pos c]
  · rw [if_pos (by omega), if_neg c]
theorem szCurve_g (l : List S79) (a : Int) (ha : 0 ≤ a ∧ a ≤ 1048576) (hl : l.length ≤ 9223372036854775807) : laws_szCurve.f l a = some (if (l.length : Int) ≤ a then a - (l.length : Int) else -1) := by
  unfold laws_szCurve.f
  rw [w64 (by omega) (by omega)]
  by_cases c : (l.length : Int) ≤ a
  · rw [if_neg (by omega), if_pos c]
  · rw [if_pos (by omega), if_neg c]
theorem set_nextg {α β : Type} (f : α → β) (z : β) (d : α) (l : List α) (i : Nat) (h : i < l.length) : ((l.take i).map f ++ List.replicate (l.length - i) z).set i (f (l.getD i d)) = (l.take (i + 1)).map f ++ List.replicate (l.length - (i + 1)) z := by
  apply List.ext_getElem
  · simp; omega
  · intro j h1 h2
    simp only [List.getElem_set, List.getElem_append, List.length_map, List.length_take, List.getElem_map, List.getElem_take, List.getElem_replicate]
    by_cases e : i = j
    · subst e
      rw [if_pos rfl, dif_pos (by omega)]
      simp [h]
    · rw [if_neg e]
      by_cases c : j < i
      · rw [dif_pos (by omega), dif_pos (by omega)]
      · rw [dif_neg (by omega), dif_neg (by omega)]
theorem getD_mem {α : Type} (l : List α) (i : Nat) (d : α) (h : i < l.length) : l.getD i d ∈ l := by
  rw [List.getD_eq_getElem?_getD, List.getElem?_eq_getElem h]
  exact List.getElem_mem h
theorem getD_set_ne {α : Type} (l : List α) (i j : Nat) (x d : α) (h : i ≠ j) : (l.set i x).getD j d = l.getD j d := by
  simp [List.getD_eq_getElem?_getD, List.getElem?_set_ne h]
theorem getD_set_eq {α : Type} (l : List α) (i : Nat) (x d : α) (h : i < l.length) : (l.set i x).getD i d = x := by
  simp [List.getD_eq_getElem?_getD, List.getElem?_set_self h]
def cvCurve (x : S79) : S37 := ⟨x.f0, x.f1⟩
theorem toCurve_l (l : List S79) (hl : l.length ≤ 1048576) (d : Nat) : ∀ (k : Nat) (i : Nat), i ≤ l.length → l.length - i = d → d < k → laws_toCurve.l0 k l ((l.take i).map cvCurve ++ List.replicate (l.length - i) z37) i = some (l.map cvCurve) := by
  induction d with
  | zero =>
    intro k i h0 hd hk
    obtain ⟨k, rfl⟩ : ∃ n, k = n + 1 := ⟨k - 1, by omega⟩
    have e : i = l.length := by omega
    subst e
    simp only [laws_toCurve.l0]
    rw [if_neg (by omega)]
    simp
  | succ d ih =>
    intro k i h0 hd hk
    obtain ⟨k, rfl⟩ : ∃ n, k = n + 1 := ⟨k - 1, by omega⟩
    simp only [laws_toCurve.l0, laws_toPoint.f, Option.bind_some]
    rw [if_pos (by omega), if_pos (by omega), if_pos (by simp; omega), w64 (by omega) (by omega)]
    have e := ih k (i + 1) (by omega) (by omega) (by omega)
    rw [← set_nextg cvCurve z37 z79 l i (by omega)] at e
    simpa [rd_T79, cvCurve] using e
theorem toCurve_f (l : List S79) (hl : l.length ≤ 1048576) (k : Nat) (hk : l.length < k) : laws_toCurve.f k l = some (l.map cvCurve) := by
  have e := toCurve_l l hl l.length k 0 (by omega) (by omega) hk
  unfold laws_toCurve.f
  rw [if_pos (by omega), if_pos (by omega)]
  simpa using e
theorem eqCurve_l (l : List S37) (hl : l.length ≤ 1048576) (d : Nat) : ∀ (k : Nat) (i : Nat), i ≤ l.length → l.length - i = d → d < k → laws_eqCurve.l0 k l l i = some true := by
  induction d with
  | zero =>
    intro k i h0 hd hk
    obtain ⟨k, rfl⟩ : ∃ n, k = n + 1 := ⟨k - 1, by omega⟩
    simp only [laws_eqCurve.l0]
    rw [if_neg (by omega)]
  | succ d ih =>
    intro k i h0 hd hk
    obtain ⟨k, rfl⟩ : ∃ n, k = n + 1 := ⟨k - 1, by omega⟩
    simp only [laws_eqCurve.l0, laws_eqPoint.f, if_true, Option.bind_some]
    rw [if_pos (by omega), if_pos (by omega), if_pos (by omega), w64 (by omega) (by omega)]
    exact ih k (i + 1) (by omega) (by omega) (by omega)
theorem eqCurve_f (l : List S37) (hl : l.length ≤ 1048576) (k : Nat) (hk : l.length < k) : laws_eqCurve.f k l l = some true := by
  unfold laws_eqCurve.f
  rw [if_pos rfl]
  exact eqCurve_l l hl l.length k 0 (by omega) (by omega) hk
theorem in_f (a b c : Int) : spec_l00In.f a b c = some (decide (b ≤ a ∧ a ≤ c)) := by
  unfold spec_l00In.f
  by_cases h : b ≤ a <;> simp [h]
theorem within_f (a b c : Int) : impl_within.f a b c = some (decide (b ≤ a ∧ a ≤ c)) := by
  unfold impl_within.f
  by_cases h : b ≤ a <;> simp [h]
def SmP (m : List S37) : Prop := ∀ x ∈ m, (-32768 ≤ x.f0 ∧ x.f0 ≤ 32767) ∧ (-32768 ≤ x.f1 ∧ x.f1 ≤ 32767)
theorem smp_rd {m : List S37} (h : SmP m) (i : Nat) (hi : i < m.length) : (-32768 ≤ (rd_T37 m i).f0 ∧ (rd_T37 m i).f0 ≤ 32767) ∧ (-32768 ≤ (rd_T37 m i).f1 ∧ (rd_T37 m i).f1 ≤ 32767) := by
  have := h _ (getD_mem m i z37 hi)
  simpa [rd_T37] using this
/-- a point as it may be -/
def Pt (p : S37) : Prop := (-200 ≤ p.f0 ∧ p.f0 ≤ 200) ∧ (0 ≤ p.f1 ∧ p.f1 ≤ 400)
theorem spt_f {p : S37} (h : -32768 ≤ p.f0 ∧ p.f0 ≤ 32767) (h' : -32768 ≤ p.f1 ∧ p.f1 ≤ 32767) : spec_l02Point.f p.f0 p.f1 = some (decide ((-200 ≤ p.f0 ∧ p.f0 ≤ 200) ∧ (0 ≤ p.f1 ∧ p.f1 ≤ 400))) := by
  unfold spec_l02Point.f spec_l02Place.f spec_l02Density.f
  rw [w64 (x := p.f0) (by omega) (by omega), w64 (x := p.f1) (by omega) (by omega)]
  simp only [in_f, Option.bind_some]
  by_cases c : -200 ≤ p.f0 ∧ p.f0 ≤ 200 <;> simp [c]
theorem ipt_f {p : S37} (h : -32768 ≤ p.f0 ∧ p.f0 ≤ 32767) (h' : -32768 ≤ p.f1 ∧ p.f1 ≤ 32767) : impl_isPoint.f p.f0 p.f1 = some (decide ((-200 ≤ p.f0 ∧ p.f0 ≤ 200) ∧ (0 ≤ p.f1 ∧ p.f1 ≤ 400))) := by
  unfold impl_isPoint.f impl_isPlace.f impl_isDensity.f
  rw [w64 (x := p.f0) (by omega) (by omega), w64 (x := p.f1) (by omega) (by omega)]
  simp only [within_f, Option.bind_some]
  by_cases c : -200 ≤ p.f0 ∧ p.f0 ≤ 200 <;> simp [c]
theorem smp_map {l : List S79} (hw : ∀ x ∈ l, (Lit.int .i16 x.f0).wf = true ∧ (Lit.int .i16 x.f1).wf = true) : SmP (l.map cvCurve) := by
  intro x hx
  obtain ⟨y, hy, rfl⟩ := List.mem_map.1 hx
  exact ⟨wf16 (hw y hy).1, wf16 (hw y hy).2⟩
/-- points from i on are as they may be -/
def Shp (m : List S37) (i : Nat) : Prop := 0 < m.length ∧ ∀ j : Nat, i ≤ j → j < m.length → Pt (rd_T37 m j) ∧ (0 < j → (rd_T37 m (j - 1 : Nat)).f0 < (rd_T37 m j).f0 ∧ (rd_T37 m (j - 1 : Nat)).f1 ≤ (rd_T37 m j).f1)
def Cur (m : List S37) : Prop := m.length ≤ 12 ∧ Shp m 0
theorem shape_l (m : List S37) (hm : SmP m) (hl : m.length ≤ 1048576) (d : Nat) : ∀ (k i : Nat), i ≤ m.length → m.length - i = d → d < k →
    ∃ r, spec_l02Shape.l0 k m i = some r ∧ impl_isCurve.l0 k m m (m.length : Int) i = some r ∧ (r = true → Shp m i) := by
  induction d with
  | zero =>
    intro k i h0 hd hk
    obtain ⟨k, rfl⟩ : ∃ n, k = n + 1 := ⟨k - 1, by omega⟩
    simp only [spec_l02Shape.l0, impl_isCurve.l0]
    have g1 : ¬ (i : Int) < (m.length : Int) := by omega
    simp only [g1, if_false]
    refine ⟨_, rfl, rfl, fun h => ⟨?_, fun j j0 j1 => by omega⟩⟩
    have := of_decide_eq_true h
    omega
  | succ d ih =>
    intro k i h0 hd hk
    obtain ⟨k, rfl⟩ : ∃ n, k = n + 1 := ⟨k - 1, by omega⟩
    obtain ⟨s1, s2⟩ := smp_rd hm i (by omega)
    have g1 : (i : Int) < (m.length : Int) := by omega
    have g2 : 0 ≤ (i : Int) := by omega
    have hpos : 0 < m.length := by omega
    obtain ⟨r, e1, e2, e3⟩ := ih k (i + 1) (by omega) (by omega) (by omega)
    have e1' : spec_l02Shape.l0 k m ((i : Int) + 1) = some r := e1
    have e2' : impl_isCurve.l0 k m m (m.length : Int) ((i : Int) + 1) = some r := e2
    have fin : Pt (rd_T37 m i) → (0 < i → (rd_T37 m (i - 1 : Nat)).f0 < (rd_T37 m i).f0 ∧ (rd_T37 m (i - 1 : Nat)).f1 ≤ (rd_T37 m i).f1) → r = true → Shp m i := by
      intro p1 p2 hr
      obtain ⟨_, t2⟩ := e3 hr
      refine ⟨hpos, fun j j0 j1 => ?_⟩
      by_cases e : j = i
      · subst e; exact ⟨p1, p2⟩
      · exact t2 j (by omega) j1
    simp only [spec_l02Shape.l0, impl_isCurve.l0, spt_f s1 s2, ipt_f s1 s2, g1, g2, if_true, Option.bind_some]
    rw [w64 (x := (i : Int) + 1) (by omega) (by omega), w64 (x := (i : Int) - 1) (by omega) (by omega), e1', e2']
    by_cases c : (-200 ≤ (rd_T37 m i).f0 ∧ (rd_T37 m i).f0 ≤ 200) ∧ (0 ≤ (rd_T37 m i).f1 ∧ (rd_T37 m i).f1 ≤ 400)
    · simp only [c, and_self, decide_true, if_true]
      by_cases z : i = 0
      · subst z
        have g3 : ¬ ((0 : Nat) : Int) > 0 := by omega
        simp only [g3, if_false]
        exact ⟨r, rfl, rfl, fin c (fun h => by omega)⟩
      · have ei : ((i : Int) - 1) = ((i - 1 : Nat) : Int) := by omega
        have g3 : (i : Int) > 0 := by omega
        have g4 : 0 ≤ ((i - 1 : Nat) : Int) := by omega
        have g5 : ((i - 1 : Nat) : Int) < (m.length : Int) := by omega
        rw [ei]
        simp only [g3, g4, g5, if_true]
        by_cases c3 : (rd_T37 m i).f0 ≤ (rd_T37 m (i - 1 : Nat)).f0
        · have c3' : (rd_T37 m (i - 1 : Nat)).f0 ≥ (rd_T37 m i).f0 := c3
          simp only [c3, c3', if_true]
          exact ⟨_, rfl, rfl, fun h => by cases h⟩
        · have c3' : ¬ (rd_T37 m (i - 1 : Nat)).f0 ≥ (rd_T37 m i).f0 := c3
          simp only [c3, c3', if_false]
          by_cases c4 : (rd_T37 m i).f1 < (rd_T37 m (i - 1 : Nat)).f1
          · have c4' : (rd_T37 m (i - 1 : Nat)).f1 > (rd_T37 m i).f1 := c4
            simp only [c4, c4', if_true]
            exact ⟨_, rfl, rfl, fun h => by cases h⟩
          · have c4' : ¬ (rd_T37 m (i - 1 : Nat)).f1 > (rd_T37 m i).f1 := c4
            simp only [c4, c4', if_false]
            exact ⟨r, rfl, rfl, fin c (fun _ => by omega)⟩
    · simp only [c, decide_false, Bool.false_eq_true, if_false]
      exact ⟨_, rfl, rfl, fun h => by cases h⟩
theorem shape_f (m : List S37) (hm : SmP m) (hl : m.length ≤ 1048576) (k : Nat) (hk : m.length < k) : ∃ r, spec_l02Shape.f k m = some r ∧ impl_isCurve.f k m = some r ∧ (r = true → Shp m 0) :=
  shape_l m hm hl m.length k 0 (by omega) (by omega) hk
theorem cur_f (m : List S37) (hm : SmP m) (hl : m.length ≤ 1048576) (k : Nat) (hk : m.length < k) : ∃ r, spec_l02Ok.f k m = some r ∧ impl_ValidCurve.f k m = some r ∧ (r = true → Cur m) := by
  obtain ⟨r, e1, e2, e3⟩ := shape_f m hm hl k hk
  unfold spec_l02Ok.f impl_ValidCurve.f
  simp only [e1, e2, Option.bind_some]
  cases r with
  | true =>
    simp only [if_true]
    exact ⟨_, rfl, rfl, fun h => ⟨by have := of_decide_eq_true h; omega, e3 rfl⟩⟩
  | false =>
    simp only [Bool.false_eq_true, if_false]
    exact ⟨_, rfl, rfl, fun h => by cases h⟩
theorem shp_mono {m : List S37} (h : Shp m 0) (j : Nat) : ∀ i : Nat, i ≤ j → j < m.length → (rd_T37 m i).f0 ≤ (rd_T37 m j).f0 ∧ (rd_T37 m i).f1 ≤ (rd_T37 m j).f1 := by
  induction j with
  | zero =>
    intro i hi hj
    obtain rfl : i = 0 := by omega
    exact ⟨Int.le_refl _, Int.le_refl _⟩
  | succ j ih =>
    intro i hi hj
    by_cases e : i = j + 1
    · subst e
      exact ⟨Int.le_refl _, Int.le_refl _⟩
    · obtain ⟨a1, a2⟩ := ih i (by omega) (by omega)
      obtain ⟨_, b⟩ := h.2 (j + 1) (by omega) hj
      obtain ⟨b1, b2⟩ := b (by omega)
      rw [show j + 1 - 1 = j by omega] at b1 b2
      omega
theorem shp_pt {m : List S37} (h : Shp m 0) (i : Nat) (hi : i < m.length) : Pt (rd_T37 m i) := (h.2 i (by omega) hi).1
theorem shp_next {m : List S37} (h : Shp m 0) (i : Nat) (hi : i + 1 < m.length) : (rd_T37 m i).f0 < (rd_T37 m (i + 1 : Nat)).f0 ∧ (rd_T37 m i).f1 ≤ (rd_T37 m (i + 1 : Nat)).f1 := by
  have := (h.2 (i + 1) (by omega) hi).2 (by omega)
  rw [show i + 1 - 1 = i by omega] at this
  exact this
theorem up {α : Type} {g : Nat → Option α} (h : ∀ k, LeO (g k) (g (k + 1))) {r q : α} (i j : Nat) (hr : g i = some r) (hq : g j = some q) : g j = some r := by
  have a := at_rounds h (Nat.le_max_left i j) hr
  have b := at_rounds h (Nat.le_max_right i j) hq
  rw [a] at b
  rw [hq, Option.some.inj b]
/-- the density between two points -/
def seg (p q : S37) (x : Int) : Int := p.f1 + (q.f1 - p.f1) * (x - p.f0) / (q.f0 - p.f0)
theorem seg_bd {p q : S37} {x : Int} (h1 : p.f0 ≤ x) (h2 : x ≤ q.f0) (h3 : p.f0 < q.f0) (h4 : p.f1 ≤ q.f1) : p.f1 ≤ seg p q x ∧ seg p q x ≤ q.f1 := by
  unfold seg
  have a1 : 0 ≤ (q.f1 - p.f1) * (x - p.f0) := Int.mul_nonneg (by omega) (by omega)
  have a2 : (q.f1 - p.f1) * (x - p.f0) ≤ (q.f1 - p.f1) * (q.f0 - p.f0) := Int.mul_le_mul_of_nonneg_left (by omega) (by omega)
  have b1 : 0 ≤ (q.f1 - p.f1) * (x - p.f0) / (q.f0 - p.f0) := Int.ediv_nonneg a1 (by omega)
  have b2 : (q.f1 - p.f1) * (x - p.f0) / (q.f0 - p.f0) ≤ (q.f1 - p.f1) * (q.f0 - p.f0) / (q.f0 - p.f0) := Int.ediv_le_ediv (by omega) a2
  rw [Int.mul_ediv_cancel _ (by omega)] at b2
  omega
theorem seg_mono {p q : S37} {x y : Int} (h : x ≤ y) (h3 : p.f0 < q.f0) (h4 : p.f1 ≤ q.f1) : seg p q x ≤ seg p q y := by
  unfold seg
  have a2 : (q.f1 - p.f1) * (x - p.f0) ≤ (q.f1 - p.f1) * (y - p.f0) := Int.mul_le_mul_of_nonneg_left (by omega) (by omega)
  have b2 := Int.ediv_le_ediv (c := q.f0 - p.f0) (by omega) a2
  omega
def IsAt (m : List S37) (x r : Int) : Prop :=
  (x ≤ (rd_T37 m (0 : Nat)).f0 ∧ r = (rd_T37 m (0 : Nat)).f1) ∨ ((rd_T37 m (0 : Nat)).f0 < x ∧ (rd_T37 m (m.length - 1 : Nat)).f0 ≤ x ∧ r = (rd_T37 m (m.length - 1 : Nat)).f1) ∨
    ∃ i : Nat, i + 1 < m.length ∧ (rd_T37 m (0 : Nat)).f0 < x ∧ (rd_T37 m i).f0 ≤ x ∧ x < (rd_T37 m (i + 1 : Nat)).f0 ∧ r = seg (rd_T37 m i) (rd_T37 m (i + 1 : Nat)) x
theorem isat_mono {m : List S37} (h : Shp m 0) {x y r s : Int} (hx : IsAt m x r) (hy : IsAt m y s) (hxy : x ≤ y) : r ≤ s := by
  have hl := h.1
  have top := shp_mono h (m.length - 1) 0 (by omega) (by omega)
  rcases hx with ⟨x1, rfl⟩ | ⟨x1, x2, rfl⟩ | ⟨i, i1, x1, x2, x3, rfl⟩
  · rcases hy with ⟨y1, rfl⟩ | ⟨y1, y2, rfl⟩ | ⟨j, j1, y1, y2, y3, rfl⟩
    · exact Int.le_refl _
    · exact top.2
    · have n := shp_next h j j1
      have b := seg_bd y2 (Int.le_of_lt y3) n.1 n.2
      have c := shp_mono h j 0 (by omega) (by omega)
      omega
  · rcases hy with ⟨y1, rfl⟩ | ⟨y1, y2, rfl⟩ | ⟨j, j1, y1, y2, y3, rfl⟩
    · omega
    · exact Int.le_refl _
    · have c := shp_mono h (m.length - 1) (j + 1) (by omega) (by omega)
      omega
  · have n := shp_next h i i1
    have b := seg_bd x2 (Int.le_of_lt x3) n.1 n.2
    rcases hy with ⟨y1, rfl⟩ | ⟨y1, y2, rfl⟩ | ⟨j, j1, y1, y2, y3, rfl⟩
    · omega
    · have c := shp_mono h (m.length - 1) (i + 1) (by omega) (by omega)
      omega
    · have n' := shp_next h j j1
      have b' := seg_bd y2 (Int.le_of_lt y3) n'.1 n'.2
      by_cases e : i = j
      · subst e
        exact seg_mono hxy n.1 n.2
      · by_cases e' : i < j
        · have c := shp_mono h j (i + 1) (by omega) (by omega)
          omega
        · have c := shp_mono h i (j + 1) (by omega) (by omega)
          omega
theorem isat_bd {m : List S37} (h : Shp m 0) {x r : Int} (hx : IsAt m x r) : (rd_T37 m (0 : Nat)).f1 ≤ r ∧ r ≤ (rd_T37 m (m.length - 1 : Nat)).f1 := by
  have hl := h.1
  have top := shp_mono h (m.length - 1) 0 (by omega) (by omega)
  rcases hx with ⟨x1, rfl⟩ | ⟨x1, x2, rfl⟩ | ⟨i, i1, x1, x2, x3, rfl⟩
  · omega
  · omega
  · have n := shp_next h i i1
    have b := seg_bd x2 (Int.le_of_lt x3) n.1 n.2
    have c := shp_mono h (m.length - 1) (i + 1) (by omega) (by omega)
    have c' := shp_mono h i 0 (by omega) (by omega)
    omega
theorem at_l (m : List S37) (h : Cur m) (x : Int) (hx : -1000000 ≤ x ∧ x ≤ 1000000) (h0 : (rd_T37 m (0 : Nat)).f0 < x) (hlast : x < (rd_T37 m (m.length - 1 : Nat)).f0) (d : Nat) : ∀ (k i : Nat), i + 1 < m.length → m.length - i = d → d < k → (rd_T37 m i).f0 ≤ x →
    ∃ r, spec_l02At.l0 k m x i = some r ∧ impl_Curve_at.l0 k m x ((i : Int) + 1) = some r ∧ IsAt m x r := by
  induction d with
  | zero => intro k i hi hd hk hr; omega
  | succ d ih =>
    intro k i hi hd hk hr
    obtain ⟨k, rfl⟩ : ∃ n, k = n + 1 := ⟨k - 1, by omega⟩
    obtain ⟨hlen, hs⟩ := h
    have p1 := shp_pt hs i (by omega)
    have p2 := shp_pt hs (i + 1) hi
    obtain ⟨p11, p12⟩ := p1
    obtain ⟨p21, p22⟩ := p2
    have n := shp_next hs i hi
    have g1 : 0 ≤ (i : Int) + 1 := by omega
    have g2 : (i : Int) + 1 < (m.length : Int) := by omega
    have g3 : 0 ≤ (i : Int) := by omega
    have g4 : (i : Int) < (m.length : Int) := by omega
    have ec : ((i : Int) + 1) = ((i + 1 : Nat) : Int) := by omega
    simp only [spec_l02At.l0, impl_Curve_at.l0]
    rw [w64 (x := (i : Int) + 1) (by omega) (by omega), w64 (x := (i : Int) + 1 + 1) (by omega) (by omega), w64 (x := (i : Int) + 1 - 1) (by omega) (by omega), show (i : Int) + 1 - 1 = (i : Int) by omega]
    simp only [g1, g2, g3, g4, if_true]
    rw [ec, w64 (x := (rd_T37 m (i + 1 : Nat)).f0) (by omega) (by omega)]
    by_cases c : (rd_T37 m (i + 1 : Nat)).f0 ≤ x
    · simp only [c, if_true]
      by_cases e : i + 1 + 1 < m.length
      · obtain ⟨r, r1, r2, r3⟩ := ih k (i + 1) e (by omega) (by omega) c
        exact ⟨r, r1, r2, r3⟩
      · rw [show m.length - 1 = i + 1 by omega] at hlast
        omega
    · simp only [c, if_false]
      rw [w64 (x := (rd_T37 m i).f0) (by omega) (by omega), w64 (x := (rd_T37 m (i + 1 : Nat)).f1) (by omega) (by omega), w64 (x := (rd_T37 m i).f1) (by omega) (by omega)]
      rw [i16w (x := (rd_T37 m (i + 1 : Nat)).f0 - (rd_T37 m i).f0) (by omega) (by omega), i16w (x := (rd_T37 m (i + 1 : Nat)).f1 - (rd_T37 m i).f1) (by omega) (by omega)]
      have q1 : 0 ≤ ((rd_T37 m (i + 1 : Nat)).f1 - (rd_T37 m i).f1) * (x - (rd_T37 m i).f0) := Int.mul_nonneg (by omega) (by omega)
      have q2 : ((rd_T37 m (i + 1 : Nat)).f1 - (rd_T37 m i).f1) * (x - (rd_T37 m i).f0) ≤ 400 * 400 := Int.mul_le_mul (by omega) (by omega) (by omega) (by omega)
      rw [w64 (x := (rd_T37 m (i + 1 : Nat)).f0 - (rd_T37 m i).f0) (by omega) (by omega), w64 (x := (rd_T37 m (i + 1 : Nat)).f1 - (rd_T37 m i).f1) (by omega) (by omega), w64 (x := x - (rd_T37 m i).f0) (by omega) (by omega), w64 (x := ((rd_T37 m (i + 1 : Nat)).f1 - (rd_T37 m i).f1) * (x - (rd_T37 m i).f0)) (by omega) (by omega), Int.tdiv_eq_ediv_of_nonneg q1]
      have b := seg_bd hr (show x ≤ (rd_T37 m (i + 1 : Nat)).f0 by omega) n.1 n.2
      have eb : (rd_T37 m i).f1 + ((rd_T37 m (i + 1 : Nat)).f1 - (rd_T37 m i).f1) * (x - (rd_T37 m i).f0) / ((rd_T37 m (i + 1 : Nat)).f0 - (rd_T37 m i).f0) = seg (rd_T37 m i) (rd_T37 m (i + 1 : Nat)) x := rfl
      rw [w64 (x := ((rd_T37 m (i + 1 : Nat)).f1 - (rd_T37 m i).f1) * (x - (rd_T37 m i).f0) / ((rd_T37 m (i + 1 : Nat)).f0 - (rd_T37 m i).f0)) (by omega) (by omega), eb, w64 (x := seg (rd_T37 m i) (rd_T37 m (i + 1 : Nat)) x) (by omega) (by omega)]
      have g5 : ¬ (rd_T37 m (i + 1 : Nat)).f0 - (rd_T37 m i).f0 = 0 := by omega
      simp only [g5, if_false]
      exact ⟨_, rfl, rfl, .inr (.inr ⟨i, hi, h0, hr, by omega, rfl⟩)⟩
theorem at_k (m : List S37) (h : Cur m) (x : Int) (hx : -1000000 ≤ x ∧ x ≤ 1000000) (k : Nat) (hk : 13 < k) : ∃ r, spec_l02At.f k m x = some r ∧ impl_Curve_at.f k m x = some r ∧ IsAt m x r := by
  obtain ⟨hlen, hs⟩ := h
  have hl := hs.1
  obtain ⟨p11, p12⟩ := shp_pt hs 0 (by omega)
  obtain ⟨p21, p22⟩ := shp_pt hs (m.length - 1) (by omega)
  unfold spec_l02At.f impl_Curve_at.f
  have g1 : 0 < (m.length : Int) := by omega
  have g2 : 0 ≤ ((m.length - 1 : Nat) : Int) := by omega
  have g3 : ((m.length - 1 : Nat) : Int) < (m.length : Int) := by omega
  rw [w64 (x := (m.length : Int) - 1) (by omega) (by omega), show ((m.length : Int) - 1) = ((m.length - 1 : Nat) : Int) by omega]
  have z : rd_T37 m 0 = rd_T37 m (0 : Nat) := rfl
  rw [z, w64 (x := (rd_T37 m (0 : Nat)).f0) (by omega) (by omega), w64 (x := (rd_T37 m (0 : Nat)).f1) (by omega) (by omega), w64 (x := (rd_T37 m (m.length - 1 : Nat)).f0) (by omega) (by omega), w64 (x := (rd_T37 m (m.length - 1 : Nat)).f1) (by omega) (by omega)]
  simp only [g1, g2, g3, if_true]
  by_cases c : x ≤ (rd_T37 m (0 : Nat)).f0
  · simp only [c, if_true]
    exact ⟨_, rfl, rfl, .inl ⟨c, rfl⟩⟩
  · simp only [c, if_false]
    by_cases c2 : x ≥ (rd_T37 m (m.length - 1 : Nat)).f0
    · simp only [c2, if_true]
      exact ⟨_, rfl, rfl, .inr (.inl ⟨by omega, c2, rfl⟩)⟩
    · simp only [c2, if_false]
      have hne : 0 + 1 < m.length := by
        by_cases e : m.length = 1
        · rw [e] at c2
          exact absurd (show x ≥ (rd_T37 m (0 : Nat)).f0 by omega) c2
        · omega
      exact at_l m ⟨hlen, hs⟩ x hx (by omega) (by omega) m.length k 0 hne (by omega) (by omega) (by omega)
def atV (m : List S37) (x : Int) : Int := (spec_l02At.f 20 m x).getD 0
theorem at_f (m : List S37) (h : Cur m) (x : Int) (hx : -1000000 ≤ x ∧ x ≤ 1000000) : (∀ k, 13 < k → spec_l02At.f k m x = some (atV m x) ∧ impl_Curve_at.f k m x = some (atV m x)) ∧ IsAt m x (atV m x) ∧ 0 ≤ atV m x ∧ atV m x ≤ 400 := by
  obtain ⟨r, r1, r2, r3⟩ := at_k m h x hx 20 (by omega)
  have e : atV m x = r := by unfold atV; rw [r1]; rfl
  have b := isat_bd h.2 r3
  obtain ⟨_, p12⟩ := shp_pt h.2 0 h.2.1
  obtain ⟨_, p22⟩ := shp_pt h.2 (m.length - 1) (by have := h.2.1; omega)
  rw [e]
  refine ⟨fun k hk => ?_, r3, by omega, by omega⟩
  obtain ⟨s, s1, s2, _⟩ := at_k m h x hx k hk
  exact ⟨up (spec_l02At.mono m x) 20 k r1 s1, up (impl_Curve_at.mono m x) 20 k r2 s2⟩
theorem szs_f {x : Int} (h : -1000000 < x ∧ x < 1000000) : spec_l01Size.f x = some (if x < 0 then -x else x) ∧ impl_size.f x = some (if x < 0 then -x else x) := by
  constructor
  · unfold spec_l01Size.f
    rw [w64 (by omega) (by omega)]
    split <;> rfl
  · unfold impl_size.f mx
    rw [w64 (by omega) (by omega)]
    by_cases c : x < 0
    · rw [if_pos (by omega), if_pos c]
    · by_cases e : x = 0
      · subst e; rfl
      · rw [if_neg (by omega), if_neg c]
def gp (a b : List S37) (x : Int) : Int := atV b x - atV a x
def ab (x : Int) : Int := if x < 0 then -x else x
/-- the first place up to n at which densities differ most -/
def IsGap (a b : List S37) (n p g : Int) : Prop := -200 ≤ p ∧ p ≤ n ∧ g = gp a b p ∧ (∀ j, -200 ≤ j → j ≤ n → ab (gp a b j) ≤ ab g) ∧ (∀ j, -200 ≤ j → j < p → ab (gp a b j) < ab g)
theorem gap_l (a b : List S37) (ha : Cur a) (hb : Cur b) (d : Nat) : ∀ (k : Nat) (x p g : Int), -199 ≤ x → x ≤ 201 → 201 - x = d → d + 20 < k → IsGap a b (x - 1) p g →
    ∃ z, spec_l02Gap.l0 k a b p g x = some z ∧ impl_gap.l0 k a b p g x = some z ∧ IsGap a b 200 z.1 z.2 := by
  induction d with
  | zero =>
    intro k x p g h0 h1 hd hk hg
    obtain ⟨k, rfl⟩ : ∃ n, k = n + 1 := ⟨k - 1, by omega⟩
    simp only [spec_l02Gap.l0, impl_gap.l0, impl_isPlace.f, within_f, Option.bind_some]
    have g1 : ¬ x ≤ 200 := by omega
    simp only [g1, and_false, decide_false, Bool.false_eq_true, if_false]
    rw [show x - 1 = 200 by omega] at hg
    exact ⟨_, rfl, rfl, hg⟩
  | succ d ih =>
    intro k x p g h0 h1 hd hk hg
    obtain ⟨k, rfl⟩ : ∃ n, k = n + 1 := ⟨k - 1, by omega⟩
    have hg' := hg
    obtain ⟨q0, q1, q2, q3, q4⟩ := hg'
    obtain ⟨a1, _, a2, a3⟩ := at_f a ha x (by omega)
    obtain ⟨b1, _, b2, b3⟩ := at_f b hb x (by omega)
    obtain ⟨_, _, a4, a5⟩ := at_f a ha p (by omega)
    obtain ⟨_, _, b4, b5⟩ := at_f b hb p (by omega)
    have gb : -400 ≤ g ∧ g ≤ 400 := by rw [q2]; unfold gp; omega
    have xb : -400 ≤ gp a b x ∧ gp a b x ≤ 400 := by unfold gp; omega
    simp only [spec_l02Gap.l0, impl_gap.l0, impl_isPlace.f, within_f, Option.bind_some, (a1 k (by omega)).1, (a1 k (by omega)).2, (b1 k (by omega)).1, (b1 k (by omega)).2]
    have eg : atV b x - atV a x = gp a b x := rfl
    rw [w64 (x := atV b x - atV a x) (by omega) (by omega), w64 (x := x + 1) (by omega) (by omega), eg, (szs_f (x := gp a b x) (by omega)).1, (szs_f (x := gp a b x) (by omega)).2, (szs_f (x := g) (by omega)).1, (szs_f (x := g) (by omega)).2]
    have g1 : x ≤ 200 := by omega
    have g2 : -200 ≤ x := by omega
    simp only [g1, g2, and_self, decide_true, if_true, Option.bind_some]
    have ex : (if gp a b x < 0 then -gp a b x else gp a b x) = ab (gp a b x) := rfl
    have eg' : (if g < 0 then -g else g) = ab g := rfl
    rw [ex, eg']
    by_cases c : ab (gp a b x) > ab g
    · simp only [c, if_true]
      refine ih k (x + 1) x (gp a b x) (by omega) (by omega) (by omega) (by omega) ⟨by omega, by omega, rfl, fun j j0 j1 => ?_, fun j j0 j1 => ?_⟩
      · by_cases e : j = x
        · rw [e]; exact Int.le_refl _
        · have := q3 j j0 (by omega); omega
      · have := q3 j j0 (by omega); omega
    · simp only [c, if_false]
      refine ih k (x + 1) p g (by omega) (by omega) (by omega) (by omega) ⟨q0, by omega, q2, fun j j0 j1 => ?_, q4⟩
      by_cases e : j = x
      · rw [e]; omega
      · exact q3 j j0 (by omega)
theorem gap_f (a b : List S37) (ha : Cur a) (hb : Cur b) (k : Nat) (hk : 500 < k) : ∃ z, spec_l02Gap.f k a b = some z ∧ impl_gap.f k a b = some z ∧ IsGap a b 200 z.1 z.2 := by
  obtain ⟨a1, _, a2, a3⟩ := at_f a ha (-200) (by omega)
  obtain ⟨b1, _, b2, b3⟩ := at_f b hb (-200) (by omega)
  have xb : -400 ≤ gp a b (-200) ∧ gp a b (-200) ≤ 400 := by unfold gp; omega
  obtain ⟨k, rfl⟩ : ∃ n, k = n + 1 := ⟨k - 1, by omega⟩
  have start : IsGap a b (-200) (-200) (gp a b (-200)) := ⟨by omega, by omega, rfl, fun j j0 j1 => by rw [show j = -200 by omega]; exact Int.le_refl _, fun j j0 j1 => by omega⟩
  obtain ⟨z, z1, z2, z3⟩ := gap_l a b ha hb 400 k (-199) (-200) (gp a b (-200)) (by omega) (by omega) (by omega) (by omega) start
  obtain ⟨z', z1', z2', z3'⟩ := gap_l a b ha hb 400 (k + 1) (-199) (-200) (gp a b (-200)) (by omega) (by omega) (by omega) (by omega) start
  have ez : z' = z := by
    have := spec_l02Gap.mono_l k a b (-200) (gp a b (-200)) (-199) z z1
    rw [z1'] at this
    exact Option.some.inj this
  subst ez
  refine ⟨z', ?_, ?_, z3⟩
  · unfold spec_l02Gap.f
    rw [(b1 (k + 1) (by omega)).1, (a1 (k + 1) (by omega)).1]
    simp only [Option.bind_some]
    rw [w64 (by omega) (by omega)]
    exact z1'
  · unfold impl_gap.f
    simp only [impl_gap.l0, impl_isPlace.f, within_f, Option.bind_some]
    have eg : atV b (-200) - atV a (-200) = gp a b (-200) := rfl
    rw [(b1 k (by omega)).2, (a1 k (by omega)).2]
    simp only [Option.bind_some]
    rw [w64 (by omega) (by omega), eg, (szs_f (x := gp a b (-200)) (by omega)).2, (szs_f (x := 0) (by omega)).2, w64 (x := -200 + 1) (by omega) (by omega)]
    simp only [Option.bind_some]
    rw [if_pos (by decide)]
    have s0 : IsGap a b (-200) (-200) (gp a b (-200)) := start
    by_cases c : gp a b (-200) = 0
    · rw [c] at z2 ⊢
      rw [if_neg (by simp)]
      exact z2
    · rw [if_pos (by split <;> simp <;> omega)]
      exact z2
theorem gap_one {a b : List S37} {n p g p' g' : Int} (h : IsGap a b n p g) (h' : IsGap a b n p' g') : p = p' ∧ g = g' := by
  obtain ⟨h0, h1, h2, h3, h4⟩ := h
  obtain ⟨q0, q1, q2, q3, q4⟩ := h'
  have e : p = p' := by
    rcases Int.lt_trichotomy p p' with c | c | c
    · have a1 := q4 p h0 c
      have a2 := h3 p' q0 q1
      rw [← h2] at a1
      rw [← q2] at a2
      omega
    · exact c
    · have a1 := h4 p' q0 c
      have a2 := q3 p h0 h1
      rw [← q2] at a1
      rw [← h2] at a2
      omega
  subst e
  exact ⟨rfl, h2.trans q2.symm⟩
theorem erase_td (m : List S37) (i : Nat) : ([] ++ m.take i) ++ m.drop (i + 1) = m.eraseIdx i := by
  rw [List.nil_append, List.eraseIdx_eq_take_drop_succ]
theorem rd_erase (m : List S37) (i j : Nat) : rd_T37 (m.eraseIdx i) j = if j < i then rd_T37 m j else rd_T37 m (j + 1 : Nat) := by
  simp only [rd_T37, Int.toNat_natCast, List.getD_eq_getElem?_getD, List.getElem?_eraseIdx]
  by_cases c : j < i
  · rw [if_pos c, if_pos c]
  · rw [if_neg c, if_neg c]
theorem cur_erase {m : List S37} (h : Cur m) (h2 : 2 ≤ m.length) (i : Nat) (hi : i < m.length) : Cur (m.eraseIdx i) ∧ (m.eraseIdx i).length = m.length - 1 := by
  have hl : (m.eraseIdx i).length = m.length - 1 := List.length_eraseIdx_of_lt hi
  obtain ⟨c1, c2, c3⟩ := h
  refine ⟨⟨by omega, by omega, fun j _ hj => ?_⟩, hl⟩
  rw [hl] at hj
  rw [rd_erase]
  by_cases c : j < i
  · rw [if_pos c]
    have := c3 j (by omega) (by omega)
    refine ⟨this.1, fun j0 => ?_⟩
    rw [rd_erase, if_pos (by omega)]
    exact this.2 j0
  · rw [if_neg c]
    have t := c3 (j + 1) (by omega) (by omega)
    refine ⟨t.1, fun j0 => ?_⟩
    have t2 := t.2 (by omega)
    rw [show j + 1 - 1 = j by omega] at t2
    rw [rd_erase]
    by_cases e : j - 1 < i
    · rw [if_pos e]
      have u := (c3 j (by omega) (by omega)).2 j0
      constructor
      · have := t2.1; have := u.1; omega
      · have := t2.2; have := u.2; omega
    · rw [if_neg e, show j - 1 + 1 = j by omega]
      exact t2
theorem ab_b {a b : List S37} (ha : Cur a) (hb : Cur b) {p g : Int} (h : IsGap a b 200 p g) : -400 ≤ g ∧ g ≤ 400 := by
  obtain ⟨h0, h1, h2, _⟩ := h
  obtain ⟨_, _, a2, a3⟩ := at_f a ha p (by omega)
  obtain ⟨_, _, b2, b3⟩ := at_f b hb p (by omega)
  rw [h2]
  unfold gp
  omega
def Fit (c m : List S37) (w : Int) : Prop := ∃ p g, IsGap c m 200 p g ∧ ab g ≤ w
theorem fit_gap {c m : List S37} (hc : Cur c) (hm : Cur m) (w : Int) (k : Nat) (hk : 500 < k) : ∃ p g s, spec_l02Gap.f k c m = some (p, g) ∧ impl_gap.f k c m = some (p, g) ∧ spec_l01Size.f g = some s ∧ impl_size.f g = some s ∧ (s ≤ w ↔ Fit c m w) := by
  obtain ⟨⟨p, g⟩, e1, e2, e3⟩ := gap_f c m hc hm k hk
  have b := ab_b hc hm e3
  obtain ⟨f1, f2⟩ := szs_f (x := g) (by omega)
  refine ⟨p, g, _, e1, e2, f1, f2, ?_⟩
  constructor
  · exact fun h => ⟨p, g, e3, h⟩
  · rintro ⟨p', g', h1, h2⟩
    obtain ⟨_, rfl⟩ := gap_one e3 h1
    exact h2
theorem smp_one (c m : List S37) (w : Int) (hc : Cur c) (hm : Cur m) (i : Nat) (hi : i < m.length) (h2 : 2 ≤ m.length) (he : Cur (m.eraseIdx i)) (K : Nat) (hK : 500 < K) : ∃ s, (s ≤ w ↔ Fit c (m.eraseIdx i) w) ∧ spec_SimplerCurve.l0 (K + 1 + 1) c w m i = (if s ≤ w then spec_SimplerCurve.l0 K c w (m.eraseIdx i) 0 else spec_SimplerCurve.l0 K c w m ((i : Int) + 1)) := by
  have mlen := hm.1
  obtain ⟨p, g, s, e1, e2, f1, f2, f3⟩ := fit_gap hc he w K hK
  refine ⟨s, f3, ?_⟩
  simp only [spec_SimplerCurve.l0]
  rw [if_pos (by omega), show decide ((m.length : Int) > 1) = true from decide_eq_true (by omega)]
  have b1 : ([] : List S37).length + (m.take i).length < 35184372088832 := by rw [List.length_nil, List.length_take]; omega
  have b2 : (([] : List S37) ++ m.take i).length + (m.drop (i + 1)).length < 35184372088832 := by rw [List.length_append, List.length_nil, List.length_take, List.length_drop]; omega
  have g0 : (0 : Int) ≤ i := by omega
  have g1 : (i : Int) ≤ (m.length : Int) := by omega
  have g2 : (0 : Int) ≤ (i : Int) + 1 := by omega
  have g3 : (i : Int) + 1 ≤ (m.length : Int) := by omega
  have t : ((i : Int) + 1).toNat = i + 1 := by omega
  have m1 : ((-1 : Int) + 1) = 0 := by decide
  simp only [spec_SimplerCurve.j1]
  rw [if_pos trivial, Option.bind_some, if_pos g0, if_pos g1, Int.toNat_natCast, Option.bind_some, if_pos b1, Option.bind_some, w64 (x := (i : Int) + 1) (by omega) (by omega), if_pos g2, if_pos g3, t, Option.bind_some, if_pos b2, Option.bind_some, erase_td, e1, Option.bind_some, f1, Option.bind_some, m1]
theorem smp_two (c m : List S37) (w : Int) (hc : Cur c) (hm : Cur m) (i : Nat) (hi : i < m.length) (h2 : 2 ≤ m.length) (he : Cur (m.eraseIdx i)) (k : Nat) (hk : 500 < k) : ∃ s, (s ≤ w ↔ Fit c (m.eraseIdx i) w) ∧ impl_simpler.l0 (k + 1) c m w i = (if s ≤ w then some (m.eraseIdx i, true) else impl_simpler.l0 k c m w (i + 1)) := by
  have mlen := hm.1
  have hlen : (m.eraseIdx i).length = m.length - 1 := List.length_eraseIdx_of_lt (by omega)
  have cl : impl_Point_79.f m = some m := if_pos (by omega)
  obtain ⟨p, g, s, e1, e2, f1, f2, f3⟩ := fit_gap hc he w k hk
  refine ⟨s, f3, ?_⟩
  simp only [impl_simpler.l0, cl, Option.bind_some]
  rw [if_pos (by omega), if_neg (by omega), e2]
  simp only [Option.bind_some, f2]
/-- what stands at one stage, from point i on -/
theorem smp_stage (c m : List S37) (w : Int) (hc : Cur c) (hm : Cur m) (d : Nat) : ∀ (i : Nat), i ≤ m.length → m.length - i = d →
    (∃ j, i ≤ j ∧ j < m.length ∧ 2 ≤ m.length ∧ Fit c (m.eraseIdx j) w ∧ (∀ k : Nat, 600 + d < k → impl_simpler.l0 k c m w i = some (m.eraseIdx j, true)) ∧ (∀ K : Nat, 600 < K → spec_SimplerCurve.l0 (K + 2 * (j - i + 1)) c w m i = spec_SimplerCurve.l0 K c w (m.eraseIdx j) 0)) ∨
    ((2 ≤ m.length → ∀ j, i ≤ j → j < m.length → ¬ Fit c (m.eraseIdx j) w) ∧ (∀ k : Nat, 600 + d < k → impl_simpler.l0 k c m w i = some ([], false)) ∧ (∀ K : Nat, 600 + 2 * d < K → spec_SimplerCurve.l0 K c w m i = some (m, (c.length : Int) - (m.length : Int), 0))) := by
  have mlen := hm.1
  have clen := hc.1
  have mpos := hm.2.1
  induction d with
  | zero =>
    intro i h0 hd
    refine .inr ⟨fun _ j j0 j1 => by omega, fun k hk => ?_, fun K hK => ?_⟩
    · obtain ⟨k, rfl⟩ : ∃ n, k = n + 1 := ⟨k - 1, by omega⟩
      simp only [impl_simpler.l0]
      rw [if_neg (by omega)]
    · obtain ⟨K, rfl⟩ : ∃ n, K = n + 1 + 1 := ⟨K - 2, by omega⟩
      simp only [spec_SimplerCurve.l0]
      rw [if_neg (by omega)]
      simp only [spec_SimplerCurve.j1]
      rw [if_neg (by decide), w64 (by omega) (by omega)]
  | succ d ih =>
    intro i h0 hd
    have hlen : (m.eraseIdx i).length = m.length - 1 := List.length_eraseIdx_of_lt (by omega)
    have cl : impl_Point_79.f m = some m := if_pos (by omega)
    by_cases h1 : m.length = 1
    · refine .inr ⟨fun h => by omega, fun k hk => ?_, fun K hK => ?_⟩
      · obtain ⟨k, rfl⟩ : ∃ n, k = n + 1 := ⟨k - 1, by omega⟩
        simp only [impl_simpler.l0, cl, Option.bind_some]
        rw [if_pos (by omega), if_pos (by omega)]
      · obtain ⟨K, rfl⟩ : ∃ n, K = n + 1 + 1 := ⟨K - 2, by omega⟩
        simp only [spec_SimplerCurve.l0]
        rw [if_pos (by omega), show decide ((m.length : Int) > 1) = false from decide_eq_false (by omega)]
        simp only [spec_SimplerCurve.j1]
        rw [if_neg (by decide), w64 (by omega) (by omega)]
    · have h2 : 2 ≤ m.length := by omega
      obtain ⟨he, _⟩ := cur_erase hm h2 i (by omega)
      have one := smp_one c m w hc hm i (by omega) h2 he
      have two := smp_two c m w hc hm i (by omega) h2 he
      by_cases hf : Fit c (m.eraseIdx i) w
      · refine .inl ⟨i, Nat.le_refl _, by omega, h2, hf, fun k hk => ?_, fun K hK => ?_⟩
        · obtain ⟨k, rfl⟩ : ∃ n, k = n + 1 := ⟨k - 1, by omega⟩
          obtain ⟨s, s1, s2⟩ := two k (by omega)
          rw [s2, if_pos (s1.mpr hf)]
        · obtain ⟨s, s1, s2⟩ := one K (by omega)
          rw [show K + 2 * (i - i + 1) = K + 1 + 1 by omega, s2, if_pos (s1.mpr hf)]
      · rcases ih (i + 1) (by omega) (by omega) with ⟨j, j0, j1, j2, j3, j4, j5⟩ | ⟨q1, q2, q3⟩
        · refine .inl ⟨j, by omega, j1, j2, j3, fun k hk => ?_, fun K hK => ?_⟩
          · obtain ⟨k, rfl⟩ : ∃ n, k = n + 1 := ⟨k - 1, by omega⟩
            obtain ⟨s, s1, s2⟩ := two k (by omega)
            rw [s2, if_neg (fun h => hf (s1.mp h))]
            exact j4 k (by omega)
          · obtain ⟨s, s1, s2⟩ := one (K + 2 * (j - (i + 1) + 1)) (by omega)
            rw [show K + 2 * (j - i + 1) = (K + 2 * (j - (i + 1) + 1)) + 1 + 1 by omega, s2, if_neg (fun h => hf (s1.mp h)), show ((i : Int) + 1) = ((i + 1 : Nat) : Int) by omega]
            exact j5 K hK
        · refine .inr ⟨fun _ j j0 j1 => ?_, fun k hk => ?_, fun K hK => ?_⟩
          · by_cases e : j = i
            · rw [e]; exact hf
            · exact q1 h2 j (by omega) j1
          · obtain ⟨k, rfl⟩ : ∃ n, k = n + 1 := ⟨k - 1, by omega⟩
            obtain ⟨s, s1, s2⟩ := two k (by omega)
            rw [s2, if_neg (fun h => hf (s1.mp h))]
            exact q2 k (by omega)
          · obtain ⟨K, rfl⟩ : ∃ n, K = n + 1 + 1 := ⟨K - 2, by omega⟩
            obtain ⟨s, s1, s2⟩ := one K (by omega)
            rw [s2, if_neg (fun h => hf (s1.mp h)), show ((i : Int) + 1) = ((i + 1 : Nat) : Int) by omega]
            exact q3 K (by omega)
theorem smp_all (c : List S37) (w : Int) (hc : Cur c) (n : Nat) : ∀ (m : List S37) (cnt : Int), m.length = n → Cur m → cnt = (c.length : Int) - (m.length : Int) → 0 ≤ cnt → Fit c m w →
    ∃ r, Cur r ∧ r.length ≤ n ∧ Fit c r w ∧ (2 ≤ r.length → ∀ j, j < r.length → ¬ Fit c (r.eraseIdx j) w) ∧ (∀ K : Nat, 700 + 40 * n < K → spec_SimplerCurve.l0 K c w m 0 = some (r, (c.length : Int) - (r.length : Int), 0)) ∧ (∀ k : Nat, 700 + n < k → impl_SimplerCurve.l0 k c w m cnt = some (r, (c.length : Int) - (r.length : Int), 0)) := by
  have clen := hc.1
  induction n with
  | zero =>
    intro m cnt hn hm hcnt h0 hf
    have := hm.2.1
    omega
  | succ n ih =>
    intro m cnt hn hm hcnt h0 hf
    have mlen := hm.1
    rcases smp_stage c m w hc hm m.length 0 (by omega) (by omega) with ⟨j, j0, j1, j2, j3, j4, j5⟩ | ⟨q1, q2, q3⟩
    · obtain ⟨he, hel⟩ := cur_erase hm j2 j j1
      obtain ⟨r, r1, r2, r3, r4, r5, r6⟩ := ih (m.eraseIdx j) (cnt + 1) (by omega) he (by omega) (by omega) j3
      refine ⟨r, r1, by omega, r3, r4, fun K hK => ?_, fun k hk => ?_⟩
      · have e := j5 (K - 2 * (j - 0 + 1)) (by omega)
        rw [show K - 2 * (j - 0 + 1) + 2 * (j - 0 + 1) = K by omega] at e
        have e' : spec_SimplerCurve.l0 K c w m 0 = _ := e
        rw [e']
        exact r5 _ (by omega)
      · obtain ⟨k, rfl⟩ : ∃ n, k = n + 1 := ⟨k - 1, by omega⟩
        simp only [impl_SimplerCurve.l0, impl_simpler.f, j4 k (by omega), Option.bind_some, if_true]
        rw [w64 (x := cnt + 1) (by omega) (by omega)]
        exact r6 k (by omega)
    · refine ⟨m, hm, by omega, hf, fun h j hj => q1 h j (by omega) hj, fun K hK => q3 K (by omega), fun k hk => ?_⟩
      obtain ⟨k, rfl⟩ : ∃ n, k = n + 1 := ⟨k - 1, by omega⟩
      simp only [impl_SimplerCurve.l0, impl_simpler.f, q2 k (by omega), Option.bind_some, Bool.false_eq_true, if_false]
      rw [hcnt]
theorem fit_self (c : List S37) (w : Int) (hw : 0 ≤ w) : Fit c c w := by
  have z : ∀ j, gp c c j = 0 := fun j => by unfold gp; omega
  refine ⟨-200, 0, ⟨by omega, by omega, (z _).symm, fun j _ _ => by rw [z]; exact Int.le_refl _, fun j j0 j1 => by omega⟩, ?_⟩
  unfold ab
  rw [if_neg (by omega)]
  exact hw
theorem sdn_f (a : Int) : spec_l02Density.f a = some (decide (0 ≤ a ∧ a ≤ 400)) ∧ impl_isDensity.f a = some (decide (0 ≤ a ∧ a ≤ 400)) := by
  unfold spec_l02Density.f impl_isDensity.f
  rw [in_f, within_f]
  exact ⟨rfl, rfl⟩
/-- both, of a curve and a density -/
theorem smp_good (c : List S37) (w : Int) (hc : Cur c) (hw : 0 ≤ w ∧ w ≤ 400) (k : Nat) (hk : 3000 < k) (e1 : spec_l02Ok.f k c = some true) (e2 : impl_ValidCurve.f k c = some true) :
    ∃ r, Cur r ∧ Fit c r w ∧ (2 ≤ r.length → ∀ j, j < r.length → ¬ Fit c (r.eraseIdx j) w) ∧ spec_SimplerCurve.f k c w = some (r, (c.length : Int) - (r.length : Int), 0) ∧ impl_SimplerCurve.f k c w = some (r, (c.length : Int) - (r.length : Int), 0) := by
  have clen := hc.1
  obtain ⟨r, r1, r2, r3, r4, r5, r6⟩ := smp_all c w hc c.length c 0 rfl hc (by omega) (by omega) (fit_self c w hw.1)
  have cl : impl_Point_79.f c = some c := if_pos (by omega)
  refine ⟨r, r1, r3, r4, ?_, ?_⟩
  · unfold spec_SimplerCurve.f
    simp only [e1, Option.bind_some, if_true, (sdn_f w).1, hw, and_self, decide_true]
    rw [if_pos (by simp; omega), List.nil_append]
    exact r5 k (by omega)
  · unfold impl_SimplerCurve.f impl_curveCode.f
    simp only [e2, Option.bind_some, if_true, (sdn_f w).2, hw, and_self, decide_true, cl]
    exact r6 k (by omega)
theorem smp_f (c : List S37) (hm : SmP c) (hl : c.length ≤ 1048576) (w : Int) (k : Nat) (hk : c.length + 3000 < k) : ∃ z, spec_SimplerCurve.f k c w = some z ∧ impl_SimplerCurve.f k c w = some z ∧ z.1.length ≤ 1000 := by
  obtain ⟨r, e1, e2, e3⟩ := cur_f c hm hl k (by omega)
  cases r with
  | false =>
    unfold spec_SimplerCurve.f impl_SimplerCurve.f impl_curveCode.f
    simp only [e1, e2, Option.bind_some, Bool.false_eq_true, if_false, (sdn_f w).2]
    exact ⟨_, rfl, rfl, by show 0 ≤ 1000; omega⟩
  | true =>
    have hc := e3 rfl
    by_cases hw : 0 ≤ w ∧ w ≤ 400
    · obtain ⟨r, r1, _, _, r2, r3⟩ := smp_good c w hc hw k (by omega) e1 e2
      exact ⟨_, r2, r3, by show r.length ≤ 1000; have := r1.1; omega⟩
    · unfold spec_SimplerCurve.f impl_SimplerCurve.f impl_curveCode.f
      simp only [e1, e2, Option.bind_some, if_true, (sdn_f w).1, (sdn_f w).2, hw, decide_false, Bool.false_eq_true, if_false]
      exact ⟨_, rfl, rfl, by show 0 ≤ 1000; omega⟩
def mkCurve (s : Int) : S37 := ⟨IntKind.i16.wrap s, IntKind.i16.wrap (s + 1)⟩
theorem markCurve_l (n : Nat) (hn : n ≤ 1048576) (d : Nat) : ∀ (k : Nat) (l : List S37) (s : Int) (i : Nat), l.length = n → i ≤ n → n - i = d → d < k → 0 ≤ s → s + 2 * d ≤ 100000000000 →
    ∃ l', laws_markCurve.l0 k l s i = some (s + 2 * d, l') ∧ l'.length = n ∧ (∀ j, j < i → l'.getD j z37 = l.getD j z37) ∧ (∀ j : Nat, i ≤ j → j < n → l'.getD j z37 = mkCurve (s + 2 * ((j : Int) - i))) := by
  induction d with
  | zero =>
    intro k l s i hl h0 hd hk hs hb
    obtain ⟨k, rfl⟩ : ∃ n, k = n + 1 := ⟨k - 1, by omega⟩
    simp only [laws_markCurve.l0]
    rw [if_neg (by omega)]
    exact ⟨l, by simp, hl, fun j hj => rfl, fun j j0 j1 => by omega⟩
  | succ d ih =>
    intro k l s i hl h0 hd hk hs hb
    obtain ⟨k, rfl⟩ : ∃ n, k = n + 1 := ⟨k - 1, by omega⟩
    simp only [laws_markCurve.l0]
    rw [if_pos (by omega), if_pos (by omega), Option.bind_some, w64 (x := s + 1) (by omega) (by omega), w64 (x := s + 1 + 1) (by omega) (by omega), w64 (x := (i : Int) + 1) (by omega) (by omega)]
    have hset : ∀ x : S37, (l.set i x).getD i z37 = x := fun x => getD_set_eq _ _ _ _ (by omega)
    simp only [rd_T37, Int.toNat_natCast, List.set_set, hset]
    obtain ⟨l', e1, e2, e3, e4⟩ := ih k (l.set i (mkCurve s)) (s + 1 + 1) (i + 1) (by simpa using hl) (by omega) (by omega) (by omega) (by omega) (by omega)
    refine ⟨l', ?_, e2, fun j hj => ?_, fun j j0 j1 => ?_⟩
    · rw [show s + 2 * ((d + 1 : Nat) : Int) = s + 1 + 1 + 2 * (d : Int) by omega]
      exact e1
    · rw [e3 j (by omega), getD_set_ne _ _ _ _ _ (by omega)]
    · by_cases c : j = i
      · subst c
        rw [e3 j (by omega), getD_set_eq _ _ _ _ (by omega)]
        congr 1
        omega
      · rw [e4 j (by omega) j1]
        congr 1
        omega
theorem markCurve_r (l : List S37) (hl : l.length ≤ 1048576) (k : Nat) (hk : l.length < k) : ∃ l', laws_markCurve.f k l 1 = some (1 + 2 * (l.length : Int), l') := by
  obtain ⟨l', e1, e2, _, e4⟩ := markCurve_l l.length hl l.length k l 1 0 rfl (by omega) (by omega) hk (by omega) (by omega)
  exact ⟨l', e1⟩
theorem markCurve_s (l : List S37) (s : Int) (hs : 0 ≤ s ∧ s ≤ 10000000) (hl : l.length ≤ 1048576) (k : Nat) (hk : l.length < k) : ∃ l', laws_markCurve.f k l s = some (s + 2 * (l.length : Int), l') := by
  obtain ⟨l', e1, e2, _, e4⟩ := markCurve_l l.length hl l.length k l s 0 rfl (by omega) (by omega) hk (by omega) (by omega)
  exact ⟨l', e1⟩
theorem heldCurve_l (n : Nat) (hn : n ≤ 1048576) (l : List S37) (hl : l.length = n) (d : Nat) : ∀ (k : Nat) (s : Int) (i : Nat), i ≤ n → n - i = d → d < k → 0 ≤ s → s + 2 * d ≤ 100000000000 → (∀ j : Nat, i ≤ j → j < n → l.getD j z37 = mkCurve (s + 2 * ((j : Int) - i))) →
    laws_heldCurve.l0 k l s i = some (s + 2 * d) := by
  induction d with
  | zero =>
    intro k s i h0 hd hk hs hb hj
    obtain ⟨k, rfl⟩ : ∃ n, k = n + 1 := ⟨k - 1, by omega⟩
    simp only [laws_heldCurve.l0]
    rw [if_neg (by omega)]
    simp
  | succ d ih =>
    intro k s i h0 hd hk hs hb hj
    obtain ⟨k, rfl⟩ : ∃ n, k = n + 1 := ⟨k - 1, by omega⟩
    have e := hj i (by omega) (by omega)
    rw [show s + 2 * ((i : Int) - i) = s by omega] at e
    have e' : rd_T37 l i = mkCurve s := by rw [rd_T37, Int.toNat_natCast]; exact e
    have c1 : (i : Int) < (l.length : Int) := by omega
    have c2 : 0 ≤ (i : Int) := by omega
    simp only [laws_heldCurve.l0, e', mkCurve, w64 (x := s + 1) (by omega) (by omega), w64 (x := s + 1 + 1) (by omega) (by omega), w64 (x := (i : Int) + 1) (by omega) (by omega), c1, c2, if_true]
    rw [show s + 2 * ((d + 1 : Nat) : Int) = s + 1 + 1 + 2 * (d : Int) by omega]
    refine ih k (s + 1 + 1) (i + 1) (by omega) (by omega) (by omega) (by omega) (by omega) (fun j j0 j1 => ?_)
    rw [hj j (by omega) j1]
    congr 1
    omega
theorem markCurve_f (l : List S37) (hl : l.length ≤ 1048576) (k : Nat) (hk : l.length < k) : ∃ l', laws_markCurve.f k l 1 = some (1 + 2 * (l.length : Int), l') ∧ l'.length = l.length ∧ ∀ k', l.length < k' → laws_heldCurve.f k' l' 1 = some (1 + 2 * (l.length : Int)) := by
  obtain ⟨l', e1, e2, _, e4⟩ := markCurve_l l.length hl l.length k l 1 0 rfl (by omega) (by omega) hk (by omega) (by omega)
  exact ⟨l', e1, e2, fun k' hk' => heldCurve_l l.length hl l' e2 l.length k' 1 0 (by omega) (by omega) hk' (by omega) (by omega) e4⟩
theorem FnExactSimplerCurve : laws_FnExactSimplerCurve.Pure := by
  intro l x h0 h0w _
  refine ⟨2000000, ?_⟩
  unfold laws_FnExactSimplerCurve.f
  rw [szCurve_g l 1048576 (by omega) (by omega), Option.bind_some]
  by_cases c : (l.length : Int) ≤ 1048576
  · rw [if_pos c, if_neg (by omega), toCurve_f l (by omega) _ (by omega)]
    have hl : (l.map cvCurve).length ≤ 1048576 := by rw [List.length_map]; omega
    obtain ⟨z, z1, z2, z3⟩ := smp_f _ (smp_map h0w) hl x 2000000 (by omega)
    obtain ⟨y, y1, y2, y3⟩ := smp_f _ (smp_map h0w) hl x 1999998 (by omega)
    have hz : impl_SimplerCurve.f 1999998 (l.map cvCurve) x = some z := up (impl_SimplerCurve.mono (l.map cvCurve) x) 2000000 1999998 z2 y2
    obtain ⟨l1, m1⟩ := markCurve_s _ 1 (by omega) hl 1999999 (by omega)
    obtain ⟨l3, n1, n2, n3⟩ := markCurve_f z.1 (by omega) 1999998 (by omega)
    have q0 : ∀ k, 1999990 ≤ k → laws_eqCurve.f k z.1 z.1 = some true := fun k hk => eqCurve_f _ (by omega) k (by omega)
    simp only [Option.bind_some, z1, z2, q0 2000000 (by omega), if_true, bne_self_eq_false]
    simp only [laws_FnExactSimplerCurve.j0, Bool.false_eq_true, if_false, toCurve_f l (show l.length ≤ 1048576 by omega) 1999999 (by omega), Option.bind_some, eqCurve_f _ hl 1999999 (by omega), if_true, m1, q0 1999999 (by omega), bne_self_eq_false]
    rw [if_neg (by omega)]
    simp only [laws_FnExactSimplerCurve.j1, Bool.false_eq_true, if_false, n1, Option.bind_some, n3 1999998 (by omega), if_true, toCurve_f l (show l.length ≤ 1048576 by omega) 1999998 (by omega), hz, q0 1999998 (by omega), bne_self_eq_false]
    rw [if_neg (by omega)]
    simp only [laws_FnExactSimplerCurve.j2, Bool.false_eq_true, if_false, n3 1999997 (by omega), Option.bind_some, if_true]
    rw [if_neg (by omega)]
  · rw [if_neg c, if_pos (by omega)]

end Go.Proofs.Ytcgahnmdaelngaa.Pure
