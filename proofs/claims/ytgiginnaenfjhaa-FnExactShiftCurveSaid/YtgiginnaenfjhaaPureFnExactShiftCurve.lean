/- Proves, in plain numbers and lists, that the law FnExactShiftCurve answers true at all inputs. No condition is added. -/
import Derived.Test.YtgiginnaenfjhaaPFnExactShiftCurvex7
import Derived.Test.YtgiginnaenfjhaaPFnExactShiftCurvex7
import Derived.Test.YtgiginnaenfjhaaPFnExactShiftCurvex7
import Derived.Test.YtgiginnaenfjhaaPFnExactShiftCurvex7
import Derived.Test.YtgiginnaenfjhaaPFnExactShiftCurvex7
import Derived.Test.YtgiginnaenfjhaaPFnExactShiftCurvex7
import Derived.Test.YtgiginnaenfjhaaPFnExactShiftCurvex7
import Derived.Test.YtgiginnaenfjhaaPFnExactShiftCurvex7
namespace Go.Proofs.Ytgiginnaenfjhaa.Pure
open Go.RowKit Go.Proofs.Ytgiginnaenfjhaa.PFnExactShiftCurve Go.Proofs.YtgiginnaenfjhaaW.PrintWords Go.Proofs.YtgiginnaenfjhaaW.PrintLast Go.Proofs.YtgiginnaenfjhaaW.PrintMore
set_option linter.unusedVariables false
set_option linter.unusedSimpArgs false
theorem w64 {x : Int} (h : -9223372036854775808 ≤ x) (h' : x ≤ 9223372036854775807) : wrap64 x = x := by unfold wrap64; omega
theorem wf8 {x : Int} (h : (Lit.int .i8 x).wf = true) : -128 ≤ x ∧ x ≤ 127 := by
  have h2 : (decide ((-128 : Int) ≤ x) && decide (x ≤ 127)) = true := h
  simpa using h2
theorem wf16 {x : Int} (h : (Lit.int .i16 x).wf = true) : -32768 ≤ x ∧ x ≤ 32767 := by
  have h2 : (decide ((-32768 : Int) ≤ x) && decide (x ≤ 32767)) = true := h
  simpa using h2
theorem wf64 {x : Int} (h : (Lit.int .i64 x).wf = true) : -9223372036854775808 ≤ x ∧ x ≤ 9223372036854775807 := by
  have h2 : (decide ((-9223372036854775808 : Int) ≤ x) && decide (x ≤ 9223372036854775807)) = true := h
  simpa using h2
theorem wfu64 {x : Int} (h : (Lit.int .u64 x).wf = true) : 0 ≤ x ∧ x ≤ 18446744073709551615 := by
  have h2 : (decide ((0 : Int) ≤ x) && decide (x ≤ 18446744073709551615)) = true := h
  simpa using h2
theorem i8w {x : Int} (h : -128 ≤ x) (h' : x ≤ 127) : IntKind.i8.wrap x = x := by
  show (if (true && decide (x % 256 ≥ 128)) = true then x % 256 - 256 else x % 256) = x
  by_cases e : x % 256 ≥ 128
  · rw [if_pos (by simpa using e)]; omega
  · rw [if_neg (by simpa using e)]; omega
theorem i16w {x : Int} (h : -32768 ≤ x) (h' : x ≤ 32767) : IntKind.i16.wrap x = x := by
  show (if (true && decide (x % 65536 ≥ 32768)) = true then x % 65536 - 65536 else x % 65536) = x
  by_cases e : x % 65536 ≥ 32768
  · rw [if_pos (by simpa using e)]; omega
  · rw [if_neg (by simpa using e)]; omega
theorem u64w {x : Int} (h : 0 ≤ x) (h' : x ≤ 18446744073709551615) : IntKind.u64.wrap x = x := by
  show (if (false && decide (x % 18446744073709551616 ≥ 9223372036854775808)) = true then x % 18446744073709551616 - 18446744073709551616 else x % 18446744073709551616) = x
  rw [if_neg (by simp)]; omega
theorem szCurve_f (l : List S50) (hl : l.length ≤ 9223372036854775807) : laws_szCurve.f l 1048576 = some (if l.length ≤ 1048576 then 1048576 - (l.length : Int) else -1) := by
  unfold laws_szCurve.f
  rw [w64 (by omega) (by omega)]
  by_cases c : l.length ≤ 1048576
  · rw [if_neg (by omega), if_pos c]
  · rw [if_pos (by omega), if_neg c]
theorem szCurve_g (l : List S50) (a : Int) (ha : 0 ≤ a ∧ a ≤ 1048576) (hl : l.length ≤ 9223372036854775807) : laws_szCurve.f l a = some (if (l.length : Int) ≤ a then a - (l.length : Int) else -1) := by
  unfold laws_szCurve.f
  rw [w64 (by omega) (by omega)]
  by_cases c : (l.length : Int) ≤ a
  · rw [if_neg (by omega), if_pos c]
  · rw [if_pos (by omega), if_neg c]
theorem set_nextg {α β : Type} (f : α → β) (z : β) (d : α) (l : List α) (i : Nat) (h : i < l.length) : ((l.take i).map f ++ List.replicate (l.length - i) z).set i (f (l.getD i d)) = (l.take (i + 1)).map f ++ List.replicate (l.length - (i + 1)) z := by
  apply List.ext_getElem
  · simp; omega
  · intro j h1 h2
    simp only [List.getElem_set, List.getElem_append, List.length_map, List.length_take, List.getElem_map, List.getElem_take, List.getElem_replicate]
    by_cases e : i = j
    · subst e
      rw [if_pos rfl, dif_pos (by omega)]
      simp [h]
    · rw [if_neg e]
      by_cases c : j < i
      · rw [dif_pos (by omega), dif_pos (by omega)]
      · rw [dif_neg (by omega), dif_neg (by omega)]
theorem getD_mem {α : Type} (l : List α) (i : Nat) (d : α) (h : i < l.length) : l.getD i d ∈ l := by
  rw [List.getD_eq_getElem?_getD, List.getElem?_eq_getElem h]
  exact List.getElem_mem h
theorem getD_set_ne {α : Type} (l : List α) (i j : Nat) (x d : α) (h : i ≠ j) : (l.set i x).getD j d = l.getD j d := by
  simp [List.getD_eq_getElem?_getD, List.getElem?_set_ne h]
theorem getD_set_eq {α : Type} (l : List α) (i : Nat) (x d : α) (h : i < l.length) : (l.set i x).getD i d = x := by
  simp [List.getD_eq_getElem?_getD, List.getElem?_set_self h]
def cvCurve (x : S50) : S48 := ⟨x.f0, x.f1⟩
theorem toCurve_l (l : List S50) (hl : l.length ≤ 1048576) (d : Nat) : ∀ (k : Nat) (i : Nat), i ≤ l.length → l.length - i = d → d < k → laws_toCurve.l0 k l ((l.take i).map cvCurve ++ List.replicate (l.length - i) z48) i = some (l.map cvCurve) := by
  induction d with
  | zero =>
    intro k i h0 hd hk
    obtain ⟨k, rfl⟩ : ∃ n, k = n + 1 := ⟨k - 1, by omega⟩
    have e : i = l.length := by omega
    subst e
    simp only [laws_toCurve.l0]
    rw [if_neg (by omega)]
    simp
  | succ d ih =>
    intro k i h0 hd hk
    obtain ⟨k, rfl⟩ : ∃ n, k = n + 1 := ⟨k - 1, by omega⟩
    simp only [laws_toCurve.l0, laws_toPoint.f, Option.bind_some]
    rw [if_pos (by omega), if_pos (by omega), if_pos (by simp; omega), w64 (by omega) (by omega)]
    have e := ih k (i + 1) (by omega) (by omega) (by omega)
    rw [← set_nextg cvCurve z48 z50 l i (by omega)] at e
    simpa [rd_T50, cvCurve] using e
theorem toCurve_f (l : List S50) (hl : l.length ≤ 1048576) (k : Nat) (hk : l.length < k) : laws_toCurve.f k l = some (l.map cvCurve) := by
  have e := toCurve_l l hl l.length k 0 (by omega) (by omega) hk
  unfold laws_toCurve.f
  rw [if_pos (by omega), if_pos (by omega)]
  simpa using e
theorem eqCurve_l (l : List S48) (hl : l.length ≤ 1048576) (d : Nat) : ∀ (k : Nat) (i : Nat), i ≤ l.length → l.length - i = d → d < k → laws_eqCurve.l0 k l l i = some true := by
  induction d with
  | zero =>
    intro k i h0 hd hk
    obtain ⟨k, rfl⟩ : ∃ n, k = n + 1 := ⟨k - 1, by omega⟩
    simp only [laws_eqCurve.l0]
    rw [if_neg (by omega)]
  | succ d ih =>
    intro k i h0 hd hk
    obtain ⟨k, rfl⟩ : ∃ n, k = n + 1 := ⟨k - 1, by omega⟩
    simp only [laws_eqCurve.l0, laws_eqPoint.f, if_true, Option.bind_some]
    rw [if_pos (by omega), if_pos (by omega), if_pos (by omega), w64 (by omega) (by omega)]
    exact ih k (i + 1) (by omega) (by omega) (by omega)
theorem eqCurve_f (l : List S48) (hl : l.length ≤ 1048576) (k : Nat) (hk : l.length < k) : laws_eqCurve.f k l l = some true := by
  unfold laws_eqCurve.f
  rw [if_pos rfl]
  exact eqCurve_l l hl l.length k 0 (by omega) (by omega) hk
theorem in_f (a b c : Int) : spec_l00In.f a b c = some (decide (b ≤ a ∧ a ≤ c)) := by
  unfold spec_l00In.f
  by_cases h : b ≤ a <;> simp [h]
theorem within_f (a b c : Int) : impl_within.f a b c = some (decide (b ≤ a ∧ a ≤ c)) := by
  unfold impl_within.f
  by_cases h : b ≤ a <;> simp [h]
def SmP (m : List S48) : Prop := ∀ x ∈ m, (-32768 ≤ x.f0 ∧ x.f0 ≤ 32767) ∧ (-32768 ≤ x.f1 ∧ x.f1 ≤ 32767)
theorem smp_rd {m : List S48} (h : SmP m) (i : Nat) (hi : i < m.length) : (-32768 ≤ (rd_T48 m i).f0 ∧ (rd_T48 m i).f0 ≤ 32767) ∧ (-32768 ≤ (rd_T48 m i).f1 ∧ (rd_T48 m i).f1 ≤ 32767) := by
  have := h _ (getD_mem m i z48 hi)
  simpa [rd_T48] using this
/-- a point as it may be -/
def Pt (p : S48) : Prop := (-200 ≤ p.f0 ∧ p.f0 ≤ 200) ∧ (0 ≤ p.f1 ∧ p.f1 ≤ 400)
/-- points from i on are as they may be -/
def Shp (m : List S48) (i : Nat) : Prop := 0 < m.length ∧ ∀ j : Nat, i ≤ j → j < m.length → Pt (rd_T48 m j) ∧ (0 < j → (rd_T48 m (j - 1 : Nat)).f0 < (rd_T48 m j).f0 ∧ (rd_T48 m (j - 1 : Nat)).f1 ≤ (rd_T48 m j).f1)
def Cur (m : List S48) : Prop := m.length ≤ 12 ∧ Shp m 0
theorem spt_f {p : S48} (h : -32768 ≤ p.f0 ∧ p.f0 ≤ 32767) (h' : -32768 ≤ p.f1 ∧ p.f1 ≤ 32767) : spec_l02Point.f p.f0 p.f1 = some (decide ((-200 ≤ p.f0 ∧ p.f0 ≤ 200) ∧ (0 ≤ p.f1 ∧ p.f1 ≤ 400))) := by
  unfold spec_l02Point.f spec_l02Place.f spec_l02Density.f
  rw [w64 (x := p.f0) (by omega) (by omega), w64 (x := p.f1) (by omega) (by omega)]
  simp only [in_f, Option.bind_some]
  by_cases c : -200 ≤ p.f0 ∧ p.f0 ≤ 200 <;> simp [c]
theorem ipt_f {p : S48} (h : -32768 ≤ p.f0 ∧ p.f0 ≤ 32767) (h' : -32768 ≤ p.f1 ∧ p.f1 ≤ 32767) : impl_isPoint.f p.f0 p.f1 = some (decide ((-200 ≤ p.f0 ∧ p.f0 ≤ 200) ∧ (0 ≤ p.f1 ∧ p.f1 ≤ 400))) := by
  unfold impl_isPoint.f impl_isPlace.f impl_isDensity.f
  rw [w64 (x := p.f0) (by omega) (by omega), w64 (x := p.f1) (by omega) (by omega)]
  simp only [within_f, Option.bind_some]
  by_cases c : -200 ≤ p.f0 ∧ p.f0 ≤ 200 <;> simp [c]
theorem shape_l (m : List S48) (hm : SmP m) (hl : m.length ≤ 1048576) (d : Nat) : ∀ (k i : Nat), i ≤ m.length → m.length - i = d → d < k →
    ∃ r, spec_l02Shape.l0 k m i = some r ∧ impl_isCurve.l0 k m m (m.length : Int) i = some r ∧ (r = true → Shp m i) := by
  induction d with
  | zero =>
    intro k i h0 hd hk
    obtain ⟨k, rfl⟩ : ∃ n, k = n + 1 := ⟨k - 1, by omega⟩
    simp only [spec_l02Shape.l0, impl_isCurve.l0]
    have g1 : ¬ (i : Int) < (m.length : Int) := by omega
    simp only [g1, if_false]
    refine ⟨_, rfl, rfl, fun h => ⟨?_, fun j j0 j1 => by omega⟩⟩
    have := of_decide_eq_true h
    omega
  | succ d ih =>
    intro k i h0 hd hk
    obtain ⟨k, rfl⟩ : ∃ n, k = n + 1 := ⟨k - 1, by omega⟩
    obtain ⟨s1, s2⟩ := smp_rd hm i (by omega)
    have g1 : (i : Int) < (m.length : Int) := by omega
    have g2 : 0 ≤ (i : Int) := by omega
    have hpos : 0 < m.length := by omega
    obtain ⟨r, e1, e2, e3⟩ := ih k (i + 1) (by omega) (by omega) (by omega)
    have e1' : spec_l02Shape.l0 k m ((i : Int) + 1) = some r := e1
    have e2' : impl_isCurve.l0 k m m (m.length : Int) ((i : Int) + 1) = some r := e2
    have fin : Pt (rd_T48 m i) → (0 < i → (rd_T48 m (i - 1 : Nat)).f0 < (rd_T48 m i).f0 ∧ (rd_T48 m (i - 1 : Nat)).f1 ≤ (rd_T48 m i).f1) → r = true → Shp m i := by
      intro p1 p2 hr
      obtain ⟨_, t2⟩ := e3 hr
      refine ⟨hpos, fun j j0 j1 => ?_⟩
      by_cases e : j = i
      · subst e; exact ⟨p1, p2⟩
      · exact t2 j (by omega) j1
    simp only [spec_l02Shape.l0, impl_isCurve.l0, spt_f s1 s2, ipt_f s1 s2, g1, g2, if_true, Option.bind_some]
    rw [w64 (x := (i : Int) + 1) (by omega) (by omega), w64 (x := (i : Int) - 1) (by omega) (by omega), e1', e2']
    by_cases c : (-200 ≤ (rd_T48 m i).f0 ∧ (rd_T48 m i).f0 ≤ 200) ∧ (0 ≤ (rd_T48 m i).f1 ∧ (rd_T48 m i).f1 ≤ 400)
    · simp only [c, and_self, decide_true, if_true]
      by_cases z : i = 0
      · subst z
        have g3 : ¬ ((0 : Nat) : Int) > 0 := by omega
        simp only [g3, if_false]
        exact ⟨r, rfl, rfl, fin c (fun h => by omega)⟩
      · have ei : ((i : Int) - 1) = ((i - 1 : Nat) : Int) := by omega
        have g3 : (i : Int) > 0 := by omega
        have g4 : 0 ≤ ((i - 1 : Nat) : Int) := by omega
        have g5 : ((i - 1 : Nat) : Int) < (m.length : Int) := by omega
        rw [ei]
        simp only [g3, g4, g5, if_true]
        by_cases c3 : (rd_T48 m i).f0 ≤ (rd_T48 m (i - 1 : Nat)).f0
        · have c3' : (rd_T48 m (i - 1 : Nat)).f0 ≥ (rd_T48 m i).f0 := c3
          simp only [c3, c3', if_true]
          exact ⟨_, rfl, rfl, fun h => by cases h⟩
        · have c3' : ¬ (rd_T48 m (i - 1 : Nat)).f0 ≥ (rd_T48 m i).f0 := c3
          simp only [c3, c3', if_false]
          by_cases c4 : (rd_T48 m i).f1 < (rd_T48 m (i - 1 : Nat)).f1
          · have c4' : (rd_T48 m (i - 1 : Nat)).f1 > (rd_T48 m i).f1 := c4
            simp only [c4, c4', if_true]
            exact ⟨_, rfl, rfl, fun h => by cases h⟩
          · have c4' : ¬ (rd_T48 m (i - 1 : Nat)).f1 > (rd_T48 m i).f1 := c4
            simp only [c4, c4', if_false]
            exact ⟨r, rfl, rfl, fin c (fun _ => by omega)⟩
    · simp only [c, decide_false, Bool.false_eq_true, if_false]
      exact ⟨_, rfl, rfl, fun h => by cases h⟩
theorem shape_f (m : List S48) (hm : SmP m) (hl : m.length ≤ 1048576) (k : Nat) (hk : m.length < k) : ∃ r, spec_l02Shape.f k m = some r ∧ impl_isCurve.f k m = some r ∧ (r = true → Shp m 0) :=
  shape_l m hm hl m.length k 0 (by omega) (by omega) hk
theorem cur_f (m : List S48) (hm : SmP m) (hl : m.length ≤ 1048576) (k : Nat) (hk : m.length < k) : ∃ r, spec_l02Ok.f k m = some r ∧ impl_ValidCurve.f k m = some r ∧ (r = true → Cur m) := by
  obtain ⟨r, e1, e2, e3⟩ := shape_f m hm hl k hk
  unfold spec_l02Ok.f impl_ValidCurve.f
  simp only [e1, e2, Option.bind_some]
  cases r with
  | true =>
    simp only [if_true]
    exact ⟨_, rfl, rfl, fun h => ⟨by have := of_decide_eq_true h; omega, e3 rfl⟩⟩
  | false =>
    simp only [Bool.false_eq_true, if_false]
    exact ⟨_, rfl, rfl, fun h => by cases h⟩
theorem smp_map {l : List S50} (hw : ∀ x ∈ l, (Lit.int .i16 x.f0).wf = true ∧ (Lit.int .i16 x.f1).wf = true) : SmP (l.map cvCurve) := by
  intro x hx
  obtain ⟨y, hy, rfl⟩ := List.mem_map.1 hx
  exact ⟨wf16 (hw y hy).1, wf16 (hw y hy).2⟩
theorem take_s {l : List S48} (mv : S48 → S48) (i : Nat) (hi : i < l.length) : (l.take i).map mv ++ [mv (rd_T48 l i)] = (l.take (i + 1)).map mv := by
  have r : rd_T48 l i = l[i] := by simp [rd_T48, List.getD_eq_getElem?_getD, hi]
  rw [r, List.take_succ_eq_append_getElem hi, List.map_append]
  rfl
theorem chg_l (ch : Int → Int → Option (Int × Int)) (mv : S48 → S48) (l : List S48) (hl : l.length ≤ 12) (hs : ∀ j : Nat, j < l.length → Pt (rd_T48 l j)) (hc : ∀ j : Nat, j < l.length → ch (rd_T48 l j).f0 (rd_T48 l j).f1 = some ((mv (rd_T48 l j)).f0, (mv (rd_T48 l j)).f1)) (d : Nat) :
    ∀ (k i : Nat), i ≤ l.length → l.length - i = d → d < k → ∃ z, impl_changed.l0 k ch ((l.take i).map mv) l (l.length : Int) i = some z ∧ ((∀ j : Nat, i ≤ j → j < l.length → Pt (mv (rd_T48 l j))) → z = (l.map mv, 0)) ∧ (∀ j : Nat, i ≤ j → j < l.length → ¬ Pt (mv (rd_T48 l j)) → z = ([], 4)) := by
  induction d with
  | zero =>
    intro k i h0 hd hk
    obtain ⟨k, rfl⟩ : ∃ n, k = n + 1 := ⟨k - 1, by omega⟩
    simp only [impl_changed.l0]
    rw [if_neg (by omega)]
    exact ⟨_, rfl, fun _ => by rw [List.take_of_length_le (by omega)], fun j j0 j1 => by omega⟩
  | succ d ih =>
    intro k i h0 hd hk
    obtain ⟨k, rfl⟩ : ∃ n, k = n + 1 := ⟨k - 1, by omega⟩
    have s := hs i (by omega)
    unfold Pt at s
    have c := hc i (by omega)
    obtain ⟨z, e, z1, z2⟩ := ih k (i + 1) (by omega) (by omega) (by omega)
    rw [← take_s mv i (by omega)] at e
    simp only [impl_changed.l0]
    rw [if_pos (by omega), if_pos (by omega), if_pos (by omega), w64 (x := (rd_T48 l i).f0) (by omega) (by omega), w64 (x := (rd_T48 l i).f1) (by omega) (by omega), c, w64 (x := (i : Int) + 1) (by omega) (by omega)]
    simp only [Option.bind_some, impl_isPlace.f, impl_isDensity.f, within_f]
    by_cases p : Pt (mv (rd_T48 l i))
    · have p' := p
      unfold Pt at p
      have p1 := p.1
      have p2 := p.2
      have hlen : ((l.take i).map mv).length < 35184372088832 := by rw [List.length_map, List.length_take]; omega
      simp only [p1, p2, hlen, and_self, decide_true, if_true]
      rw [i16w (by omega) (by omega), i16w (by omega) (by omega)]
      refine ⟨z, e, fun h => z1 fun j j0 j1 => h j (by omega) j1, fun j j0 j1 hj => ?_⟩
      by_cases ej : j = i
      · rw [ej] at hj; exact absurd p' hj
      · exact z2 j (by omega) j1 hj
    · refine ⟨([], 4), ?_, fun h => absurd (h i (by omega) (by omega)) p, fun _ _ _ _ => rfl⟩
      unfold Pt at p
      by_cases p1 : -200 ≤ (mv (rd_T48 l i)).f0 ∧ (mv (rd_T48 l i)).f0 ≤ 200
      · have p2 : ¬ (0 ≤ (mv (rd_T48 l i)).f1 ∧ (mv (rd_T48 l i)).f1 ≤ 400) := fun h => p ⟨p1, h⟩
        simp only [p1, p2, and_self, decide_true, decide_false, if_true, Bool.false_eq_true, if_false]
      · simp only [p1, decide_false, Bool.false_eq_true, if_false]
theorem chg_f (ch : Int → Int → Option (Int × Int)) (mv : S48 → S48) (l : List S48) (hl : l.length ≤ 12) (hs : ∀ j : Nat, j < l.length → Pt (rd_T48 l j)) (hc : ∀ j : Nat, j < l.length → ch (rd_T48 l j).f0 (rd_T48 l j).f1 = some ((mv (rd_T48 l j)).f0, (mv (rd_T48 l j)).f1)) (k : Nat) (hk : 12 < k) (hv : impl_ValidCurve.f k l = some true) :
    ∃ z, impl_changed.f k l true ch = some z ∧ ((∀ j : Nat, j < l.length → Pt (mv (rd_T48 l j))) → z = (l.map mv, 0)) ∧ (∀ j : Nat, j < l.length → ¬ Pt (mv (rd_T48 l j)) → z = ([], 4)) := by
  obtain ⟨z, e, z1, z2⟩ := chg_l ch mv l hl hs hc l.length k 0 (by omega) (by omega) (by omega)
  refine ⟨z, ?_, fun h => z1 fun j _ j1 => h j j1, fun j j1 hj => z2 j (by omega) j1 hj⟩
  unfold impl_changed.f impl_curveCode.f
  simp only [hv, Option.bind_some, if_true]
  exact e
theorem chg_no (ch : Int → Int → Option (Int × Int)) (l : List S48) (u : Bool) (k : Nat) (hv : impl_ValidCurve.f k l = some false) : impl_changed.f k l u ch = some ([], 1) := by
  unfold impl_changed.f impl_curveCode.f
  simp only [hv, Option.bind_some, Bool.false_eq_true, if_false]
  rw [if_neg (by decide)]
theorem chg_bad (ch : Int → Int → Option (Int × Int)) (l : List S48) (k : Nat) (hv : impl_ValidCurve.f k l = some true) : impl_changed.f k l false ch = some ([], 2) := by
  unfold impl_changed.f impl_curveCode.f
  simp only [hv, Option.bind_some, Bool.false_eq_true, if_true, if_false]
  rw [if_neg (by decide)]
def mvM (a b : Int) (p : S48) : S48 := ⟨p.f0 + a, p.f1 + b⟩
theorem rd_map (mv : S48 → S48) (l : List S48) (j : Nat) (hj : j < l.length) : rd_T48 (l.map mv) j = mv (rd_T48 l j) := by
  simp [rd_T48, List.getD_eq_getElem?_getD, hj]
theorem msh_l (m : List S48) (hm : SmP m) (hl : m.length ≤ 12) (h0' : 0 < m.length) (hq : ∀ j : Nat, 0 < j → j < m.length → (rd_T48 m (j - 1 : Nat)).f0 < (rd_T48 m j).f0 ∧ (rd_T48 m (j - 1 : Nat)).f1 ≤ (rd_T48 m j).f1) (d : Nat) :
    ∀ (k i : Nat), i ≤ m.length → m.length - i = d → d < k → ∃ r, spec_l02Shape.l0 k m i = some r ∧ ((∀ j : Nat, i ≤ j → j < m.length → Pt (rd_T48 m j)) → r = true) ∧ (∀ j : Nat, i ≤ j → j < m.length → ¬ Pt (rd_T48 m j) → r = false) := by
  induction d with
  | zero =>
    intro k i h0 hd hk
    obtain ⟨k, rfl⟩ : ∃ n, k = n + 1 := ⟨k - 1, by omega⟩
    simp only [spec_l02Shape.l0]
    rw [if_neg (by omega)]
    exact ⟨_, rfl, fun _ => decide_eq_true (by omega), fun j j0 j1 => by omega⟩
  | succ d ih =>
    intro k i h0 hd hk
    obtain ⟨k, rfl⟩ : ∃ n, k = n + 1 := ⟨k - 1, by omega⟩
    obtain ⟨s1, s2⟩ := smp_rd hm i (by omega)
    obtain ⟨r, e, z1, z2⟩ := ih k (i + 1) (by omega) (by omega) (by omega)
    have e' : spec_l02Shape.l0 k m ((i : Int) + 1) = some r := e
    simp only [spec_l02Shape.l0, spt_f s1 s2, Option.bind_some]
    rw [if_pos (by omega), if_pos (by omega), w64 (x := (i : Int) + 1) (by omega) (by omega), w64 (x := (i : Int) - 1) (by omega) (by omega), e']
    by_cases p : Pt (rd_T48 m i)
    · have p' := p
      unfold Pt at p'
      simp only [p', and_self, decide_true, if_true]
      have fin : ((∀ j : Nat, i ≤ j → j < m.length → Pt (rd_T48 m j)) → r = true) ∧ (∀ j : Nat, i ≤ j → j < m.length → ¬ Pt (rd_T48 m j) → r = false) := by
        refine ⟨fun h => z1 fun j j0 j1 => h j (by omega) j1, fun j j0 j1 hj => ?_⟩
        by_cases ej : j = i
        · rw [ej] at hj; exact absurd p hj
        · exact z2 j (by omega) j1 hj
      by_cases z : i = 0
      · rw [if_neg (by omega)]
        exact ⟨r, rfl, fin⟩
      · have q := hq i (by omega) (by omega)
        have ei : ((i : Int) - 1) = ((i - 1 : Nat) : Int) := by omega
        rw [if_pos (by omega), if_pos (by omega), if_pos (by omega), ei, if_neg (by omega), if_neg (by omega)]
        exact ⟨r, rfl, fin⟩
    · have p' : ¬ ((-200 ≤ (rd_T48 m i).f0 ∧ (rd_T48 m i).f0 ≤ 200) ∧ (0 ≤ (rd_T48 m i).f1 ∧ (rd_T48 m i).f1 ≤ 400)) := p
      simp only [p', decide_false, Bool.false_eq_true, if_false]
      exact ⟨_, rfl, fun h => absurd (h i (by omega) (by omega)) p, fun _ _ _ _ => rfl⟩
theorem mvd_l (l : List S48) (hc : Cur l) (a b : Int) (ha : -400 ≤ a ∧ a ≤ 400) (hb : -400 ≤ b ∧ b ≤ 400) (d : Nat) :
    ∀ (k i : Nat), i ≤ l.length → l.length - i = d → d + 20 < k → ∃ z, spec_l02Moved.l0 k l a b ((l.take i).map (mvM a b)) i = some z ∧ ((∀ j : Nat, j < l.length → Pt (mvM a b (rd_T48 l j))) → z = (l.map (mvM a b), 0)) ∧ (∀ j : Nat, j < l.length → ¬ Pt (mvM a b (rd_T48 l j)) → z = ([], 4)) := by
  have hl := hc.1
  have hs : ∀ j : Nat, j < l.length → Pt (rd_T48 l j) := fun j hj => (hc.2.2 j (by omega) hj).1
  induction d with
  | zero =>
    intro k i h0 hd hk
    obtain ⟨k, rfl⟩ : ∃ n, k = n + 1 := ⟨k - 1, by omega⟩
    simp only [spec_l02Moved.l0]
    rw [if_neg (by omega), List.take_of_length_le (by omega)]
    have hlen : (l.map (mvM a b)).length = l.length := List.length_map _
    obtain ⟨r, e, z1, z2⟩ := msh_l (l.map (mvM a b)) (fun x hx => by
        obtain ⟨y, hy, rfl⟩ := List.mem_map.1 hx
        obtain ⟨j, hj, e⟩ := List.getElem_of_mem hy
        have r : rd_T48 l j = y := by simp [rd_T48, List.getD_eq_getElem?_getD, hj, e]
        have s := hs j hj
        rw [r] at s
        unfold Pt at s
        show (-32768 ≤ y.f0 + a ∧ y.f0 + a ≤ 32767) ∧ (-32768 ≤ y.f1 + b ∧ y.f1 + b ≤ 32767)
        omega) (by omega) (by have := hc.2.1; omega) (fun j j0 j1 => by
        rw [hlen] at j1
        have q := (hc.2.2 j (by omega) j1).2 j0
        rw [rd_map _ l j j1, rd_map _ l (j - 1) (by omega)]
        show (rd_T48 l (j - 1 : Nat)).f0 + a < (rd_T48 l j).f0 + a ∧ (rd_T48 l (j - 1 : Nat)).f1 + b ≤ (rd_T48 l j).f1 + b
        omega) (l.map (mvM a b)).length k 0 (by omega) (by omega) (by omega)
    have e' : spec_l02Shape.f k (l.map (mvM a b)) = some r := e
    have g : decide (((l.map (mvM a b)).length : Int) ≤ 12) = true := decide_eq_true (by omega)
    simp only [spec_l02Ok.f, e', Option.bind_some, g]
    cases r with
    | true =>
      simp only [if_true, Option.bind_some]
      refine ⟨_, rfl, fun _ => rfl, fun j j1 hj => ?_⟩
      have := z2 j (by omega) (by omega) (by rw [rd_map _ l j j1]; exact hj)
      cases this
    | false =>
      simp only [Bool.false_eq_true, if_false, Option.bind_some]
      refine ⟨_, rfl, fun h => ?_, fun _ _ _ => rfl⟩
      have := z1 fun j _ j1 => by rw [hlen] at j1; rw [rd_map _ l j j1]; exact h j j1
      cases this
  | succ d ih =>
    intro k i h0 hd hk
    obtain ⟨k, rfl⟩ : ∃ n, k = n + 1 := ⟨k - 1, by omega⟩
    have s := hs i (by omega)
    unfold Pt at s
    obtain ⟨z, e, z1⟩ := ih k (i + 1) (by omega) (by omega) (by omega)
    rw [← take_s (mvM a b) i (by omega)] at e
    have hm : mvM a b (rd_T48 l i) = ⟨(rd_T48 l i).f0 + a, (rd_T48 l i).f1 + b⟩ := rfl
    have hlen : ((l.take i).map (mvM a b)).length < 35184372088832 := by rw [List.length_map, List.length_take]; omega
    simp only [spec_l02Moved.l0]
    rw [if_pos (by omega), if_pos (by omega), if_pos hlen, i16w (x := a) (by omega) (by omega), i16w (x := b) (by omega) (by omega), i16w (x := (rd_T48 l i).f0 + a) (by omega) (by omega), i16w (x := (rd_T48 l i).f1 + b) (by omega) (by omega), w64 (x := (i : Int) + 1) (by omega) (by omega), ← hm]
    exact ⟨z, e, z1⟩
/-- both, where 'ch' answers what the curve is moved by -/
theorem mvd_f (l : List S48) (hm : SmP l) (hl : l.length ≤ 1048576) (a b by_ : Int) (ch : Int → Int → Option (Int × Int)) (hab : a = by_ ∧ b = 0 ∨ a = 0 ∧ b = by_) (hch : (-400 ≤ by_ ∧ by_ ≤ 400) → ∀ x y : Int, (-200 ≤ x ∧ x ≤ 200) → (0 ≤ y ∧ y ≤ 400) → ch x y = some (x + a, y + b)) (k : Nat) (hk : l.length + 3000 < k) :
    ∃ z, spec_l02Moved.f k l a b = some z ∧ ((impl_isBy.f by_).bind fun u => impl_changed.f k l u ch) = some z ∧ z.1.length ≤ 1000 := by
  obtain ⟨k, rfl⟩ : ∃ n, k = n + 1 := ⟨k - 1, by omega⟩
  obtain ⟨r, e1, e2, e3⟩ := cur_f l hm hl (k + 1) (by omega)
  unfold spec_l02Moved.f impl_isBy.f
  simp only [e1, in_f, within_f, Option.bind_some]
  cases r with
  | false =>
    simp only [Bool.false_eq_true, if_false, chg_no _ l _ _ e2]
    exact ⟨_, rfl, rfl, by show 0 ≤ 1000; omega⟩
  | true =>
    simp only [if_true]
    by_cases c : -400 ≤ by_ ∧ by_ ≤ 400
    · have ha : -400 ≤ a ∧ a ≤ 400 := by omega
      have hb : -400 ≤ b ∧ b ≤ 400 := by omega
      simp only [c, ha, hb, and_self, decide_true, if_true, spec_l02Moved.j0, Bool.not_true, Bool.false_eq_true, if_false]
      have hc := e3 rfl
      have hs : ∀ j : Nat, j < l.length → Pt (rd_T48 l j) := fun j hj => (hc.2.2 j (by omega) hj).1
      obtain ⟨z, f1, f2, f3⟩ := mvd_l l hc a b ha hb l.length k 0 (by omega) (by omega) (by have := hc.1; omega)
      obtain ⟨y, g1, g2, g3⟩ := chg_f ch (mvM a b) l hc.1 hs (fun j hj => hch c _ _ (hs j hj).1 (hs j hj).2) (k + 1) (by omega) e2
      have hz : z = y ∧ z.1.length ≤ 1000 := by
        by_cases h : ∀ j : Nat, j < l.length → Pt (mvM a b (rd_T48 l j))
        · rw [f2 h, g2 h]
          exact ⟨rfl, by show (l.map _).length ≤ 1000; rw [List.length_map]; have := hc.1; omega⟩
        · obtain ⟨j, hj⟩ := Classical.not_forall.1 h
          obtain ⟨j1, hj⟩ := Classical.not_imp.1 hj
          rw [f3 j j1 hj, g3 j j1 hj]
          exact ⟨rfl, by show 0 ≤ 1000; omega⟩
      refine ⟨z, f1, ?_, hz.2⟩
      rw [g1, hz.1]
    · simp only [c, decide_false, chg_bad _ l _ e2]
      rcases hab with ⟨rfl, rfl⟩ | ⟨rfl, rfl⟩
      · simp only [c, decide_false, Bool.false_eq_true, if_false, spec_l02Moved.j0, if_true]
        exact ⟨_, rfl, rfl, by show 0 ≤ 1000; omega⟩
      · have g : -400 ≤ (0 : Int) ∧ (0 : Int) ≤ 400 := by omega
        simp only [g, c, and_self, decide_true, decide_false, Bool.false_eq_true, if_false, spec_l02Moved.j0, if_true, Bool.not_false]
        exact ⟨_, rfl, rfl, by show 0 ≤ 1000; omega⟩
def mkCurve (s : Int) : S48 := ⟨IntKind.i16.wrap s, IntKind.i16.wrap (s + 1)⟩
theorem markCurve_l (n : Nat) (hn : n ≤ 1048576) (d : Nat) : ∀ (k : Nat) (l : List S48) (s : Int) (i : Nat), l.length = n → i ≤ n → n - i = d → d < k → 0 ≤ s → s + 2 * d ≤ 100000000000 →
    ∃ l', laws_markCurve.l0 k l s i = some (s + 2 * d, l') ∧ l'.length = n ∧ (∀ j, j < i → l'.getD j z48 = l.getD j z48) ∧ (∀ j : Nat, i ≤ j → j < n → l'.getD j z48 = mkCurve (s + 2 * ((j : Int) - i))) := by
  induction d with
  | zero =>
    intro k l s i hl h0 hd hk hs hb
    obtain ⟨k, rfl⟩ : ∃ n, k = n + 1 := ⟨k - 1, by omega⟩
    simp only [laws_markCurve.l0]
    rw [if_neg (by omega)]
    exact ⟨l, by simp, hl, fun j hj => rfl, fun j j0 j1 => by omega⟩
  | succ d ih =>
    intro k l s i hl h0 hd hk hs hb
    obtain ⟨k, rfl⟩ : ∃ n, k = n + 1 := ⟨k - 1, by omega⟩
    simp only [laws_markCurve.l0]
    rw [if_pos (by omega), if_pos (by omega), Option.bind_some, w64 (x := s + 1) (by omega) (by omega), w64 (x := s + 1 + 1) (by omega) (by omega), w64 (x := (i : Int) + 1) (by omega) (by omega)]
    have hset : ∀ x : S48, (l.set i x).getD i z48 = x := fun x => getD_set_eq _ _ _ _ (by omega)
    simp only [rd_T48, Int.toNat_natCast, List.set_set, hset]
    obtain ⟨l', e1, e2, e3, e4⟩ := ih k (l.set i (mkCurve s)) (s + 1 + 1) (i + 1) (by simpa using hl) (by omega) (by omega) (by omega) (by omega) (by omega)
    refine ⟨l', ?_, e2, fun j hj => ?_, fun j j0 j1 => ?_⟩
    · rw [show s + 2 * ((d + 1 : Nat) : Int) = s + 1 + 1 + 2 * (d : Int) by omega]
      exact e1
    · rw [e3 j (by omega), getD_set_ne _ _ _ _ _ (by omega)]
    · by_cases c : j = i
      · subst c
        rw [e3 j (by omega), getD_set_eq _ _ _ _ (by omega)]
        congr 1
        omega
      · rw [e4 j (by omega) j1]
        congr 1
        omega
theorem markCurve_r (l : List S48) (hl : l.length ≤ 1048576) (k : Nat) (hk : l.length < k) : ∃ l', laws_markCurve.f k l 1 = some (1 + 2 * (l.length : Int), l') := by
  obtain ⟨l', e1, e2, _, e4⟩ := markCurve_l l.length hl l.length k l 1 0 rfl (by omega) (by omega) hk (by omega) (by omega)
  exact ⟨l', e1⟩
theorem markCurve_s (l : List S48) (s : Int) (hs : 0 ≤ s ∧ s ≤ 10000000) (hl : l.length ≤ 1048576) (k : Nat) (hk : l.length < k) : ∃ l', laws_markCurve.f k l s = some (s + 2 * (l.length : Int), l') := by
  obtain ⟨l', e1, e2, _, e4⟩ := markCurve_l l.length hl l.length k l s 0 rfl (by omega) (by omega) hk (by omega) (by omega)
  exact ⟨l', e1⟩
theorem heldCurve_l (n : Nat) (hn : n ≤ 1048576) (l : List S48) (hl : l.length = n) (d : Nat) : ∀ (k : Nat) (s : Int) (i : Nat), i ≤ n → n - i = d → d < k → 0 ≤ s → s + 2 * d ≤ 100000000000 → (∀ j : Nat, i ≤ j → j < n → l.getD j z48 = mkCurve (s + 2 * ((j : Int) - i))) →
    laws_heldCurve.l0 k l s i = some (s + 2 * d) := by
  induction d with
  | zero =>
    intro k s i h0 hd hk hs hb hj
    obtain ⟨k, rfl⟩ : ∃ n, k = n + 1 := ⟨k - 1, by omega⟩
    simp only [laws_heldCurve.l0]
    rw [if_neg (by omega)]
    simp
  | succ d ih =>
    intro k s i h0 hd hk hs hb hj
    obtain ⟨k, rfl⟩ : ∃ n, k = n + 1 := ⟨k - 1, by omega⟩
    have e := hj i (by omega) (by omega)
    rw [show s + 2 * ((i : Int) - i) = s by omega] at e
    have e' : rd_T48 l i = mkCurve s := by rw [rd_T48, Int.toNat_natCast]; exact e
    have c1 : (i : Int) < (l.length : Int) := by omega
    have c2 : 0 ≤ (i : Int) := by omega
    simp only [laws_heldCurve.l0, e', mkCurve, w64 (x := s + 1) (by omega) (by omega), w64 (x := s + 1 + 1) (by omega) (by omega), w64 (x := (i : Int) + 1) (by omega) (by omega), c1, c2, if_true]
    rw [show s + 2 * ((d + 1 : Nat) : Int) = s + 1 + 1 + 2 * (d : Int) by omega]
    refine ih k (s + 1 + 1) (i + 1) (by omega) (by omega) (by omega) (by omega) (by omega) (fun j j0 j1 => ?_)
    rw [hj j (by omega) j1]
    congr 1
    omega
theorem markCurve_f (l : List S48) (hl : l.length ≤ 1048576) (k : Nat) (hk : l.length < k) : ∃ l', laws_markCurve.f k l 1 = some (1 + 2 * (l.length : Int), l') ∧ l'.length = l.length ∧ ∀ k', l.length < k' → laws_heldCurve.f k' l' 1 = some (1 + 2 * (l.length : Int)) := by
  obtain ⟨l', e1, e2, _, e4⟩ := markCurve_l l.length hl l.length k l 1 0 rfl (by omega) (by omega) hk (by omega) (by omega)
  exact ⟨l', e1, e2, fun k' hk' => heldCurve_l l.length hl l' e2 l.length k' 1 0 (by omega) (by omega) hk' (by omega) (by omega) e4⟩
theorem up {α : Type} {g : Nat → Option α} (h : ∀ k, LeO (g k) (g (k + 1))) {r q : α} (i j : Nat) (hr : g i = some r) (hq : g j = some q) : g j = some r := by
  have a := at_rounds h (Nat.le_max_left i j) hr
  have b := at_rounds h (Nat.le_max_right i j) hq
  rw [a] at b
  rw [hq, Option.some.inj b]
theorem mov_f (l : List S48) (hm : SmP l) (hl : l.length ≤ 1048576) (x : Int) (k : Nat) (hk : l.length + 3000 < k) :
    ∃ z, spec_ShiftCurve.f k l x = some z ∧ impl_ShiftCurve.f k l x = some z ∧ z.1.length ≤ 1000 := by
  obtain ⟨z, e1, e2, e3⟩ := mvd_f l hm hl x 0 x (impl_ShiftCurve.ch x) (.inl ⟨rfl, rfl⟩) (fun hx u v hu hv => by
    unfold impl_ShiftCurve.ch
    rw [w64 (x := u + x) (by omega) (by omega), Int.add_zero]) k hk
  refine ⟨z, ?_, e2, e3⟩
  unfold spec_ShiftCurve.f
  rw [e1]
  rfl
theorem FnExactShiftCurve : laws_FnExactShiftCurve.Pure := by
  intro l x h0 h0w _
  refine ⟨2000000, ?_⟩
  unfold laws_FnExactShiftCurve.f
  rw [szCurve_g l 1048576 (by omega) (by omega), Option.bind_some]
  by_cases c : (l.length : Int) ≤ 1048576
  · rw [if_pos c, if_neg (by omega), toCurve_f l (by omega) _ (by omega)]
    have hl : (l.map cvCurve).length ≤ 1048576 := by rw [List.length_map]; omega
    obtain ⟨z, z1, z2, z3⟩ := mov_f _ (smp_map h0w) hl x 2000000 (by omega)
    obtain ⟨y, y1, y2, y3⟩ := mov_f _ (smp_map h0w) hl x 1999998 (by omega)
    have hz : impl_ShiftCurve.f 1999998 (l.map cvCurve) x = some z := up (impl_ShiftCurve.mono (l.map cvCurve) x) 2000000 1999998 z2 y2
    obtain ⟨l1, m1⟩ := markCurve_s _ 1 (by omega) hl 1999999 (by omega)
    obtain ⟨l3, n1, n2, n3⟩ := markCurve_f z.1 (by omega) 1999998 (by omega)
    have q0 : ∀ k, 1999990 ≤ k → laws_eqCurve.f k z.1 z.1 = some true := fun k hk => eqCurve_f _ (by omega) k (by omega)
    simp only [Option.bind_some, z1, z2, q0 2000000 (by omega), if_true, bne_self_eq_false]
    simp only [laws_FnExactShiftCurve.j0, Bool.false_eq_true, if_false, toCurve_f l (show l.length ≤ 1048576 by omega) 1999999 (by omega), Option.bind_some, eqCurve_f _ hl 1999999 (by omega), if_true, m1, q0 1999999 (by omega), bne_self_eq_false]
    rw [if_neg (by omega)]
    simp only [laws_FnExactShiftCurve.j1, Bool.false_eq_true, if_false, n1, Option.bind_some, n3 1999998 (by omega), if_true, toCurve_f l (show l.length ≤ 1048576 by omega) 1999998 (by omega), hz, q0 1999998 (by omega), bne_self_eq_false]
    rw [if_neg (by omega)]
    simp only [laws_FnExactShiftCurve.j2, Bool.false_eq_true, if_false, n3 1999997 (by omega), Option.bind_some, if_true]
    rw [if_neg (by omega)]
  · rw [if_neg c, if_pos (by omega)]

end Go.Proofs.Ytgiginnaenfjhaa.Pure
