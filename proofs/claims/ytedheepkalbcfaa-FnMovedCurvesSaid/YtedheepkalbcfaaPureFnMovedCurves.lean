/- Proves, in plain numbers and lists, that the law FnMovedCurves answers true at all inputs. No condition is added. -/
import Derived.Test.YtedheepkalbcfaaPFnMovedCurvesx0
import Derived.Test.YtedheepkalbcfaaPFnMovedCurvesx1
import Derived.Test.YtedheepkalbcfaaPFnMovedCurvesx2
import Derived.Test.YtedheepkalbcfaaPFnMovedCurvesx3
import Derived.Test.YtedheepkalbcfaaPFnMovedCurvesx4
import Derived.Test.YtedheepkalbcfaaPFnMovedCurvesx5
import Derived.Test.YtedheepkalbcfaaPFnMovedCurvesx6
import Derived.Test.YtedheepkalbcfaaPFnMovedCurvesx7
import Derived.Test.YtedheepkalbcfaaPFnMovedCurvesx8
import Derived.Test.YtedheepkalbcfaaPFnMovedCurvesx9
import Derived.Test.YtedheepkalbcfaaPFnMovedCurvesx10
import Derived.Test.YtedheepkalbcfaaPFnMovedCurvesx11
import Derived.Test.YtedheepkalbcfaaPFnMovedCurvesx12
import Derived.Test.YtedheepkalbcfaaPFnMovedCurvesx13
import Derived.Test.YtedheepkalbcfaaPFnMovedCurvesx14
import Derived.Test.YtedheepkalbcfaaPFnMovedCurvesx15
namespace Go.Proofs.Ytedheepkalbcfaa.Pure
open Go.RowKit Go.Proofs.Ytedheepkalbcfaa.PFnMovedCurves Go.Proofs.YtedheepkalbcfaaW.PrintWords Go.Proofs.YtedheepkalbcfaaW.PrintLast Go.Proofs.YtedheepkalbcfaaW.PrintMore
set_option linter.unusedVariables false
set_option linter.unusedSimpArgs false
theorem w64 {x : Int} (h : -9223372036854775808 ≤ x) (h' : x ≤ 9223372036854775807) : wrap64 x = x := by unfold wrap64; omega
theorem i16w {x : Int} (h : -32768 ≤ x) (h' : x ≤ 32767) : IntKind.i16.wrap x = x := by
 show (if (true && decide (x % 65536 ≥ 32768)) = true then x % 65536 - 65536 else x % 65536) = x
 by_cases e : x % 65536 ≥ 32768
 · rw [if_pos (by simpa using e)]; omega
 · rw [if_neg (by simpa using e)]; omega
theorem u64w {x : Int} (h : 0 ≤ x) (h' : x ≤ 18446744073709551615) : IntKind.u64.wrap x = x := by
 show (if (false && decide (x % 18446744073709551616 ≥ 9223372036854775808)) = true then x % 18446744073709551616 - 18446744073709551616 else x % 18446744073709551616) = x
 rw [if_neg (by simp)]; omega
theorem getD_mem {α : Type} (l : List α) (i : Nat) (d : α) (h : i < l.length) : l.getD i d ∈ l := by
 rw [List.getD_eq_getElem?_getD, List.getElem?_eq_getElem h]
 exact List.getElem_mem h
theorem in_f (a b c : Int) : spec_l00In.f a b c = some (decide (b ≤ a ∧ a ≤ c)) := by
 unfold spec_l00In.f
 by_cases h : b ≤ a <;> simp [h]
theorem within_f (a b c : Int) : impl_within.f a b c = some (decide (b ≤ a ∧ a ≤ c)) := by
 unfold impl_within.f
 by_cases h : b ≤ a <;> simp [h]
def SmP (m : List S37) : Prop := ∀ x ∈ m, (-32768 ≤ x.f0 ∧ x.f0 ≤ 32767) ∧ (-32768 ≤ x.f1 ∧ x.f1 ≤ 32767)
theorem smp_rd {m : List S37} (h : SmP m) (i : Nat) (hi : i < m.length) : (-32768 ≤ (rd_T37 m i).f0 ∧ (rd_T37 m i).f0 ≤ 32767) ∧ (-32768 ≤ (rd_T37 m i).f1 ∧ (rd_T37 m i).f1 ≤ 32767) := by
 have := h _ (getD_mem m i z37 hi)
 simpa [rd_T37] using this
def Pt (p : S37) : Prop := (-200 ≤ p.f0 ∧ p.f0 ≤ 200) ∧ (0 ≤ p.f1 ∧ p.f1 ≤ 400)
theorem spt_f {p : S37} (h : -32768 ≤ p.f0 ∧ p.f0 ≤ 32767) (h' : -32768 ≤ p.f1 ∧ p.f1 ≤ 32767) : spec_l02Point.f p.f0 p.f1 = some (decide ((-200 ≤ p.f0 ∧ p.f0 ≤ 200) ∧ (0 ≤ p.f1 ∧ p.f1 ≤ 400))) := by
 unfold spec_l02Point.f spec_l02Place.f spec_l02Density.f
 rw [w64 (x := p.f0) (by omega) (by omega), w64 (x := p.f1) (by omega) (by omega)]
 simp only [in_f, Option.bind_some]
 by_cases c : -200 ≤ p.f0 ∧ p.f0 ≤ 200 <;> simp [c]
theorem ipt_f {p : S37} (h : -32768 ≤ p.f0 ∧ p.f0 ≤ 32767) (h' : -32768 ≤ p.f1 ∧ p.f1 ≤ 32767) : impl_isPoint.f p.f0 p.f1 = some (decide ((-200 ≤ p.f0 ∧ p.f0 ≤ 200) ∧ (0 ≤ p.f1 ∧ p.f1 ≤ 400))) := by
 unfold impl_isPoint.f impl_isPlace.f impl_isDensity.f
 rw [w64 (x := p.f0) (by omega) (by omega), w64 (x := p.f1) (by omega) (by omega)]
 simp only [within_f, Option.bind_some]
 by_cases c : -200 ≤ p.f0 ∧ p.f0 ≤ 200 <;> simp [c]
def Shp (m : List S37) (i : Nat) : Prop := 0 < m.length ∧ ∀ j : Nat, i ≤ j → j < m.length → Pt (rd_T37 m j) ∧ (0 < j → (rd_T37 m (j - 1 : Nat)).f0 < (rd_T37 m j).f0 ∧ (rd_T37 m (j - 1 : Nat)).f1 ≤ (rd_T37 m j).f1)
def Cur (m : List S37) : Prop := m.length ≤ 12 ∧ Shp m 0
theorem shape_l (m : List S37) (hm : SmP m) (hl : m.length ≤ 1048576) (d : Nat) : ∀ (k i : Nat), i ≤ m.length → m.length - i = d → d < k →
 ∃ r, spec_l02Shape.l0 k m i = some r ∧ impl_isCurve.l0 k m m (m.length : Int) i = some r ∧ (r = true → Shp m i) := by
 induction d with
 | zero =>
  intro k i h0 hd hk
  obtain ⟨k, rfl⟩ : ∃ n, k = n + 1 := ⟨k - 1, by omega⟩
  simp only [spec_l02Shape.l0, impl_isCurve.l0]
  have g1 : ¬ (i : Int) < (m.length : Int) := by omega
  simp only [g1, if_false]
  refine ⟨_, rfl, rfl, fun h => ⟨?_, fun j j0 j1 => by omega⟩⟩
  have := of_decide_eq_true h
  omega
 | succ d ih =>
  intro k i h0 hd hk
  obtain ⟨k, rfl⟩ : ∃ n, k = n + 1 := ⟨k - 1, by omega⟩
  obtain ⟨s1, s2⟩ := smp_rd hm i (by omega)
  have g1 : (i : Int) < (m.length : Int) := by omega
  have g2 : 0 ≤ (i : Int) := by omega
  have hpos : 0 < m.length := by omega
  obtain ⟨r, e1, e2, e3⟩ := ih k (i + 1) (by omega) (by omega) (by omega)
  have e1' : spec_l02Shape.l0 k m ((i : Int) + 1) = some r := e1
  have e2' : impl_isCurve.l0 k m m (m.length : Int) ((i : Int) + 1) = some r := e2
  have fin : Pt (rd_T37 m i) → (0 < i → (rd_T37 m (i - 1 : Nat)).f0 < (rd_T37 m i).f0 ∧ (rd_T37 m (i - 1 : Nat)).f1 ≤ (rd_T37 m i).f1) → r = true → Shp m i := by
   intro p1 p2 hr
   obtain ⟨_, t2⟩ := e3 hr
   refine ⟨hpos, fun j j0 j1 => ?_⟩
   by_cases e : j = i
   · subst e; exact ⟨p1, p2⟩
   · exact t2 j (by omega) j1
  simp only [spec_l02Shape.l0, impl_isCurve.l0, spt_f s1 s2, ipt_f s1 s2, g1, g2, if_true, Option.bind_some]
  rw [w64 (x := (i : Int) + 1) (by omega) (by omega), w64 (x := (i : Int) - 1) (by omega) (by omega), e1', e2']
  by_cases c : (-200 ≤ (rd_T37 m i).f0 ∧ (rd_T37 m i).f0 ≤ 200) ∧ (0 ≤ (rd_T37 m i).f1 ∧ (rd_T37 m i).f1 ≤ 400)
  · simp only [c, and_self, decide_true, if_true]
    by_cases z : i = 0
    · subst z
      have g3 : ¬ ((0 : Nat) : Int) > 0 := by omega
      simp only [g3, if_false]
      exact ⟨r, rfl, rfl, fin c (fun h => by omega)⟩
    · have ei : ((i : Int) - 1) = ((i - 1 : Nat) : Int) := by omega
      have g3 : (i : Int) > 0 := by omega
      have g4 : 0 ≤ ((i - 1 : Nat) : Int) := by omega
      have g5 : ((i - 1 : Nat) : Int) < (m.length : Int) := by omega
      rw [ei]
      simp only [g3, g4, g5, if_true]
      by_cases c3 : (rd_T37 m i).f0 ≤ (rd_T37 m (i - 1 : Nat)).f0
      · have c3' : (rd_T37 m (i - 1 : Nat)).f0 ≥ (rd_T37 m i).f0 := c3
        simp only [c3, c3', if_true]
        exact ⟨_, rfl, rfl, fun h => by cases h⟩
      · have c3' : ¬ (rd_T37 m (i - 1 : Nat)).f0 ≥ (rd_T37 m i).f0 := c3
        simp only [c3, c3', if_false]
        by_cases c4 : (rd_T37 m i).f1 < (rd_T37 m (i - 1 : Nat)).f1
        · have c4' : (rd_T37 m (i - 1 : Nat)).f1 > (rd_T37 m i).f1 := c4
          simp only [c4, c4', if_true]
          exact ⟨_, rfl, rfl, fun h => by cases h⟩
        · have c4' : ¬ (rd_T37 m (i - 1 : Nat)).f1 > (rd_T37 m i).f1 := c4
          simp only [c4, c4', if_false]
          exact ⟨r, rfl, rfl, fin c (fun _ => by omega)⟩
  · simp only [c, decide_false, Bool.false_eq_true, if_false]
    exact ⟨_, rfl, rfl, fun h => by cases h⟩
theorem shape_f (m : List S37) (hm : SmP m) (hl : m.length ≤ 1048576) (k : Nat) (hk : m.length < k) : ∃ r, spec_l02Shape.f k m = some r ∧ impl_isCurve.f k m = some r ∧ (r = true → Shp m 0) :=
 shape_l m hm hl m.length k 0 (by omega) (by omega) hk
theorem cur_f (m : List S37) (hm : SmP m) (hl : m.length ≤ 1048576) (k : Nat) (hk : m.length < k) : ∃ r, spec_l02Ok.f k m = some r ∧ impl_ValidCurve.f k m = some r ∧ (r = true → Cur m) := by
 obtain ⟨r, e1, e2, e3⟩ := shape_f m hm hl k hk
 unfold spec_l02Ok.f impl_ValidCurve.f
 simp only [e1, e2, Option.bind_some]
 cases r with
 | true =>
  simp only [if_true]
  exact ⟨_, rfl, rfl, fun h => ⟨by have := of_decide_eq_true h; omega, e3 rfl⟩⟩
 | false =>
  simp only [Bool.false_eq_true, if_false]
  exact ⟨_, rfl, rfl, fun h => by cases h⟩
theorem take_s {l : List S37} (mv : S37 → S37) (i : Nat) (hi : i < l.length) : (l.take i).map mv ++ [mv (rd_T37 l i)] = (l.take (i + 1)).map mv := by
 have r : rd_T37 l i = l[i] := by simp [rd_T37, List.getD_eq_getElem?_getD, hi]
 rw [r, List.take_succ_eq_append_getElem hi, List.map_append]
 rfl
theorem chg_l (ch : Int → Int → Option (Int × Int)) (mv : S37 → S37) (l : List S37) (hl : l.length ≤ 12) (hs : ∀ j : Nat, j < l.length → Pt (rd_T37 l j)) (hc : ∀ j : Nat, j < l.length → ch (rd_T37 l j).f0 (rd_T37 l j).f1 = some ((mv (rd_T37 l j)).f0, (mv (rd_T37 l j)).f1)) (d : Nat) :
 ∀ (k i : Nat), i ≤ l.length → l.length - i = d → d < k → ∃ z, impl_changed.l0 k ch ((l.take i).map mv) l (l.length : Int) i = some z ∧ ((∀ j : Nat, i ≤ j → j < l.length → Pt (mv (rd_T37 l j))) → z = (l.map mv, 0)) ∧ (∀ j : Nat, i ≤ j → j < l.length → ¬ Pt (mv (rd_T37 l j)) → z = ([], 4)) := by
 induction d with
 | zero =>
  intro k i h0 hd hk
  obtain ⟨k, rfl⟩ : ∃ n, k = n + 1 := ⟨k - 1, by omega⟩
  simp only [impl_changed.l0]
  rw [if_neg (by omega)]
  exact ⟨_, rfl, fun _ => by rw [List.take_of_length_le (by omega)], fun j j0 j1 => by omega⟩
 | succ d ih =>
  intro k i h0 hd hk
  obtain ⟨k, rfl⟩ : ∃ n, k = n + 1 := ⟨k - 1, by omega⟩
  have s := hs i (by omega)
  unfold Pt at s
  have c := hc i (by omega)
  obtain ⟨z, e, z1, z2⟩ := ih k (i + 1) (by omega) (by omega) (by omega)
  rw [← take_s mv i (by omega)] at e
  simp only [impl_changed.l0]
  rw [if_pos (by omega), if_pos (by omega), if_pos (by omega), w64 (x := (rd_T37 l i).f0) (by omega) (by omega), w64 (x := (rd_T37 l i).f1) (by omega) (by omega), c, w64 (x := (i : Int) + 1) (by omega) (by omega)]
  simp only [Option.bind_some, impl_isPlace.f, impl_isDensity.f, within_f]
  by_cases p : Pt (mv (rd_T37 l i))
  · have p' := p
    unfold Pt at p
    have p1 := p.1
    have p2 := p.2
    have hlen : ((l.take i).map mv).length < 35184372088832 := by rw [List.length_map, List.length_take]; omega
    simp only [p1, p2, hlen, and_self, decide_true, if_true]
    rw [i16w (by omega) (by omega), i16w (by omega) (by omega)]
    refine ⟨z, e, fun h => z1 fun j j0 j1 => h j (by omega) j1, fun j j0 j1 hj => ?_⟩
    by_cases ej : j = i
    · rw [ej] at hj; exact absurd p' hj
    · exact z2 j (by omega) j1 hj
  · refine ⟨([], 4), ?_, fun h => absurd (h i (by omega) (by omega)) p, fun _ _ _ _ => rfl⟩
    unfold Pt at p
    by_cases p1 : -200 ≤ (mv (rd_T37 l i)).f0 ∧ (mv (rd_T37 l i)).f0 ≤ 200
    · have p2 : ¬ (0 ≤ (mv (rd_T37 l i)).f1 ∧ (mv (rd_T37 l i)).f1 ≤ 400) := fun h => p ⟨p1, h⟩
      simp only [p1, p2, and_self, decide_true, decide_false, if_true, Bool.false_eq_true, if_false]
    · simp only [p1, decide_false, Bool.false_eq_true, if_false]
theorem chg_f (ch : Int → Int → Option (Int × Int)) (mv : S37 → S37) (l : List S37) (hl : l.length ≤ 12) (hs : ∀ j : Nat, j < l.length → Pt (rd_T37 l j)) (hc : ∀ j : Nat, j < l.length → ch (rd_T37 l j).f0 (rd_T37 l j).f1 = some ((mv (rd_T37 l j)).f0, (mv (rd_T37 l j)).f1)) (k : Nat) (hk : 12 < k) (hv : impl_ValidCurve.f k l = some true) :
 ∃ z, impl_changed.f k l true ch = some z ∧ ((∀ j : Nat, j < l.length → Pt (mv (rd_T37 l j))) → z = (l.map mv, 0)) ∧ (∀ j : Nat, j < l.length → ¬ Pt (mv (rd_T37 l j)) → z = ([], 4)) := by
 obtain ⟨z, e, z1, z2⟩ := chg_l ch mv l hl hs hc l.length k 0 (by omega) (by omega) (by omega)
 refine ⟨z, ?_, fun h => z1 fun j _ j1 => h j j1, fun j j1 hj => z2 j (by omega) j1 hj⟩
 unfold impl_changed.f impl_curveCode.f
 simp only [hv, Option.bind_some, if_true]
 exact e
theorem chg_no (ch : Int → Int → Option (Int × Int)) (l : List S37) (u : Bool) (k : Nat) (hv : impl_ValidCurve.f k l = some false) : impl_changed.f k l u ch = some ([], 1) := by
 unfold impl_changed.f impl_curveCode.f
 simp only [hv, Option.bind_some, Bool.false_eq_true, if_false]
 rw [if_neg (by decide)]
theorem chg_bad (ch : Int → Int → Option (Int × Int)) (l : List S37) (k : Nat) (hv : impl_ValidCurve.f k l = some true) : impl_changed.f k l false ch = some ([], 2) := by
 unfold impl_changed.f impl_curveCode.f
 simp only [hv, Option.bind_some, Bool.false_eq_true, if_true, if_false]
 rw [if_neg (by decide)]
def mvM (a b : Int) (p : S37) : S37 := ⟨p.f0 + a, p.f1 + b⟩
theorem rd_map (mv : S37 → S37) (l : List S37) (j : Nat) (hj : j < l.length) : rd_T37 (l.map mv) j = mv (rd_T37 l j) := by
 simp [rd_T37, List.getD_eq_getElem?_getD, hj]
theorem msh_l (m : List S37) (hm : SmP m) (hl : m.length ≤ 12) (h0' : 0 < m.length) (hq : ∀ j : Nat, 0 < j → j < m.length → (rd_T37 m (j - 1 : Nat)).f0 < (rd_T37 m j).f0 ∧ (rd_T37 m (j - 1 : Nat)).f1 ≤ (rd_T37 m j).f1) (d : Nat) :
 ∀ (k i : Nat), i ≤ m.length → m.length - i = d → d < k → ∃ r, spec_l02Shape.l0 k m i = some r ∧ ((∀ j : Nat, i ≤ j → j < m.length → Pt (rd_T37 m j)) → r = true) ∧ (∀ j : Nat, i ≤ j → j < m.length → ¬ Pt (rd_T37 m j) → r = false) := by
 induction d with
 | zero =>
  intro k i h0 hd hk
  obtain ⟨k, rfl⟩ : ∃ n, k = n + 1 := ⟨k - 1, by omega⟩
  simp only [spec_l02Shape.l0]
  rw [if_neg (by omega)]
  exact ⟨_, rfl, fun _ => decide_eq_true (by omega), fun j j0 j1 => by omega⟩
 | succ d ih =>
  intro k i h0 hd hk
  obtain ⟨k, rfl⟩ : ∃ n, k = n + 1 := ⟨k - 1, by omega⟩
  obtain ⟨s1, s2⟩ := smp_rd hm i (by omega)
  obtain ⟨r, e, z1, z2⟩ := ih k (i + 1) (by omega) (by omega) (by omega)
  have e' : spec_l02Shape.l0 k m ((i : Int) + 1) = some r := e
  simp only [spec_l02Shape.l0, spt_f s1 s2, Option.bind_some]
  rw [if_pos (by omega), if_pos (by omega), w64 (x := (i : Int) + 1) (by omega) (by omega), w64 (x := (i : Int) - 1) (by omega) (by omega), e']
  by_cases p : Pt (rd_T37 m i)
  · have p' := p
    unfold Pt at p'
    simp only [p', and_self, decide_true, if_true]
    have fin : ((∀ j : Nat, i ≤ j → j < m.length → Pt (rd_T37 m j)) → r = true) ∧ (∀ j : Nat, i ≤ j → j < m.length → ¬ Pt (rd_T37 m j) → r = false) := by
     refine ⟨fun h => z1 fun j j0 j1 => h j (by omega) j1, fun j j0 j1 hj => ?_⟩
     by_cases ej : j = i
     · rw [ej] at hj; exact absurd p hj
     · exact z2 j (by omega) j1 hj
    by_cases z : i = 0
    · rw [if_neg (by omega)]
      exact ⟨r, rfl, fin⟩
    · have q := hq i (by omega) (by omega)
      have ei : ((i : Int) - 1) = ((i - 1 : Nat) : Int) := by omega
      rw [if_pos (by omega), if_pos (by omega), if_pos (by omega), ei, if_neg (by omega), if_neg (by omega)]
      exact ⟨r, rfl, fin⟩
  · have p' : ¬ ((-200 ≤ (rd_T37 m i).f0 ∧ (rd_T37 m i).f0 ≤ 200) ∧ (0 ≤ (rd_T37 m i).f1 ∧ (rd_T37 m i).f1 ≤ 400)) := p
    simp only [p', decide_false, Bool.false_eq_true, if_false]
    exact ⟨_, rfl, fun h => absurd (h i (by omega) (by omega)) p, fun _ _ _ _ => rfl⟩
theorem mvd_l (l : List S37) (hc : Cur l) (a b : Int) (ha : -400 ≤ a ∧ a ≤ 400) (hb : -400 ≤ b ∧ b ≤ 400) (d : Nat) :
 ∀ (k i : Nat), i ≤ l.length → l.length - i = d → d + 20 < k → ∃ z, spec_l02Moved.l0 k l a b ((l.take i).map (mvM a b)) i = some z ∧ ((∀ j : Nat, j < l.length → Pt (mvM a b (rd_T37 l j))) → z = (l.map (mvM a b), 0)) ∧ (∀ j : Nat, j < l.length → ¬ Pt (mvM a b (rd_T37 l j)) → z = ([], 4)) := by
 have hl := hc.1
 have hs : ∀ j : Nat, j < l.length → Pt (rd_T37 l j) := fun j hj => (hc.2.2 j (by omega) hj).1
 induction d with
 | zero =>
  intro k i h0 hd hk
  obtain ⟨k, rfl⟩ : ∃ n, k = n + 1 := ⟨k - 1, by omega⟩
  simp only [spec_l02Moved.l0]
  rw [if_neg (by omega), List.take_of_length_le (by omega)]
  have hlen : (l.map (mvM a b)).length = l.length := List.length_map _
  obtain ⟨r, e, z1, z2⟩ := msh_l (l.map (mvM a b)) (fun x hx => by
   obtain ⟨y, hy, rfl⟩ := List.mem_map.1 hx
   obtain ⟨j, hj, e⟩ := List.getElem_of_mem hy
   have r : rd_T37 l j = y := by simp [rd_T37, List.getD_eq_getElem?_getD, hj, e]
   have s := hs j hj
   rw [r] at s
   unfold Pt at s
   show (-32768 ≤ y.f0 + a ∧ y.f0 + a ≤ 32767) ∧ (-32768 ≤ y.f1 + b ∧ y.f1 + b ≤ 32767)
   omega) (by omega) (by have := hc.2.1; omega) (fun j j0 j1 => by
   rw [hlen] at j1
   have q := (hc.2.2 j (by omega) j1).2 j0
   rw [rd_map _ l j j1, rd_map _ l (j - 1) (by omega)]
   show (rd_T37 l (j - 1 : Nat)).f0 + a < (rd_T37 l j).f0 + a ∧ (rd_T37 l (j - 1 : Nat)).f1 + b ≤ (rd_T37 l j).f1 + b
   omega) (l.map (mvM a b)).length k 0 (by omega) (by omega) (by omega)
  have e' : spec_l02Shape.f k (l.map (mvM a b)) = some r := e
  have g : decide (((l.map (mvM a b)).length : Int) ≤ 12) = true := decide_eq_true (by omega)
  simp only [spec_l02Ok.f, e', Option.bind_some, g]
  cases r with
  | true =>
   simp only [if_true, Option.bind_some]
   refine ⟨_, rfl, fun _ => rfl, fun j j1 hj => ?_⟩
   have := z2 j (by omega) (by omega) (by rw [rd_map _ l j j1]; exact hj)
   cases this
  | false =>
   simp only [Bool.false_eq_true, if_false, Option.bind_some]
   refine ⟨_, rfl, fun h => ?_, fun _ _ _ => rfl⟩
   have := z1 fun j _ j1 => by rw [hlen] at j1; rw [rd_map _ l j j1]; exact h j j1
   cases this
 | succ d ih =>
  intro k i h0 hd hk
  obtain ⟨k, rfl⟩ : ∃ n, k = n + 1 := ⟨k - 1, by omega⟩
  have s := hs i (by omega)
  unfold Pt at s
  obtain ⟨z, e, z1⟩ := ih k (i + 1) (by omega) (by omega) (by omega)
  rw [← take_s (mvM a b) i (by omega)] at e
  have hm : mvM a b (rd_T37 l i) = ⟨(rd_T37 l i).f0 + a, (rd_T37 l i).f1 + b⟩ := rfl
  have hlen : ((l.take i).map (mvM a b)).length < 35184372088832 := by rw [List.length_map, List.length_take]; omega
  simp only [spec_l02Moved.l0]
  rw [if_pos (by omega), if_pos (by omega), if_pos hlen, i16w (x := a) (by omega) (by omega), i16w (x := b) (by omega) (by omega), i16w (x := (rd_T37 l i).f0 + a) (by omega) (by omega), i16w (x := (rd_T37 l i).f1 + b) (by omega) (by omega), w64 (x := (i : Int) + 1) (by omega) (by omega), ← hm]
  exact ⟨z, e, z1⟩
def Bytes (l : List Int) : Prop := ∀ x ∈ l, 0 ≤ x ∧ x ≤ 255
theorem bytes_rd {l : List Int} (h : Bytes l) (i : Nat) (hi : i < l.length) : 0 ≤ rd l i ∧ rd l i ≤ 255 := by
 have hm : l.getD i 0 ∈ l := by
  rw [List.getD_eq_getElem?_getD, List.getElem?_eq_getElem hi]
  exact List.getElem_mem hi
 have := h _ hm
 simpa [rd] using this
theorem and255 (x : Int) (h : 0 ≤ x) (h' : x < 18446744073709551616) : Go.bits .and .u64 x 255 = x % 256 :=
 bits_mask .u64 64 (by decide) (fun n a b => u64w a (by omega)) 8 (by decide) x h h'
theorem u64wr (x : Int) : 0 ≤ IntKind.u64.wrap x ∧ IntKind.u64.wrap x < 18446744073709551616 := by
 show 0 ≤ (if (false && decide (x % 18446744073709551616 ≥ 9223372036854775808)) = true then x % 18446744073709551616 - 18446744073709551616 else x % 18446744073709551616) ∧ (if (false && decide (x % 18446744073709551616 ≥ 9223372036854775808)) = true then x % 18446744073709551616 - 18446744073709551616 else x % 18446744073709551616) < 18446744073709551616
 rw [if_neg (by simp)]
 omega
theorem next_f (l : List Int) (hb : Bytes l) (hl : l.length ≤ 4096) (i : Nat) (hi : i ≤ 100000) (s : Int) : ∃ v s', spec_l00Src_next.f l i s = some (v, ((i + 1 : Nat) : Int), s') ∧ 0 ≤ v ∧ v ≤ 255 := by
 unfold spec_l00Src_next.f
 have ec : wrap64 ((i : Int) + 1) = ((i + 1 : Nat) : Int) := w64 (by omega) (by omega)
 have hq : ∀ y : Int, ∃ v, wrap64 (Go.bits .and .u64 (IntKind.u64.wrap y / 1099511627776) 255) = v ∧ 0 ≤ v ∧ v ≤ 255 := fun y => by
  have u := u64wr y
  have d0 : 0 ≤ IntKind.u64.wrap y / 1099511627776 := by omega
  have d1 : IntKind.u64.wrap y / 1099511627776 < 18446744073709551616 := by omega
  refine ⟨_, rfl, ?_⟩
  rw [and255 _ d0 d1, w64 (by omega) (by omega)]
  omega
 rw [ec]
 by_cases c : (i : Int) < (l.length : Int)
 · have v := bytes_rd hb i (by omega)
   rw [if_pos c, if_pos (by omega), if_pos (by omega), w64 (x := rd l i) (by omega) (by omega)]
   exact ⟨_, _, rfl, v⟩
 · rw [if_neg c, if_neg (by omega)]
   obtain ⟨v, e, h⟩ := hq (IntKind.u64.wrap (IntKind.u64.wrap (s * 6364136223846793005)) + 1442695040888963407)
   rw [e]
   exact ⟨_, _, rfl, h⟩
theorem pick_f (l : List Int) (hb : Bytes l) (hl : l.length ≤ 4096) (i : Nat) (hi : i ≤ 90000) (s n : Int) (hn : 1 ≤ n) (hn' : n ≤ 100000000) : ∃ v, ∃ i' : Nat, ∃ s', spec_l00Src_pick.f l i s n = some (v, (i' : Int), s') ∧ 0 ≤ v ∧ v < n ∧ i' ≤ i + 2 := by
 unfold spec_l00Src_pick.f
 by_cases c : n ≤ 1
 · rw [if_pos c]
   exact ⟨0, i, s, rfl, by omega, by omega, by omega⟩
 · rw [if_neg c]
   obtain ⟨v, s', e, v0, v1⟩ := next_f l hb hl i (by omega) s
   rw [e]
   simp only [Option.bind_some]
   by_cases c2 : n > 200
   · rw [if_pos c2]
     obtain ⟨u, s'', e', u0, u1⟩ := next_f l hb hl (i + 1) (by omega) s'
     rw [e']
     simp only [Option.bind_some]
     rw [if_neg (by omega), w64 (x := v * 256) (by omega) (by omega), w64 (x := v * 256 + u) (by omega) (by omega), Int.tmod_eq_emod_of_nonneg (by omega)]
     have m1 := Int.emod_nonneg (v * 256 + u) (show n ≠ 0 by omega)
     have m2 := Int.emod_lt_of_pos (v * 256 + u) (show 0 < n by omega)
     exact ⟨_, i + 1 + 1, _, rfl, m1, m2, by omega⟩
   · rw [if_neg c2, if_neg (by omega), Int.tmod_eq_emod_of_nonneg (by omega)]
     have m1 := Int.emod_nonneg v (show n ≠ 0 by omega)
     have m2 := Int.emod_lt_of_pos v (show 0 < n by omega)
     exact ⟨_, i + 1, _, rfl, m1, m2, by omega⟩
theorem shp_mono {m : List S37} (h : Shp m 0) (j : Nat) : ∀ i : Nat, i ≤ j → j < m.length → (rd_T37 m i).f0 ≤ (rd_T37 m j).f0 ∧ (rd_T37 m i).f1 ≤ (rd_T37 m j).f1 := by
 induction j with
 | zero =>
  intro i hi hj
  obtain rfl : i = 0 := by omega
  exact ⟨Int.le_refl _, Int.le_refl _⟩
 | succ j ih =>
  intro i hi hj
  by_cases e : i = j + 1
  · subst e
    exact ⟨Int.le_refl _, Int.le_refl _⟩
  · obtain ⟨a1, a2⟩ := ih i (by omega) (by omega)
    obtain ⟨_, b⟩ := h.2 (j + 1) (by omega) hj
    obtain ⟨b1, b2⟩ := b (by omega)
    rw [show j + 1 - 1 = j by omega] at b1 b2
    omega
theorem shp_pt {m : List S37} (h : Shp m 0) (i : Nat) (hi : i < m.length) : Pt (rd_T37 m i) := (h.2 i (by omega) hi).1
theorem shp_next {m : List S37} (h : Shp m 0) (i : Nat) (hi : i + 1 < m.length) : (rd_T37 m i).f0 < (rd_T37 m (i + 1 : Nat)).f0 ∧ (rd_T37 m i).f1 ≤ (rd_T37 m (i + 1 : Nat)).f1 := by
 have := (h.2 (i + 1) (by omega) hi).2 (by omega)
 rw [show i + 1 - 1 = i by omega] at this
 exact this
theorem shp_snoc {m : List S37} {p : S37} (h : m = [] ∨ Shp m 0) (hp : Pt p) (hq : m ≠ [] → (rd_T37 m (m.length - 1 : Nat)).f0 < p.f0 ∧ (rd_T37 m (m.length - 1 : Nat)).f1 ≤ p.f1) : Shp (m ++ [p]) 0 := by
 have r0 : ∀ j : Nat, j < m.length → rd_T37 (m ++ [p]) j = rd_T37 m j := fun j hj => by
  simp only [rd_T37, Int.toNat_natCast, List.getD_eq_getElem?_getD]
  rw [List.getElem?_append_left hj]
 have r1 : rd_T37 (m ++ [p]) (m.length : Nat) = p := by
  simp [rd_T37, List.getD_eq_getElem?_getD]
 refine ⟨by simp, fun j _ hj => ?_⟩
 simp only [List.length_append, List.length_singleton] at hj
 by_cases e : j = m.length
 · subst e
   rw [r1]
   refine ⟨hp, fun h0 => ?_⟩
   rw [r0 (m.length - 1) (by omega)]
   exact hq (fun h => by rw [h] at h0; simp at h0)
 · rw [r0 j (by omega)]
   rcases h with h | h
   · rw [h] at hj e
     simp only [List.length_nil] at hj e
     omega
   · obtain ⟨a, b⟩ := h.2 j (by omega) (by omega)
     refine ⟨a, fun h0 => ?_⟩
     rw [r0 (j - 1) (by omega)]
     exact b h0
theorem last_snoc (m : List S37) (p : S37) : rd_T37 (m ++ [p]) ((m ++ [p]).length - 1 : Nat) = p := by
 simp [rd_T37, List.getD_eq_getElem?_getD]
theorem drawn_l (l : List Int) (hb : Bytes l) (hl : l.length ≤ 4096) (n : Nat) : ∀ (k : Nat) (m : List S37) (x y : Int) (i : Nat) (s : Int), m.length + n ≤ 6 → i ≤ 100 * m.length + 100 → n < k → (m = [] ∨ Shp m 0) → (m = [] → 0 < n) →
 -20 ≤ x → x ≤ 9 + 9 * m.length → 0 ≤ y → y ≤ 19 + 49 * m.length → (m ≠ [] → (rd_T37 m (m.length - 1 : Nat)).f0 < x ∧ (rd_T37 m (m.length - 1 : Nat)).f1 ≤ y) →
 (∀ j : Nat, j < m.length → -20 ≤ (rd_T37 m j).f0 ∧ (rd_T37 m j).f0 ≤ 54) →
 ∃ m' : List S37, ∃ i' : Nat, ∃ s', spec_l02Drawn.l0 k m x y n l i s = some (m', (i' : Int), s') ∧ m'.length ≤ 6 ∧ Shp m' 0 ∧ (∀ j : Nat, j < m'.length → -20 ≤ (rd_T37 m' j).f0 ∧ (rd_T37 m' j).f0 ≤ 54) := by
 induction n with
 | zero =>
  intro k m x y i s hn hi hk hm h0 x0 x1 y0 y1 hq hj
  obtain ⟨k, rfl⟩ : ∃ n, k = n + 1 := ⟨k - 1, by omega⟩
  simp only [spec_l02Drawn.l0]
  rw [if_neg (by omega)]
  have hm' : Shp m 0 := by
   rcases hm with h | h
   · exact absurd (h0 h) (by omega)
   · exact h
  exact ⟨m, i, s, rfl, by omega, hm', hj⟩
 | succ n ih =>
  intro k m x y i s hn hi hk hm h0 x0 x1 y0 y1 hq hj
  obtain ⟨k, rfl⟩ : ∃ n, k = n + 1 := ⟨k - 1, by omega⟩
  simp only [spec_l02Drawn.l0]
  obtain ⟨v, i1, s1, e1, v0, v1, w1⟩ := pick_f l hb hl i (by omega) s 9 (by omega) (by omega)
  obtain ⟨u, i2, s2, e2, u0, u1, w2⟩ := pick_f l hb hl i1 (by omega) s1 50 (by omega) (by omega)
  rw [if_pos (by omega), if_pos (by omega), e1]
  simp only [Option.bind_some]
  rw [e2]
  simp only [Option.bind_some]
  have b1 : x ≤ 60 := by omega
  have b2 : y ≤ 300 := by omega
  rw [i16w (x := x) (by omega) (by omega), i16w (x := y) (by omega) (by omega), w64 (x := 1 + v) (by omega) (by omega), w64 (x := x + (1 + v)) (by omega) (by omega), w64 (x := y + u) (by omega) (by omega), w64 (x := ((n + 1 : Nat) : Int) - 1) (by omega) (by omega), show ((n + 1 : Nat) : Int) - 1 = (n : Int) by omega]
  have hlen : (m ++ [(⟨x, y⟩ : S37)]).length = m.length + 1 := by simp
  refine ih k (m ++ [⟨x, y⟩]) (x + (1 + v)) (y + u) i2 s2 (by omega) (by omega) (by omega) (.inr (shp_snoc hm ⟨⟨by show -200 ≤ x; omega, by show x ≤ 200; omega⟩, ⟨y0, by show y ≤ 400; omega⟩⟩ hq)) (fun h => by simp at h) (by omega) (by omega) (by omega) (by omega) (fun _ => ?_) (fun j hj' => ?_)
  · rw [last_snoc]
    exact ⟨by show x < _; omega, by show y ≤ _; omega⟩
  · rw [hlen] at hj'
    by_cases e : j = m.length
    · subst e
      have r1 : rd_T37 (m ++ [(⟨x, y⟩ : S37)]) (m.length : Nat) = ⟨x, y⟩ := by simp [rd_T37, List.getD_eq_getElem?_getD]
      rw [r1]
      exact ⟨x0, by show x ≤ 54; omega⟩
    · have r0 : rd_T37 (m ++ [(⟨x, y⟩ : S37)]) j = rd_T37 m j := by
       simp only [rd_T37, Int.toNat_natCast, List.getD_eq_getElem?_getD]
       rw [List.getElem?_append_left (by omega)]
      rw [r0]
      exact hj j (by omega)
theorem a2curve (l : List Int) (hb : Bytes l) (hl : l.length ≤ 4096) (k : Nat) (hk : 10 < k) : ∃ m, spec_A2Curve.f k l = some m ∧ Cur m ∧ (∀ j : Nat, j < m.length → -20 ≤ (rd_T37 m j).f0 ∧ (rd_T37 m j).f0 ≤ 54) := by
 unfold spec_A2Curve.f spec_l00From.f spec_l02Drawn.f
 simp only [Option.bind_some]
 obtain ⟨v, i1, s1, e1, v0, v1, w1⟩ := pick_f l hb hl 0 (by omega) 0 30 (by omega) (by omega)
 obtain ⟨u, i2, s2, e2, u0, u1, w2⟩ := pick_f l hb hl i1 (by omega) s1 20 (by omega) (by omega)
 obtain ⟨t, i3, s3, e3, t0, t1, w3⟩ := pick_f l hb hl i2 (by omega) s2 6 (by omega) (by omega)
 have e1' : spec_l00Src_pick.f l 0 0 30 = some (v, (i1 : Int), s1) := e1
 simp only [e1', e2, e3, Option.bind_some]
 rw [w64 (x := v - 20) (by omega) (by omega), w64 (x := 1 + t) (by omega) (by omega)]
 obtain ⟨n, hn⟩ : ∃ n : Nat, 1 + t = n := ⟨(1 + t).toNat, by omega⟩
 obtain ⟨m, i', s', e, hlen, hs, hj⟩ := drawn_l l hb hl n k [] (v - 20) u i3 s3 (by show 0 + n ≤ 6; omega) (by show i3 ≤ 100 * 0 + 100; omega) (by omega) (.inl rfl) (fun _ => by omega) (by omega) (by show v - 20 ≤ 9 + 9 * ((0 : Nat) : Int); omega) (by omega) (by show u ≤ 19 + 49 * ((0 : Nat) : Int); omega) (fun h => absurd rfl h) (fun j hj => absurd hj (by show ¬ j < 0; omega))
 rw [hn, e]
 exact ⟨m, rfl, ⟨by omega, hs⟩, hj⟩
theorem smp_cur {m : List S37} (h : Cur m) : SmP m := by
 intro x hx
 obtain ⟨i, hi, e⟩ := List.getElem_of_mem hx
 have := shp_pt h.2 i hi
 have r : rd_T37 m i = x := by simp [rd_T37, List.getD_eq_getElem?_getD, hi, e]
 rw [r] at this
 obtain ⟨⟨a, b⟩, c, d⟩ := this
 omega
theorem shape_t (m : List S37) (h : Cur m) (d : Nat) : ∀ (k i : Nat), i ≤ m.length → m.length - i = d → d < k → spec_l02Shape.l0 k m i = some true ∧ impl_isCurve.l0 k m m (m.length : Int) i = some true := by
 have hlen := h.1
 have hm := smp_cur h
 induction d with
 | zero =>
  intro k i h0 hd hk
  obtain ⟨k, rfl⟩ : ∃ n, k = n + 1 := ⟨k - 1, by omega⟩
  simp only [spec_l02Shape.l0, impl_isCurve.l0]
  have g1 : ¬ (i : Int) < (m.length : Int) := by omega
  have g2 : (m.length : Int) > 0 := by have := h.2.1; omega
  simp only [g1, g2, if_false, decide_true, and_self]
 | succ d ih =>
  intro k i h0 hd hk
  obtain ⟨k, rfl⟩ : ∃ n, k = n + 1 := ⟨k - 1, by omega⟩
  obtain ⟨s1, s2⟩ := smp_rd hm i (by omega)
  obtain ⟨p, hp⟩ := h.2.2 i (by omega) (by omega)
  have g1 : (i : Int) < (m.length : Int) := by omega
  have g2 : 0 ≤ (i : Int) := by omega
  obtain ⟨e1, e2⟩ := ih k (i + 1) (by omega) (by omega) (by omega)
  have e1' : spec_l02Shape.l0 k m ((i : Int) + 1) = some true := e1
  have e2' : impl_isCurve.l0 k m m (m.length : Int) ((i : Int) + 1) = some true := e2
  simp only [spec_l02Shape.l0, impl_isCurve.l0, spt_f s1 s2, ipt_f s1 s2, g1, g2, if_true, Option.bind_some]
  rw [w64 (x := (i : Int) + 1) (by omega) (by omega), w64 (x := (i : Int) - 1) (by omega) (by omega), e1', e2']
  have pp : (-200 ≤ (rd_T37 m i).f0 ∧ (rd_T37 m i).f0 ≤ 200) ∧ (0 ≤ (rd_T37 m i).f1 ∧ (rd_T37 m i).f1 ≤ 400) := p
  simp only [pp, and_self, decide_true, if_true]
  by_cases z : i = 0
  · subst z
    have g3 : ¬ ((0 : Nat) : Int) > 0 := by omega
    simp only [g3, if_false, and_self]
  · have ei : ((i : Int) - 1) = ((i - 1 : Nat) : Int) := by omega
    have g3 : (i : Int) > 0 := by omega
    have g4 : 0 ≤ ((i - 1 : Nat) : Int) := by omega
    have g5 : ((i - 1 : Nat) : Int) < (m.length : Int) := by omega
    obtain ⟨q1, q2⟩ := hp (by omega)
    have c3 : ¬ (rd_T37 m i).f0 ≤ (rd_T37 m (i - 1 : Nat)).f0 := by omega
    have c3' : ¬ (rd_T37 m (i - 1 : Nat)).f0 ≥ (rd_T37 m i).f0 := by omega
    have c4 : ¬ (rd_T37 m i).f1 < (rd_T37 m (i - 1 : Nat)).f1 := by omega
    have c4' : ¬ (rd_T37 m (i - 1 : Nat)).f1 > (rd_T37 m i).f1 := by omega
    rw [ei]
    simp only [g3, g4, g5, c3, c3', c4, c4', if_true, if_false, and_self]
theorem cur_t (m : List S37) (h : Cur m) (k : Nat) (hk : 12 < k) : spec_l02Ok.f k m = some true ∧ impl_ValidCurve.f k m = some true := by
 have hlen := h.1
 obtain ⟨e1, e2⟩ := shape_t m h m.length k 0 (by omega) (by omega) (by omega)
 have e1' : spec_l02Shape.f k m = some true := e1
 have e2' : impl_isCurve.f k m = some true := e2
 have g : (m.length : Int) ≤ 12 := by omega
 unfold spec_l02Ok.f impl_ValidCurve.f
 simp only [e1', e2', Option.bind_some, if_true, g, decide_true, and_self]
theorem up {α : Type} {g : Nat → Option α} (h : ∀ k, LeO (g k) (g (k + 1))) {r q : α} (i j : Nat) (hr : g i = some r) (hq : g j = some q) : g j = some r := by
 have a := at_rounds h (Nat.le_max_left i j) hr
 have b := at_rounds h (Nat.le_max_right i j) hq
 rw [a] at b
 rw [hq, Option.some.inj b]
def seg (p q : S37) (x : Int) : Int := p.f1 + (q.f1 - p.f1) * (x - p.f0) / (q.f0 - p.f0)
theorem seg_bd {p q : S37} {x : Int} (h1 : p.f0 ≤ x) (h2 : x ≤ q.f0) (h3 : p.f0 < q.f0) (h4 : p.f1 ≤ q.f1) : p.f1 ≤ seg p q x ∧ seg p q x ≤ q.f1 := by
 unfold seg
 have a1 : 0 ≤ (q.f1 - p.f1) * (x - p.f0) := Int.mul_nonneg (by omega) (by omega)
 have a2 : (q.f1 - p.f1) * (x - p.f0) ≤ (q.f1 - p.f1) * (q.f0 - p.f0) := Int.mul_le_mul_of_nonneg_left (by omega) (by omega)
 have b1 : 0 ≤ (q.f1 - p.f1) * (x - p.f0) / (q.f0 - p.f0) := Int.ediv_nonneg a1 (by omega)
 have b2 : (q.f1 - p.f1) * (x - p.f0) / (q.f0 - p.f0) ≤ (q.f1 - p.f1) * (q.f0 - p.f0) / (q.f0 - p.f0) := Int.ediv_le_ediv (by omega) a2
 rw [Int.mul_ediv_cancel _ (by omega)] at b2
 omega
theorem seg_mono {p q : S37} {x y : Int} (h : x ≤ y) (h3 : p.f0 < q.f0) (h4 : p.f1 ≤ q.f1) : seg p q x ≤ seg p q y := by
 unfold seg
 have a2 : (q.f1 - p.f1) * (x - p.f0) ≤ (q.f1 - p.f1) * (y - p.f0) := Int.mul_le_mul_of_nonneg_left (by omega) (by omega)
 have b2 := Int.ediv_le_ediv (c := q.f0 - p.f0) (by omega) a2
 omega
def IsAt (m : List S37) (x r : Int) : Prop :=
 (x ≤ (rd_T37 m (0 : Nat)).f0 ∧ r = (rd_T37 m (0 : Nat)).f1) ∨ ((rd_T37 m (0 : Nat)).f0 < x ∧ (rd_T37 m (m.length - 1 : Nat)).f0 ≤ x ∧ r = (rd_T37 m (m.length - 1 : Nat)).f1) ∨
  ∃ i : Nat, i + 1 < m.length ∧ (rd_T37 m (0 : Nat)).f0 < x ∧ (rd_T37 m i).f0 ≤ x ∧ x < (rd_T37 m (i + 1 : Nat)).f0 ∧ r = seg (rd_T37 m i) (rd_T37 m (i + 1 : Nat)) x
theorem isat_mono {m : List S37} (h : Shp m 0) {x y r s : Int} (hx : IsAt m x r) (hy : IsAt m y s) (hxy : x ≤ y) : r ≤ s := by
 have hl := h.1
 have top := shp_mono h (m.length - 1) 0 (by omega) (by omega)
 rcases hx with ⟨x1, rfl⟩ | ⟨x1, x2, rfl⟩ | ⟨i, i1, x1, x2, x3, rfl⟩
 · rcases hy with ⟨y1, rfl⟩ | ⟨y1, y2, rfl⟩ | ⟨j, j1, y1, y2, y3, rfl⟩
   · exact Int.le_refl _
   · exact top.2
   · have n := shp_next h j j1
     have b := seg_bd y2 (Int.le_of_lt y3) n.1 n.2
     have c := shp_mono h j 0 (by omega) (by omega)
     omega
 · rcases hy with ⟨y1, rfl⟩ | ⟨y1, y2, rfl⟩ | ⟨j, j1, y1, y2, y3, rfl⟩
   · omega
   · exact Int.le_refl _
   · have c := shp_mono h (m.length - 1) (j + 1) (by omega) (by omega)
     omega
 · have n := shp_next h i i1
   have b := seg_bd x2 (Int.le_of_lt x3) n.1 n.2
   rcases hy with ⟨y1, rfl⟩ | ⟨y1, y2, rfl⟩ | ⟨j, j1, y1, y2, y3, rfl⟩
   · omega
   · have c := shp_mono h (m.length - 1) (i + 1) (by omega) (by omega)
     omega
   · have n' := shp_next h j j1
     have b' := seg_bd y2 (Int.le_of_lt y3) n'.1 n'.2
     by_cases e : i = j
     · subst e
       exact seg_mono hxy n.1 n.2
     · by_cases e' : i < j
       · have c := shp_mono h j (i + 1) (by omega) (by omega)
         omega
       · have c := shp_mono h i (j + 1) (by omega) (by omega)
         omega
theorem isat_bd {m : List S37} (h : Shp m 0) {x r : Int} (hx : IsAt m x r) : (rd_T37 m (0 : Nat)).f1 ≤ r ∧ r ≤ (rd_T37 m (m.length - 1 : Nat)).f1 := by
 have hl := h.1
 have top := shp_mono h (m.length - 1) 0 (by omega) (by omega)
 rcases hx with ⟨x1, rfl⟩ | ⟨x1, x2, rfl⟩ | ⟨i, i1, x1, x2, x3, rfl⟩
 · omega
 · omega
 · have n := shp_next h i i1
   have b := seg_bd x2 (Int.le_of_lt x3) n.1 n.2
   have c := shp_mono h (m.length - 1) (i + 1) (by omega) (by omega)
   have c' := shp_mono h i 0 (by omega) (by omega)
   omega
theorem at_l (m : List S37) (h : Cur m) (x : Int) (hx : -1000000 ≤ x ∧ x ≤ 1000000) (h0 : (rd_T37 m (0 : Nat)).f0 < x) (hlast : x < (rd_T37 m (m.length - 1 : Nat)).f0) (d : Nat) : ∀ (k i : Nat), i + 1 < m.length → m.length - i = d → d < k → (rd_T37 m i).f0 ≤ x →
 ∃ r, spec_l02At.l0 k m x i = some r ∧ impl_Curve_at.l0 k m x ((i : Int) + 1) = some r ∧ IsAt m x r := by
 induction d with
 | zero => intro k i hi hd hk hr; omega
 | succ d ih =>
  intro k i hi hd hk hr
  obtain ⟨k, rfl⟩ : ∃ n, k = n + 1 := ⟨k - 1, by omega⟩
  obtain ⟨hlen, hs⟩ := h
  have p1 := shp_pt hs i (by omega)
  have p2 := shp_pt hs (i + 1) hi
  obtain ⟨p11, p12⟩ := p1
  obtain ⟨p21, p22⟩ := p2
  have n := shp_next hs i hi
  have g1 : 0 ≤ (i : Int) + 1 := by omega
  have g2 : (i : Int) + 1 < (m.length : Int) := by omega
  have g3 : 0 ≤ (i : Int) := by omega
  have g4 : (i : Int) < (m.length : Int) := by omega
  have ec : ((i : Int) + 1) = ((i + 1 : Nat) : Int) := by omega
  simp only [spec_l02At.l0, impl_Curve_at.l0]
  rw [w64 (x := (i : Int) + 1) (by omega) (by omega), w64 (x := (i : Int) + 1 + 1) (by omega) (by omega), w64 (x := (i : Int) + 1 - 1) (by omega) (by omega), show (i : Int) + 1 - 1 = (i : Int) by omega]
  simp only [g1, g2, g3, g4, if_true]
  rw [ec, w64 (x := (rd_T37 m (i + 1 : Nat)).f0) (by omega) (by omega)]
  by_cases c : (rd_T37 m (i + 1 : Nat)).f0 ≤ x
  · simp only [c, if_true]
    by_cases e : i + 1 + 1 < m.length
    · obtain ⟨r, r1, r2, r3⟩ := ih k (i + 1) e (by omega) (by omega) c
      exact ⟨r, r1, r2, r3⟩
    · rw [show m.length - 1 = i + 1 by omega] at hlast
      omega
  · simp only [c, if_false]
    rw [w64 (x := (rd_T37 m i).f0) (by omega) (by omega), w64 (x := (rd_T37 m (i + 1 : Nat)).f1) (by omega) (by omega), w64 (x := (rd_T37 m i).f1) (by omega) (by omega)]
    rw [i16w (x := (rd_T37 m (i + 1 : Nat)).f0 - (rd_T37 m i).f0) (by omega) (by omega), i16w (x := (rd_T37 m (i + 1 : Nat)).f1 - (rd_T37 m i).f1) (by omega) (by omega)]
    have q1 : 0 ≤ ((rd_T37 m (i + 1 : Nat)).f1 - (rd_T37 m i).f1) * (x - (rd_T37 m i).f0) := Int.mul_nonneg (by omega) (by omega)
    have q2 : ((rd_T37 m (i + 1 : Nat)).f1 - (rd_T37 m i).f1) * (x - (rd_T37 m i).f0) ≤ 400 * 400 := Int.mul_le_mul (by omega) (by omega) (by omega) (by omega)
    rw [w64 (x := (rd_T37 m (i + 1 : Nat)).f0 - (rd_T37 m i).f0) (by omega) (by omega), w64 (x := (rd_T37 m (i + 1 : Nat)).f1 - (rd_T37 m i).f1) (by omega) (by omega), w64 (x := x - (rd_T37 m i).f0) (by omega) (by omega), w64 (x := ((rd_T37 m (i + 1 : Nat)).f1 - (rd_T37 m i).f1) * (x - (rd_T37 m i).f0)) (by omega) (by omega), Int.tdiv_eq_ediv_of_nonneg q1]
    have b := seg_bd hr (show x ≤ (rd_T37 m (i + 1 : Nat)).f0 by omega) n.1 n.2
    have eb : (rd_T37 m i).f1 + ((rd_T37 m (i + 1 : Nat)).f1 - (rd_T37 m i).f1) * (x - (rd_T37 m i).f0) / ((rd_T37 m (i + 1 : Nat)).f0 - (rd_T37 m i).f0) = seg (rd_T37 m i) (rd_T37 m (i + 1 : Nat)) x := rfl
    rw [w64 (x := ((rd_T37 m (i + 1 : Nat)).f1 - (rd_T37 m i).f1) * (x - (rd_T37 m i).f0) / ((rd_T37 m (i + 1 : Nat)).f0 - (rd_T37 m i).f0)) (by omega) (by omega), eb, w64 (x := seg (rd_T37 m i) (rd_T37 m (i + 1 : Nat)) x) (by omega) (by omega)]
    have g5 : ¬ (rd_T37 m (i + 1 : Nat)).f0 - (rd_T37 m i).f0 = 0 := by omega
    simp only [g5, if_false]
    exact ⟨_, rfl, rfl, .inr (.inr ⟨i, hi, h0, hr, by omega, rfl⟩)⟩
theorem at_k (m : List S37) (h : Cur m) (x : Int) (hx : -1000000 ≤ x ∧ x ≤ 1000000) (k : Nat) (hk : 13 < k) : ∃ r, spec_l02At.f k m x = some r ∧ impl_Curve_at.f k m x = some r ∧ IsAt m x r := by
 obtain ⟨hlen, hs⟩ := h
 have hl := hs.1
 obtain ⟨p11, p12⟩ := shp_pt hs 0 (by omega)
 obtain ⟨p21, p22⟩ := shp_pt hs (m.length - 1) (by omega)
 unfold spec_l02At.f impl_Curve_at.f
 have g1 : 0 < (m.length : Int) := by omega
 have g2 : 0 ≤ ((m.length - 1 : Nat) : Int) := by omega
 have g3 : ((m.length - 1 : Nat) : Int) < (m.length : Int) := by omega
 rw [w64 (x := (m.length : Int) - 1) (by omega) (by omega), show ((m.length : Int) - 1) = ((m.length - 1 : Nat) : Int) by omega]
 have z : rd_T37 m 0 = rd_T37 m (0 : Nat) := rfl
 rw [z, w64 (x := (rd_T37 m (0 : Nat)).f0) (by omega) (by omega), w64 (x := (rd_T37 m (0 : Nat)).f1) (by omega) (by omega), w64 (x := (rd_T37 m (m.length - 1 : Nat)).f0) (by omega) (by omega), w64 (x := (rd_T37 m (m.length - 1 : Nat)).f1) (by omega) (by omega)]
 simp only [g1, g2, g3, if_true]
 by_cases c : x ≤ (rd_T37 m (0 : Nat)).f0
 · simp only [c, if_true]
   exact ⟨_, rfl, rfl, .inl ⟨c, rfl⟩⟩
 · simp only [c, if_false]
   by_cases c2 : x ≥ (rd_T37 m (m.length - 1 : Nat)).f0
   · simp only [c2, if_true]
     exact ⟨_, rfl, rfl, .inr (.inl ⟨by omega, c2, rfl⟩)⟩
   · simp only [c2, if_false]
     have hne : 0 + 1 < m.length := by
      by_cases e : m.length = 1
      · rw [e] at c2
        exact absurd (show x ≥ (rd_T37 m (0 : Nat)).f0 by omega) c2
      · omega
     exact at_l m ⟨hlen, hs⟩ x hx (by omega) (by omega) m.length k 0 hne (by omega) (by omega) (by omega)
def atV (m : List S37) (x : Int) : Int := (spec_l02At.f 20 m x).getD 0
theorem at_f (m : List S37) (h : Cur m) (x : Int) (hx : -1000000 ≤ x ∧ x ≤ 1000000) : (∀ k, 13 < k → spec_l02At.f k m x = some (atV m x) ∧ impl_Curve_at.f k m x = some (atV m x)) ∧ IsAt m x (atV m x) ∧ 0 ≤ atV m x ∧ atV m x ≤ 400 := by
 obtain ⟨r, r1, r2, r3⟩ := at_k m h x hx 20 (by omega)
 have e : atV m x = r := by unfold atV; rw [r1]; rfl
 have b := isat_bd h.2 r3
 obtain ⟨_, p12⟩ := shp_pt h.2 0 h.2.1
 obtain ⟨_, p22⟩ := shp_pt h.2 (m.length - 1) (by have := h.2.1; omega)
 rw [e]
 refine ⟨fun k hk => ?_, r3, by omega, by omega⟩
 obtain ⟨s, s1, s2, _⟩ := at_k m h x hx k hk
 exact ⟨up (spec_l02At.mono m x) 20 k r1 s1, up (impl_Curve_at.mono m x) 20 k r2 s2⟩
theorem mvd_t (l : List S37) (hc : Cur l) (a b by_ : Int) (ch : Int → Int → Option (Int × Int)) (hab : a = by_ ∧ b = 0 ∨ a = 0 ∧ b = by_) (hby : -400 ≤ by_ ∧ by_ ≤ 400) (hch : ∀ x y : Int, (-200 ≤ x ∧ x ≤ 200) → (0 ≤ y ∧ y ≤ 400) → ch x y = some (x + a, y + b)) (k : Nat) (hk : 3020 < k) :
 ∃ z, spec_l02Moved.f k l a b = some z ∧ ((impl_isBy.f by_).bind fun u => impl_changed.f k l u ch) = some z ∧ ((∀ j : Nat, j < l.length → Pt (mvM a b (rd_T37 l j))) → z = (l.map (mvM a b), 0)) ∧ (∀ j : Nat, j < l.length → ¬ Pt (mvM a b (rd_T37 l j)) → z = ([], 4)) := by
 obtain ⟨k, rfl⟩ : ∃ n, k = n + 1 := ⟨k - 1, by omega⟩
 obtain ⟨e1, e2⟩ := cur_t l hc (k + 1) (by omega)
 have ha : -400 ≤ a ∧ a ≤ 400 := by omega
 have hb : -400 ≤ b ∧ b ≤ 400 := by omega
 have hl := hc.1
 have hs : ∀ j : Nat, j < l.length → Pt (rd_T37 l j) := fun j hj => shp_pt hc.2 j hj
 unfold spec_l02Moved.f impl_isBy.f
 simp only [e1, in_f, within_f, Option.bind_some, if_true, hby, ha, hb, and_self, decide_true, spec_l02Moved.j0, Bool.not_true, Bool.false_eq_true, if_false]
 obtain ⟨z, f1, f2, f3⟩ := mvd_l l hc a b ha hb l.length k 0 (by omega) (by omega) (by omega)
 obtain ⟨y, g1, g2, g3⟩ := chg_f ch (mvM a b) l hc.1 hs (fun j hj => hch _ _ (hs j hj).1 (hs j hj).2) (k + 1) (by omega) e2
 have hz : z = y := by
  by_cases h : ∀ j : Nat, j < l.length → Pt (mvM a b (rd_T37 l j))
  · rw [f2 h, g2 h]
  · obtain ⟨j, hj⟩ := Classical.not_forall.1 h
    obtain ⟨j1, hj⟩ := Classical.not_imp.1 hj
    rw [f3 j j1 hj, g3 j j1 hj]
 refine ⟨z, f1, ?_, f2, f3⟩
 rw [g1, hz]
theorem cur_mv (l : List S37) (hc : Cur l) (a b : Int) (h : ∀ j : Nat, j < l.length → Pt (mvM a b (rd_T37 l j))) : Cur (l.map (mvM a b)) := by
 have hlen : (l.map (mvM a b)).length = l.length := List.length_map _
 have hl := hc.1
 have hp := hc.2.1
 refine ⟨by omega, by omega, fun j _ hj => ?_⟩
 rw [hlen] at hj
 rw [rd_map _ l j hj]
 refine ⟨h j hj, fun j0 => ?_⟩
 rw [rd_map _ l (j - 1) (by omega)]
 have q := (hc.2.2 j (by omega) hj).2 j0
 show (rd_T37 l (j - 1 : Nat)).f0 + a < (rd_T37 l j).f0 + a ∧ (rd_T37 l (j - 1 : Nat)).f1 + b ≤ (rd_T37 l j).f1 + b
 omega
theorem isat_mv (l : List S37) (hc : Cur l) (a b x r : Int) (h : IsAt l x r) : IsAt (l.map (mvM a b)) (x + a) (r + b) := by
 have hlen : (l.map (mvM a b)).length = l.length := List.length_map _
 have hp := hc.2.1
 unfold IsAt at h ⊢
 rw [hlen, rd_map _ l 0 hp, rd_map _ l (l.length - 1) (by omega)]
 have m0 : ∀ p : S37, (mvM a b p).f0 = p.f0 + a := fun _ => rfl
 have m1 : ∀ p : S37, (mvM a b p).f1 = p.f1 + b := fun _ => rfl
 rw [m0, m0, m1, m1]
 rcases h with ⟨x1, rfl⟩ | ⟨x1, x2, rfl⟩ | ⟨i, i1, x1, x2, x3, rfl⟩
 · exact .inl ⟨by omega, rfl⟩
 · exact .inr (.inl ⟨by omega, by omega, rfl⟩)
 · refine .inr (.inr ⟨i, i1, by omega, ?_⟩)
   rw [rd_map _ l i (by omega), rd_map _ l (i + 1) i1, m0, m0]
   refine ⟨by omega, by omega, ?_⟩
   unfold seg
   rw [m0, m0, m1, m1, show (rd_T37 l (i + 1 : Nat)).f1 + b - ((rd_T37 l i).f1 + b) = (rd_T37 l (i + 1 : Nat)).f1 - (rd_T37 l i).f1 by omega, show x + a - ((rd_T37 l i).f0 + a) = x - (rd_T37 l i).f0 by omega, show (rd_T37 l (i + 1 : Nat)).f0 + a - ((rd_T37 l i).f0 + a) = (rd_T37 l (i + 1 : Nat)).f0 - (rd_T37 l i).f0 by omega]
   rw [Int.add_right_comm]
theorem isat_one {m : List S37} (h : Cur m) {x r s : Int} (hr : IsAt m x r) (hs : IsAt m x s) : r = s :=
 Int.le_antisymm (isat_mono h.2 hr hs (Int.le_refl x)) (isat_mono h.2 hs hr (Int.le_refl x))
theorem atv_mv (l : List S37) (hc : Cur l) (a b : Int) (h : ∀ j : Nat, j < l.length → Pt (mvM a b (rd_T37 l j))) (x : Int) (hx : -1000 ≤ x ∧ x ≤ 1000) (ha : -400 ≤ a ∧ a ≤ 400) : atV (l.map (mvM a b)) (x + a) = atV l x + b := by
 obtain ⟨_, p, _⟩ := at_f l hc x (by omega)
 obtain ⟨_, q, _⟩ := at_f (l.map (mvM a b)) (cur_mv l hc a b h) (x + a) (by omega)
 exact isat_one (cur_mv l hc a b h) q (isat_mv l hc a b x _ p)
theorem mv_back (l : List S37) (a : Int) : (l.map (mvM a 0)).map (mvM (-a) 0) = l := by
 rw [List.map_map]
 have e : ∀ p : S37, (mvM (-a) 0 ∘ mvM a 0) p = p := fun p => by
  cases p
  simp only [Function.comp, mvM]
  congr 1 <;> omega
 rw [List.map_congr_left fun p _ => e p]
 exact List.map_id' l
def smT (x : Int) : List S37 → Int
 | [] => 0
 | p :: r => (if p.f0 = x then p.f1 else 0) + smT x r
def cnT (x : Int) : List S37 → Int
 | [] => 0
 | p :: r => (if p.f0 = x then 1 else 0) + cnT x r
def AllPt (l : List S37) : Prop := ∀ p ∈ l, Pt p
theorem allpt_rd {l : List S37} (h : AllPt l) (i : Nat) (hi : i < l.length) : Pt (rd_T37 l i) := by
 have := h _ (getD_mem l i z37 hi)
 simpa [rd_T37] using this
theorem smT_b (x : Int) (l : List S37) (h : AllPt l) : 0 ≤ smT x l ∧ smT x l ≤ 400 * l.length ∧ 0 ≤ cnT x l ∧ cnT x l ≤ l.length := by
 induction l with
 | nil => simp [smT, cnT]
 | cons p r ih =>
  have i := ih (fun q hq => h q (List.mem_cons_of_mem _ hq))
  have a := (h p List.mem_cons_self).2
  simp only [smT, cnT, List.length_cons]
  by_cases e : p.f0 = x
  · rw [if_pos e, if_pos e]; omega
  · rw [if_neg e, if_neg e]; omega
theorem rd_drop (l : List S37) (i : Nat) (h : i < l.length) : l.drop i = rd_T37 l i :: l.drop (i + 1) := by
 rw [List.drop_eq_getElem_cons h]
 simp [rd_T37, List.getD_eq_getElem?_getD, h]
def thrG (m : Nat) (l out : List S37) (last x s n : Int) : Option (List S37 × Int) :=
 if n > 0 then (if n = 0 then none else ((spec_l00Max.f last (wrap64 (Int.tdiv s n))).bind fun t => (if out.length < 35184372088832 then (spec_CurveThrough.l1 m l (out ++ [(⟨IntKind.i16.wrap (x), IntKind.i16.wrap (t)⟩ : S37)]) t (wrap64 (x + 1))) else (none)))) else (spec_CurveThrough.l1 m l out last (wrap64 (x + 1)))
theorem thr_in (l out : List S37) (h : AllPt l) (hl : l.length ≤ 100) (last x : Int) (m : Nat) (d : Nat) : ∀ (i : Nat) (s n : Int), i ≤ l.length → l.length - i = d → (0 ≤ s ∧ s ≤ 400 * i) → (0 ≤ n ∧ n ≤ i) →
 spec_CurveThrough.l2 (m + d + 1) l out last x s n i = thrG m l out last x (s + smT x (l.drop i)) (n + cnT x (l.drop i)) := by
 induction d with
 | zero =>
  intro i s n h0 hd hs hn
  have e : i = l.length := by omega
  rw [List.drop_of_length_le (by omega)]
  simp only [spec_CurveThrough.l2, smT, cnT, Int.add_zero]
  rw [if_neg (by omega)]
  rfl
 | succ d ih =>
  intro i s n h0 hd hs hn
  have a := allpt_rd h i (by omega)
  unfold Pt at a
  obtain ⟨K, hK⟩ : ∃ K, m + d + 1 = K := ⟨_, rfl⟩
  rw [show m + (d + 1) + 1 = K + 1 by omega]
  simp only [spec_CurveThrough.l2]
  rw [if_pos (by omega), if_pos (by omega), w64 (x := (rd_T37 l i).f0) (by omega) (by omega), w64 (x := (rd_T37 l i).f1) (by omega) (by omega), w64 (x := (i : Int) + 1) (by omega) (by omega), w64 (x := s + _) (by omega) (by omega), w64 (x := n + 1) (by omega) (by omega)]
  rw [rd_drop l i (by omega)]
  simp only [smT, cnT]
  by_cases e : (rd_T37 l i).f0 = x
  · rw [if_pos e, if_pos e, if_pos e]
    have := ih (i + 1) (s + (rd_T37 l i).f1) (n + 1) (by omega) (by omega) (by omega) (by omega)
    rw [hK] at this
    rw [show ((i : Int) + 1) = ((i + 1 : Nat) : Int) by omega, this, Int.add_assoc, Int.add_assoc]
  · rw [if_neg e, if_neg e, if_neg e]
    have := ih (i + 1) s n (by omega) (by omega) (by omega) (by omega)
    rw [hK] at this
    rw [show ((i : Int) + 1) = ((i + 1 : Nat) : Int) by omega, this, Int.zero_add, Int.zero_add]
theorem smax_f (a b : Int) : spec_l00Max.f a b = some (mx a b) := by
 unfold spec_l00Max.f mx
 by_cases c : a > b
 · rw [if_pos c, if_neg (by omega)]
 · rw [if_neg c]
   by_cases e : a < b
   · rw [if_pos e]
   · rw [if_neg e]; congr 1; omega
theorem thr_out (l : List S37) (h : AllPt l) (hl : l.length ≤ 100) (S M : List Int) (hS : ∀ i : Nat, i < 401 → S.getD i 0 = smT ((i : Int) - 200) l ∧ M.getD i 0 = cnT ((i : Int) - 200) l) (m : Nat) (d : Nat) : ∀ (i : Nat) (out : List S37) (last : Int), i ≤ 401 → 401 - i = d → out.length ≤ i →
 spec_CurveThrough.l1 (d * (l.length + 2) + 1 + m) l out last ((i : Int) - 200) = some (impl_CurveThrough.fin (impl_CurveThrough.l2 S M d i out last)) := by
 induction d with
 | zero =>
  intro i out last h0 hd ho
  rw [show 0 * (l.length + 2) + 1 + m = m + 1 by omega]
  simp only [spec_CurveThrough.l1, impl_CurveThrough.l2]
  rw [if_neg (by omega)]
  unfold impl_CurveThrough.fin
  by_cases c : (out.length : Int) > 12
  · rw [if_pos c, if_pos c]
  · rw [if_neg c, if_neg c]
 | succ d ih =>
  intro i out last h0 hd ho
  obtain ⟨e1, e2⟩ := hS i (by omega)
  have b := smT_b ((i : Int) - 200) l h
  obtain ⟨W, hW⟩ : ∃ W, d * (l.length + 2) + 1 + m = W := ⟨_, rfl⟩
  obtain ⟨K, hK⟩ : ∃ K, W + l.length + 1 = K := ⟨_, rfl⟩
  rw [Nat.succ_mul, show d * (l.length + 2) + (l.length + 2) + 1 + m = K + 1 by omega]
  simp only [spec_CurveThrough.l1]
  rw [if_pos (by omega)]
  have q := thr_in l out h hl last ((i : Int) - 200) W l.length 0 0 0 (by omega) (by omega) (by omega) (by omega)
  rw [List.drop_zero, Int.zero_add, Int.zero_add, hK] at q
  have q' : spec_CurveThrough.l2 K l out last ((i : Int) - 200) 0 0 0 = thrG W l out last ((i : Int) - 200) (smT ((i : Int) - 200) l) (cnT ((i : Int) - 200) l) := q
  rw [q']
  rw [hW] at ih
  unfold thrG
  simp only [impl_CurveThrough.l2, e1, e2]
  rw [w64 (x := (i : Int) - 200 + 1) (by omega) (by omega), show (i : Int) - 200 + 1 = ((i + 1 : Nat) : Int) - 200 by omega, i16w (x := (i : Int) - 200) (by omega) (by omega)]
  by_cases c : cnT ((i : Int) - 200) l > 0
  · rw [if_pos c, if_pos c, if_neg (by omega), smax_f, Option.bind_some, if_pos (by omega)]
    exact ih (i + 1) _ _ (by omega) (by omega) (by simp; omega)
  · rw [if_neg c, if_neg c]
    exact ih (i + 1) _ _ (by omega) (by omega) (by omega)
theorem getD_set (l : List Int) (i j : Nat) (v : Int) (hi : i < l.length) : (l.set i v).getD j 0 = if i = j then v else l.getD j 0 := by
 simp only [List.getD_eq_getElem?_getD, List.getElem?_set]
 by_cases e : i = j
 · subst e
   simp [hi]
 · simp [e]
theorem thr_l1 (l : List S37) (h : AllPt l) : ∀ (c : Nat) (S0 M0 : List Int), S0.length = 401 → M0.length = 401 → c + l.length ≤ 100 → (∀ i : Nat, (0 ≤ S0.getD i 0 ∧ S0.getD i 0 ≤ 400 * c) ∧ (0 ≤ M0.getD i 0 ∧ M0.getD i 0 ≤ c)) →
 ∃ S M, impl_CurveThrough.l1 l S0 M0 = some (S, M) ∧ ∀ i : Nat, i < 401 → S.getD i 0 = S0.getD i 0 + smT ((i : Int) - 200) l ∧ M.getD i 0 = M0.getD i 0 + cnT ((i : Int) - 200) l := by
 induction l with
 | nil =>
  intro c S0 M0 _ _ _ _
  exact ⟨S0, M0, rfl, fun i _ => by simp [smT, cnT]⟩
 | cons p r ih =>
  intro c S0 M0 s1 m1 hc hb
  have a := h p List.mem_cons_self
  unfold Pt at a
  simp only [List.length_cons] at hc
  obtain ⟨n, hn⟩ : ∃ n : Nat, (n : Int) = p.f0 + 200 := ⟨(p.f0 + 200).toNat, by omega⟩
  have hn2 : (p.f0 + 200).toNat = n := by omega
  have b0 := hb n
  simp only [impl_CurveThrough.l1]
  rw [if_pos a.1, hn2, w64 (x := p.f1) (by omega) (by omega), w64 (x := S0.getD n 0 + p.f1) (by omega) (by omega), w64 (x := M0.getD n 0 + 1) (by omega) (by omega)]
  obtain ⟨S, M, e, g⟩ := ih (fun q hq => h q (List.mem_cons_of_mem _ hq)) (c + 1) (S0.set n (S0.getD n 0 + p.f1)) (M0.set n (M0.getD n 0 + 1)) (by simp [s1]) (by simp [m1]) (by omega) (fun i => by
   rw [getD_set _ _ _ _ (by omega), getD_set _ _ _ _ (by omega)]
   have b1 := hb i
   by_cases e : n = i
   · rw [if_pos e, if_pos e]; omega
   · rw [if_neg e, if_neg e]; omega)
  refine ⟨S, M, e, fun i hi => ?_⟩
  have gi := g i hi
  rw [getD_set _ _ _ _ (by omega), getD_set _ _ _ _ (by omega)] at gi
  simp only [smT, cnT]
  by_cases e : n = i
  · have e' : p.f0 = (i : Int) - 200 := by omega
    subst e
    rw [if_pos rfl, if_pos rfl] at gi
    rw [if_pos e', if_pos e']
    omega
  · have e' : ¬ p.f0 = (i : Int) - 200 := by omega
    rw [if_neg e, if_neg e] at gi
    rw [if_neg e', if_neg e']
    omega
theorem thr_lit {p : S37} (h : -32768 ≤ p.f0 ∧ p.f0 ≤ 32767) (h' : -32768 ≤ p.f1 ∧ p.f1 ≤ 32767) : impl_CurveThrough_1.f p.f0 p.f1 = some (!decide ((-200 ≤ p.f0 ∧ p.f0 ≤ 200) ∧ (0 ≤ p.f1 ∧ p.f1 ≤ 400))) := by
 unfold impl_CurveThrough_1.f
 rw [ipt_f h h']
 rfl
theorem thr_idx (l : List S37) (hm : SmP l) (hl : l.length ≤ 100) (d : Nat) : ∀ (k i : Nat), i ≤ l.length → l.length - i = d → d < k →
 ∃ r, impl_Point_61.l0 k l impl_CurveThrough_1.f (l.length : Int) i = some r ∧ ((∀ j : Nat, i ≤ j → j < l.length → Pt (rd_T37 l j)) → r < 0) ∧ ((∃ j : Nat, i ≤ j ∧ j < l.length ∧ ¬ Pt (rd_T37 l j)) → 0 ≤ r) := by
 induction d with
 | zero =>
  intro k i h0 hd hk
  obtain ⟨k, rfl⟩ : ∃ n, k = n + 1 := ⟨k - 1, by omega⟩
  simp only [impl_Point_61.l0]
  rw [if_neg (by omega)]
  exact ⟨_, rfl, fun _ => by omega, fun ⟨j, j0, j1, _⟩ => by omega⟩
 | succ d ih =>
  intro k i h0 hd hk
  obtain ⟨k, rfl⟩ : ∃ n, k = n + 1 := ⟨k - 1, by omega⟩
  obtain ⟨s1, s2⟩ := smp_rd hm i (by omega)
  obtain ⟨r, e, z1, z2⟩ := ih k (i + 1) (by omega) (by omega) (by omega)
  simp only [impl_Point_61.l0, thr_lit s1 s2, Option.bind_some]
  rw [if_pos (by omega), if_pos (by omega), if_pos (by omega), w64 (x := (i : Int) + 1) (by omega) (by omega)]
  by_cases p : Pt (rd_T37 l i)
  · have p' := p
    unfold Pt at p'
    simp only [p', and_self, decide_true, Bool.not_true, Bool.false_eq_true, if_false]
    refine ⟨r, e, fun h => z1 fun j j0 j1 => h j (by omega) j1, fun ⟨j, j0, j1, j2⟩ => ?_⟩
    by_cases ej : j = i
    · subst ej; exact absurd p j2
    · exact z2 ⟨j, by omega, j1, j2⟩
  · have p' : ¬ ((-200 ≤ (rd_T37 l i).f0 ∧ (rd_T37 l i).f0 ≤ 200) ∧ (0 ≤ (rd_T37 l i).f1 ∧ (rd_T37 l i).f1 ≤ 400)) := p
    simp only [p', decide_false, Bool.not_false, if_true]
    exact ⟨_, rfl, fun h => absurd (h i (by omega) (by omega)) p, fun _ => by omega⟩
theorem thr_ok (l : List S37) (hm : SmP l) (hl : l.length ≤ 100) (h : ∀ j : Nat, j < l.length → Pt (rd_T37 l j)) (m : Nat) (d : Nat) : ∀ (i : Nat), i ≤ l.length → l.length - i = d →
 spec_CurveThrough.l0 (m + d + 1) l true i = spec_CurveThrough.j1 m l true := by
 induction d with
 | zero =>
  intro i h0 hd
  simp only [spec_CurveThrough.l0]
  rw [if_neg (by omega)]
 | succ d ih =>
  intro i h0 hd
  obtain ⟨s1, s2⟩ := smp_rd hm i (by omega)
  have p := h i (by omega)
  unfold Pt at p
  obtain ⟨K, hK⟩ : ∃ K, m + d + 1 = K := ⟨_, rfl⟩
  rw [show m + (d + 1) + 1 = K + 1 by omega]
  rw [hK] at ih
  simp only [spec_CurveThrough.l0, spt_f s1 s2, Option.bind_some, if_true, p, and_self, decide_true]
  rw [if_pos (by omega), if_pos (by omega), w64 (x := (i : Int) + 1) (by omega) (by omega)]
  exact ih (i + 1) (by omega) (by omega)
theorem zlenT : impl_CurveThrough.Z.length = 401 := by unfold impl_CurveThrough.Z; exact List.length_replicate
theorem allpt_of (l : List S37) (h : ∀ j : Nat, j < l.length → Pt (rd_T37 l j)) : AllPt l := by
 intro p hp
 obtain ⟨j, hj, e⟩ := List.getElem_of_mem hp
 have r : rd_T37 l j = p := by simp [rd_T37, List.getD_eq_getElem?_getD, hj, e]
 rw [← r]
 exact h j hj
theorem thr_good (l : List S37) (hm : SmP l) (hl : l.length ≤ 100) (h1 : 1 ≤ l.length) (h : ∀ j : Nat, j < l.length → Pt (rd_T37 l j)) (k : Nat) (hk : 60000 < k) :
 ∃ S M, (∀ i : Nat, i < 401 → S.getD i 0 = smT ((i : Int) - 200) l ∧ M.getD i 0 = cnT ((i : Int) - 200) l) ∧ spec_CurveThrough.f k l = some (impl_CurveThrough.fin (impl_CurveThrough.l2 S M 401 0 [] 0)) ∧ impl_CurveThrough.f k l = some (impl_CurveThrough.fin (impl_CurveThrough.l2 S M 401 0 [] 0)) := by
 have ha := allpt_of l h
 obtain ⟨S, M, e1, e2⟩ := thr_l1 l ha 0 impl_CurveThrough.Z impl_CurveThrough.Z zlenT zlenT (by omega) (fun i => by
  have z : impl_CurveThrough.Z.getD i 0 = 0 := by
   simp only [impl_CurveThrough.Z, List.getD_eq_getElem?_getD, List.getElem?_replicate]
   by_cases c : i < 401 <;> simp [c]
  rw [z]
  omega)
 have hS : ∀ i : Nat, i < 401 → S.getD i 0 = smT ((i : Int) - 200) l ∧ M.getD i 0 = cnT ((i : Int) - 200) l := fun i hi => by
  have := e2 i hi
  have z : impl_CurveThrough.Z.getD i 0 = 0 := by
   simp only [impl_CurveThrough.Z, List.getD_eq_getElem?_getD, List.getElem?_replicate]
   by_cases c : i < 401 <;> simp [c]
  rw [z] at this
  omega
 refine ⟨S, M, hS, ?_, ?_⟩
 · unfold spec_CurveThrough.f
   rw [in_f, Option.bind_some]
   have g : decide ((1 : Int) ≤ (l.length : Int) ∧ (l.length : Int) ≤ 100) = true := decide_eq_true (by omega)
   rw [g]
   obtain ⟨W, m, hW, hk'⟩ : ∃ W m, 401 * (l.length + 2) + 1 + m = W ∧ k = (W + 1) + l.length + 1 := ⟨_, k - 401 * (l.length + 2) - l.length - 3, rfl, by omega⟩
   have := thr_ok l hm hl h (W + 1) l.length 0 (by omega) (by omega)
   rw [hk']
   have q : spec_CurveThrough.l0 (W + 1 + l.length + 1) l true 0 = spec_CurveThrough.j1 (W + 1) l true := this
   rw [q]
   simp only [spec_CurveThrough.j1, if_true]
   have e := thr_out l ha hl S M hS m 401 0 [] 0 (by omega) (by omega) (by simp)
   rw [hW] at e
   exact e
 · unfold impl_CurveThrough.f impl_Point_42.f impl_Point_61.f
   rw [within_f, Option.bind_some]
   have g : decide ((1 : Int) ≤ (l.length : Int) ∧ (l.length : Int) ≤ 100) = true := decide_eq_true (by omega)
   obtain ⟨r, f1, f2, _⟩ := thr_idx l hm hl l.length k 0 (by omega) (by omega) (by omega)
   have f1' : impl_Point_61.l0 k l impl_CurveThrough_1.f (l.length : Int) 0 = some r := f1
   have f3 := f2 (fun j _ j1 => h j j1)
   have g2 : decide (r ≥ 0) = false := decide_eq_false (by omega)
   simp only [g, if_true, f1', Option.bind_some, g2, Bool.false_eq_true, if_false, e1]
theorem smT_app (x : Int) (a b : List S37) : smT x (a ++ b) = smT x a + smT x b ∧ cnT x (a ++ b) = cnT x a + cnT x b := by
 induction a with
 | nil => simp [smT, cnT]
 | cons p r ih =>
  simp only [List.cons_append, smT, cnT, ih.1, ih.2]
  omega
theorem cn_none (x : Int) (m : List S37) (d : Nat) : ∀ i : Nat, i ≤ m.length → m.length - i = d → (∀ j : Nat, i ≤ j → j < m.length → (rd_T37 m j).f0 ≠ x) → smT x (m.drop i) = 0 ∧ cnT x (m.drop i) = 0 := by
 induction d with
 | zero =>
  intro i h0 hd _
  rw [List.drop_of_length_le (by omega)]
  exact ⟨rfl, rfl⟩
 | succ d ih =>
  intro i h0 hd h
  obtain ⟨a, b⟩ := ih (i + 1) (by omega) (by omega) fun j j0 j1 => h j (by omega) j1
  rw [rd_drop m i (by omega)]
  simp only [smT, cnT]
  rw [if_neg (h i (by omega) (by omega)), if_neg (h i (by omega) (by omega)), a, b]
  exact ⟨rfl, rfl⟩
theorem cn_one (x : Int) (m : List S37) (j : Nat) (hj : j < m.length) (e : (rd_T37 m j).f0 = x) (h : ∀ i : Nat, i < m.length → i ≠ j → (rd_T37 m i).f0 ≠ x) (d : Nat) : ∀ i : Nat, i ≤ j → j - i = d → smT x (m.drop i) = (rd_T37 m j).f1 ∧ cnT x (m.drop i) = 1 := by
 induction d with
 | zero =>
  intro i h0 hd
  obtain rfl : i = j := by omega
  obtain ⟨a, b⟩ := cn_none x m (m.length - (i + 1)) (i + 1) (by omega) rfl fun q q0 q1 => h q q1 (by omega)
  rw [rd_drop m i (by omega)]
  simp only [smT, cnT]
  rw [if_pos e, if_pos e, a, b]
  omega
 | succ d ih =>
  intro i h0 hd
  obtain ⟨a, b⟩ := ih (i + 1) (by omega) (by omega)
  rw [rd_drop m i (by omega)]
  simp only [smT, cnT]
  rw [if_neg (h i (by omega) (by omega)), if_neg (h i (by omega) (by omega)), a, b]
  omega
theorem sm_cn (x : Int) (l : List S37) (h : AllPt l) : smT x l ≤ 400 * cnT x l := by
 induction l with
 | nil => simp [smT, cnT]
 | cons p r ih =>
  have i := ih (fun q hq => h q (List.mem_cons_of_mem _ hq))
  have a := (h p List.mem_cons_self).2
  simp only [smT, cnT]
  by_cases e : p.f0 = x
  · rw [if_pos e, if_pos e]; omega
  · rw [if_neg e, if_neg e]; omega
theorem shp_lt {m : List S37} (h : Shp m 0) (i j : Nat) (hij : i < j) (hj : j < m.length) : (rd_T37 m i).f0 < (rd_T37 m j).f0 := by
 have a := shp_next h (j - 1) (by omega)
 rw [show j - 1 + 1 = j by omega] at a
 have b := shp_mono h (j - 1) i (by omega) (by omega)
 omega
theorem thr_self (m : List S37) (hc : Cur m) (S M : List Int) (hS : ∀ i : Nat, i < 401 → S.getD i 0 = 2 * smT ((i : Int) - 200) m ∧ M.getD i 0 = 2 * cnT ((i : Int) - 200) m) (d : Nat) : ∀ (i j : Nat) (last : Int), i + d = 401 → j ≤ m.length → (∀ q : Nat, q < j → (rd_T37 m q).f0 < (i : Int) - 200) → (∀ q : Nat, j ≤ q → q < m.length → (i : Int) - 200 ≤ (rd_T37 m q).f0) → (0 ≤ last ∧ (j < m.length → last ≤ (rd_T37 m j).f1)) → impl_CurveThrough.l2 S M d i (m.take j) last = m := by
 have hl := hc.1
 induction d with
 | zero =>
  intro i j last h0 hj h1 h2 _
  simp only [impl_CurveThrough.l2]
  by_cases e : j = m.length
  · rw [e, List.take_length]
  · have a := h2 j (by omega) (by omega)
    have p := shp_pt hc.2 j (by omega)
    unfold Pt at p
    omega
 | succ d ih =>
  intro i j last h0 hj h1 h2 hlast
  obtain ⟨e1, e2⟩ := hS i (by omega)
  simp only [impl_CurveThrough.l2, e1, e2]
  by_cases c : j < m.length ∧ (rd_T37 m j).f0 = (i : Int) - 200
  · obtain ⟨c1, c2⟩ := c
    obtain ⟨s1, s2⟩ := cn_one ((i : Int) - 200) m j c1 c2 (fun q q1 q2 => by
     rcases Nat.lt_or_gt_of_ne q2 with z | z
     · have := h1 q z; omega
     · have := shp_lt hc.2 j q z q1; omega) j 0 (by omega) (by omega)
    rw [List.drop_zero] at s1 s2
    have p := shp_pt hc.2 j c1
    unfold Pt at p
    have l := hlast.2 c1
    rw [s1, s2, if_pos (by omega)]
    have q : Int.tdiv (2 * (rd_T37 m j).f1) (2 * 1) = (rd_T37 m j).f1 := by
     rw [Int.tdiv_eq_ediv_of_nonneg (by omega)]
     omega
    have x : mx last (rd_T37 m j).f1 = (rd_T37 m j).f1 := by
     unfold mx
     by_cases z : last < (rd_T37 m j).f1
     · rw [if_pos z]
     · rw [if_neg z]; omega
    rw [q, w64 (by omega) (by omega), x, i16w (by omega) (by omega), ← c2]
    have t : m.take j ++ [(⟨(rd_T37 m j).f0, (rd_T37 m j).f1⟩ : S37)] = m.take (j + 1) := by
     have r : rd_T37 m j = m[j] := by simp [rd_T37, List.getD_eq_getElem?_getD, c1]
     rw [List.take_succ_eq_append_getElem c1, ← r]
    rw [t]
    refine ih (i + 1) (j + 1) _ (by omega) (by omega) (fun q hq => ?_) (fun q q0 q1 => ?_) ⟨by omega, fun z => (shp_next hc.2 j z).2⟩
    · by_cases z : q = j
      · rw [z]; omega
      · have := h1 q (by omega); omega
    · have := shp_lt hc.2 j q (by omega) q1
      omega
  · obtain ⟨s1, s2⟩ := cn_none ((i : Int) - 200) m m.length 0 (by omega) (by omega) (fun q q0 q1 e => by
     by_cases z : q < j
     · have := h1 q z; omega
     · by_cases z2 : q = j
       · subst z2; exact c ⟨q1, e⟩
       · have a := shp_lt hc.2 j q (by omega) q1
         have b := h2 j (by omega) (by omega)
         omega)
    rw [List.drop_zero] at s1 s2
    rw [s2, if_neg (by omega)]
    refine ih (i + 1) j last (by omega) hj (fun q hq => ?_) (fun q q0 q1 => ?_) hlast
    · have := h1 q hq; omega
    · have a := h2 q q0 q1
      by_cases z : q = j
      · subst z
        have : (rd_T37 m q).f0 ≠ (i : Int) - 200 := fun e => c ⟨q1, e⟩
        omega
      · have := shp_lt hc.2 j q (by omega) q1
        have b := h2 j (by omega) (by omega)
        omega
theorem thr_cur (l : List S37) (ha : AllPt l) (hl : l.length ≤ 100) (S M : List Int) (hS : ∀ i : Nat, i < 401 → S.getD i 0 = smT ((i : Int) - 200) l ∧ M.getD i 0 = cnT ((i : Int) - 200) l) (d : Nat) : ∀ (i : Nat) (out : List S37) (last : Int), i + d = 401 → (out = [] ∨ Shp out 0) → (0 ≤ last ∧ last ≤ 400) → (out ≠ [] → (rd_T37 out (out.length - 1 : Nat)).f0 < (i : Int) - 200 ∧ (rd_T37 out (out.length - 1 : Nat)).f1 ≤ last) →
 (impl_CurveThrough.l2 S M d i out last = [] ∨ Shp (impl_CurveThrough.l2 S M d i out last) 0) ∧ out.length ≤ (impl_CurveThrough.l2 S M d i out last).length ∧ (∀ q : Nat, i ≤ q → q < 401 → 0 < M.getD q 0 → out.length < (impl_CurveThrough.l2 S M d i out last).length) := by
 induction d with
 | zero =>
  intro i out last h0 h1 _ _
  simp only [impl_CurveThrough.l2]
  exact ⟨h1, Nat.le_refl _, fun q q0 q1 => by omega⟩
 | succ d ih =>
  intro i out last h0 h1 h2 h3
  obtain ⟨e1, e2⟩ := hS i (by omega)
  have b := smT_b ((i : Int) - 200) l ha
  simp only [impl_CurveThrough.l2]
  by_cases c : 0 < M.getD i 0
  · rw [if_pos c, e1, e2]
    have dv : 0 ≤ Int.tdiv (smT ((i : Int) - 200) l) (cnT ((i : Int) - 200) l) ∧ Int.tdiv (smT ((i : Int) - 200) l) (cnT ((i : Int) - 200) l) ≤ 400 := by
     rw [Int.tdiv_eq_ediv_of_nonneg b.1]
     rw [e2] at c
     refine ⟨Int.ediv_nonneg b.1 (by omega), ?_⟩
     refine Int.le_of_lt_add_one (Int.ediv_lt_of_lt_mul c ?_)
     have := sm_cn ((i : Int) - 200) l ha
     omega
    have x : 0 ≤ mx last (Int.tdiv (smT ((i : Int) - 200) l) (cnT ((i : Int) - 200) l)) ∧ mx last (Int.tdiv (smT ((i : Int) - 200) l) (cnT ((i : Int) - 200) l)) ≤ 400 ∧ last ≤ mx last (Int.tdiv (smT ((i : Int) - 200) l) (cnT ((i : Int) - 200) l)) := by
     unfold mx
     by_cases z : last < Int.tdiv (smT ((i : Int) - 200) l) (cnT ((i : Int) - 200) l)
     · rw [if_pos z]; omega
     · rw [if_neg z]; omega
    rw [w64 (by omega) (by omega), i16w (by omega) (by omega)]
    obtain ⟨v, hv⟩ : ∃ v, mx last (Int.tdiv (smT ((i : Int) - 200) l) (cnT ((i : Int) - 200) l)) = v := ⟨_, rfl⟩
    rw [hv] at x ⊢
    have s := shp_snoc (p := (⟨(i : Int) - 200, v⟩ : S37)) h1 ⟨by show -200 ≤ (i : Int) - 200 ∧ (i : Int) - 200 ≤ 200; omega, by show 0 ≤ v ∧ v ≤ 400; omega⟩ (fun hn => by
     have := h3 hn
     show _ < (i : Int) - 200 ∧ _ ≤ v
     omega)
    have len : (out ++ [(⟨(i : Int) - 200, v⟩ : S37)]).length = out.length + 1 := by simp
    obtain ⟨r1, r2, r3⟩ := ih (i + 1) (out ++ [(⟨(i : Int) - 200, v⟩ : S37)]) v (by omega) (.inr s) (by omega) (fun _ => by
     rw [last_snoc]
     show (i : Int) - 200 < ((i + 1 : Nat) : Int) - 200 ∧ v ≤ v
     omega)
    exact ⟨r1, by omega, fun _ _ _ _ => by omega⟩
  · rw [if_neg c]
    obtain ⟨r1, r2, r3⟩ := ih (i + 1) out last (by omega) h1 h2 (fun hn => by have := h3 hn; omega)
    refine ⟨r1, r2, fun q q0 q1 q2 => ?_⟩
    by_cases z : q = i
    · subst z; exact absurd q2 c
    · exact r3 q (by omega) q1 q2
theorem thr_few (S M : List Int) (hM : ∀ i : Nat, (i < 197 ∨ 205 ≤ i) → i < 401 → ¬ 0 < M.getD i 0) (d : Nat) : ∀ (i : Nat) (out : List S37) (last : Int), i + d = 401 → (impl_CurveThrough.l2 S M d i out last).length ≤ out.length + (if i ≤ 197 then 8 else 205 - i) := by
 induction d with
 | zero =>
  intro i out last h0
  simp only [impl_CurveThrough.l2]
  omega
 | succ d ih =>
  intro i out last h0
  simp only [impl_CurveThrough.l2]
  by_cases c : 0 < M.getD i 0
  · rw [if_pos c]
    have n : ¬ (i < 197 ∨ 205 ≤ i) := fun z => hM i z (by omega) c
    refine Nat.le_trans (ih (i + 1) _ _ (by omega)) ?_
    rw [List.length_append, List.length_singleton]
    split <;> split <;> omega
  · rw [if_neg c]
    refine Nat.le_trans (ih (i + 1) _ _ (by omega)) ?_
    split <;> split <;> omega
theorem szs_f {x : Int} (h : -1000000 < x ∧ x < 1000000) : spec_l01Size.f x = some (if x < 0 then -x else x) ∧ impl_size.f x = some (if x < 0 then -x else x) := by
 constructor
 · unfold spec_l01Size.f
   rw [w64 (by omega) (by omega)]
   split <;> rfl
 · unfold impl_size.f mx
   rw [w64 (by omega) (by omega)]
   by_cases c : x < 0
   · rw [if_pos (by omega), if_pos c]
   · by_cases e : x = 0
     · subst e; rfl
     · rw [if_neg (by omega), if_neg c]
def gp (a b : List S37) (x : Int) : Int := atV b x - atV a x
def ab (x : Int) : Int := if x < 0 then -x else x
def IsGap (a b : List S37) (n p g : Int) : Prop := -200 ≤ p ∧ p ≤ n ∧ g = gp a b p ∧ (∀ j, -200 ≤ j → j ≤ n → ab (gp a b j) ≤ ab g) ∧ (∀ j, -200 ≤ j → j < p → ab (gp a b j) < ab g)
theorem gap_l (a b : List S37) (ha : Cur a) (hb : Cur b) (d : Nat) : ∀ (k : Nat) (x p g : Int), -199 ≤ x → x ≤ 201 → 201 - x = d → d + 20 < k → IsGap a b (x - 1) p g →
 ∃ z, spec_l02Gap.l0 k a b p g x = some z ∧ impl_gap.l0 k a b p g x = some z ∧ IsGap a b 200 z.1 z.2 := by
 induction d with
 | zero =>
  intro k x p g h0 h1 hd hk hg
  obtain ⟨k, rfl⟩ : ∃ n, k = n + 1 := ⟨k - 1, by omega⟩
  simp only [spec_l02Gap.l0, impl_gap.l0, impl_isPlace.f, within_f, Option.bind_some]
  have g1 : ¬ x ≤ 200 := by omega
  simp only [g1, and_false, decide_false, Bool.false_eq_true, if_false]
  rw [show x - 1 = 200 by omega] at hg
  exact ⟨_, rfl, rfl, hg⟩
 | succ d ih =>
  intro k x p g h0 h1 hd hk hg
  obtain ⟨k, rfl⟩ : ∃ n, k = n + 1 := ⟨k - 1, by omega⟩
  have hg' := hg
  obtain ⟨q0, q1, q2, q3, q4⟩ := hg'
  obtain ⟨a1, _, a2, a3⟩ := at_f a ha x (by omega)
  obtain ⟨b1, _, b2, b3⟩ := at_f b hb x (by omega)
  obtain ⟨_, _, a4, a5⟩ := at_f a ha p (by omega)
  obtain ⟨_, _, b4, b5⟩ := at_f b hb p (by omega)
  have gb : -400 ≤ g ∧ g ≤ 400 := by rw [q2]; unfold gp; omega
  have xb : -400 ≤ gp a b x ∧ gp a b x ≤ 400 := by unfold gp; omega
  simp only [spec_l02Gap.l0, impl_gap.l0, impl_isPlace.f, within_f, Option.bind_some, (a1 k (by omega)).1, (a1 k (by omega)).2, (b1 k (by omega)).1, (b1 k (by omega)).2]
  have eg : atV b x - atV a x = gp a b x := rfl
  rw [w64 (x := atV b x - atV a x) (by omega) (by omega), w64 (x := x + 1) (by omega) (by omega), eg, (szs_f (x := gp a b x) (by omega)).1, (szs_f (x := gp a b x) (by omega)).2, (szs_f (x := g) (by omega)).1, (szs_f (x := g) (by omega)).2]
  have g1 : x ≤ 200 := by omega
  have g2 : -200 ≤ x := by omega
  simp only [g1, g2, and_self, decide_true, if_true, Option.bind_some]
  have ex : (if gp a b x < 0 then -gp a b x else gp a b x) = ab (gp a b x) := rfl
  have eg' : (if g < 0 then -g else g) = ab g := rfl
  rw [ex, eg']
  by_cases c : ab (gp a b x) > ab g
  · simp only [c, if_true]
    refine ih k (x + 1) x (gp a b x) (by omega) (by omega) (by omega) (by omega) ⟨by omega, by omega, rfl, fun j j0 j1 => ?_, fun j j0 j1 => ?_⟩
    · by_cases e : j = x
      · rw [e]; exact Int.le_refl _
      · have := q3 j j0 (by omega); omega
    · have := q3 j j0 (by omega); omega
  · simp only [c, if_false]
    refine ih k (x + 1) p g (by omega) (by omega) (by omega) (by omega) ⟨q0, by omega, q2, fun j j0 j1 => ?_, q4⟩
    by_cases e : j = x
    · rw [e]; omega
    · exact q3 j j0 (by omega)
theorem gap_f (a b : List S37) (ha : Cur a) (hb : Cur b) (k : Nat) (hk : 500 < k) : ∃ z, spec_l02Gap.f k a b = some z ∧ impl_gap.f k a b = some z ∧ IsGap a b 200 z.1 z.2 := by
 obtain ⟨a1, _, a2, a3⟩ := at_f a ha (-200) (by omega)
 obtain ⟨b1, _, b2, b3⟩ := at_f b hb (-200) (by omega)
 have xb : -400 ≤ gp a b (-200) ∧ gp a b (-200) ≤ 400 := by unfold gp; omega
 obtain ⟨k, rfl⟩ : ∃ n, k = n + 1 := ⟨k - 1, by omega⟩
 have start : IsGap a b (-200) (-200) (gp a b (-200)) := ⟨by omega, by omega, rfl, fun j j0 j1 => by rw [show j = -200 by omega]; exact Int.le_refl _, fun j j0 j1 => by omega⟩
 obtain ⟨z, z1, z2, z3⟩ := gap_l a b ha hb 400 k (-199) (-200) (gp a b (-200)) (by omega) (by omega) (by omega) (by omega) start
 obtain ⟨z', z1', z2', z3'⟩ := gap_l a b ha hb 400 (k + 1) (-199) (-200) (gp a b (-200)) (by omega) (by omega) (by omega) (by omega) start
 have ez : z' = z := by
  have := spec_l02Gap.mono_l k a b (-200) (gp a b (-200)) (-199) z z1
  rw [z1'] at this
  exact Option.some.inj this
 subst ez
 refine ⟨z', ?_, ?_, z3⟩
 · unfold spec_l02Gap.f
   rw [(b1 (k + 1) (by omega)).1, (a1 (k + 1) (by omega)).1]
   simp only [Option.bind_some]
   rw [w64 (by omega) (by omega)]
   exact z1'
 · unfold impl_gap.f
   simp only [impl_gap.l0, impl_isPlace.f, within_f, Option.bind_some]
   have eg : atV b (-200) - atV a (-200) = gp a b (-200) := rfl
   rw [(b1 k (by omega)).2, (a1 k (by omega)).2]
   simp only [Option.bind_some]
   rw [w64 (by omega) (by omega), eg, (szs_f (x := gp a b (-200)) (by omega)).2, (szs_f (x := 0) (by omega)).2, w64 (x := -200 + 1) (by omega) (by omega)]
   simp only [Option.bind_some]
   rw [if_pos (by decide)]
   have s0 : IsGap a b (-200) (-200) (gp a b (-200)) := start
   by_cases c : gp a b (-200) = 0
   · rw [c] at z2 ⊢
     rw [if_neg (by simp)]
     exact z2
   · rw [if_pos (by split <;> simp <;> omega)]
     exact z2
theorem gap_one {a b : List S37} {n p g p' g' : Int} (h : IsGap a b n p g) (h' : IsGap a b n p' g') : p = p' ∧ g = g' := by
 obtain ⟨h0, h1, h2, h3, h4⟩ := h
 obtain ⟨q0, q1, q2, q3, q4⟩ := h'
 have e : p = p' := by
  rcases Int.lt_trichotomy p p' with c | c | c
  · have a1 := q4 p h0 c
    have a2 := h3 p' q0 q1
    rw [← h2] at a1
    rw [← q2] at a2
    omega
  · exact c
  · have a1 := h4 p' q0 c
    have a2 := q3 p h0 h1
    rw [← q2] at a1
    rw [← h2] at a2
    omega
 subst e
 exact ⟨rfl, h2.trans q2.symm⟩
theorem erase_td (m : List S37) (i : Nat) : ([] ++ m.take i) ++ m.drop (i + 1) = m.eraseIdx i := by
 rw [List.nil_append, List.eraseIdx_eq_take_drop_succ]
theorem rd_erase (m : List S37) (i j : Nat) : rd_T37 (m.eraseIdx i) j = if j < i then rd_T37 m j else rd_T37 m (j + 1 : Nat) := by
 simp only [rd_T37, Int.toNat_natCast, List.getD_eq_getElem?_getD, List.getElem?_eraseIdx]
 by_cases c : j < i
 · rw [if_pos c, if_pos c]
 · rw [if_neg c, if_neg c]
theorem cur_erase {m : List S37} (h : Cur m) (h2 : 2 ≤ m.length) (i : Nat) (hi : i < m.length) : Cur (m.eraseIdx i) ∧ (m.eraseIdx i).length = m.length - 1 := by
 have hl : (m.eraseIdx i).length = m.length - 1 := List.length_eraseIdx_of_lt hi
 obtain ⟨c1, c2, c3⟩ := h
 refine ⟨⟨by omega, by omega, fun j _ hj => ?_⟩, hl⟩
 rw [hl] at hj
 rw [rd_erase]
 by_cases c : j < i
 · rw [if_pos c]
   have := c3 j (by omega) (by omega)
   refine ⟨this.1, fun j0 => ?_⟩
   rw [rd_erase, if_pos (by omega)]
   exact this.2 j0
 · rw [if_neg c]
   have t := c3 (j + 1) (by omega) (by omega)
   refine ⟨t.1, fun j0 => ?_⟩
   have t2 := t.2 (by omega)
   rw [show j + 1 - 1 = j by omega] at t2
   rw [rd_erase]
   by_cases e : j - 1 < i
   · rw [if_pos e]
     have u := (c3 j (by omega) (by omega)).2 j0
     constructor
     · have := t2.1; have := u.1; omega
     · have := t2.2; have := u.2; omega
   · rw [if_neg e, show j - 1 + 1 = j by omega]
     exact t2
theorem ab_b {a b : List S37} (ha : Cur a) (hb : Cur b) {p g : Int} (h : IsGap a b 200 p g) : -400 ≤ g ∧ g ≤ 400 := by
 obtain ⟨h0, h1, h2, _⟩ := h
 obtain ⟨_, _, a2, a3⟩ := at_f a ha p (by omega)
 obtain ⟨_, _, b2, b3⟩ := at_f b hb p (by omega)
 rw [h2]
 unfold gp
 omega
def Fit (c m : List S37) (w : Int) : Prop := ∃ p g, IsGap c m 200 p g ∧ ab g ≤ w
theorem fit_gap {c m : List S37} (hc : Cur c) (hm : Cur m) (w : Int) (k : Nat) (hk : 500 < k) : ∃ p g s, spec_l02Gap.f k c m = some (p, g) ∧ impl_gap.f k c m = some (p, g) ∧ spec_l01Size.f g = some s ∧ impl_size.f g = some s ∧ (s ≤ w ↔ Fit c m w) := by
 obtain ⟨⟨p, g⟩, e1, e2, e3⟩ := gap_f c m hc hm k hk
 have b := ab_b hc hm e3
 obtain ⟨f1, f2⟩ := szs_f (x := g) (by omega)
 refine ⟨p, g, _, e1, e2, f1, f2, ?_⟩
 constructor
 · exact fun h => ⟨p, g, e3, h⟩
 · rintro ⟨p', g', h1, h2⟩
   obtain ⟨_, rfl⟩ := gap_one e3 h1
   exact h2
theorem smp_one (c m : List S37) (w : Int) (hc : Cur c) (hm : Cur m) (i : Nat) (hi : i < m.length) (h2 : 2 ≤ m.length) (he : Cur (m.eraseIdx i)) (K : Nat) (hK : 500 < K) : ∃ s, (s ≤ w ↔ Fit c (m.eraseIdx i) w) ∧ spec_SimplerCurve.l0 (K + 1 + 1) c w m i = (if s ≤ w then spec_SimplerCurve.l0 K c w (m.eraseIdx i) 0 else spec_SimplerCurve.l0 K c w m ((i : Int) + 1)) := by
 have mlen := hm.1
 obtain ⟨p, g, s, e1, e2, f1, f2, f3⟩ := fit_gap hc he w K hK
 refine ⟨s, f3, ?_⟩
 simp only [spec_SimplerCurve.l0]
 rw [if_pos (by omega), show decide ((m.length : Int) > 1) = true from decide_eq_true (by omega)]
 have b1 : ([] : List S37).length + (m.take i).length < 35184372088832 := by rw [List.length_nil, List.length_take]; omega
 have b2 : (([] : List S37) ++ m.take i).length + (m.drop (i + 1)).length < 35184372088832 := by rw [List.length_append, List.length_nil, List.length_take, List.length_drop]; omega
 have g0 : (0 : Int) ≤ i := by omega
 have g1 : (i : Int) ≤ (m.length : Int) := by omega
 have g2 : (0 : Int) ≤ (i : Int) + 1 := by omega
 have g3 : (i : Int) + 1 ≤ (m.length : Int) := by omega
 have t : ((i : Int) + 1).toNat = i + 1 := by omega
 have m1 : ((-1 : Int) + 1) = 0 := by decide
 simp only [spec_SimplerCurve.j1]
 rw [if_pos trivial, Option.bind_some, if_pos g0, if_pos g1, Int.toNat_natCast, Option.bind_some, if_pos b1, Option.bind_some, w64 (x := (i : Int) + 1) (by omega) (by omega), if_pos g2, if_pos g3, t, Option.bind_some, if_pos b2, Option.bind_some, erase_td, e1, Option.bind_some, f1, Option.bind_some, m1]
theorem smp_two (c m : List S37) (w : Int) (hc : Cur c) (hm : Cur m) (i : Nat) (hi : i < m.length) (h2 : 2 ≤ m.length) (he : Cur (m.eraseIdx i)) (k : Nat) (hk : 500 < k) : ∃ s, (s ≤ w ↔ Fit c (m.eraseIdx i) w) ∧ impl_simpler.l0 (k + 1) c m w i = (if s ≤ w then some (m.eraseIdx i, true) else impl_simpler.l0 k c m w (i + 1)) := by
 have mlen := hm.1
 have hlen : (m.eraseIdx i).length = m.length - 1 := List.length_eraseIdx_of_lt (by omega)
 have cl : impl_Point_56.f m = some m := if_pos (by omega)
 obtain ⟨p, g, s, e1, e2, f1, f2, f3⟩ := fit_gap hc he w k hk
 refine ⟨s, f3, ?_⟩
 simp only [impl_simpler.l0, cl, Option.bind_some]
 rw [if_pos (by omega), if_neg (by omega), e2]
 simp only [Option.bind_some, f2]
theorem smp_stage (c m : List S37) (w : Int) (hc : Cur c) (hm : Cur m) (d : Nat) : ∀ (i : Nat), i ≤ m.length → m.length - i = d →
 (∃ j, i ≤ j ∧ j < m.length ∧ 2 ≤ m.length ∧ Fit c (m.eraseIdx j) w ∧ (∀ k : Nat, 600 + d < k → impl_simpler.l0 k c m w i = some (m.eraseIdx j, true)) ∧ (∀ K : Nat, 600 < K → spec_SimplerCurve.l0 (K + 2 * (j - i + 1)) c w m i = spec_SimplerCurve.l0 K c w (m.eraseIdx j) 0)) ∨
 ((2 ≤ m.length → ∀ j, i ≤ j → j < m.length → ¬ Fit c (m.eraseIdx j) w) ∧ (∀ k : Nat, 600 + d < k → impl_simpler.l0 k c m w i = some ([], false)) ∧ (∀ K : Nat, 600 + 2 * d < K → spec_SimplerCurve.l0 K c w m i = some (m, (c.length : Int) - (m.length : Int), 0))) := by
 have mlen := hm.1
 have clen := hc.1
 have mpos := hm.2.1
 induction d with
 | zero =>
  intro i h0 hd
  refine .inr ⟨fun _ j j0 j1 => by omega, fun k hk => ?_, fun K hK => ?_⟩
  · obtain ⟨k, rfl⟩ : ∃ n, k = n + 1 := ⟨k - 1, by omega⟩
    simp only [impl_simpler.l0]
    rw [if_neg (by omega)]
  · obtain ⟨K, rfl⟩ : ∃ n, K = n + 1 + 1 := ⟨K - 2, by omega⟩
    simp only [spec_SimplerCurve.l0]
    rw [if_neg (by omega)]
    simp only [spec_SimplerCurve.j1]
    rw [if_neg (by decide), w64 (by omega) (by omega)]
 | succ d ih =>
  intro i h0 hd
  have hlen : (m.eraseIdx i).length = m.length - 1 := List.length_eraseIdx_of_lt (by omega)
  have cl : impl_Point_56.f m = some m := if_pos (by omega)
  by_cases h1 : m.length = 1
  · refine .inr ⟨fun h => by omega, fun k hk => ?_, fun K hK => ?_⟩
    · obtain ⟨k, rfl⟩ : ∃ n, k = n + 1 := ⟨k - 1, by omega⟩
      simp only [impl_simpler.l0, cl, Option.bind_some]
      rw [if_pos (by omega), if_pos (by omega)]
    · obtain ⟨K, rfl⟩ : ∃ n, K = n + 1 + 1 := ⟨K - 2, by omega⟩
      simp only [spec_SimplerCurve.l0]
      rw [if_pos (by omega), show decide ((m.length : Int) > 1) = false from decide_eq_false (by omega)]
      simp only [spec_SimplerCurve.j1]
      rw [if_neg (by decide), w64 (by omega) (by omega)]
  · have h2 : 2 ≤ m.length := by omega
    obtain ⟨he, _⟩ := cur_erase hm h2 i (by omega)
    have one := smp_one c m w hc hm i (by omega) h2 he
    have two := smp_two c m w hc hm i (by omega) h2 he
    by_cases hf : Fit c (m.eraseIdx i) w
    · refine .inl ⟨i, Nat.le_refl _, by omega, h2, hf, fun k hk => ?_, fun K hK => ?_⟩
      · obtain ⟨k, rfl⟩ : ∃ n, k = n + 1 := ⟨k - 1, by omega⟩
        obtain ⟨s, s1, s2⟩ := two k (by omega)
        rw [s2, if_pos (s1.mpr hf)]
      · obtain ⟨s, s1, s2⟩ := one K (by omega)
        rw [show K + 2 * (i - i + 1) = K + 1 + 1 by omega, s2, if_pos (s1.mpr hf)]
    · rcases ih (i + 1) (by omega) (by omega) with ⟨j, j0, j1, j2, j3, j4, j5⟩ | ⟨q1, q2, q3⟩
      · refine .inl ⟨j, by omega, j1, j2, j3, fun k hk => ?_, fun K hK => ?_⟩
        · obtain ⟨k, rfl⟩ : ∃ n, k = n + 1 := ⟨k - 1, by omega⟩
          obtain ⟨s, s1, s2⟩ := two k (by omega)
          rw [s2, if_neg (fun h => hf (s1.mp h))]
          exact j4 k (by omega)
        · obtain ⟨s, s1, s2⟩ := one (K + 2 * (j - (i + 1) + 1)) (by omega)
          rw [show K + 2 * (j - i + 1) = (K + 2 * (j - (i + 1) + 1)) + 1 + 1 by omega, s2, if_neg (fun h => hf (s1.mp h)), show ((i : Int) + 1) = ((i + 1 : Nat) : Int) by omega]
          exact j5 K hK
      · refine .inr ⟨fun _ j j0 j1 => ?_, fun k hk => ?_, fun K hK => ?_⟩
        · by_cases e : j = i
          · rw [e]; exact hf
          · exact q1 h2 j (by omega) j1
        · obtain ⟨k, rfl⟩ : ∃ n, k = n + 1 := ⟨k - 1, by omega⟩
          obtain ⟨s, s1, s2⟩ := two k (by omega)
          rw [s2, if_neg (fun h => hf (s1.mp h))]
          exact q2 k (by omega)
        · obtain ⟨K, rfl⟩ : ∃ n, K = n + 1 + 1 := ⟨K - 2, by omega⟩
          obtain ⟨s, s1, s2⟩ := one K (by omega)
          rw [s2, if_neg (fun h => hf (s1.mp h)), show ((i : Int) + 1) = ((i + 1 : Nat) : Int) by omega]
          exact q3 K (by omega)
theorem smp_all (c : List S37) (w : Int) (hc : Cur c) (n : Nat) : ∀ (m : List S37) (cnt : Int), m.length = n → Cur m → cnt = (c.length : Int) - (m.length : Int) → 0 ≤ cnt → Fit c m w →
 ∃ r, Cur r ∧ r.length ≤ n ∧ Fit c r w ∧ (2 ≤ r.length → ∀ j, j < r.length → ¬ Fit c (r.eraseIdx j) w) ∧ (∀ K : Nat, 700 + 40 * n < K → spec_SimplerCurve.l0 K c w m 0 = some (r, (c.length : Int) - (r.length : Int), 0)) ∧ (∀ k : Nat, 700 + n < k → impl_SimplerCurve.l0 k c w m cnt = some (r, (c.length : Int) - (r.length : Int), 0)) := by
 have clen := hc.1
 induction n with
 | zero =>
  intro m cnt hn hm hcnt h0 hf
  have := hm.2.1
  omega
 | succ n ih =>
  intro m cnt hn hm hcnt h0 hf
  have mlen := hm.1
  rcases smp_stage c m w hc hm m.length 0 (by omega) (by omega) with ⟨j, j0, j1, j2, j3, j4, j5⟩ | ⟨q1, q2, q3⟩
  · obtain ⟨he, hel⟩ := cur_erase hm j2 j j1
    obtain ⟨r, r1, r2, r3, r4, r5, r6⟩ := ih (m.eraseIdx j) (cnt + 1) (by omega) he (by omega) (by omega) j3
    refine ⟨r, r1, by omega, r3, r4, fun K hK => ?_, fun k hk => ?_⟩
    · have e := j5 (K - 2 * (j - 0 + 1)) (by omega)
      rw [show K - 2 * (j - 0 + 1) + 2 * (j - 0 + 1) = K by omega] at e
      have e' : spec_SimplerCurve.l0 K c w m 0 = _ := e
      rw [e']
      exact r5 _ (by omega)
    · obtain ⟨k, rfl⟩ : ∃ n, k = n + 1 := ⟨k - 1, by omega⟩
      simp only [impl_SimplerCurve.l0, impl_simpler.f, j4 k (by omega), Option.bind_some, if_true]
      rw [w64 (x := cnt + 1) (by omega) (by omega)]
      exact r6 k (by omega)
  · refine ⟨m, hm, by omega, hf, fun h j hj => q1 h j (by omega) hj, fun K hK => q3 K (by omega), fun k hk => ?_⟩
    obtain ⟨k, rfl⟩ : ∃ n, k = n + 1 := ⟨k - 1, by omega⟩
    simp only [impl_SimplerCurve.l0, impl_simpler.f, q2 k (by omega), Option.bind_some, Bool.false_eq_true, if_false]
    rw [hcnt]
theorem fit_self (c : List S37) (w : Int) (hw : 0 ≤ w) : Fit c c w := by
 have z : ∀ j, gp c c j = 0 := fun j => by unfold gp; omega
 refine ⟨-200, 0, ⟨by omega, by omega, (z _).symm, fun j _ _ => by rw [z]; exact Int.le_refl _, fun j j0 j1 => by omega⟩, ?_⟩
 unfold ab
 rw [if_neg (by omega)]
 exact hw
theorem sdn_f (a : Int) : spec_l02Density.f a = some (decide (0 ≤ a ∧ a ≤ 400)) ∧ impl_isDensity.f a = some (decide (0 ≤ a ∧ a ≤ 400)) := by
 unfold spec_l02Density.f impl_isDensity.f
 rw [in_f, within_f]
 exact ⟨rfl, rfl⟩
theorem smp_good (c : List S37) (w : Int) (hc : Cur c) (hw : 0 ≤ w ∧ w ≤ 400) (k : Nat) (hk : 3000 < k) (e1 : spec_l02Ok.f k c = some true) (e2 : impl_ValidCurve.f k c = some true) :
 ∃ r, Cur r ∧ Fit c r w ∧ (2 ≤ r.length → ∀ j, j < r.length → ¬ Fit c (r.eraseIdx j) w) ∧ spec_SimplerCurve.f k c w = some (r, (c.length : Int) - (r.length : Int), 0) ∧ impl_SimplerCurve.f k c w = some (r, (c.length : Int) - (r.length : Int), 0) := by
 have clen := hc.1
 obtain ⟨r, r1, r2, r3, r4, r5, r6⟩ := smp_all c w hc c.length c 0 rfl hc (by omega) (by omega) (fit_self c w hw.1)
 have cl : impl_Point_56.f c = some c := if_pos (by omega)
 refine ⟨r, r1, r3, r4, ?_, ?_⟩
 · unfold spec_SimplerCurve.f
   simp only [e1, Option.bind_some, if_true, (sdn_f w).1, hw, and_self, decide_true]
   rw [if_pos (by simp; omega), List.nil_append]
   exact r5 k (by omega)
 · unfold impl_SimplerCurve.f impl_curveCode.f
   simp only [e2, Option.bind_some, if_true, (sdn_f w).2, hw, and_self, decide_true, cl]
   exact r6 k (by omega)
theorem quo_bd {y n d : Int} (hy : 0 ≤ y ∧ y ≤ 400) (hn : 0 ≤ n ∧ n ≤ 100) (hd : 1 ≤ d ∧ d ≤ 100) : (0 ≤ y * n ∧ y * n ≤ 40000) ∧ 0 ≤ Int.tdiv (y * n) d ∧ Int.tdiv (y * n) d ≤ 40000 := by
 have a : 0 ≤ y * n := Int.mul_nonneg hy.1 hn.1
 have b : y * n ≤ 400 * 100 := Int.mul_le_mul hy.2 hn.2 hn.1 (by omega)
 have e : Int.tdiv (y * n) d = y * n / d := Int.tdiv_eq_ediv_of_nonneg a
 have c : 0 ≤ y * n / d := Int.ediv_nonneg a (by omega)
 have f : y * n / d ≤ y * n := Int.ediv_le_self _ a
 rw [e]
 exact ⟨⟨a, by omega⟩, c, by omega⟩
def mvS (n d : Int) (p : S37) : S37 := ⟨p.f0, Int.tdiv (p.f1 * n) d⟩
theorem str_l (l : List S37) (hl : l.length ≤ 12) (hs : ∀ j : Nat, j < l.length → Pt (rd_T37 l j)) (n e : Int) (hn : 0 ≤ n ∧ n ≤ 100) (he : 1 ≤ e ∧ e ≤ 100) (d : Nat) :
 ∀ (k i : Nat), i ≤ l.length → l.length - i = d → d < k → ∃ z, spec_StretchCurve.l0 k l n e ((l.take i).map (mvS n e)) i = some z ∧ ((∀ j : Nat, i ≤ j → j < l.length → Pt (mvS n e (rd_T37 l j))) → z = (l.map (mvS n e), 0)) ∧ (∀ j : Nat, i ≤ j → j < l.length → ¬ Pt (mvS n e (rd_T37 l j)) → z = ([], 4)) := by
 induction d with
 | zero =>
  intro k i h0 hd hk
  obtain ⟨k, rfl⟩ : ∃ n, k = n + 1 := ⟨k - 1, by omega⟩
  simp only [spec_StretchCurve.l0]
  rw [if_neg (by omega)]
  exact ⟨_, rfl, fun _ => by rw [List.take_of_length_le (by omega)], fun j j0 j1 => by omega⟩
 | succ d ih =>
  intro k i h0 hd hk
  obtain ⟨k, rfl⟩ : ∃ n, k = n + 1 := ⟨k - 1, by omega⟩
  have s := hs i (by omega)
  unfold Pt at s
  obtain ⟨q1, q2, q3⟩ := quo_bd s.2 hn he
  obtain ⟨z, ee, z1, z2⟩ := ih k (i + 1) (by omega) (by omega) (by omega)
  rw [← take_s (mvS n e) i (by omega)] at ee
  have hm : mvS n e (rd_T37 l i) = ⟨(rd_T37 l i).f0, Int.tdiv ((rd_T37 l i).f1 * n) e⟩ := rfl
  simp only [spec_StretchCurve.l0]
  rw [if_pos (by omega), if_pos (by omega), if_neg (by omega), w64 (x := (rd_T37 l i).f1) (by omega) (by omega), w64 (x := (rd_T37 l i).f1 * n) (by omega) (by omega), w64 (x := Int.tdiv ((rd_T37 l i).f1 * n) e) (by omega) (by omega), w64 (x := (i : Int) + 1) (by omega) (by omega)]
  simp only [spec_l02Density.f, in_f, Option.bind_some]
  by_cases p : 0 ≤ Int.tdiv ((rd_T37 l i).f1 * n) e ∧ Int.tdiv ((rd_T37 l i).f1 * n) e ≤ 400
  · have p' : Pt (mvS n e (rd_T37 l i)) := ⟨s.1, p⟩
    have hlen : ((l.take i).map (mvS n e)).length < 35184372088832 := by rw [List.length_map, List.length_take]; omega
    simp only [p, hlen, and_self, decide_true, if_true]
    rw [i16w (by omega) (by omega), ← hm]
    refine ⟨z, ee, fun h => z1 fun j j0 j1 => h j (by omega) j1, fun j j0 j1 hj => ?_⟩
    by_cases ej : j = i
    · rw [ej] at hj; exact absurd p' hj
    · exact z2 j (by omega) j1 hj
  · simp only [p, decide_false, Bool.false_eq_true, if_false]
    exact ⟨([], 4), rfl, fun h => absurd (h i (by omega) (by omega)).2 p, fun _ _ _ _ => rfl⟩
theorem str_f (l : List S37) (hm : SmP l) (hl : l.length ≤ 1048576) (n e : Int) (k : Nat) (hk : l.length + 3000 < k) :
 ∃ z, spec_StretchCurve.f k l n e = some z ∧ impl_StretchCurve.f k l n e = some z ∧ z.1.length ≤ 1000 := by
 obtain ⟨k, rfl⟩ : ∃ n, k = n + 1 := ⟨k - 1, by omega⟩
 obtain ⟨r, e1, e2, e3⟩ := cur_f l hm hl (k + 1) (by omega)
 unfold spec_StretchCurve.f impl_StretchCurve.f
 simp only [e1, in_f, within_f, Option.bind_some]
 cases r with
 | false =>
  simp only [Bool.false_eq_true, if_false]
  refine ⟨_, rfl, ?_, by show 0 ≤ 1000; omega⟩
  by_cases c : 0 ≤ n ∧ n ≤ 100
  · simp only [c, and_self, decide_true, if_true, Option.bind_some, chg_no _ l _ _ e2]
  · simp only [c, decide_false, Bool.false_eq_true, if_false, Option.bind_some, chg_no _ l _ _ e2]
 | true =>
  simp only [if_true]
  by_cases c : 0 ≤ n ∧ n ≤ 100
  · simp only [c, and_self, decide_true, if_true, Option.bind_some]
    by_cases c' : 1 ≤ e ∧ e ≤ 100
    · simp only [c', and_self, decide_true, spec_StretchCurve.j0, Bool.not_true, Bool.false_eq_true, if_false]
      have hc := e3 rfl
      have hs : ∀ j : Nat, j < l.length → Pt (rd_T37 l j) := fun j hj => (hc.2.2 j (by omega) hj).1
      obtain ⟨z, f1, f2, f3⟩ := str_l l hc.1 hs n e c c' l.length k 0 (by omega) (by omega) (by omega)
      obtain ⟨y, g1, g2, g3⟩ := chg_f (impl_StretchCurve.ch n e) (mvS n e) l hc.1 hs (fun j hj => by
       have s := hs j hj
       unfold Pt at s
       obtain ⟨q1, q2, q3⟩ := quo_bd s.2 c c'
       unfold impl_StretchCurve.ch mvS
       rw [if_neg (by omega), w64 (x := (rd_T37 l j).f1 * n) (by omega) (by omega), w64 (x := Int.tdiv ((rd_T37 l j).f1 * n) e) (by omega) (by omega)]) (k + 1) (by omega) e2
      have hz : z = y ∧ z.1.length ≤ 1000 := by
       by_cases h : ∀ j : Nat, j < l.length → Pt (mvS n e (rd_T37 l j))
       · rw [f2 fun j _ j1 => h j j1, g2 h]
         exact ⟨rfl, by show (l.map _).length ≤ 1000; rw [List.length_map]; have := hc.1; omega⟩
       · obtain ⟨j, hj⟩ := Classical.not_forall.1 h
         obtain ⟨j1, hj⟩ := Classical.not_imp.1 hj
         rw [f3 j (by omega) j1 hj, g3 j j1 hj]
         exact ⟨rfl, by show 0 ≤ 1000; omega⟩
      refine ⟨z, f1, ?_, hz.2⟩
      rw [g1, hz.1]
    · simp only [c', decide_false, spec_StretchCurve.j0, Bool.not_false, if_true, chg_bad _ l _ e2]
      exact ⟨_, rfl, rfl, by show 0 ≤ 1000; omega⟩
  · simp only [c, decide_false, Bool.false_eq_true, if_false, Option.bind_some, spec_StretchCurve.j0, if_true, chg_bad _ l _ e2]
    exact ⟨_, rfl, rfl, by show 0 ≤ 1000; omega⟩
theorem smp_app {a : List S37} {p : S37} (h : SmP a) (hp : (-32768 ≤ p.f0 ∧ p.f0 ≤ 32767) ∧ (-32768 ≤ p.f1 ∧ p.f1 ≤ 32767)) : SmP (a ++ [p]) := by
 intro x hx
 rcases List.mem_append.1 hx with hx | hx
 · exact h x hx
 · rw [List.mem_singleton.1 hx]; exact hp
theorem join_l1 (b : List S37) (hb : SmP b) (hbl : b.length ≤ 12) (x : Int) (d : Nat) : ∀ (k : Nat) (acc : List S37) (i : Nat), i ≤ b.length → b.length - i = d → 2000 + d < k → acc.length + d ≤ 1000 → SmP acc →
 ∃ r, spec_JoinCurves.l1 k b x acc i = some r ∧ impl_JoinCurves.l1 k x acc b (b.length : Int) i = some r ∧ r.1.length ≤ 1000 := by
 induction d with
 | zero =>
  intro k acc i h0 hd hk ha hs
  obtain ⟨k, rfl⟩ : ∃ n, k = n + 1 := ⟨k - 1, by omega⟩
  obtain ⟨r, e1, e2, _⟩ := shape_f acc hs (by omega) k (by omega)
  simp only [spec_JoinCurves.l1, impl_JoinCurves.l1, e1, e2, Option.bind_some]
  have g1 : ¬ (i : Int) < (b.length : Int) := by omega
  simp only [g1, if_false]
  cases r with
  | true =>
   simp only [if_true]
   by_cases c : (acc.length : Int) > 12
   · simp only [c, if_true]
     exact ⟨_, rfl, rfl, by show 0 ≤ 1000; omega⟩
   · simp only [c, if_false]
     exact ⟨_, rfl, rfl, by show acc.length ≤ 1000; omega⟩
  | false => exact ⟨_, rfl, rfl, by show 0 ≤ 1000; omega⟩
 | succ d ih =>
  intro k acc i h0 hd hk ha hs
  obtain ⟨k, rfl⟩ : ∃ n, k = n + 1 := ⟨k - 1, by omega⟩
  obtain ⟨s1, s2⟩ := smp_rd hb i (by omega)
  simp only [spec_JoinCurves.l1, impl_JoinCurves.l1]
  have g1 : (i : Int) < (b.length : Int) := by omega
  have g2 : 0 ≤ (i : Int) := by omega
  have g3 : acc.length < 35184372088832 := by omega
  simp only [g1, g2, g3, if_true]
  rw [w64 (x := (i : Int) + 1) (by omega) (by omega)]
  have hlen : (acc ++ [(⟨(rd_T37 b i).f0, (rd_T37 b i).f1⟩ : S37)]).length = acc.length + 1 := by simp
  by_cases c : wrap64 (rd_T37 b i).f0 ≥ x
  · simp only [c, if_true]
    exact ih k _ (i + 1) (by omega) (by omega) (by omega) (by omega) (smp_app hs ⟨s1, s2⟩)
  · simp only [c, if_false]
    exact ih k _ (i + 1) (by omega) (by omega) (by omega) (by omega) hs
theorem join_l0 (a b : List S37) (hsa : SmP a) (hal : a.length ≤ 12) (hb : SmP b) (hbl : b.length ≤ 12) (x : Int) (d : Nat) : ∀ (k : Nat) (acc : List S37) (i : Nat), i ≤ a.length → a.length - i = d → 2100 + d < k → acc.length + d ≤ 900 → SmP acc →
 ∃ r, spec_JoinCurves.l0 k a b x acc i = some r ∧ impl_JoinCurves.l0 k b x acc a (a.length : Int) i = some r ∧ r.1.length ≤ 1000 := by
 induction d with
 | zero =>
  intro k acc i h0 hd hk ha hs
  obtain ⟨k, rfl⟩ : ∃ n, k = n + 1 := ⟨k - 1, by omega⟩
  simp only [spec_JoinCurves.l0, impl_JoinCurves.l0]
  have g1 : ¬ (i : Int) < (a.length : Int) := by omega
  simp only [g1, if_false]
  exact join_l1 b hb hbl x b.length k acc 0 (by omega) (by omega) (by omega) (by omega) hs
 | succ d ih =>
  intro k acc i h0 hd hk ha hs
  obtain ⟨k, rfl⟩ : ∃ n, k = n + 1 := ⟨k - 1, by omega⟩
  obtain ⟨s1, s2⟩ := smp_rd hsa i (by omega)
  simp only [spec_JoinCurves.l0, impl_JoinCurves.l0]
  have g1 : (i : Int) < (a.length : Int) := by omega
  have g2 : 0 ≤ (i : Int) := by omega
  have g3 : acc.length < 35184372088832 := by omega
  simp only [g1, g2, g3, if_true]
  rw [w64 (x := (i : Int) + 1) (by omega) (by omega)]
  have hlen : (acc ++ [(⟨(rd_T37 a i).f0, (rd_T37 a i).f1⟩ : S37)]).length = acc.length + 1 := by simp
  by_cases c : wrap64 (rd_T37 a i).f0 < x
  · simp only [c, if_true]
    exact ih k _ (i + 1) (by omega) (by omega) (by omega) (by omega) (smp_app hs ⟨s1, s2⟩)
  · simp only [c, if_false]
    exact ih k _ (i + 1) (by omega) (by omega) (by omega) (by omega) hs
theorem join_f (a b : List S37) (ha : SmP a) (hal : a.length ≤ 1048576) (hb : SmP b) (hbl : b.length ≤ 1048576) (x : Int) (k : Nat) (hk : a.length + b.length + 3000 < k) :
 ∃ r, spec_JoinCurves.f k a b x = some r ∧ impl_JoinCurves.f k a b x = some r ∧ r.1.length ≤ 1000 := by
 obtain ⟨k, rfl⟩ : ∃ n, k = n + 1 := ⟨k - 1, by omega⟩
 obtain ⟨r, e1, e2, e3⟩ := cur_f a ha hal (k + 1) (by omega)
 obtain ⟨s, f1, f2, f3⟩ := cur_f b hb hbl (k + 1) (by omega)
 have t : ∀ n, spec_JoinCurves.j0 (n + 1) a b x true = some ([], 1) ∧ impl_JoinCurves.j0 (n + 1) a b x true = some ([], 1) := fun n => ⟨rfl, rfl⟩
 unfold spec_JoinCurves.f impl_JoinCurves.f
 simp only [e1, e2, f1, f2, Option.bind_some]
 cases r with
 | false => exact ⟨_, (t k).1, (t k).2, by show 0 ≤ 1000; omega⟩
 | true =>
  cases s with
  | false => exact ⟨_, (t k).1, (t k).2, by show 0 ≤ 1000; omega⟩
  | true =>
   simp only [if_true, Bool.not_true, spec_JoinCurves.j0, impl_JoinCurves.j0, spec_l02Place.f, impl_isPlace.f, in_f, within_f, Option.bind_some, Bool.false_eq_true, if_false]
   by_cases c : -200 ≤ x ∧ x ≤ 200
   · simp only [c, and_self, decide_true, if_true]
     exact join_l0 a b ha (e3 rfl).1 hb (f3 rfl).1 x a.length k [] 0 (by omega) (by omega) (by have := (e3 rfl).1; omega) (by have := (e3 rfl).1; show 0 + _ ≤ 900; omega) (fun x hx => by cases hx)
   · simp only [c, decide_false, Bool.false_eq_true, if_false]
     exact ⟨_, rfl, rfl, by show 0 ≤ 1000; omega⟩
theorem a2at_f (l : List Int) (hb : Bytes l) (i : Nat) (n : Int) (hn : 1 ≤ n ∧ n ≤ 100000) : ∃ v, laws_a2At.f l i n = some v ∧ 0 ≤ v ∧ v < n := by
 unfold laws_a2At.f
 by_cases c : (i : Int) ≥ (l.length : Int)
 · rw [if_pos c]
   exact ⟨0, rfl, by omega, by omega⟩
 · have v := bytes_rd hb i (by omega)
   rw [if_neg c, if_neg (by omega), if_pos (by omega), if_pos (by omega), if_neg (by omega), w64 (x := rd l i) (by omega) (by omega), Int.tmod_eq_emod_of_nonneg (by omega)]
   exact ⟨_, rfl, Int.emod_nonneg _ (by omega), Int.emod_lt_of_pos _ (by omega)⟩
theorem byt {l : List Int} (h : ∀ x ∈ l, (Lit.int .u8 x).wf = true) : Bytes l := by
 intro x hx
 have h2 : (decide ((0 : Int) ≤ x) && decide (x ≤ 255)) = true := h x hx
 simpa using h2
theorem code0 (m : List S37) (h : Cur m) (k : Nat) (hk : 20 < k) : impl_curveCode.f k m true = some 0 := by
 unfold impl_curveCode.f
 rw [(cur_t m h k (by omega)).2, Option.bind_some, if_pos rfl, if_pos rfl]
theorem cat_f (m : List S37) (h : Cur m) (x : Int) (hx : -200 ≤ x ∧ x ≤ 200) (k : Nat) (hk : 20 < k) : impl_CurveAt.f k m x = some (atV m x, 0) ∧ spec_CurveAt.f k m x = some (atV m x, 0) := by
 obtain ⟨a, _⟩ := at_f m h x (by omega)
 obtain ⟨b, c⟩ := a k (by omega)
 unfold impl_CurveAt.f spec_CurveAt.f impl_isPlace.f spec_l02Asked.f spec_l02Place.f
 have hd : decide (-200 ≤ x ∧ x ≤ 200) = true := decide_eq_true hx
 simp only [within_f, in_f, hd, Option.bind_some, code0 m h k hk, if_true, c, b, (cur_t m h k (by omega)).1, and_self]
theorem same_r (m : List S37) (hl : m.length ≤ 1000) (d : Nat) : ∀ (k i : Nat), i ≤ m.length → m.length - i = d → d < k → spec_l02Same.l0 k m m i = some true := by
 induction d with
 | zero =>
  intro k i h0 hd hk
  obtain ⟨k, rfl⟩ : ∃ n, k = n + 1 := ⟨k - 1, by omega⟩
  simp only [spec_l02Same.l0]
  rw [if_neg (by omega)]
 | succ d ih =>
  intro k i h0 hd hk
  obtain ⟨k, rfl⟩ : ∃ n, k = n + 1 := ⟨k - 1, by omega⟩
  have g1 : (i : Int) < (m.length : Int) := by omega
  have g3 : 0 ≤ (i : Int) := by omega
  have n := ih k (i + 1) (by omega) (by omega) (by omega)
  simp only [spec_l02Same.l0]
  simp only [g1, g3, if_true]
  rw [w64 (x := (i : Int) + 1) (by omega) (by omega)]
  simpa using n
theorem same_t (m : List S37) (hl : m.length ≤ 1000) (k : Nat) (hk : 1000 < k) : spec_SameCurve.f k m m = some true := by
 have sa := same_r m hl m.length k 0 (by omega) (by omega) (by omega)
 unfold spec_SameCurve.f spec_l02Same.f
 rw [if_pos rfl]
 exact (congrArg (fun o => Option.bind o fun t => some t) sa)
theorem gg_f (a b : List S37) (ha : Cur a) (hb : Cur b) (k : Nat) (hk : 500 < k) : ∃ p g, impl_GreatestGap.f k a b = some (p, g, 0) ∧ IsGap a b 200 p g := by
 obtain ⟨⟨p, g⟩, _, e2, e3⟩ := gap_f a b ha hb k hk
 refine ⟨p, g, ?_, e3⟩
 unfold impl_GreatestGap.f
 rw [(cur_t a ha k (by omega)).2, Option.bind_some, if_pos rfl, (cur_t b hb k (by omega)).2, Option.bind_some, if_pos rfl, e2, Option.bind_some]
theorem a2s_f {g : Int} (h : -400 ≤ g ∧ g ≤ 400) : spec_A2Size.f g = some (ab g) := by
 unfold spec_A2Size.f
 rw [(szs_f (x := g) (by omega)).1, Option.bind_some]
 rfl
theorem ml2 (m r : List S37) (w : Int) (hc : Cur m) (hr : Cur r) (hmin : 2 ≤ r.length → ∀ j, j < r.length → ¬ Fit m (r.eraseIdx j) w) (d : Nat) : ∀ (k i : Nat), i ≤ r.length → r.length - i = d → 600 + 2 * d < k → laws_FnMovedCurves.l2 k m w r i = some true := by
 have hl := hr.1
 induction d with
 | zero =>
  intro k i h0 hd hk
  obtain ⟨k, rfl⟩ : ∃ n, k = n + 1 + 1 := ⟨k - 2, by omega⟩
  rw [laws_FnMovedCurves.l2, if_neg (by omega), laws_FnMovedCurves.j11, if_neg (by simp)]
 | succ d ih =>
  intro k i h0 hd hk
  obtain ⟨k, rfl⟩ : ∃ n, k = n + 1 + 1 := ⟨k - 2, by omega⟩
  rw [laws_FnMovedCurves.l2, if_pos (by omega)]
  by_cases h2 : 2 ≤ r.length
  · rw [show decide ((r.length : Int) > 1) = true from decide_eq_true (by omega), laws_FnMovedCurves.j11, if_pos rfl]
    obtain ⟨he, _⟩ := cur_erase hr h2 i (by omega)
    obtain ⟨p, g, e1, e2⟩ := gg_f m (r.eraseIdx i) hc he k (by omega)
    have b1 : ([] : List S37).length + (r.take i).length < 35184372088832 := by rw [List.length_nil, List.length_take]; omega
    have b2 : (([] : List S37) ++ r.take i).length + (r.drop (i + 1)).length < 35184372088832 := by rw [List.length_append, List.length_nil, List.length_take, List.length_drop]; omega
    have g0 : (0 : Int) ≤ i := by omega
    have g1 : (i : Int) ≤ (r.length : Int) := by omega
    have g2 : (0 : Int) ≤ (i : Int) + 1 := by omega
    have g3 : (i : Int) + 1 ≤ (r.length : Int) := by omega
    have t : ((i : Int) + 1).toNat = i + 1 := by omega
    rw [Option.bind_some, if_pos g0, if_pos g1, Int.toNat_natCast, Option.bind_some, if_pos b1, Option.bind_some, w64 (x := (i : Int) + 1) (by omega) (by omega), if_pos g2, if_pos g3, t, Option.bind_some, if_pos b2, erase_td, e1, Option.bind_some]
    have bd := ab_b hc he e2
    have nf : ¬ ab g ≤ w := fun z => hmin h2 i (by omega) ⟨p, g, e2, z⟩
    simp only [if_true]
    rw [a2s_f bd, Option.bind_some, if_neg nf]
    exact ih k (i + 1) (by omega) (by omega) (by omega)
  · rw [show decide ((r.length : Int) > 1) = false from decide_eq_false (by omega), laws_FnMovedCurves.j11, if_neg (by simp)]
theorem mj8 (l1 : List Int) (hb : Bytes l1) (m : List S37) (hc : Cur m) (k : Nat) (hk : 4000 < k) : laws_FnMovedCurves.j8 k l1 m false = some true := by
 obtain ⟨k, rfl⟩ : ∃ n, k = n + 1 + 1 := ⟨k - 2, by omega⟩
 have hl := hc.1
 obtain ⟨w, e1, w0, w1⟩ := a2at_f l1 hb 3 40 (by omega)
 have e1' : laws_a2At.f l1 3 40 = some w := e1
 obtain ⟨c1, c2⟩ := cur_t m hc (k + 1) (by omega)
 obtain ⟨r, hr, hf, hmin, f1, f2⟩ := smp_good m w hc (by omega) (k + 1) (by omega) c1 c2
 have hrl := hr.1
 obtain ⟨p, g, g1, g2⟩ := gg_f m r hc hr (k + 1) (by omega)
 obtain ⟨p', g', q1, q2⟩ := hf
 obtain ⟨_, rfl⟩ := gap_one g2 q1
 rw [laws_FnMovedCurves.j8, if_neg (by simp), e1', Option.bind_some, f2, Option.bind_some, f1, Option.bind_some]
 simp only [g1, Option.bind_some, if_true, same_t r (by omega) (k + 1) (by omega), a2s_f (ab_b hc hr g2)]
 rw [if_neg (by omega), w64 (by omega) (by omega), show ((r.length : Int) + ((m.length : Int) - (r.length : Int)) != (m.length : Int)) = false by rw [show (r.length : Int) + ((m.length : Int) - (r.length : Int)) = (m.length : Int) by omega]; exact bne_self_eq_false _, laws_FnMovedCurves.j9, if_neg (by simp)]
 exact ml2 m r w hc hr hmin r.length k 0 (by omega) (by omega) (by omega)
theorem mj7 (l1 : List Int) (hb : Bytes l1) (m kn : List S37) (hc : Cur m) (hn : Cur kn) (by_ : Int) (k : Nat) (hk : 9000 < k) : laws_FnMovedCurves.j7 k l1 m by_ kn false = some true := by
 obtain ⟨k, rfl⟩ : ∃ n, k = n + 1 := ⟨k - 1, by omega⟩
 have hl := hc.1
 have hnl := hn.1
 obtain ⟨u, e1, u0, u1⟩ := a2at_f l1 hb 1 4 (by omega)
 have e1' : laws_a2At.f l1 1 4 = some u := e1
 obtain ⟨v, e2, v0, v1⟩ := a2at_f l1 hb 2 4 (by omega)
 have e2' : laws_a2At.f l1 2 4 = some v := e2
 obtain ⟨z, s1, s2, s3⟩ := str_f m (smp_cur hc) (by omega) u (1 + v) k (by omega)
 obtain ⟨y, t1, t2, t3⟩ := join_f m kn (smp_cur hc) (by omega) (smp_cur hn) (by omega) by_ k (by omega)
 rw [laws_FnMovedCurves.j7, if_neg (by simp), e1', Option.bind_some, e2', Option.bind_some, w64 (x := 1 + v) (by omega) (by omega), s2, Option.bind_some, s1, Option.bind_some, t2, Option.bind_some, t1, Option.bind_some, if_pos rfl, same_t z.1 s3 k (by omega), Option.bind_some, if_pos rfl, if_pos rfl, same_t y.1 t3 k (by omega), Option.bind_some]
 exact mj8 l1 hb m hc k (by omega)
theorem smp_pt {l : List S37} (h : AllPt l) : SmP l := fun p hp => by
 have := h p hp
 unfold Pt at this
 omega
theorem cn_zero (x : Int) (l : List S37) (h : ∀ p ∈ l, p.f0 ≠ x) : cnT x l = 0 := by
 induction l with
 | nil => rfl
 | cons p r ih =>
  simp only [cnT]
  rw [if_neg (h p List.mem_cons_self), ih fun q hq => h q (List.mem_cons_of_mem _ hq)]
  rfl
theorem pts_l (l : List Int) (hb : Bytes l) (hl : l.length ≤ 4096) (n : Nat) : ∀ (k : Nat) (acc : List S37) (i : Nat) (s : Int), acc.length + n ≤ 8 → i ≤ 100 * acc.length + 100 → n < k → (∀ q ∈ acc, (-3 ≤ q.f0 ∧ q.f0 ≤ 4) ∧ (0 ≤ q.f1 ∧ q.f1 ≤ 89)) → ∃ p, spec_A2Points.l0 k acc n l i s = some p ∧ p.length = acc.length + n ∧ (∀ q ∈ p, (-3 ≤ q.f0 ∧ q.f0 ≤ 4) ∧ (0 ≤ q.f1 ∧ q.f1 ≤ 89)) := by
 induction n with
 | zero =>
  intro k acc i s h0 h1 h2 h3
  obtain ⟨k, rfl⟩ : ∃ n, k = n + 1 := ⟨k - 1, by omega⟩
  rw [spec_A2Points.l0, if_neg (by omega)]
  exact ⟨acc, rfl, rfl, h3⟩
 | succ n ih =>
  intro k acc i s h0 h1 h2 h3
  obtain ⟨k, rfl⟩ : ∃ n, k = n + 1 := ⟨k - 1, by omega⟩
  obtain ⟨v, i1, s1, e1, v0, v1, w1⟩ := pick_f l hb hl i (by omega) s 8 (by omega) (by omega)
  obtain ⟨u, i2, s2, e2, u0, u1, w2⟩ := pick_f l hb hl i1 (by omega) s1 90 (by omega) (by omega)
  rw [spec_A2Points.l0, if_pos (by omega), e1, Option.bind_some]
  simp only []
  rw [e2, Option.bind_some, if_pos (by omega)]
  simp only []
  rw [w64 (x := v - 3) (by omega) (by omega), i16w (x := v - 3) (by omega) (by omega), i16w (x := u) (by omega) (by omega), w64 (x := ((n + 1 : Nat) : Int) - 1) (by omega) (by omega), show ((n + 1 : Nat) : Int) - 1 = (n : Int) by omega]
  have hlen : (acc ++ [(⟨v - 3, u⟩ : S37)]).length = acc.length + 1 := by simp
  obtain ⟨p, p1, p2, p3⟩ := ih k (acc ++ [⟨v - 3, u⟩]) i2 s2 (by omega) (by omega) (by omega) (fun q hq => by
   rcases List.mem_append.1 hq with hq | hq
   · exact h3 q hq
   · rw [List.mem_singleton.1 hq]
     show (-3 ≤ v - 3 ∧ v - 3 ≤ 4) ∧ (0 ≤ u ∧ u ≤ 89)
     omega)
  exact ⟨p, p1, by omega, p3⟩
theorem a2points (l : List Int) (hb : Bytes l) (hl : l.length ≤ 4096) (k : Nat) (hk : 10 < k) : ∃ p, spec_A2Points.f k l = some p ∧ 1 ≤ p.length ∧ p.length ≤ 8 ∧ (∀ q ∈ p, (-3 ≤ q.f0 ∧ q.f0 ≤ 4) ∧ (0 ≤ q.f1 ∧ q.f1 ≤ 89)) := by
 unfold spec_A2Points.f spec_l00From.f
 simp only [Option.bind_some]
 obtain ⟨v, i1, s1, e1, v0, v1, w1⟩ := pick_f l hb hl 0 (by omega) 0 8 (by omega) (by omega)
 have e1' : spec_l00Src_pick.f l 0 0 8 = some (v, (i1 : Int), s1) := e1
 simp only [e1', Option.bind_some]
 rw [w64 (x := 1 + v) (by omega) (by omega)]
 obtain ⟨n, hn⟩ : ∃ n : Nat, 1 + v = n := ⟨(1 + v).toNat, by omega⟩
 obtain ⟨p, p1, p2, p3⟩ := pts_l l hb hl n k [] i1 s1 (by show 0 + n ≤ 8; omega) (by show i1 ≤ 100 * 0 + 100; omega) (by omega) (fun q hq => by cases hq)
 rw [hn, p1]
 have p2' : p.length = 0 + n := p2
 exact ⟨p, rfl, by omega, by omega, p3⟩
theorem thr_list (p : List S37) (h1 : 1 ≤ p.length) (h8 : p.length ≤ 8) (hp : ∀ q ∈ p, (-3 ≤ q.f0 ∧ q.f0 ≤ 4) ∧ (0 ≤ q.f1 ∧ q.f1 ≤ 89)) (k : Nat) (hk : 60000 < k) : ∃ r, impl_CurveThrough.f k p = some (r, 0) ∧ spec_CurveThrough.f k p = some (r, 0) ∧ Cur r := by
 have ha : AllPt p := fun q hq => by
  have := hp q hq
  unfold Pt
  omega
 obtain ⟨S, M, hS, e1, e2⟩ := thr_good p (smp_pt ha) (by omega) h1 (fun j hj => allpt_rd ha j hj) k hk
 obtain ⟨r1, r2, r3⟩ := thr_cur p ha (by omega) S M hS 401 0 [] 0 (by omega) (.inl rfl) (by omega) (fun h => absurd rfl h)
 have few := thr_few S M (fun i hi h => by
  have z := cn_zero ((i : Int) - 200) p (fun q hq e => by have := hp q hq; omega)
  rw [(hS i h).2, z]
  omega) 401 0 [] 0 (by omega)
 obtain ⟨R, hR⟩ : ∃ R, impl_CurveThrough.l2 S M 401 0 [] 0 = R := ⟨_, rfl⟩
 rw [hR] at r1 r2 r3 few e1 e2
 have few' : R.length ≤ 0 + 8 := few
 have pos : 0 < R.length := by
  match p, h1, hp, hS, ha with
  | q :: t, _, hp, hS, ha =>
   have b := hp q List.mem_cons_self
   have i := (hS (q.f0 + 200).toNat (by omega)).2
   have c := (smT_b q.f0 t (fun x hx => ha x (List.mem_cons_of_mem _ hx))).2.2.1
   rw [show (((q.f0 + 200).toNat : Nat) : Int) - 200 = q.f0 by omega] at i
   simp only [cnT, if_true] at i
   exact r3 (q.f0 + 200).toNat (by omega) (by omega) (by omega)
 have fin : impl_CurveThrough.fin R = (R, 0) := by
  unfold impl_CurveThrough.fin
  rw [if_neg (by omega)]
 rw [fin] at e1 e2
 refine ⟨R, e2, e1, by omega, ?_⟩
 rcases r1 with r1 | r1
 · rw [r1] at pos; exact absurd pos (by simp)
 · exact r1
theorem thr_own (m acc : List S37) (hc : Cur m) (ha : AllPt acc) (hlen : acc.length = 2 * m.length) (h2 : ∀ x, smT x acc = 2 * smT x m ∧ cnT x acc = 2 * cnT x m) (k : Nat) (hk : 60000 < k) : impl_CurveThrough.f k acc = some (m, 0) := by
 have hl := hc.1
 have hp := hc.2.1
 obtain ⟨S, M, hS, e1, e2⟩ := thr_good acc (smp_pt ha) (by omega) (by omega) (fun j hj => allpt_rd ha j hj) k hk
 have own := thr_self m hc S M (fun i hi => by
  obtain ⟨a, b⟩ := hS i hi
  obtain ⟨c, d⟩ := h2 ((i : Int) - 200)
  rw [a, b, c, d]
  exact ⟨rfl, rfl⟩) 401 0 0 0 (by omega) (by omega) (fun q hq => by omega) (fun q q0 q1 => by
  have := shp_pt hc.2 q q1
  unfold Pt at this
  omega) ⟨by omega, fun z => by
  have := shp_pt hc.2 0 z
  unfold Pt at this
  omega⟩
 rw [List.take_zero] at own
 rw [e2, own]
 unfold impl_CurveThrough.fin
 rw [if_neg (by omega)]
theorem mtail (l1 : List Int) (hb : Bytes l1) (hl1 : l1.length ≤ 4096) (m acc : List S37) (hc : Cur m) (by_ : Int) (ha : AllPt acc) (hlen : acc.length = 2 * m.length) (h2 : ∀ x, smT x acc = 2 * smT x m ∧ cnT x acc = 2 * cnT x m) (k : Nat) (hk : 61000 < k) : laws_FnMovedCurves.l1 k l1 m by_ acc (-1) = some true := by
 obtain ⟨k, rfl⟩ : ∃ n, k = n + 1 := ⟨k - 1, by omega⟩
 have hl := hc.1
 obtain ⟨p, p1, p2, p3, p4⟩ := a2points l1 hb hl1 k (by omega)
 obtain ⟨r, r1, r2, r3⟩ := thr_list p p2 p3 p4 k (by omega)
 have hrl := r3.1
 rw [laws_FnMovedCurves.l1, if_neg (by omega), thr_own m acc hc ha hlen h2 k (by omega), Option.bind_some, p1, Option.bind_some, r1, Option.bind_some, r2, Option.bind_some]
 simp only [if_true, same_t m (by omega) k (by omega), same_t r (by omega) k (by omega), Option.bind_some, (cur_t r r3 k (by omega)).2, Bool.not_true]
 exact mj7 l1 hb m r hc r3 by_ k (by omega)
theorem ml1 (l1 : List Int) (hb : Bytes l1) (hl1 : l1.length ≤ 4096) (m : List S37) (hc : Cur m) (by_ : Int) (d : Nat) : ∀ (k : Nat) (acc : List S37), d ≤ m.length → AllPt acc → acc.length = 2 * (m.length - d) → (∀ x, smT x acc = 2 * smT x (m.drop d) ∧ cnT x acc = 2 * cnT x (m.drop d)) → 61000 + d < k → laws_FnMovedCurves.l1 k l1 m by_ acc ((d : Int) - 1) = some true := by
 have hl := hc.1
 induction d with
 | zero =>
  intro k acc _ ha hlen h2 hk
  rw [List.drop_zero] at h2
  exact mtail l1 hb hl1 m acc hc by_ ha (by omega) h2 k (by omega)
 | succ d ih =>
  intro k acc hd ha hlen h2 hk
  obtain ⟨k, rfl⟩ : ∃ n, k = n + 1 := ⟨k - 1, by omega⟩
  have pt := shp_pt hc.2 d (by omega)
  have g0 : (d : Int) ≥ 0 := by omega
  have g1 : (0 : Int) ≤ d := by omega
  have g2 : (d : Int) < (m.length : Int) := by omega
  have g3 : acc.length + ([(⟨(rd_T37 m d).f0, (rd_T37 m d).f1⟩ : S37), (⟨(rd_T37 m d).f0, (rd_T37 m d).f1⟩ : S37)] : List S37).length < 35184372088832 := by
   simp only [List.length_cons, List.length_nil]
   omega
  rw [show ((d + 1 : Nat) : Int) - 1 = (d : Int) by omega, laws_FnMovedCurves.l1, if_pos g0, if_pos g1, if_pos g2, Option.bind_some, if_pos g3, w64 (x := (d : Int) - 1) (by omega) (by omega)]
  refine ih k _ (by omega) (fun q hq => ?_) ?_ (fun x => ?_) (by omega)
  · rcases List.mem_append.1 hq with hq | hq
    · exact ha q hq
    · have e : q = rd_T37 m d := by simpa using hq
      rw [e]
      exact pt
  · rw [List.length_append]
    simp only [List.length_cons, List.length_nil]
    omega
  · obtain ⟨a, b⟩ := h2 x
    obtain ⟨c, e⟩ := smT_app x acc [(⟨(rd_T37 m d).f0, (rd_T37 m d).f1⟩ : S37), (⟨(rd_T37 m d).f0, (rd_T37 m d).f1⟩ : S37)]
    rw [c, e, a, b, rd_drop m d (by omega)]
    simp only [smT, cnT]
    by_cases z : (rd_T37 m d).f0 = x
    · rw [if_pos z, if_pos z]; omega
    · rw [if_neg z, if_neg z]; omega
theorem ml0 (l1 : List Int) (hb : Bytes l1) (hl1 : l1.length ≤ 4096) (m : List S37) (hc : Cur m) (by_ : Int) (hby : -20 ≤ by_ ∧ by_ ≤ 39) (h : ∀ j : Nat, j < m.length → Pt (mvM by_ 0 (rd_T37 m j))) (d : Nat) : ∀ (k : Nat) (x : Int), -30 ≤ x → x ≤ 61 → 61 - x = d → 61500 + 2 * d < k → laws_FnMovedCurves.l0 k l1 m by_ (m.map (mvM by_ 0)) x = some true := by
 have hl := hc.1
 induction d with
 | zero =>
  intro k x h0 h1 hd hk
  obtain ⟨k, rfl⟩ : ∃ n, k = n + 1 := ⟨k - 1, by omega⟩
  rw [laws_FnMovedCurves.l0, if_neg (by omega), w64 (x := (m.length : Int) - 1) (by omega) (by omega)]
  exact ml1 l1 hb hl1 m hc by_ m.length k [] (by omega) (fun q hq => by cases hq) (by simp) (fun x => by rw [List.drop_length]; exact ⟨rfl, rfl⟩) (by omega)
 | succ d ih =>
  intro k x h0 h1 hd hk
  obtain ⟨k, rfl⟩ : ∃ n, k = n + 1 + 1 := ⟨k - 2, by omega⟩
  rw [laws_FnMovedCurves.l0, if_pos (by omega), w64 (x := x + by_) (by omega) (by omega), (cat_f _ (cur_mv m hc by_ 0 h) (x + by_) (by omega) (k + 1) (by omega)).1, Option.bind_some, (cat_f m hc x (by omega) (k + 1) (by omega)).2, Option.bind_some]
  simp only [if_true]
  rw [atv_mv m hc by_ 0 h x (by omega) (by omega), Int.add_zero, bne_self_eq_false, laws_FnMovedCurves.j5, if_neg (by simp), w64 (x := x + 1) (by omega) (by omega)]
  exact ih k (x + 1) (by omega) (by omega) (by omega) (by omega)
theorem FnMovedCurves : laws_FnMovedCurves.Pure := by
 intro l0 l1 h0 _ w0 h1 _ w1
 refine ⟨100000, ?_⟩
 unfold laws_FnMovedCurves.f laws_a2Long.f
 by_cases b0 : (l0.length : Int) > 3000
 · rw [if_pos b0, Option.bind_some, if_pos rfl]
 rw [if_neg b0, Option.bind_some]
 by_cases b1 : (l1.length : Int) > 3000
 · rw [if_pos (decide_eq_true b1)]
 rw [if_neg (by simpa using b1)]
 have y0 := byt w0
 have y1 := byt w1
 obtain ⟨m, e1, hc, hb⟩ := a2curve l0 y0 (by omega) 100000 (by omega)
 have hl := hc.1
 have hp := hc.2.1
 obtain ⟨v, e2, ya, yb⟩ := a2at_f l1 y1 0 60 (by omega)
 have e2' : laws_a2At.f l1 0 60 = some v := e2
 obtain ⟨b, hbv⟩ : ∃ b, v - 20 = b := ⟨_, rfl⟩
 have bb : -20 ≤ b ∧ b ≤ 39 := by omega
 have pts : ∀ j : Nat, j < m.length → Pt (rd_T37 m j) := fun j hj => shp_pt hc.2 j hj
 have ok : ∀ j : Nat, j < m.length → Pt (mvM b 0 (rd_T37 m j)) := fun j hj => by
  have p := pts j hj
  have q := hb j hj
  unfold Pt at p ⊢
  show (-200 ≤ (rd_T37 m j).f0 + b ∧ (rd_T37 m j).f0 + b ≤ 200) ∧ (0 ≤ (rd_T37 m j).f1 + 0 ∧ (rd_T37 m j).f1 + 0 ≤ 400)
  omega
 obtain ⟨z, z1, z2, z3, _⟩ := mvd_t m hc b 0 b (impl_ShiftCurve.ch b) (.inl ⟨rfl, rfl⟩) (by omega) (fun x y hx hy => by
  unfold impl_ShiftCurve.ch
  rw [w64 (x := x + b) (by omega) (by omega), Int.add_zero]) 100000 (by omega)
 obtain rfl := z3 ok
 have hmv := cur_mv m hc b 0 ok
 have hml : (m.map (mvM b 0)).length = m.length := List.length_map _
 obtain ⟨y, x1, x2, x3, _⟩ := mvd_t (m.map (mvM b 0)) hmv (-b) 0 (-b) (impl_ShiftCurve.ch (-b)) (.inl ⟨rfl, rfl⟩) (by omega) (fun x y hx hy => by
  unfold impl_ShiftCurve.ch
  rw [w64 (x := x + -b) (by omega) (by omega), Int.add_zero]) 100000 (by omega)
 obtain rfl := x3 (fun j hj => by
  rw [hml] at hj
  rw [rd_map _ m j hj]
  have p := pts j hj
  unfold Pt at p ⊢
  show (-200 ≤ (rd_T37 m j).f0 + b + -b ∧ (rd_T37 m j).f0 + b + -b ≤ 200) ∧ (0 ≤ (rd_T37 m j).f1 + 0 + 0 ∧ (rd_T37 m j).f1 + 0 + 0 ≤ 400)
  omega)
 rw [mv_back] at x2
 have z1' : spec_ShiftCurve.f 100000 m b = some (m.map (mvM b 0), 0) := by
  unfold spec_ShiftCurve.f
  rw [z1, Option.bind_some]
 have z2' : impl_ShiftCurve.f 100000 m b = some (m.map (mvM b 0), 0) := z2
 have x2' : impl_ShiftCurve.f 100000 (m.map (mvM b 0)) (-b) = some (m, 0) := x2
 rw [e1, Option.bind_some, e2', Option.bind_some, w64 (x := v - 20) (by omega) (by omega), hbv, w64 (x := -b) (by omega) (by omega), z2', Option.bind_some, z1', Option.bind_some]
 simp only [x2', Option.bind_some, if_true, same_t m (by omega) 100000 (by omega), same_t (m.map (mvM b 0)) (by omega) 100000 (by omega), Bool.not_true]
 obtain ⟨u, u1, u2, u3, u4⟩ := mvd_t m hc 0 b b (impl_LiftCurve.ch b) (.inr ⟨rfl, rfl⟩) (by omega) (fun x y hx hy => by
  unfold impl_LiftCurve.ch
  rw [w64 (x := y + b) (by omega) (by omega), Int.add_zero]) 99999 (by omega)
 have u1' : spec_LiftCurve.f 99999 m b = some u := by
  unfold spec_LiftCurve.f
  rw [u1, Option.bind_some]
 have u2' : impl_LiftCurve.f 99999 m b = some u := u2
 have go := ml0 l1 y1 (by omega) m hc b bb ok 91
 by_cases c : ∀ j : Nat, j < m.length → Pt (mvM 0 b (rd_T37 m j))
 · obtain rfl := u3 c
   have hli := cur_mv m hc 0 b c
   have hll : (m.map (mvM 0 b)).length = m.length := List.length_map _
   obtain ⟨p, g, g1, g2⟩ := gg_f m (m.map (mvM 0 b)) hc hli 99998 (by omega)
   have dist : ∀ x, -200 ≤ x → x ≤ 200 → gp m (m.map (mvM 0 b)) x = b := fun x x0 x1 => by
    have := atv_mv m hc 0 b c x (by omega) (by omega)
    rw [Int.add_zero] at this
    unfold gp
    omega
   obtain ⟨q0, q1, q2, q3, q4⟩ := g2
   have eg : g = b := by rw [q2]; exact dist p q0 q1
   have ep : p = -200 := by
    by_cases w : -200 < p
    · have := q4 (-200) (by omega) w
      rw [dist (-200) (by omega) (by omega), eg] at this
      omega
    · omega
   rw [laws_FnMovedCurves.j0, if_neg (by simp), u2', Option.bind_some, u1', Option.bind_some, if_pos rfl, same_t (m.map (mvM 0 b)) (by omega) 99999 (by omega), Option.bind_some, Bool.not_true, laws_FnMovedCurves.j1, if_neg (by simp)]
   simp only [if_true, g1, Option.bind_some]
   rw [if_pos eg, ep, bne_self_eq_false, laws_FnMovedCurves.j2, if_neg (by simp), laws_FnMovedCurves.j3]
   exact go _ (-30) (by omega) (by omega) (by omega) (by omega)
 · obtain ⟨j, hj⟩ := Classical.not_forall.1 c
   obtain ⟨j1, hj⟩ := Classical.not_imp.1 hj
   obtain rfl := u4 j j1 hj
   rw [laws_FnMovedCurves.j0, if_neg (by simp), u2', Option.bind_some, u1', Option.bind_some, if_pos rfl, same_t [] (by simp) 99999 (by omega), Option.bind_some, Bool.not_true, laws_FnMovedCurves.j1, if_neg (by simp), if_neg (by simp), laws_FnMovedCurves.j3]
   exact go _ (-30) (by omega) (by omega) (by omega) (by omega)
end Go.Proofs.Ytedheepkalbcfaa.Pure
