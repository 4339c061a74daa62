/- Proves, in plain numbers and lists, that the law FnExactCurveText answers true at all inputs. No condition is added. -/
import Derived.Test.YtfhbjjkkhjijmaaDoorPFnExactCurveTextx8
import Derived.Test.YtfhbjjkkhjijmaaDoorPFnExactCurveTextx8
import Derived.Test.YtfhbjjkkhjijmaaDoorPFnExactCurveTextx8
import Derived.Test.YtfhbjjkkhjijmaaDoorPFnExactCurveTextx8
import Derived.Test.YtfhbjjkkhjijmaaDoorPFnExactCurveTextx8
import Derived.Test.YtfhbjjkkhjijmaaDoorPFnExactCurveTextx8
import Derived.Test.YtfhbjjkkhjijmaaDoorPFnExactCurveTextx8
import Derived.Test.YtfhbjjkkhjijmaaDoorPFnExactCurveTextx8
import Derived.Test.YtfhbjjkkhjijmaaDoorPFnExactCurveTextx8
namespace Go.Proofs.YtfhbjjkkhjijmaaDoor.Pure
open Go.RowKit Go.Proofs.YtfhbjjkkhjijmaaDoor.PFnExactCurveText Go.Proofs.YtfhbjjkkhjijmaaDoorW.PrintWords Go.Proofs.YtfhbjjkkhjijmaaDoorW.PrintLast Go.Proofs.YtfhbjjkkhjijmaaDoorW.PrintMore
set_option linter.unusedVariables false
set_option linter.unusedSimpArgs false
theorem w64 {x : Int} (h : -9223372036854775808 ≤ x) (h' : x ≤ 9223372036854775807) : wrap64 x = x := by unfold wrap64; omega
theorem wf8 {x : Int} (h : (Lit.int .i8 x).wf = true) : -128 ≤ x ∧ x ≤ 127 := by
  have h2 : (decide ((-128 : Int) ≤ x) && decide (x ≤ 127)) = true := h
  simpa using h2
theorem wf16 {x : Int} (h : (Lit.int .i16 x).wf = true) : -32768 ≤ x ∧ x ≤ 32767 := by
  have h2 : (decide ((-32768 : Int) ≤ x) && decide (x ≤ 32767)) = true := h
  simpa using h2
theorem wf64 {x : Int} (h : (Lit.int .i64 x).wf = true) : -9223372036854775808 ≤ x ∧ x ≤ 9223372036854775807 := by
  have h2 : (decide ((-9223372036854775808 : Int) ≤ x) && decide (x ≤ 9223372036854775807)) = true := h
  simpa using h2
theorem wfu64 {x : Int} (h : (Lit.int .u64 x).wf = true) : 0 ≤ x ∧ x ≤ 18446744073709551615 := by
  have h2 : (decide ((0 : Int) ≤ x) && decide (x ≤ 18446744073709551615)) = true := h
  simpa using h2
theorem i8w {x : Int} (h : -128 ≤ x) (h' : x ≤ 127) : IntKind.i8.wrap x = x := by
  show (if (true && decide (x % 256 ≥ 128)) = true then x % 256 - 256 else x % 256) = x
  by_cases e : x % 256 ≥ 128
  · rw [if_pos (by simpa using e)]; omega
  · rw [if_neg (by simpa using e)]; omega
theorem i16w {x : Int} (h : -32768 ≤ x) (h' : x ≤ 32767) : IntKind.i16.wrap x = x := by
  show (if (true && decide (x % 65536 ≥ 32768)) = true then x % 65536 - 65536 else x % 65536) = x
  by_cases e : x % 65536 ≥ 32768
  · rw [if_pos (by simpa using e)]; omega
  · rw [if_neg (by simpa using e)]; omega
theorem u64w {x : Int} (h : 0 ≤ x) (h' : x ≤ 18446744073709551615) : IntKind.u64.wrap x = x := by
  show (if (false && decide (x % 18446744073709551616 ≥ 9223372036854775808)) = true then x % 18446744073709551616 - 18446744073709551616 else x % 18446744073709551616) = x
  rw [if_neg (by simp)]; omega
theorem szCurve_f (l : List S80) (hl : l.length ≤ 9223372036854775807) : laws_szCurve.f l 1048576 = some (if l.length ≤ 1048576 then 1048576 - (l.length : Int) else -1) := by
  unfold laws_szCurve.f
  rw [w64 (by omega) (by omega)]
  by_cases c : l.length ≤ 1048576
  · rw [if_neg (by omega), if_pos c]
  · rw [if_pos (by omega), if_neg c]
theorem szCurve_g (l : List S80) (a : Int) (ha : 0 ≤ a ∧ a ≤ 1048576) (hl : l.length ≤ 9223372036854775807) : laws_szCurve.f l a = some (if (l.length : Int) ≤ a then a - (l.length : Int) else -1) := by
  unfold laws_szCurve.f
  rw [w64 (by omega) (by omega)]
  by_cases c : (l.length : Int) ≤ a
  · rw [if_neg (by omega), if_pos c]
  · rw [if_pos (by omega), if_neg c]
theorem set_nextg {α β : Type} (f : α → β) (z : β) (d : α) (l : List α) (i : Nat) (h : i < l.length) : ((l.take i).map f ++ List.replicate (l.length - i) z).set i (f (l.getD i d)) = (l.take (i + 1)).map f ++ List.replicate (l.length - (i + 1)) z := by
  apply List.ext_getElem
  · simp; omega
  · intro j h1 h2
    simp only [List.getElem_set, List.getElem_append, List.length_map, List.length_take, List.getElem_map, List.getElem_take, List.getElem_replicate]
    by_cases e : i = j
    · subst e
      rw [if_pos rfl, dif_pos (by omega)]
      simp [h]
    · rw [if_neg e]
      by_cases c : j < i
      · rw [dif_pos (by omega), dif_pos (by omega)]
      · rw [dif_neg (by omega), dif_neg (by omega)]
theorem getD_mem {α : Type} (l : List α) (i : Nat) (d : α) (h : i < l.length) : l.getD i d ∈ l := by
  rw [List.getD_eq_getElem?_getD, List.getElem?_eq_getElem h]
  exact List.getElem_mem h
theorem getD_set_ne {α : Type} (l : List α) (i j : Nat) (x d : α) (h : i ≠ j) : (l.set i x).getD j d = l.getD j d := by
  simp [List.getD_eq_getElem?_getD, List.getElem?_set_ne h]
theorem getD_set_eq {α : Type} (l : List α) (i : Nat) (x d : α) (h : i < l.length) : (l.set i x).getD i d = x := by
  simp [List.getD_eq_getElem?_getD, List.getElem?_set_self h]
def cvCurve (x : S80) : S78 := ⟨x.f0, x.f1⟩
theorem toCurve_l (l : List S80) (hl : l.length ≤ 1048576) (d : Nat) : ∀ (k : Nat) (i : Nat), i ≤ l.length → l.length - i = d → d < k → laws_toCurve.l0 k l ((l.take i).map cvCurve ++ List.replicate (l.length - i) z78) i = some (l.map cvCurve) := by
  induction d with
  | zero =>
    intro k i h0 hd hk
    obtain ⟨k, rfl⟩ : ∃ n, k = n + 1 := ⟨k - 1, by omega⟩
    have e : i = l.length := by omega
    subst e
    simp only [laws_toCurve.l0]
    rw [if_neg (by omega)]
    simp
  | succ d ih =>
    intro k i h0 hd hk
    obtain ⟨k, rfl⟩ : ∃ n, k = n + 1 := ⟨k - 1, by omega⟩
    simp only [laws_toCurve.l0, laws_toPoint.f, Option.bind_some]
    rw [if_pos (by omega), if_pos (by omega), if_pos (by simp; omega), w64 (by omega) (by omega)]
    have e := ih k (i + 1) (by omega) (by omega) (by omega)
    rw [← set_nextg cvCurve z78 z80 l i (by omega)] at e
    simpa [rd_T80, cvCurve] using e
theorem toCurve_f (l : List S80) (hl : l.length ≤ 1048576) (k : Nat) (hk : l.length < k) : laws_toCurve.f k l = some (l.map cvCurve) := by
  have e := toCurve_l l hl l.length k 0 (by omega) (by omega) hk
  unfold laws_toCurve.f
  rw [if_pos (by omega), if_pos (by omega)]
  simpa using e
theorem eqCurve_l (l : List S78) (hl : l.length ≤ 1048576) (d : Nat) : ∀ (k : Nat) (i : Nat), i ≤ l.length → l.length - i = d → d < k → laws_eqCurve.l0 k l l i = some true := by
  induction d with
  | zero =>
    intro k i h0 hd hk
    obtain ⟨k, rfl⟩ : ∃ n, k = n + 1 := ⟨k - 1, by omega⟩
    simp only [laws_eqCurve.l0]
    rw [if_neg (by omega)]
  | succ d ih =>
    intro k i h0 hd hk
    obtain ⟨k, rfl⟩ : ∃ n, k = n + 1 := ⟨k - 1, by omega⟩
    simp only [laws_eqCurve.l0, laws_eqPoint.f, if_true, Option.bind_some]
    rw [if_pos (by omega), if_pos (by omega), if_pos (by omega), w64 (by omega) (by omega)]
    exact ih k (i + 1) (by omega) (by omega) (by omega)
theorem eqCurve_f (l : List S78) (hl : l.length ≤ 1048576) (k : Nat) (hk : l.length < k) : laws_eqCurve.f k l l = some true := by
  unfold laws_eqCurve.f
  rw [if_pos rfl]
  exact eqCurve_l l hl l.length k 0 (by omega) (by omega) hk
theorem in_f (a b c : Int) : spec_l00In.f a b c = some (decide (b ≤ a ∧ a ≤ c)) := by
  unfold spec_l00In.f
  by_cases h : b ≤ a <;> simp [h]
theorem within_f (a b c : Int) : impl_within.f a b c = some (decide (b ≤ a ∧ a ≤ c)) := by
  unfold impl_within.f
  by_cases h : b ≤ a <;> simp [h]
def SmP (m : List S78) : Prop := ∀ x ∈ m, (-32768 ≤ x.f0 ∧ x.f0 ≤ 32767) ∧ (-32768 ≤ x.f1 ∧ x.f1 ≤ 32767)
theorem smp_rd {m : List S78} (h : SmP m) (i : Nat) (hi : i < m.length) : (-32768 ≤ (rd_T78 m i).f0 ∧ (rd_T78 m i).f0 ≤ 32767) ∧ (-32768 ≤ (rd_T78 m i).f1 ∧ (rd_T78 m i).f1 ≤ 32767) := by
  have := h _ (getD_mem m i z78 hi)
  simpa [rd_T78] using this
/-- a point as it may be -/
def Pt (p : S78) : Prop := (-200 ≤ p.f0 ∧ p.f0 ≤ 200) ∧ (0 ≤ p.f1 ∧ p.f1 ≤ 400)
theorem spt_f {p : S78} (h : -32768 ≤ p.f0 ∧ p.f0 ≤ 32767) (h' : -32768 ≤ p.f1 ∧ p.f1 ≤ 32767) : spec_l02Point.f p.f0 p.f1 = some (decide ((-200 ≤ p.f0 ∧ p.f0 ≤ 200) ∧ (0 ≤ p.f1 ∧ p.f1 ≤ 400))) := by
  unfold spec_l02Point.f spec_l02Place.f spec_l02Density.f
  rw [w64 (x := p.f0) (by omega) (by omega), w64 (x := p.f1) (by omega) (by omega)]
  simp only [in_f, Option.bind_some]
  by_cases c : -200 ≤ p.f0 ∧ p.f0 ≤ 200 <;> simp [c]
theorem ipt_f {p : S78} (h : -32768 ≤ p.f0 ∧ p.f0 ≤ 32767) (h' : -32768 ≤ p.f1 ∧ p.f1 ≤ 32767) : impl_isPoint.f p.f0 p.f1 = some (decide ((-200 ≤ p.f0 ∧ p.f0 ≤ 200) ∧ (0 ≤ p.f1 ∧ p.f1 ≤ 400))) := by
  unfold impl_isPoint.f impl_isPlace.f impl_isDensity.f
  rw [w64 (x := p.f0) (by omega) (by omega), w64 (x := p.f1) (by omega) (by omega)]
  simp only [within_f, Option.bind_some]
  by_cases c : -200 ≤ p.f0 ∧ p.f0 ≤ 200 <;> simp [c]
theorem smp_map {l : List S80} (hw : ∀ x ∈ l, (Lit.int .i16 x.f0).wf = true ∧ (Lit.int .i16 x.f1).wf = true) : SmP (l.map cvCurve) := by
  intro x hx
  obtain ⟨y, hy, rfl⟩ := List.mem_map.1 hx
  exact ⟨wf16 (hw y hy).1, wf16 (hw y hy).2⟩
/-- points from i on are as they may be -/
def Shp (m : List S78) (i : Nat) : Prop := 0 < m.length ∧ ∀ j : Nat, i ≤ j → j < m.length → Pt (rd_T78 m j) ∧ (0 < j → (rd_T78 m (j - 1 : Nat)).f0 < (rd_T78 m j).f0 ∧ (rd_T78 m (j - 1 : Nat)).f1 ≤ (rd_T78 m j).f1)
def Cur (m : List S78) : Prop := m.length ≤ 12 ∧ Shp m 0
theorem shape_l (m : List S78) (hm : SmP m) (hl : m.length ≤ 1048576) (d : Nat) : ∀ (k i : Nat), i ≤ m.length → m.length - i = d → d < k →
    ∃ r, spec_l02Shape.l0 k m i = some r ∧ impl_isCurve.l0 k m m (m.length : Int) i = some r ∧ (r = true → Shp m i) := by
  induction d with
  | zero =>
    intro k i h0 hd hk
    obtain ⟨k, rfl⟩ : ∃ n, k = n + 1 := ⟨k - 1, by omega⟩
    simp only [spec_l02Shape.l0, impl_isCurve.l0]
    have g1 : ¬ (i : Int) < (m.length : Int) := by omega
    simp only [g1, if_false]
    refine ⟨_, rfl, rfl, fun h => ⟨?_, fun j j0 j1 => by omega⟩⟩
    have := of_decide_eq_true h
    omega
  | succ d ih =>
    intro k i h0 hd hk
    obtain ⟨k, rfl⟩ : ∃ n, k = n + 1 := ⟨k - 1, by omega⟩
    obtain ⟨s1, s2⟩ := smp_rd hm i (by omega)
    have g1 : (i : Int) < (m.length : Int) := by omega
    have g2 : 0 ≤ (i : Int) := by omega
    have hpos : 0 < m.length := by omega
    obtain ⟨r, e1, e2, e3⟩ := ih k (i + 1) (by omega) (by omega) (by omega)
    have e1' : spec_l02Shape.l0 k m ((i : Int) + 1) = some r := e1
    have e2' : impl_isCurve.l0 k m m (m.length : Int) ((i : Int) + 1) = some r := e2
    have fin : Pt (rd_T78 m i) → (0 < i → (rd_T78 m (i - 1 : Nat)).f0 < (rd_T78 m i).f0 ∧ (rd_T78 m (i - 1 : Nat)).f1 ≤ (rd_T78 m i).f1) → r = true → Shp m i := by
      intro p1 p2 hr
      obtain ⟨_, t2⟩ := e3 hr
      refine ⟨hpos, fun j j0 j1 => ?_⟩
      by_cases e : j = i
      · subst e; exact ⟨p1, p2⟩
      · exact t2 j (by omega) j1
    simp only [spec_l02Shape.l0, impl_isCurve.l0, spt_f s1 s2, ipt_f s1 s2, g1, g2, if_true, Option.bind_some]
    rw [w64 (x := (i : Int) + 1) (by omega) (by omega), w64 (x := (i : Int) - 1) (by omega) (by omega), e1', e2']
    by_cases c : (-200 ≤ (rd_T78 m i).f0 ∧ (rd_T78 m i).f0 ≤ 200) ∧ (0 ≤ (rd_T78 m i).f1 ∧ (rd_T78 m i).f1 ≤ 400)
    · simp only [c, and_self, decide_true, if_true]
      by_cases z : i = 0
      · subst z
        have g3 : ¬ ((0 : Nat) : Int) > 0 := by omega
        simp only [g3, if_false]
        exact ⟨r, rfl, rfl, fin c (fun h => by omega)⟩
      · have ei : ((i : Int) - 1) = ((i - 1 : Nat) : Int) := by omega
        have g3 : (i : Int) > 0 := by omega
        have g4 : 0 ≤ ((i - 1 : Nat) : Int) := by omega
        have g5 : ((i - 1 : Nat) : Int) < (m.length : Int) := by omega
        rw [ei]
        simp only [g3, g4, g5, if_true]
        by_cases c3 : (rd_T78 m i).f0 ≤ (rd_T78 m (i - 1 : Nat)).f0
        · have c3' : (rd_T78 m (i - 1 : Nat)).f0 ≥ (rd_T78 m i).f0 := c3
          simp only [c3, c3', if_true]
          exact ⟨_, rfl, rfl, fun h => by cases h⟩
        · have c3' : ¬ (rd_T78 m (i - 1 : Nat)).f0 ≥ (rd_T78 m i).f0 := c3
          simp only [c3, c3', if_false]
          by_cases c4 : (rd_T78 m i).f1 < (rd_T78 m (i - 1 : Nat)).f1
          · have c4' : (rd_T78 m (i - 1 : Nat)).f1 > (rd_T78 m i).f1 := c4
            simp only [c4, c4', if_true]
            exact ⟨_, rfl, rfl, fun h => by cases h⟩
          · have c4' : ¬ (rd_T78 m (i - 1 : Nat)).f1 > (rd_T78 m i).f1 := c4
            simp only [c4, c4', if_false]
            exact ⟨r, rfl, rfl, fin c (fun _ => by omega)⟩
    · simp only [c, decide_false, Bool.false_eq_true, if_false]
      exact ⟨_, rfl, rfl, fun h => by cases h⟩
theorem shape_f (m : List S78) (hm : SmP m) (hl : m.length ≤ 1048576) (k : Nat) (hk : m.length < k) : ∃ r, spec_l02Shape.f k m = some r ∧ impl_isCurve.f k m = some r ∧ (r = true → Shp m 0) :=
  shape_l m hm hl m.length k 0 (by omega) (by omega) hk
theorem cur_f (m : List S78) (hm : SmP m) (hl : m.length ≤ 1048576) (k : Nat) (hk : m.length < k) : ∃ r, spec_l02Ok.f k m = some r ∧ impl_ValidCurve.f k m = some r ∧ (r = true → Cur m) := by
  obtain ⟨r, e1, e2, e3⟩ := shape_f m hm hl k hk
  unfold spec_l02Ok.f impl_ValidCurve.f
  simp only [e1, e2, Option.bind_some]
  cases r with
  | true =>
    simp only [if_true]
    exact ⟨_, rfl, rfl, fun h => ⟨by have := of_decide_eq_true h; omega, e3 rfl⟩⟩
  | false =>
    simp only [Bool.false_eq_true, if_false]
    exact ⟨_, rfl, rfl, fun h => by cases h⟩
def decB (x : Int) : ByteArray := ⟨(Lib.itoa x).toArray⟩
def ptB (p : S78) : ByteArray := (decB p.f0 ++ (⟨#[58]⟩ : ByteArray)) ++ decB p.f1
def ptL (p : S78) : List UInt8 := (ptB p).data.toList
theorem all_sg : (List.range 601).all (fun n => decide (spec_l02Signed.f 20 ((n : Int) - 200) = some (decB ((n : Int) - 200))) && decide ((decB ((n : Int) - 200)).size ≤ 4)) = true := by kernel_rfl
theorem all_de : (List.range 401).all (fun n => decide (spec_Decimal.f 20 (n : Int) = some (decB (n : Int)))) = true := by kernel_rfl
theorem sg_f (x : Int) (h : -200 ≤ x ∧ x ≤ 400) (k : Nat) (hk : 20 ≤ k) : spec_l02Signed.f k x = some (decB x) ∧ (decB x).size ≤ 4 := by
  obtain ⟨n, hn⟩ : ∃ n : Nat, (n : Int) - 200 = x := ⟨(x + 200).toNat, by omega⟩
  have q := List.all_eq_true.1 all_sg n (List.mem_range.2 (by omega))
  rw [hn, Bool.and_eq_true] at q
  exact ⟨at_rounds (fun k => spec_l02Signed.mono x k) hk (of_decide_eq_true q.1), of_decide_eq_true q.2⟩
theorem de_f (y : Int) (h : 0 ≤ y ∧ y ≤ 400) (k : Nat) (hk : 20 ≤ k) : spec_Decimal.f k y = some (decB y) ∧ (decB y).size ≤ 4 := by
  obtain ⟨n, rfl⟩ : ∃ n : Nat, y = n := ⟨y.toNat, by omega⟩
  have q := of_decide_eq_true (List.all_eq_true.1 all_de n (List.mem_range.2 (by omega)))
  exact ⟨at_rounds (fun k => spec_Decimal.mono (n : Int) k) hk q, (sg_f (n : Int) (by omega) 20 (by omega)).2⟩
theorem im_f (x : Int) (h : -200 ≤ x ∧ x ≤ 400) : impl_decimal.f x = some (decB x) := by
  unfold impl_decimal.f
  rw [if_pos (by omega)]
  rfl
theorem one58 : (⟨#[58]⟩ : ByteArray).size = 1 := rfl
theorem one32 : (⟨#[32]⟩ : ByteArray).size = 1 := rfl
theorem ptB_size (p : S78) (h : Pt p) : (ptB p).size ≤ 9 ∧ (decB p.f0).size + 1 ≤ 9223372036854775807 ∧ (decB p.f0 ++ (⟨#[58]⟩ : ByteArray)).size + (decB p.f1).size ≤ 9223372036854775807 := by
  unfold Pt at h
  have a := (sg_f p.f0 (by omega) 20 (by omega)).2
  have b := (sg_f p.f1 (by omega) 20 (by omega)).2
  unfold ptB
  rw [ByteArray.size_append, ByteArray.size_append, one58]
  omega
theorem join_snoc (xs : List (List UInt8)) (y : List UInt8) : Lib.join (xs ++ [y]) [32] = if xs = [] then y else Lib.join xs [32] ++ [32] ++ y := by
  cases xs with
  | nil => rw [if_pos rfl, List.nil_append, Lib.join_one]
  | cons x r =>
    rw [if_neg (by simp), List.cons_append, Lib.join_cons, Lib.join_cons]
    simp [Lib.joinTail, List.append_assoc]
theorem w64s (i : Nat) (h : i < 1000000) : wrap64 ((i : Int) + 1) = ((i + 1 : Nat) : Int) := by rw [w64 (by omega) (by omega)]; rfl
theorem stext_l (l : List S78) (hl : l.length ≤ 12) (hp : ∀ j : Nat, j < l.length → Pt (rd_T78 l j)) (d : Nat) : ∀ (k i : Nat) (t : ByteArray), i ≤ l.length → l.length - i = d → d + 20 < k → t.data.toList = Lib.join ((l.take i).map ptL) [32] → t.size ≤ 20 * i →
    ∃ v, spec_l02Text.l0 k l t i = some v ∧ v.data.toList = Lib.join (l.map ptL) [32] ∧ v.size ≤ 1000 := by
  induction d with
  | zero =>
    intro k i t h0 hd hk ht hs
    obtain ⟨k, rfl⟩ : ∃ n, k = n + 1 := ⟨k - 1, by omega⟩
    simp only [spec_l02Text.l0]
    rw [if_neg (by omega)]
    rw [List.take_of_length_le (by omega)] at ht
    exact ⟨t, rfl, ht, by omega⟩
  | succ d ih =>
    intro k i t h0 hd hk ht hs
    obtain ⟨k, rfl⟩ : ∃ n, k = n + 1 := ⟨k - 1, by omega⟩
    have p := hp i (by omega)
    obtain ⟨z1, z2, z3⟩ := ptB_size _ p
    unfold Pt at p
    have e1 := (sg_f (rd_T78 l i).f0 (by omega) k (by omega)).1
    have e2 := (de_f (rd_T78 l i).f1 (by omega) k (by omega)).1
    have tk : l.take (i + 1) = l.take i ++ [rd_T78 l i] := by
      rw [List.take_add_one, List.getElem?_eq_getElem (by omega)]
      simp [rd_T78, List.getD_eq_getElem?_getD, show i < l.length by omega]
    have eb : (decB (rd_T78 l i).f0 ++ (⟨#[58]⟩ : ByteArray)) ++ decB (rd_T78 l i).f1 = ptB (rd_T78 l i) := rfl
    have g0 : (i : Int) < (l.length : Int) := by omega
    have g1 : 0 ≤ (i : Int) := by omega
    simp only [spec_l02Text.l0, w64s i (show i < 1000000 by omega)]
    rw [if_pos g0]
    by_cases c : i = 0
    · have g2 : ¬ (i : Int) > 0 := by omega
      have g3 : t.size + ((decB (rd_T78 l i).f0 ++ (⟨#[58]⟩ : ByteArray)) ++ decB (rd_T78 l i).f1).size ≤ 9223372036854775807 := by rw [eb]; omega
      rw [if_neg g2, if_pos g1, w64 (x := (rd_T78 l i).f0) (by omega) (by omega), e1, Option.bind_some, if_pos z2, w64 (x := (rd_T78 l i).f1) (by omega) (by omega), e2, Option.bind_some, if_pos z3, if_pos g3, eb]
      refine ih k (i + 1) _ (by omega) (by omega) (by omega) ?_ (by rw [ByteArray.size_append]; omega)
      rw [tk, List.map_append, List.map_singleton, join_snoc, if_pos (by rw [c]; rfl)]
      rw [c] at ht
      have t0 : t.data.toList = [] := ht
      rw [ByteArray.data_append, Array.toList_append, t0, List.nil_append]
      rfl
    · have g2 : (i : Int) > 0 := by omega
      have g3 : t.size + 1 ≤ 9223372036854775807 := by omega
      have g4 : (t ++ (⟨#[32]⟩ : ByteArray)).size + ((decB (rd_T78 l i).f0 ++ (⟨#[58]⟩ : ByteArray)) ++ decB (rd_T78 l i).f1).size ≤ 9223372036854775807 := by rw [eb, ByteArray.size_append, one32]; omega
      rw [if_pos g2, if_pos g3, if_pos g1, w64 (x := (rd_T78 l i).f0) (by omega) (by omega), e1, Option.bind_some, if_pos z2, w64 (x := (rd_T78 l i).f1) (by omega) (by omega), e2, Option.bind_some, if_pos z3, if_pos g4, eb]
      have q1 : ((t ++ (⟨#[32]⟩ : ByteArray)) ++ ptB (rd_T78 l i)).size = t.size + 1 + (ptB (rd_T78 l i)).size := by rw [ByteArray.size_append (a := t ++ (⟨#[32]⟩ : ByteArray)), ByteArray.size_append, one32]
      refine ih k (i + 1) ((t ++ (⟨#[32]⟩ : ByteArray)) ++ ptB (rd_T78 l i)) (by omega) (by omega) (by omega) ?_ (by omega)
      rw [tk, List.map_append, List.map_singleton, join_snoc, if_neg (by
        intro h
        have := congrArg List.length h
        rw [List.length_map, List.length_take, List.length_nil] at this
        omega), ByteArray.data_append, ByteArray.data_append, Array.toList_append, Array.toList_append, ht]
      rfl
theorem itext_l (l : List S78) (hl : l.length ≤ 12) (hp : ∀ j : Nat, j < l.length → Pt (rd_T78 l j)) (d : Nat) : ∀ (k i : Nat), i ≤ l.length → l.length - i = d → d < k →
    impl_curveText.l0 k ((l.take i).map ptB) l (l.length : Int) i = strings_Join.f (l.map ptB) (⟨#[32]⟩ : ByteArray) := by
  induction d with
  | zero =>
    intro k i h0 hd hk
    obtain ⟨k, rfl⟩ : ∃ n, k = n + 1 := ⟨k - 1, by omega⟩
    simp only [impl_curveText.l0]
    rw [if_neg (by omega), List.take_of_length_le (by omega)]
    cases strings_Join.f (l.map ptB) (⟨#[32]⟩ : ByteArray) <;> rfl
  | succ d ih =>
    intro k i h0 hd hk
    obtain ⟨k, rfl⟩ : ∃ n, k = n + 1 := ⟨k - 1, by omega⟩
    have p := hp i (by omega)
    obtain ⟨z1, z2, z3⟩ := ptB_size _ p
    unfold Pt at p
    have e1 := im_f (rd_T78 l i).f0 (by omega)
    have e2 := im_f (rd_T78 l i).f1 (by omega)
    have eb : (decB (rd_T78 l i).f0 ++ (⟨#[58]⟩ : ByteArray)) ++ decB (rd_T78 l i).f1 = ptB (rd_T78 l i) := rfl
    have tk : (l.take i).map ptB ++ [ptB (rd_T78 l i)] = (l.take (i + 1)).map ptB := by
      rw [List.take_add_one, List.getElem?_eq_getElem (by omega), List.map_append]
      simp [rd_T78, List.getD_eq_getElem?_getD, show i < l.length by omega]
    have g0 : (i : Int) < (l.length : Int) := by omega
    have g1 : 0 ≤ (i : Int) := by omega
    have g2 : ((l.take i).map ptB).length < 8796093022208 := by rw [List.length_map, List.length_take]; omega
    simp only [impl_curveText.l0, w64s i (show i < 1000000 by omega)]
    rw [if_pos g0, if_pos g1, if_pos g0, w64 (x := (rd_T78 l i).f0) (by omega) (by omega), e1, Option.bind_some, if_pos z2, w64 (x := (rd_T78 l i).f1) (by omega) (by omega), e2, Option.bind_some, if_pos z3, if_pos g2, eb, tk]
    exact ih k (i + 1) (by omega) (by omega) (by omega)
/-- the text of a curve, both -/
theorem ctext_f (l : List S78) (hc : Cur l) (k : Nat) (hk : 40 < k) : ∃ v, spec_l02Text.f k l = some v ∧ impl_curveText.f k l = some v ∧ v.data.toList = Lib.join (l.map ptL) [32] ∧ v.size ≤ 1000 := by
  have hp : ∀ j : Nat, j < l.length → Pt (rd_T78 l j) := fun j hj => (hc.2.2 j (by omega) hj).1
  have hl := hc.1
  have h0 := hc.2.1
  obtain ⟨v, e1, e2, e3⟩ := stext_l l hl hp l.length k 0 (⟨#[]⟩ : ByteArray) (by omega) (by omega) (by omega) rfl (by show 0 ≤ _; omega)
  have e4 := itext_l l hl hp l.length k 0 (by omega) (by omega) (by omega)
  refine ⟨v, e1, ?_, e2, e3⟩
  have e4' : impl_curveText.f k l = strings_Join.f (l.map ptB) (⟨#[32]⟩ : ByteArray) := e4
  rw [e4']
  unfold strings_Join.f
  have sz : v.data.toList.length = v.size := by rw [Array.length_toList]; rfl
  have jj : Lib.join ((l.map ptB).map (·.data.toList)) (⟨#[32]⟩ : ByteArray).data.toList = v.data.toList := by rw [e2, List.map_map]; rfl
  rw [if_pos (by rw [List.length_map]; omega), jj, if_pos (by omega), if_neg (by rw [List.length_map]; omega)]
theorem FnExactCurveText : laws_FnExactCurveText.Pure := by
  intro l h0 h0w
  refine ⟨2000000, ?_⟩
  unfold laws_FnExactCurveText.f
  rw [szCurve_g l 1048576 (by omega) (by omega), Option.bind_some]
  by_cases c : (l.length : Int) ≤ 1048576
  · rw [if_pos c, if_neg (by omega), toCurve_f l (by omega) _ (by omega)]
    have hl : (l.map cvCurve).length ≤ 1048576 := by rw [List.length_map]; omega
    obtain ⟨r, e1, e2, e3⟩ := cur_f _ (smp_map h0w) hl 2000000 (by omega)
    have key : ∃ v, spec_CurveText.f 2000000 (l.map cvCurve) = some v ∧ impl_CurveText.f 2000000 (l.map cvCurve) = some v := by
      unfold spec_CurveText.f impl_CurveText.f
      rw [e1, e2, Option.bind_some, Option.bind_some]
      cases r with
      | true =>
        obtain ⟨v, v1, v2, _⟩ := ctext_f _ (e3 rfl) 2000000 (by omega)
        rw [v1, v2]
        exact ⟨v, rfl, rfl⟩
      | false => exact ⟨_, rfl, rfl⟩
    obtain ⟨v, v1, v2⟩ := key
    simp only [Option.bind_some, v1, v2, if_true, eqCurve_f _ hl 2000000 (by omega)]
  · rw [if_neg c, if_pos (by omega)]

end Go.Proofs.YtfhbjjkkhjijmaaDoor.Pure
