/- Proves, in plain numbers and lists, that the law FnExactReadCurve answers true at all inputs. No condition is added. -/
import Derived.Test.YtfhbjjkkhjijmaaDoorPFnExactReadCurvex0
import Derived.Test.YtfhbjjkkhjijmaaDoorPFnExactReadCurvex1
import Derived.Test.YtfhbjjkkhjijmaaDoorPFnExactReadCurvex2
import Derived.Test.YtfhbjjkkhjijmaaDoorPFnExactReadCurvex3
import Derived.Test.YtfhbjjkkhjijmaaDoorPFnExactReadCurvex4
import Derived.Test.YtfhbjjkkhjijmaaDoorPFnExactReadCurvex5
import Derived.Test.YtfhbjjkkhjijmaaDoorPFnExactReadCurvex6
import Derived.Test.YtfhbjjkkhjijmaaDoorPFnExactReadCurvex7
namespace Go.Proofs.YtfhbjjkkhjijmaaDoor.Pure
open Go.RowKit Go.Proofs.YtfhbjjkkhjijmaaDoor.PFnExactReadCurve Go.Proofs.YtfhbjjkkhjijmaaDoorW.PrintWords Go.Proofs.YtfhbjjkkhjijmaaDoorW.PrintLast Go.Proofs.YtfhbjjkkhjijmaaDoorW.PrintMore
set_option linter.unusedVariables false
set_option linter.unusedSimpArgs false
theorem w64 {x : Int} (h : -9223372036854775808 ≤ x) (h' : x ≤ 9223372036854775807) : wrap64 x = x := by unfold wrap64; omega
theorem wf8 {x : Int} (h : (Lit.int .i8 x).wf = true) : -128 ≤ x ∧ x ≤ 127 := by
  have h2 : (decide ((-128 : Int) ≤ x) && decide (x ≤ 127)) = true := h
  simpa using h2
theorem wf16 {x : Int} (h : (Lit.int .i16 x).wf = true) : -32768 ≤ x ∧ x ≤ 32767 := by
  have h2 : (decide ((-32768 : Int) ≤ x) && decide (x ≤ 32767)) = true := h
  simpa using h2
theorem wf64 {x : Int} (h : (Lit.int .i64 x).wf = true) : -9223372036854775808 ≤ x ∧ x ≤ 9223372036854775807 := by
  have h2 : (decide ((-9223372036854775808 : Int) ≤ x) && decide (x ≤ 9223372036854775807)) = true := h
  simpa using h2
theorem wfu64 {x : Int} (h : (Lit.int .u64 x).wf = true) : 0 ≤ x ∧ x ≤ 18446744073709551615 := by
  have h2 : (decide ((0 : Int) ≤ x) && decide (x ≤ 18446744073709551615)) = true := h
  simpa using h2
theorem i8w {x : Int} (h : -128 ≤ x) (h' : x ≤ 127) : IntKind.i8.wrap x = x := by
  show (if (true && decide (x % 256 ≥ 128)) = true then x % 256 - 256 else x % 256) = x
  by_cases e : x % 256 ≥ 128
  · rw [if_pos (by simpa using e)]; omega
  · rw [if_neg (by simpa using e)]; omega
theorem i16w {x : Int} (h : -32768 ≤ x) (h' : x ≤ 32767) : IntKind.i16.wrap x = x := by
  show (if (true && decide (x % 65536 ≥ 32768)) = true then x % 65536 - 65536 else x % 65536) = x
  by_cases e : x % 65536 ≥ 32768
  · rw [if_pos (by simpa using e)]; omega
  · rw [if_neg (by simpa using e)]; omega
theorem u64w {x : Int} (h : 0 ≤ x) (h' : x ≤ 18446744073709551615) : IntKind.u64.wrap x = x := by
  show (if (false && decide (x % 18446744073709551616 ≥ 9223372036854775808)) = true then x % 18446744073709551616 - 18446744073709551616 else x % 18446744073709551616) = x
  rw [if_neg (by simp)]; omega
theorem bt_list (s : ByteArray) (i : Nat) (h : i < s.size) : bt s i = ((s.data.toList.getD i 0).toNat : Int) := by
  have e := bt_at s (i : Int) (by rw [Int.toNat_natCast]; exact h)
  rw [← e]
  have h2 : i < s.data.size := h
  simp only [Int.toNat_natCast, List.getD_eq_getElem?_getD, Array.getElem?_toList, Array.getElem?_eq_getElem h2, Option.getD_some]
  rfl
theorem size_list (s : ByteArray) : s.data.toList.length = s.size := by
  rw [Array.length_toList]; rfl
theorem ba_ext {s t : ByteArray} (h : s.data.toList = t.data.toList) : s = t := by
  obtain ⟨⟨a⟩⟩ := s
  obtain ⟨⟨b⟩⟩ := t
  simp at h
  rw [h]
def spl (c : UInt8) : List UInt8 → List (List UInt8)
  | [] => [[]]
  | b :: r => if b = c then [] :: spl c r else match spl c r with | [] => [[b]] | h :: t => (b :: h) :: t
theorem spl_ne (c : UInt8) (l : List UInt8) : ∃ h t, spl c l = h :: t := by
  induction l with
  | nil => exact ⟨[], [], rfl⟩
  | cons b r ih =>
    obtain ⟨h, t, e⟩ := ih
    simp only [spl]
    by_cases q : b = c
    · rw [if_pos q]; exact ⟨_, _, rfl⟩
    · rw [if_neg q, e]; exact ⟨_, _, rfl⟩
theorem spl_len (c : UInt8) (l : List UInt8) : (spl c l).length ≤ l.length + 1 := by
  induction l with
  | nil => simp [spl]
  | cons b r ih =>
    obtain ⟨h, t, e⟩ := spl_ne c r
    simp only [spl]
    by_cases q : b = c
    · rw [if_pos q]; simp only [List.length_cons]; omega
    · rw [if_neg q]
      rw [e] at ih ⊢
      simp only [List.length_cons] at ih ⊢
      omega
theorem split_l (s : ByteArray) (c : UInt8) (hs : s.size ≤ 2000000) (d : Nat) : ∀ (k i b : Nat) (out : List ByteArray), b ≤ i → i ≤ s.size → s.size - i = d → d < k → out.length ≤ i →
    ∃ L, spec_l01Split.l0 k s (c.toNat : Int) out b i = some L ∧ ∀ hd tl, spl c (s.data.toList.drop i) = hd :: tl → L.map (·.data.toList) = out.map (·.data.toList) ++ ((s.data.toList.drop b).take (i - b) ++ hd) :: tl := by
  have hn := size_list s
  induction d with
  | zero =>
    intro k i b out hb h0 hd hk ho
    obtain ⟨k, rfl⟩ : ∃ n, k = n + 1 := ⟨k - 1, by omega⟩
    simp only [spec_l01Split.l0]
    rw [if_neg (by omega), if_pos (by omega), if_pos (by omega), if_pos (by omega)]
    refine ⟨_, rfl, fun hd tl e => ?_⟩
    rw [List.drop_of_length_le (by omega)] at e
    simp only [spl, List.cons.injEq] at e
    obtain ⟨rfl, rfl⟩ := e
    rw [List.map_append, List.map_singleton, Int.toNat_natCast, Lib.extract_to_end, List.append_nil, List.take_of_length_le (by rw [List.length_drop]; omega)]
  | succ d ih =>
    intro k i b out hb h0 hd hk ho
    obtain ⟨k, rfl⟩ : ∃ n, k = n + 1 := ⟨k - 1, by omega⟩
    have hi : i < s.data.toList.length := by omega
    simp only [spec_l01Split.l0]
    rw [if_pos (by omega), if_pos (by omega), bt_list s i (by omega), w64 (x := (i : Int) + 1) (by omega) (by omega)]
    have ei : s.data.toList.drop i = s.data.toList.getD i 0 :: s.data.toList.drop (i + 1) := by
      rw [List.drop_eq_getElem_cons hi]
      rw [List.getD_eq_getElem?_getD, List.getElem?_eq_getElem hi, Option.getD_some]
    by_cases q : s.data.toList.getD i 0 = c
    · rw [if_pos (by rw [q]), if_pos (by omega), if_pos (by omega), if_pos (by omega), if_pos (by omega)]
      obtain ⟨L, e1, e2⟩ := ih k (i + 1) (i + 1) (out ++ [s.extract ((b : Int)).toNat ((i : Int)).toNat]) (by omega) (by omega) (by omega) (by omega) (by simp; omega)
      refine ⟨L, e1, fun hd tl e => ?_⟩
      rw [ei] at e
      simp only [spl] at e
      rw [if_pos q] at e
      obtain ⟨h', t', e'⟩ := spl_ne c (s.data.toList.drop (i + 1))
      rw [e2 h' t' e']
      rw [e'] at e
      simp only [List.cons.injEq] at e
      obtain ⟨rfl, rfl⟩ := e
      rw [List.map_append, List.map_singleton, Lib.extract_data, Int.toNat_natCast, Int.toNat_natCast, Nat.sub_self, List.take_zero, List.nil_append, List.append_nil, List.append_assoc]
      rfl
    · rw [if_neg (by intro h; exact q (UInt8.toNat_inj.1 (by omega)))]
      obtain ⟨L, e1, e2⟩ := ih k (i + 1) b out (by omega) (by omega) (by omega) (by omega) (by omega)
      refine ⟨L, e1, fun hd tl e => ?_⟩
      rw [ei] at e
      simp only [spl] at e
      rw [if_neg q] at e
      obtain ⟨h', t', e'⟩ := spl_ne c (s.data.toList.drop (i + 1))
      rw [e2 h' t' e']
      rw [e'] at e
      simp only [List.cons.injEq] at e
      obtain ⟨rfl, rfl⟩ := e
      have tk : (s.data.toList.drop b).take (i + 1 - b) = (s.data.toList.drop b).take (i - b) ++ [s.data.toList.getD i 0] := by
        rw [show i + 1 - b = (i - b) + 1 by omega, List.take_add_one, List.getElem?_drop, show b + (i - b) = i by omega]
        rw [List.getD_eq_getElem?_getD, List.getElem?_eq_getElem hi, Option.getD_some]
        rfl
      rw [tk, List.append_assoc]
      rfl
theorem split_f (s : ByteArray) (c : UInt8) (hs : s.size ≤ 2000000) (k : Nat) (hk : s.size < k) : ∃ L, spec_l01Split.f k s (c.toNat : Int) = some L ∧ L.map (·.data.toList) = spl c s.data.toList := by
  obtain ⟨L, e1, e2⟩ := split_l s c hs s.size k 0 0 [] (by omega) (by omega) (by omega) hk (by simp)
  obtain ⟨h, t, e⟩ := spl_ne c s.data.toList
  refine ⟨L, e1, ?_⟩
  rw [e2 h t (by rw [List.drop_zero]; exact e), e]
  simp
theorem spl_idx (c : UInt8) : ∀ s : List UInt8, (Lib.index s [c] = -1 ∧ spl c s = [s]) ∨ ∃ j : Nat, Lib.index s [c] = (j : Int) ∧ spl c s = s.take j :: spl c (s.drop (j + 1))
  | [] => .inl ⟨rfl, rfl⟩
  | b :: l => by
    by_cases q : b = c
    · subst q
      refine .inr ⟨0, ?_, ?_⟩
      · simp [Lib.index, List.isPrefixOf]
      · simp [spl]
    · have nq : ¬ (List.isPrefixOf [c] (b :: l)) = true := by
        simp [List.isPrefixOf]
        exact fun h => q h.symm
      rcases spl_idx c l with ⟨e1, e2⟩ | ⟨j, e1, e2⟩
      · refine .inl ⟨?_, ?_⟩
        · rw [Lib.index, if_neg nq, e1]; rfl
        · simp only [spl]; rw [if_neg q, e2]
      · refine .inr ⟨j + 1, ?_, ?_⟩
        · rw [Lib.index, if_neg nq, e1, if_neg (by simp)]; rfl
        · simp only [spl]; rw [if_neg q, e2]; rfl
theorem splitK_spl (c : UInt8) : ∀ (k : Nat) (s : List UInt8), ((spl c s).length ≤ k + 1 → Lib.splitK [c] 0 k s = spl c s) ∧ (k + 1 < (spl c s).length → (Lib.splitK [c] 0 k s).length = k + 1)
  | 0, s => by
    rcases spl_idx c s with ⟨_, e2⟩ | ⟨j, _, e2⟩
    · exact ⟨fun _ => by rw [e2]; rfl, fun h => by rw [e2] at h; simp at h⟩
    · obtain ⟨h', t', e'⟩ := spl_ne c (s.drop (j + 1))
      exact ⟨fun h => by rw [e2, e'] at h; simp at h, fun _ => rfl⟩
  | k + 1, s => by
    unfold Lib.splitK
    rcases spl_idx c s with ⟨e1, e2⟩ | ⟨j, e1, e2⟩
    · rw [if_pos (by rw [e1]; rfl)]
      exact ⟨fun _ => e2.symm, fun h => by rw [e2] at h; simp at h⟩
    · have ih := splitK_spl c k (s.drop (j + 1))
      rw [if_neg (by rw [e1]; simp), e1, e2]
      simp only [Int.toNat_natCast, Nat.add_zero, List.length_cons, List.length_nil, Nat.zero_add]
      exact ⟨fun h => by rw [ih.1 (by omega)], fun h => by rw [ih.2 (by omega)]⟩
theorem set_nextg {α β : Type} (f : α → β) (z : β) (d : α) (l : List α) (i : Nat) (h : i < l.length) : ((l.take i).map f ++ List.replicate (l.length - i) z).set i (f (l.getD i d)) = (l.take (i + 1)).map f ++ List.replicate (l.length - (i + 1)) z := by
  apply List.ext_getElem
  · simp; omega
  · intro j h1 h2
    simp only [List.getElem_set, List.getElem_append, List.length_map, List.length_take, List.getElem_map, List.getElem_take, List.getElem_replicate]
    by_cases e : i = j
    · subst e
      rw [if_pos rfl, dif_pos (by omega)]
      simp [h]
    · rw [if_neg e]
      by_cases c : j < i
      · rw [dif_pos (by omega), dif_pos (by omega)]
      · rw [dif_neg (by omega), dif_neg (by omega)]
theorem getD_mem {α : Type} (l : List α) (i : Nat) (d : α) (h : i < l.length) : l.getD i d ∈ l := by
  rw [List.getD_eq_getElem?_getD, List.getElem?_eq_getElem h]
  exact List.getElem_mem h
theorem getD_set_ne {α : Type} (l : List α) (i j : Nat) (x d : α) (h : i ≠ j) : (l.set i x).getD j d = l.getD j d := by
  simp [List.getD_eq_getElem?_getD, List.getElem?_set_ne h]
theorem getD_set_eq {α : Type} (l : List α) (i : Nat) (x d : α) (h : i < l.length) : (l.set i x).getD i d = x := by
  simp [List.getD_eq_getElem?_getD, List.getElem?_set_self h]
theorem in_f (a b c : Int) : spec_l00In.f a b c = some (decide (b ≤ a ∧ a ≤ c)) := by
  unfold spec_l00In.f
  by_cases h : b ≤ a <;> simp [h]
theorem within_f (a b c : Int) : impl_within.f a b c = some (decide (b ≤ a ∧ a ≤ c)) := by
  unfold impl_within.f
  by_cases h : b ≤ a <;> simp [h]
def SmP (m : List S78) : Prop := ∀ x ∈ m, (-32768 ≤ x.f0 ∧ x.f0 ≤ 32767) ∧ (-32768 ≤ x.f1 ∧ x.f1 ≤ 32767)
theorem smp_rd {m : List S78} (h : SmP m) (i : Nat) (hi : i < m.length) : (-32768 ≤ (rd_T78 m i).f0 ∧ (rd_T78 m i).f0 ≤ 32767) ∧ (-32768 ≤ (rd_T78 m i).f1 ∧ (rd_T78 m i).f1 ≤ 32767) := by
  have := h _ (getD_mem m i z78 hi)
  simpa [rd_T78] using this
/-- a point as it may be -/
def Pt (p : S78) : Prop := (-200 ≤ p.f0 ∧ p.f0 ≤ 200) ∧ (0 ≤ p.f1 ∧ p.f1 ≤ 400)
theorem spt_f {p : S78} (h : -32768 ≤ p.f0 ∧ p.f0 ≤ 32767) (h' : -32768 ≤ p.f1 ∧ p.f1 ≤ 32767) : spec_l02Point.f p.f0 p.f1 = some (decide ((-200 ≤ p.f0 ∧ p.f0 ≤ 200) ∧ (0 ≤ p.f1 ∧ p.f1 ≤ 400))) := by
  unfold spec_l02Point.f spec_l02Place.f spec_l02Density.f
  rw [w64 (x := p.f0) (by omega) (by omega), w64 (x := p.f1) (by omega) (by omega)]
  simp only [in_f, Option.bind_some]
  by_cases c : -200 ≤ p.f0 ∧ p.f0 ≤ 200 <;> simp [c]
theorem ipt_f {p : S78} (h : -32768 ≤ p.f0 ∧ p.f0 ≤ 32767) (h' : -32768 ≤ p.f1 ∧ p.f1 ≤ 32767) : impl_isPoint.f p.f0 p.f1 = some (decide ((-200 ≤ p.f0 ∧ p.f0 ≤ 200) ∧ (0 ≤ p.f1 ∧ p.f1 ≤ 400))) := by
  unfold impl_isPoint.f impl_isPlace.f impl_isDensity.f
  rw [w64 (x := p.f0) (by omega) (by omega), w64 (x := p.f1) (by omega) (by omega)]
  simp only [within_f, Option.bind_some]
  by_cases c : -200 ≤ p.f0 ∧ p.f0 ≤ 200 <;> simp [c]
/-- points from i on are as they may be -/
def Shp (m : List S78) (i : Nat) : Prop := 0 < m.length ∧ ∀ j : Nat, i ≤ j → j < m.length → Pt (rd_T78 m j) ∧ (0 < j → (rd_T78 m (j - 1 : Nat)).f0 < (rd_T78 m j).f0 ∧ (rd_T78 m (j - 1 : Nat)).f1 ≤ (rd_T78 m j).f1)
def Cur (m : List S78) : Prop := m.length ≤ 12 ∧ Shp m 0
theorem shape_l (m : List S78) (hm : SmP m) (hl : m.length ≤ 1048576) (d : Nat) : ∀ (k i : Nat), i ≤ m.length → m.length - i = d → d < k →
    ∃ r, spec_l02Shape.l0 k m i = some r ∧ impl_isCurve.l0 k m m (m.length : Int) i = some r ∧ (r = true → Shp m i) := by
  induction d with
  | zero =>
    intro k i h0 hd hk
    obtain ⟨k, rfl⟩ : ∃ n, k = n + 1 := ⟨k - 1, by omega⟩
    simp only [spec_l02Shape.l0, impl_isCurve.l0]
    have g1 : ¬ (i : Int) < (m.length : Int) := by omega
    simp only [g1, if_false]
    refine ⟨_, rfl, rfl, fun h => ⟨?_, fun j j0 j1 => by omega⟩⟩
    have := of_decide_eq_true h
    omega
  | succ d ih =>
    intro k i h0 hd hk
    obtain ⟨k, rfl⟩ : ∃ n, k = n + 1 := ⟨k - 1, by omega⟩
    obtain ⟨s1, s2⟩ := smp_rd hm i (by omega)
    have g1 : (i : Int) < (m.length : Int) := by omega
    have g2 : 0 ≤ (i : Int) := by omega
    have hpos : 0 < m.length := by omega
    obtain ⟨r, e1, e2, e3⟩ := ih k (i + 1) (by omega) (by omega) (by omega)
    have e1' : spec_l02Shape.l0 k m ((i : Int) + 1) = some r := e1
    have e2' : impl_isCurve.l0 k m m (m.length : Int) ((i : Int) + 1) = some r := e2
    have fin : Pt (rd_T78 m i) → (0 < i → (rd_T78 m (i - 1 : Nat)).f0 < (rd_T78 m i).f0 ∧ (rd_T78 m (i - 1 : Nat)).f1 ≤ (rd_T78 m i).f1) → r = true → Shp m i := by
      intro p1 p2 hr
      obtain ⟨_, t2⟩ := e3 hr
      refine ⟨hpos, fun j j0 j1 => ?_⟩
      by_cases e : j = i
      · subst e; exact ⟨p1, p2⟩
      · exact t2 j (by omega) j1
    simp only [spec_l02Shape.l0, impl_isCurve.l0, spt_f s1 s2, ipt_f s1 s2, g1, g2, if_true, Option.bind_some]
    rw [w64 (x := (i : Int) + 1) (by omega) (by omega), w64 (x := (i : Int) - 1) (by omega) (by omega), e1', e2']
    by_cases c : (-200 ≤ (rd_T78 m i).f0 ∧ (rd_T78 m i).f0 ≤ 200) ∧ (0 ≤ (rd_T78 m i).f1 ∧ (rd_T78 m i).f1 ≤ 400)
    · simp only [c, and_self, decide_true, if_true]
      by_cases z : i = 0
      · subst z
        have g3 : ¬ ((0 : Nat) : Int) > 0 := by omega
        simp only [g3, if_false]
        exact ⟨r, rfl, rfl, fin c (fun h => by omega)⟩
      · have ei : ((i : Int) - 1) = ((i - 1 : Nat) : Int) := by omega
        have g3 : (i : Int) > 0 := by omega
        have g4 : 0 ≤ ((i - 1 : Nat) : Int) := by omega
        have g5 : ((i - 1 : Nat) : Int) < (m.length : Int) := by omega
        rw [ei]
        simp only [g3, g4, g5, if_true]
        by_cases c3 : (rd_T78 m i).f0 ≤ (rd_T78 m (i - 1 : Nat)).f0
        · have c3' : (rd_T78 m (i - 1 : Nat)).f0 ≥ (rd_T78 m i).f0 := c3
          simp only [c3, c3', if_true]
          exact ⟨_, rfl, rfl, fun h => by cases h⟩
        · have c3' : ¬ (rd_T78 m (i - 1 : Nat)).f0 ≥ (rd_T78 m i).f0 := c3
          simp only [c3, c3', if_false]
          by_cases c4 : (rd_T78 m i).f1 < (rd_T78 m (i - 1 : Nat)).f1
          · have c4' : (rd_T78 m (i - 1 : Nat)).f1 > (rd_T78 m i).f1 := c4
            simp only [c4, c4', if_true]
            exact ⟨_, rfl, rfl, fun h => by cases h⟩
          · have c4' : ¬ (rd_T78 m (i - 1 : Nat)).f1 > (rd_T78 m i).f1 := c4
            simp only [c4, c4', if_false]
            exact ⟨r, rfl, rfl, fin c (fun _ => by omega)⟩
    · simp only [c, decide_false, Bool.false_eq_true, if_false]
      exact ⟨_, rfl, rfl, fun h => by cases h⟩
theorem shape_f (m : List S78) (hm : SmP m) (hl : m.length ≤ 1048576) (k : Nat) (hk : m.length < k) : ∃ r, spec_l02Shape.f k m = some r ∧ impl_isCurve.f k m = some r ∧ (r = true → Shp m 0) :=
  shape_l m hm hl m.length k 0 (by omega) (by omega) hk
theorem cur_f (m : List S78) (hm : SmP m) (hl : m.length ≤ 1048576) (k : Nat) (hk : m.length < k) : ∃ r, spec_l02Ok.f k m = some r ∧ impl_ValidCurve.f k m = some r ∧ (r = true → Cur m) := by
  obtain ⟨r, e1, e2, e3⟩ := shape_f m hm hl k hk
  unfold spec_l02Ok.f impl_ValidCurve.f
  simp only [e1, e2, Option.bind_some]
  cases r with
  | true =>
    simp only [if_true]
    exact ⟨_, rfl, rfl, fun h => ⟨by have := of_decide_eq_true h; omega, e3 rfl⟩⟩
  | false =>
    simp only [Bool.false_eq_true, if_false]
    exact ⟨_, rfl, rfl, fun h => by cases h⟩
def decB (x : Int) : ByteArray := ⟨(Lib.itoa x).toArray⟩
def ptB (p : S78) : ByteArray := (decB p.f0 ++ (⟨#[58]⟩ : ByteArray)) ++ decB p.f1
def ptL (p : S78) : List UInt8 := (ptB p).data.toList
theorem all_sz : (List.range 601).all (fun n => decide ((decB ((n : Int) - 200)).size ≤ 4)) = true := by kernel_rfl
theorem sz_f (x : Int) (h : -200 ≤ x ∧ x ≤ 400) : (decB x).size ≤ 4 := by
  obtain ⟨n, hn⟩ : ∃ n : Nat, (n : Int) - 200 = x := ⟨(x + 200).toNat, by omega⟩
  have q := List.all_eq_true.1 all_sz n (List.mem_range.2 (by omega))
  rw [hn] at q
  exact of_decide_eq_true q
theorem im_f (x : Int) (h : -200 ≤ x ∧ x ≤ 400) : impl_decimal.f x = some (decB x) := by
  unfold impl_decimal.f
  rw [if_pos (by omega)]
  rfl
theorem one58 : (⟨#[58]⟩ : ByteArray).size = 1 := rfl
theorem one32 : (⟨#[32]⟩ : ByteArray).size = 1 := rfl
theorem ptB_size (p : S78) (h : Pt p) : (ptB p).size ≤ 9 ∧ (decB p.f0).size + 1 ≤ 9223372036854775807 ∧ (decB p.f0 ++ (⟨#[58]⟩ : ByteArray)).size + (decB p.f1).size ≤ 9223372036854775807 := by
  unfold Pt at h
  have a := sz_f p.f0 (by omega)
  have b := sz_f p.f1 (by omega)
  unfold ptB
  rw [ByteArray.size_append, ByteArray.size_append, one58]
  omega
theorem join_snoc (xs : List (List UInt8)) (y : List UInt8) : Lib.join (xs ++ [y]) [32] = if xs = [] then y else Lib.join xs [32] ++ [32] ++ y := by
  cases xs with
  | nil => rw [if_pos rfl, List.nil_append, Lib.join_one]
  | cons x r =>
    rw [if_neg (by simp), List.cons_append, Lib.join_cons, Lib.join_cons]
    simp [Lib.joinTail, List.append_assoc]
theorem w64s (i : Nat) (h : i < 1000000) : wrap64 ((i : Int) + 1) = ((i + 1 : Nat) : Int) := by rw [w64 (by omega) (by omega)]; rfl
theorem itext_l (l : List S78) (hl : l.length ≤ 12) (hp : ∀ j : Nat, j < l.length → Pt (rd_T78 l j)) (d : Nat) : ∀ (k i : Nat), i ≤ l.length → l.length - i = d → d < k →
    impl_curveText.l0 k ((l.take i).map ptB) l (l.length : Int) i = strings_Join.f (l.map ptB) (⟨#[32]⟩ : ByteArray) := by
  induction d with
  | zero =>
    intro k i h0 hd hk
    obtain ⟨k, rfl⟩ : ∃ n, k = n + 1 := ⟨k - 1, by omega⟩
    simp only [impl_curveText.l0]
    rw [if_neg (by omega), List.take_of_length_le (by omega)]
    cases strings_Join.f (l.map ptB) (⟨#[32]⟩ : ByteArray) <;> rfl
  | succ d ih =>
    intro k i h0 hd hk
    obtain ⟨k, rfl⟩ : ∃ n, k = n + 1 := ⟨k - 1, by omega⟩
    have p := hp i (by omega)
    obtain ⟨z1, z2, z3⟩ := ptB_size _ p
    unfold Pt at p
    have e1 := im_f (rd_T78 l i).f0 (by omega)
    have e2 := im_f (rd_T78 l i).f1 (by omega)
    have eb : (decB (rd_T78 l i).f0 ++ (⟨#[58]⟩ : ByteArray)) ++ decB (rd_T78 l i).f1 = ptB (rd_T78 l i) := rfl
    have tk : (l.take i).map ptB ++ [ptB (rd_T78 l i)] = (l.take (i + 1)).map ptB := by
      rw [List.take_add_one, List.getElem?_eq_getElem (by omega), List.map_append]
      simp [rd_T78, List.getD_eq_getElem?_getD, show i < l.length by omega]
    have g0 : (i : Int) < (l.length : Int) := by omega
    have g1 : 0 ≤ (i : Int) := by omega
    have g2 : ((l.take i).map ptB).length < 8796093022208 := by rw [List.length_map, List.length_take]; omega
    simp only [impl_curveText.l0, w64s i (show i < 1000000 by omega)]
    rw [if_pos g0, if_pos g1, if_pos g0, w64 (x := (rd_T78 l i).f0) (by omega) (by omega), e1, Option.bind_some, if_pos z2, w64 (x := (rd_T78 l i).f1) (by omega) (by omega), e2, Option.bind_some, if_pos z3, if_pos g2, eb, tk]
    exact ih k (i + 1) (by omega) (by omega) (by omega)
theorem join_sz (l : List S78) (hp : ∀ p ∈ l, Pt p) : (Lib.join (l.map ptL) [32]).length ≤ 20 * l.length := by
  have key : ∀ (n : Nat) (l : List S78), l.length = n → (∀ p ∈ l, Pt p) → (Lib.join (l.map ptL) [32]).length ≤ 20 * l.length := by
    intro n
    induction n with
    | zero =>
      intro l h _
      rw [List.length_eq_zero_iff.1 h]
      exact Nat.le_refl _
    | succ n ih =>
      intro l h hp
      have hne : l ≠ [] := fun e => by rw [e] at h; simp at h
      obtain ⟨r, p, rfl⟩ : ∃ r p, l = r ++ [p] := ⟨l.dropLast, l.getLast hne, (List.dropLast_concat_getLast hne).symm⟩
      have h1 := ih r (by simp at h; omega) (fun q hq => hp q (by simp [hq]))
      have h2 := (ptB_size p (hp p (by simp))).1
      have h3 : (ptL p).length = (ptB p).size := by unfold ptL; rw [Array.length_toList]; rfl
      rw [List.map_append, List.map_singleton, join_snoc, List.length_append, List.length_singleton]
      split
      · omega
      · rw [List.length_append, List.length_append]
        show _ + 1 + _ ≤ _
        omega
  exact key l.length l rfl hp
theorem ictext_f (l : List S78) (hc : Cur l) (k : Nat) (hk : 40 < k) : ∃ v, impl_curveText.f k l = some v ∧ v.data.toList = Lib.join (l.map ptL) [32] := by
  have hp : ∀ j : Nat, j < l.length → Pt (rd_T78 l j) := fun j hj => (hc.2.2 j (by omega) hj).1
  have hl := hc.1
  have h0 := hc.2.1
  have e4 := itext_l l hl hp l.length k 0 (by omega) (by omega) (by omega)
  have hp' : ∀ p ∈ l, Pt p := fun p hm => by
    obtain ⟨i, hi, e⟩ := List.getElem_of_mem hm
    have := hp i hi
    have r : rd_T78 l i = p := by simp [rd_T78, List.getD_eq_getElem?_getD, hi, e]
    rwa [r] at this
  have js := join_sz l hp'
  refine ⟨⟨(Lib.join (l.map ptL) [32]).toArray⟩, ?_, rfl⟩
  have e4' : impl_curveText.f k l = strings_Join.f (l.map ptB) (⟨#[32]⟩ : ByteArray) := e4
  rw [e4']
  unfold strings_Join.f
  have jj : Lib.join ((l.map ptB).map (·.data.toList)) (⟨#[32]⟩ : ByteArray).data.toList = Lib.join (l.map ptL) [32] := by rw [List.map_map]; rfl
  rw [if_pos (by rw [List.length_map]; omega), jj, if_pos (by omega), if_neg (by rw [List.length_map]; omega)]
/-- the digits of a number up to 400 -/
def Dg3 (m : Nat) : List UInt8 := if m < 10 then [UInt8.ofNat (48 + m)] else if m < 100 then [UInt8.ofNat (48 + m / 10), UInt8.ofNat (48 + m % 10)] else [UInt8.ofNat (48 + m / 100), UInt8.ofNat (48 + m / 10 % 10), UInt8.ofNat (48 + m % 10)]
theorem all_d3 : (List.range 401).all (fun n => decide ((decB (n : Int)).data.toList = Dg3 n) && decide ((decB (-(n : Int))).data.toList = if n = 0 then Dg3 0 else 45 :: Dg3 n)) = true := by kernel_rfl
theorem d3_f (n : Nat) (h : n ≤ 400) : (decB (n : Int)).data.toList = Dg3 n ∧ (0 < n → (decB (-(n : Int))).data.toList = 45 :: Dg3 n) := by
  have q := List.all_eq_true.1 all_d3 n (List.mem_range.2 (by omega))
  rw [Bool.and_eq_true, decide_eq_true_eq, decide_eq_true_eq] at q
  exact ⟨q.1, fun h => by rw [q.2, if_neg (by omega)]⟩
/-- the value of digits -/
def fv (a : Nat) (ds : List Nat) : Nat := ds.foldl (fun a d => 10 * a + d) a
theorem fv_le (ds : List Nat) : ∀ a : Nat, a ≤ fv a ds := by
  induction ds with
  | nil => intro a; exact Nat.le_refl _
  | cons d r ih => intro a; have := ih (10 * a + d); show a ≤ fv (10 * a + d) r; omega
theorem num_v (s : ByteArray) (h9 : s.size ≤ 9) (d : Nat) : ∀ (k i a : Nat) (v : Int) (ok : Bool), i ≤ s.size → s.size - i = d → a < 10 ^ i → spec_l01Number.l0 k s (a : Int) (i : Int) = some (v, ok) → ok = true →
    ∃ ds : List Nat, (∀ x ∈ ds, x < 10) ∧ s.data.toList.drop i = ds.map (fun x => UInt8.ofNat (48 + x)) ∧ v = (fv a ds : Nat) := by
  induction d with
  | zero =>
    intro k i a v ok h0 hd ha h hok
    obtain _ | k := k
    · simp [spec_l01Number.l0] at h
    simp only [spec_l01Number.l0] at h
    rw [if_neg (by omega)] at h
    simp only [Option.some.injEq, Prod.mk.injEq] at h
    refine ⟨[], by simp, ?_, h.1.symm⟩
    rw [List.drop_of_length_le (by rw [size_list]; omega)]
    rfl
  | succ d ih =>
    intro k i a v ok h0 hd ha h hok
    obtain _ | k := k
    · simp [spec_l01Number.l0] at h
    have hi : i < s.data.toList.length := by rw [size_list]; omega
    have t9 : 10 ^ i ≤ 10 ^ 9 := Nat.pow_le_pow_right (by omega) (by omega)
    have t9' : (10 : Nat) ^ 9 = 1000000000 := by decide
    simp only [spec_l01Number.l0] at h
    rw [if_pos (by omega), if_pos (by omega), bt_list s i (by omega)] at h
    have bl := (s.data.toList.getD i 0).toNat_lt
    by_cases c1 : ((s.data.toList.getD i 0).toNat : Int) < 48
    · rw [if_pos c1] at h
      simp only [Option.some.injEq, Prod.mk.injEq] at h
      rw [← h.2] at hok
      cases hok
    · rw [if_neg c1] at h
      by_cases c2 : ((s.data.toList.getD i 0).toNat : Int) > 57
      · rw [if_pos c2] at h
        simp only [Option.some.injEq, Prod.mk.injEq] at h
        rw [← h.2] at hok
        cases hok
      · rw [if_neg c2] at h
        obtain ⟨x, hx, xl⟩ : ∃ x : Nat, (s.data.toList.getD i 0).toNat = 48 + x ∧ x < 10 := ⟨(s.data.toList.getD i 0).toNat - 48, by omega, by omega⟩
        rw [hx] at h
        rw [w64 (x := 10 * (a : Int)) (by omega) (by omega), w64 (x := (i : Int) + 1) (by omega) (by omega), show ((48 + x : Nat) : Int) - 48 = (x : Int) by omega, show (x : Int) % 256 = x by omega, w64 (x := 10 * (a : Int) + x) (by omega) (by omega)] at h
        have ts : (10 : Nat) ^ (i + 1) = 10 ^ i * 10 := Nat.pow_succ 10 i
        have h' : spec_l01Number.l0 k s ((10 * a + x : Nat) : Int) ((i + 1 : Nat) : Int) = some (v, ok) := by
          rw [show ((10 * a + x : Nat) : Int) = 10 * (a : Int) + x by omega, show ((i + 1 : Nat) : Int) = (i : Int) + 1 by omega]
          exact h
        obtain ⟨ds, g1, g2, g3⟩ := ih k (i + 1) (10 * a + x) v ok (by omega) (by omega) (by omega) h' hok
        refine ⟨x :: ds, fun y hy => ?_, ?_, g3⟩
        · rcases List.mem_cons.1 hy with rfl | hy
          · exact xl
          · exact g1 y hy
        · rw [List.drop_eq_getElem_cons hi, g2, List.map_cons]
          congr 1
          have e : s.data.toList.getD i 0 = s.data.toList[i] := by rw [List.getD_eq_getElem?_getD, List.getElem?_eq_getElem hi]; rfl
          rw [← e, ← hx, UInt8.ofNat_toNat]
/-- a number that the reference reads, up to 400, stands as it is told -/
theorem num_inv (s : ByteArray) (k : Nat) (v : Int) (h : spec_l01Number.f k s = some (v, true)) (hv : v ≤ 400) : 0 ≤ v ∧ s = decB v := by
  unfold spec_l01Number.f at h
  have bad : ∀ k, spec_l01Number.j0 k s true ≠ some (v, true) := fun k e => by
    cases k with
    | zero => simp [spec_l01Number.j0] at e
    | succ k => simp [spec_l01Number.j0] at e
  have good : ∀ k, spec_l01Number.j0 k s false = some (v, true) → ∃ k, spec_l01Number.l0 k s 0 0 = some (v, true) := fun k e => by
    cases k with
    | zero => simp [spec_l01Number.j0] at e
    | succ k =>
      simp only [spec_l01Number.j0, Bool.false_eq_true, if_false] at e
      exact ⟨k, e⟩
  have sl := size_list s
  by_cases c0 : s.toList = ([] : List UInt8)
  · rw [if_pos c0] at h
    exact absurd h (bad k)
  rw [if_neg c0] at h
  by_cases c1 : (s.size : Int) > 9
  · rw [if_pos c1] at h
    exact absurd h (bad k)
  rw [if_neg c1] at h
  have c0' : s.data.toList ≠ [] := by rw [← Lib.toList_data]; exact c0
  have pos : 0 < s.size := by
    rcases Nat.eq_zero_or_pos s.size with z | z
    · exact absurd (List.eq_nil_of_length_eq_zero (by omega)) c0'
    · exact z
  rw [if_pos (by omega)] at h
  obtain ⟨k', h', lead⟩ : ∃ k', spec_l01Number.l0 k' s 0 0 = some (v, true) ∧ ((s.data.toList.getD 0 0).toNat ≠ 48 ∨ s.size = 1) := by
    have b0 := bt_list s 0 pos
    have b0' : bt s 0 = ((s.data.toList.getD 0 0).toNat : Int) := b0
    rw [b0'] at h
    by_cases c2 : ((s.data.toList.getD 0 0).toNat : Int) = 48
    · rw [if_pos c2] at h
      by_cases c3 : (s.size : Int) > 1
      · rw [show decide ((s.size : Int) > 1) = true from decide_eq_true c3] at h
        exact absurd h (bad k)
      · rw [show decide ((s.size : Int) > 1) = false from decide_eq_false c3] at h
        obtain ⟨k', e⟩ := good k h
        exact ⟨k', e, .inr (by omega)⟩
    · rw [if_neg c2] at h
      obtain ⟨k', e⟩ := good k h
      exact ⟨k', e, .inl (by omega)⟩
  obtain ⟨ds, g1, g2, g3⟩ := num_v s (by omega) s.size k' 0 0 v true (by omega) (by omega) (by decide) h' rfl
  rw [List.drop_zero] at g2
  have dl : ds.length = s.size := by
    have := congrArg List.length g2
    rw [List.length_map] at this
    omega
  have fin : ∀ n : Nat, v = n → n ≤ 400 → s.data.toList = Dg3 n → 0 ≤ v ∧ s = decB v := fun n e hn hs => by
    subst e
    exact ⟨by omega, ba_ext (by rw [hs, (d3_f n hn).1])⟩
  have lead0 : ∀ x : Nat, x < 10 → (UInt8.ofNat (48 + x)).toNat = 48 + x := fun x hx => by rw [UInt8.toNat_ofNat']; omega
  match ds, dl, g1, g2, g3 with
  | [], dl, _, _, _ => simp at dl; omega
  | [a], _, g1, g2, g3 =>
    have ha := g1 a (by simp)
    refine fin a (by rw [g3]; show ((10 * 0 + a : Nat) : Int) = _; omega) (by omega) ?_
    rw [g2]
    unfold Dg3
    rw [if_pos ha]
    rfl
  | [a, b], dl, g1, g2, g3 =>
    have ha := g1 a (by simp)
    have hb := g1 b (by simp)
    have vv : v = ((10 * a + b : Nat) : Int) := by rw [g3]; show ((10 * (10 * 0 + a) + b : Nat) : Int) = _; omega
    have l0 : a ≠ 0 := by
      rcases lead with l | l
      · rw [g2] at l
        have := lead0 a ha
        intro z
        apply l
        show (UInt8.ofNat (48 + a)).toNat = 48
        omega
      · simp at dl; omega
    refine fin (10 * a + b) vv (by omega) ?_
    rw [g2]
    unfold Dg3
    rw [if_neg (by omega), if_pos (by omega), show (10 * a + b) / 10 = a by omega, show (10 * a + b) % 10 = b by omega]
    rfl
  | [a, b, c], dl, g1, g2, g3 =>
    have ha := g1 a (by simp)
    have hb := g1 b (by simp)
    have hc := g1 c (by simp)
    have vv : v = ((100 * a + 10 * b + c : Nat) : Int) := by rw [g3]; show ((10 * (10 * (10 * 0 + a) + b) + c : Nat) : Int) = _; omega
    have l0 : a ≠ 0 := by
      rcases lead with l | l
      · rw [g2] at l
        have := lead0 a ha
        intro z
        apply l
        show (UInt8.ofNat (48 + a)).toNat = 48
        omega
      · simp at dl; omega
    refine fin (100 * a + 10 * b + c) vv (by omega) ?_
    rw [g2]
    unfold Dg3
    rw [if_neg (by omega), if_neg (by omega), show (100 * a + 10 * b + c) / 100 = a by omega, show (100 * a + 10 * b + c) / 10 % 10 = b by omega, show (100 * a + 10 * b + c) % 10 = c by omega]
    rfl
  | a :: b :: c :: e :: r, dl, g1, g2, g3 =>
    have ha := g1 a (by simp)
    have l0 : a ≠ 0 := by
      rcases lead with l | l
      · rw [g2] at l
        have := lead0 a ha
        intro z
        apply l
        show (UInt8.ofNat (48 + a)).toNat = 48
        omega
      · simp at dl; omega
    have := fv_le r (10 * (10 * (10 * (10 * 0 + a) + b) + c) + e)
    have vv : v = ((fv (10 * (10 * (10 * (10 * 0 + a) + b) + c) + e) r : Nat) : Int) := g3
    omega
theorem fv_lt (ds : List Nat) (h : ∀ x ∈ ds, x < 10) : ∀ a b : Nat, a < 10 ^ b → fv a ds < 10 ^ (b + ds.length) := by
  induction ds with
  | nil => intro a b ha; exact ha
  | cons d r ih =>
    intro a b ha
    have hd := h d (by simp)
    have := ih (fun x hx => h x (by simp [hx])) (10 * a + d) (b + 1) (by rw [Nat.pow_succ]; omega)
    rw [List.length_cons, show b + (r.length + 1) = b + 1 + r.length by omega]
    exact this
theorem num_le (s : ByteArray) (k : Nat) (v : Int) (h : spec_l01Number.f k s = some (v, true)) : 0 ≤ v ∧ v ≤ 1000000000 := by
  unfold spec_l01Number.f at h
  have bad : ∀ k, spec_l01Number.j0 k s true ≠ some (v, true) := fun k e => by
    cases k with
    | zero => simp [spec_l01Number.j0] at e
    | succ k => simp [spec_l01Number.j0] at e
  have any : ∀ k b, s.size ≤ 9 → spec_l01Number.j0 k s b = some (v, true) → 0 ≤ v ∧ v ≤ 1000000000 := fun k b h9 e => by
    cases b with
    | true => exact absurd e (bad k)
    | false =>
      cases k with
      | zero => simp [spec_l01Number.j0] at e
      | succ k =>
        simp only [spec_l01Number.j0, Bool.false_eq_true, if_false] at e
        obtain ⟨ds, g1, g2, g3⟩ := num_v s h9 s.size k 0 0 v true (by omega) (by omega) (by decide) e rfl
        have dl : ds.length = s.size := by
          have := congrArg List.length g2
          rw [List.length_map, List.drop_zero, size_list] at this
          omega
        have := fv_lt ds g1 0 0 (by decide)
        have t9 : 10 ^ (0 + ds.length) ≤ 10 ^ 9 := Nat.pow_le_pow_right (by omega) (by omega)
        have t9' : (10 : Nat) ^ 9 = 1000000000 := by decide
        omega
  by_cases c0 : s.toList = ([] : List UInt8)
  · rw [if_pos c0] at h
    exact absurd h (bad k)
  rw [if_neg c0] at h
  by_cases c1 : (s.size : Int) > 9
  · rw [if_pos c1] at h
    exact absurd h (bad k)
  rw [if_neg c1] at h
  by_cases c2 : 0 < (s.size : Int)
  · rw [if_pos c2] at h
    by_cases c3 : bt s 0 = 48
    · rw [if_pos c3] at h; exact any _ _ (by omega) h
    · rw [if_neg c3] at h; exact any _ _ (by omega) h
  · rw [if_neg c2] at h
    cases h
/-- what both readers say of a number's own text -/
theorem all_rd : (List.range 601).all (fun n => decide (spec_l01Signed.f 20 (decB ((n : Int) - 200)) = some ((n : Int) - 200, true)) && decide (strconv_ParseInt.v (decB ((n : Int) - 200)).data.toList = (n : Int) - 200) && (strconv_ParseInt.b (decB ((n : Int) - 200)).data.toList == false) && (decB ((n : Int) - 200)).data.toList.all (fun b => b != 32 && b != 58)) = true := by kernel_rfl
theorem all_rn : (List.range 401).all (fun n => decide (spec_l01Number.f 20 (decB (n : Int)) = some ((n : Int), true))) = true := by kernel_rfl
theorem rd_f (x : Int) (h : -200 ≤ x ∧ x ≤ 400) (k : Nat) (hk : 20 ≤ k) : spec_l01Signed.f k (decB x) = some (x, true) ∧ strconv_ParseInt.f (decB x) 10 16 = some (x, false) ∧ ∀ b ∈ (decB x).data.toList, b ≠ 32 ∧ b ≠ 58 := by
  obtain ⟨n, hn⟩ : ∃ n : Nat, (n : Int) - 200 = x := ⟨(x + 200).toNat, by omega⟩
  have q := List.all_eq_true.1 all_rd n (List.mem_range.2 (by omega))
  rw [hn, Bool.and_eq_true, Bool.and_eq_true, Bool.and_eq_true] at q
  obtain ⟨⟨⟨q1, q2⟩, q3⟩, q4⟩ := q
  have sz := sz_f x h
  refine ⟨at_rounds (fun k => spec_l01Signed.mono (decB x) k) hk (of_decide_eq_true q1), ?_, fun b hb => ?_⟩
  · unfold strconv_ParseInt.f
    rw [if_pos ⟨rfl, rfl, by omega⟩, of_decide_eq_true q2, eq_of_beq q3]
  · have := List.all_eq_true.1 q4 b hb
    simpa using this
theorem rn_f (y : Int) (h : 0 ≤ y ∧ y ≤ 400) (k : Nat) (hk : 20 ≤ k) : spec_l01Number.f k (decB y) = some (y, true) := by
  obtain ⟨n, rfl⟩ : ∃ n : Nat, y = n := ⟨y.toNat, by omega⟩
  have q := of_decide_eq_true (List.all_eq_true.1 all_rn n (List.mem_range.2 (by omega)))
  exact at_rounds (fun k => spec_l01Number.mono (decB (n : Int)) k) hk q
/-- a signed number that the reference reads, between -400 and 400, stands as it is told -/
theorem sgn_inv (s : ByteArray) (k : Nat) (v : Int) (h : spec_l01Signed.f k s = some (v, true)) (h0 : -400 ≤ v) (h1 : v ≤ 400) : s = decB v := by
  have sl := size_list s
  unfold spec_l01Signed.f at h
  have plain : ∀ k, spec_l01Signed.j0 k s false = some (v, true) → s = decB v := fun k e => by
    cases k with
    | zero => simp [spec_l01Signed.j0] at e
    | succ k =>
      simp only [spec_l01Signed.j0, Bool.false_eq_true, if_false] at e
      obtain ⟨⟨n, ok⟩, e1, e2⟩ := Option.bind_eq_some_iff.1 e
      simp only [Option.some.injEq, Prod.mk.injEq] at e2
      rw [e2.1, e2.2] at e1
      exact (num_inv s k v e1 h1).2
  by_cases c0 : s.toList = ([] : List UInt8)
  · rw [if_pos c0] at h
    exact plain k h
  rw [if_neg c0] at h
  by_cases c1 : 0 < (s.size : Int)
  · rw [if_pos c1] at h
    have b0 : bt s 0 = ((s.data.toList.getD 0 0).toNat : Int) := bt_list s 0 (by omega)
    rw [b0] at h
    by_cases c2 : ((s.data.toList.getD 0 0).toNat : Int) = 45
    · rw [show (((s.data.toList.getD 0 0).toNat : Int) == 45) = true from beq_iff_eq.2 c2] at h
      cases k with
      | zero => simp [spec_l01Signed.j0] at h
      | succ k =>
        simp only [spec_l01Signed.j0, if_true] at h
        rw [if_pos (by omega)] at h
        obtain ⟨⟨n, ok⟩, e1, e2⟩ := Option.bind_eq_some_iff.1 h
        by_cases ho : ok = true
        · subst ho
          simp only [if_true, Option.some.injEq, Prod.mk.injEq, decide_eq_true_eq] at e2
          obtain ⟨e2, e3⟩ := e2
          have nn : n ≤ 400 := by
            by_cases big : n ≤ 400
            · exact big
            · exfalso
              by_cases wide : n ≤ 9223372036854775807
              · rw [w64 (by omega) (by omega)] at e2
                omega
              · have nb := num_le _ _ _ e1
                omega
          rw [w64 (by omega) (by omega)] at e2
          have i := (num_inv _ k n e1 nn).2
          obtain ⟨m, rfl⟩ : ∃ m : Nat, n = m := ⟨n.toNat, by omega⟩
          have d := d3_f m (by omega)
          apply ba_ext
          rw [← e2, d.2 (by omega), ← d.1, ← i]
          have hl : 0 < s.data.toList.length := by omega
          have ex : (s.extract 1 s.size).data.toList = s.data.toList.drop 1 := Lib.extract_to_end s 1
          rw [ex]
          have e : s.data.toList.getD 0 0 = s.data.toList[0] := by rw [List.getD_eq_getElem?_getD, List.getElem?_eq_getElem hl]; rfl
          have e45 : s.data.toList[0] = 45 := by
            rw [← e]
            apply UInt8.toNat_inj.1
            show _ = 45
            omega
          rw [← e45]
          exact (List.drop_eq_getElem_cons hl)
        · rw [if_neg ho] at e2
          simp at e2
    · rw [show (((s.data.toList.getD 0 0).toNat : Int) == 45) = false from beq_eq_false_iff_ne.2 c2] at h
      exact plain k h
  · rw [if_neg c1] at h
    cases h
theorem spl_app (c : UInt8) : ∀ (p r : List UInt8), (∀ b ∈ p, b ≠ c) → spl c (p ++ c :: r) = p :: spl c r
  | [], r, _ => by simp [spl]
  | b :: p, r, h => by
    have hb : b ≠ c := h b (by simp)
    have ih := spl_app c p r (fun x hx => h x (by simp [hx]))
    simp only [List.cons_append, spl]
    rw [if_neg hb, ih]
theorem spl_one (c : UInt8) : ∀ (p : List UInt8), (∀ b ∈ p, b ≠ c) → spl c p = [p]
  | [], _ => rfl
  | b :: p, h => by
    have hb : b ≠ c := h b (by simp)
    have ih := spl_one c p (fun x hx => h x (by simp [hx]))
    simp only [spl]
    rw [if_neg hb, ih]
theorem jt_cons (c : UInt8) (x : List UInt8) (r : List (List UInt8)) : Lib.joinTail [c] (x :: r) = c :: (x ++ Lib.joinTail [c] r) := by
  simp [Lib.joinTail]
/-- what is split, put together again -/
theorem spl_join (c : UInt8) : ∀ l : List UInt8, Lib.join (spl c l) [c] = l
  | [] => by simp [spl, Lib.join_one]
  | b :: r => by
    have ih := spl_join c r
    obtain ⟨h, t, e⟩ := spl_ne c r
    simp only [spl]
    by_cases q : b = c
    · subst q
      rw [if_pos rfl, Lib.join_cons, e, jt_cons, List.nil_append, ← Lib.join_cons, ← e, ih]
    · rw [if_neg q, e]
      rw [e] at ih
      show Lib.join ((b :: h) :: t) [c] = _
      rw [Lib.join_cons, List.cons_append, ← Lib.join_cons, ih]
/-- what is put together out of words without the byte, split again -/
theorem join_spl (c : UInt8) : ∀ (w : List UInt8) (ws : List (List UInt8)), (∀ x ∈ w :: ws, ∀ b ∈ x, b ≠ c) → spl c (Lib.join (w :: ws) [c]) = w :: ws
  | w, [], h => by rw [Lib.join_one, spl_one c w (h w (by simp))]
  | w, x :: ws, h => by
    rw [Lib.join_cons, jt_cons, spl_app c w _ (h w (by simp)), ← Lib.join_cons, join_spl c x ws (fun y hy => h y (by simp [List.mem_cons.1 hy]))]
theorem spl_len1 (c : UInt8) (l w : List UInt8) (t : List (List UInt8)) (h : spl c l = w :: t) (hw : w ≠ []) : (spl c l).length ≤ l.length := by
  cases l with
  | nil =>
    simp only [spl, List.cons.injEq] at h
    exact absurd h.1.symm hw
  | cons b r =>
    simp only [spl] at h ⊢
    by_cases q : b = c
    · rw [if_pos q] at h
      simp only [List.cons.injEq] at h
      exact absurd h.1.symm hw
    · obtain ⟨x, y, e⟩ := spl_ne c r
      have := spl_len c r
      rw [if_neg q, e]
      rw [e] at this
      simp only [List.length_cons] at this ⊢
      omega
theorem pt_bytes (p : S78) (h : Pt p) : (∀ b ∈ (decB p.f0).data.toList, b ≠ 32 ∧ b ≠ 58) ∧ (∀ b ∈ (decB p.f1).data.toList, b ≠ 32 ∧ b ≠ 58) := by
  unfold Pt at h
  exact ⟨(rd_f p.f0 (by omega) 20 (by omega)).2.2, (rd_f p.f1 (by omega) 20 (by omega)).2.2⟩
theorem ptL_eq (p : S78) : ptL p = (decB p.f0).data.toList ++ 58 :: (decB p.f1).data.toList := by
  unfold ptL ptB
  rw [ByteArray.data_append, ByteArray.data_append, Array.toList_append, Array.toList_append]
  simp
theorem ptL_no32 (p : S78) (h : Pt p) : ∀ b ∈ ptL p, b ≠ 32 := by
  obtain ⟨a, b⟩ := pt_bytes p h
  intro x hx
  rw [ptL_eq] at hx
  rcases List.mem_append.1 hx with hx | hx
  · exact (a x hx).1
  · rcases List.mem_cons.1 hx with rfl | hx
    · decide
    · exact (b x hx).1
theorem ptL_spl (p : S78) (h : Pt p) : spl 58 (ptL p) = [(decB p.f0).data.toList, (decB p.f1).data.toList] := by
  obtain ⟨a, b⟩ := pt_bytes p h
  rw [ptL_eq, spl_app 58 _ _ (fun x hx => (a x hx).2), spl_one 58 _ (fun x hx => (b x hx).2)]
theorem ptL_cut (p : S78) (h : Pt p) : Lib.cut (ptL p) [58] = ((decB p.f0).data.toList, (decB p.f1).data.toList, true) := by
  have e := ptL_spl p h
  rcases spl_idx 58 (ptL p) with ⟨_, e2⟩ | ⟨j, e1, e2⟩
  · rw [e2] at e; simp at e
  · rw [e2] at e
    simp only [List.cons.injEq] at e
    obtain ⟨ea, eb⟩ := e
    have ej := spl_join 58 ((ptL p).drop (j + 1))
    rw [eb, Lib.join_one] at ej
    unfold Lib.cut
    rw [e1, if_pos (by omega), Int.toNat_natCast, ea]
    show (_, (ptL p).drop (j + 1), true) = _
    rw [← ej]
/-- the reference's readers come to an end -/
theorem num_end2 (s : ByteArray) (n : Nat) (hn : s.size = n) (d : Nat) : ∀ (k i : Nat) (a : Int), i ≤ n → n - i = d → d < k → n ≤ 9 → ∃ v ok, spec_l01Number.l0 k s a i = some (v, ok) := by
  induction d with
  | zero =>
    intro k i a h0 hd hk _
    obtain ⟨k, rfl⟩ : ∃ n, k = n + 1 := ⟨k - 1, by omega⟩
    simp only [spec_l01Number.l0]
    rw [if_neg (by omega)]
    exact ⟨_, _, rfl⟩
  | succ d ih =>
    intro k i a h0 hd hk h9
    obtain ⟨k, rfl⟩ : ∃ n, k = n + 1 := ⟨k - 1, by omega⟩
    simp only [spec_l01Number.l0]
    rw [if_pos (by omega), if_pos (by omega), w64 (x := (i : Int) + 1) (by omega) (by omega)]
    split
    · exact ⟨_, _, rfl⟩
    · split
      · exact ⟨_, _, rfl⟩
      · exact ih k (i + 1) _ (by omega) (by omega) (by omega) h9
theorem num_tot (s : ByteArray) (k : Nat) (hk : 20 < k) : ∃ v ok, spec_l01Number.f k s = some (v, ok) := by
  obtain ⟨k, rfl⟩ : ∃ n, k = n + 1 := ⟨k - 1, by omega⟩
  unfold spec_l01Number.f
  have any : ∀ b, s.size ≤ 9 → ∃ v ok, spec_l01Number.j0 (k + 1) s b = some (v, ok) := fun b h9 => by
    cases b with
    | true => exact ⟨0, false, by simp [spec_l01Number.j0]⟩
    | false =>
      simp only [spec_l01Number.j0, Bool.false_eq_true, if_false]
      exact num_end2 s s.size rfl s.size k 0 0 (by omega) (by omega) (by omega) h9
  by_cases c0 : s.toList = ([] : List UInt8)
  · rw [if_pos c0]
    exact ⟨0, false, by simp [spec_l01Number.j0]⟩
  rw [if_neg c0]
  by_cases c1 : (s.size : Int) > 9
  · rw [if_pos c1]
    exact ⟨0, false, by simp [spec_l01Number.j0]⟩
  rw [if_neg c1]
  have c0' : s.data.toList ≠ [] := by rw [← Lib.toList_data]; exact c0
  have pos : 0 < s.size := by
    rcases Nat.eq_zero_or_pos s.size with z | z
    · exact absurd (List.eq_nil_of_length_eq_zero (by rw [size_list]; exact z)) c0'
    · exact z
  rw [if_pos (by omega)]
  split
  · exact any _ (by omega)
  · exact any _ (by omega)
theorem sgn_tot (s : ByteArray) (k : Nat) (hk : 30 < k) : ∃ v ok, spec_l01Signed.f k s = some (v, ok) := by
  obtain ⟨k, rfl⟩ : ∃ n, k = n + 1 := ⟨k - 1, by omega⟩
  unfold spec_l01Signed.f
  have plain : ∃ v ok, spec_l01Signed.j0 (k + 1) s false = some (v, ok) := by
    obtain ⟨v, ok, e⟩ := num_tot s k (by omega)
    simp only [spec_l01Signed.j0, Bool.false_eq_true, if_false]
    rw [e]
    exact ⟨_, _, rfl⟩
  by_cases c0 : s.toList = ([] : List UInt8)
  · rw [if_pos c0]
    exact plain
  rw [if_neg c0]
  have c0' : s.data.toList ≠ [] := by rw [← Lib.toList_data]; exact c0
  have pos : 0 < s.size := by
    rcases Nat.eq_zero_or_pos s.size with z | z
    · exact absurd (List.eq_nil_of_length_eq_zero (by rw [size_list]; exact z)) c0'
    · exact z
  rw [if_pos (by omega)]
  cases (bt s 0 == 45) with
  | false => exact plain
  | true =>
    obtain ⟨v, ok, e⟩ := num_tot (s.extract 1 s.size) k (by omega)
    simp only [spec_l01Signed.j0, if_true]
    rw [if_pos (by omega), e, Option.bind_some]
    split
    · exact ⟨_, _, rfl⟩
    · exact ⟨_, _, rfl⟩
theorem smp_cur {m : List S78} (h : Cur m) : SmP m := by
  intro x hx
  obtain ⟨i, hi, e⟩ := List.getElem_of_mem hx
  have := (h.2.2 i (by omega) hi).1
  have r : rd_T78 m i = x := by simp [rd_T78, List.getD_eq_getElem?_getD, hi, e]
  rw [r] at this
  obtain ⟨⟨a, b⟩, c, d⟩ := this
  omega
theorem shape_t (m : List S78) (h : Cur m) (d : Nat) : ∀ (k i : Nat), i ≤ m.length → m.length - i = d → d < k → spec_l02Shape.l0 k m i = some true ∧ impl_isCurve.l0 k m m (m.length : Int) i = some true := by
  have hlen := h.1
  have hm := smp_cur h
  induction d with
  | zero =>
    intro k i h0 hd hk
    obtain ⟨k, rfl⟩ : ∃ n, k = n + 1 := ⟨k - 1, by omega⟩
    simp only [spec_l02Shape.l0, impl_isCurve.l0]
    have g1 : ¬ (i : Int) < (m.length : Int) := by omega
    have g2 : (m.length : Int) > 0 := by have := h.2.1; omega
    simp only [g1, g2, if_false, decide_true, and_self]
  | succ d ih =>
    intro k i h0 hd hk
    obtain ⟨k, rfl⟩ : ∃ n, k = n + 1 := ⟨k - 1, by omega⟩
    obtain ⟨s1, s2⟩ := smp_rd hm i (by omega)
    obtain ⟨p, hp⟩ := h.2.2 i (by omega) (by omega)
    have g1 : (i : Int) < (m.length : Int) := by omega
    have g2 : 0 ≤ (i : Int) := by omega
    obtain ⟨e1, e2⟩ := ih k (i + 1) (by omega) (by omega) (by omega)
    have e1' : spec_l02Shape.l0 k m ((i : Int) + 1) = some true := e1
    have e2' : impl_isCurve.l0 k m m (m.length : Int) ((i : Int) + 1) = some true := e2
    simp only [spec_l02Shape.l0, impl_isCurve.l0, spt_f s1 s2, ipt_f s1 s2, g1, g2, if_true, Option.bind_some]
    rw [w64 (x := (i : Int) + 1) (by omega) (by omega), w64 (x := (i : Int) - 1) (by omega) (by omega), e1', e2']
    have pp : (-200 ≤ (rd_T78 m i).f0 ∧ (rd_T78 m i).f0 ≤ 200) ∧ (0 ≤ (rd_T78 m i).f1 ∧ (rd_T78 m i).f1 ≤ 400) := p
    simp only [pp, and_self, decide_true, if_true]
    by_cases z : i = 0
    · subst z
      have g3 : ¬ ((0 : Nat) : Int) > 0 := by omega
      simp only [g3, if_false, and_self]
    · have ei : ((i : Int) - 1) = ((i - 1 : Nat) : Int) := by omega
      have g3 : (i : Int) > 0 := by omega
      have g4 : 0 ≤ ((i - 1 : Nat) : Int) := by omega
      have g5 : ((i - 1 : Nat) : Int) < (m.length : Int) := by omega
      obtain ⟨q1, q2⟩ := hp (by omega)
      have c3 : ¬ (rd_T78 m i).f0 ≤ (rd_T78 m (i - 1 : Nat)).f0 := by omega
      have c3' : ¬ (rd_T78 m (i - 1 : Nat)).f0 ≥ (rd_T78 m i).f0 := by omega
      have c4 : ¬ (rd_T78 m i).f1 < (rd_T78 m (i - 1 : Nat)).f1 := by omega
      have c4' : ¬ (rd_T78 m (i - 1 : Nat)).f1 > (rd_T78 m i).f1 := by omega
      rw [ei]
      simp only [g3, g4, g5, c3, c3', c4, c4', if_true, if_false, and_self]
theorem cur_t (m : List S78) (h : Cur m) (k : Nat) (hk : 12 < k) : spec_l02Ok.f k m = some true ∧ impl_ValidCurve.f k m = some true := by
  have hlen := h.1
  obtain ⟨e1, e2⟩ := shape_t m h m.length k 0 (by omega) (by omega) (by omega)
  have e1' : spec_l02Shape.f k m = some true := e1
  have e2' : impl_isCurve.f k m = some true := e2
  have g : (m.length : Int) ≤ 12 := by omega
  unfold spec_l02Ok.f impl_ValidCurve.f
  simp only [e1', e2', Option.bind_some, if_true, g, decide_true, and_self]
theorem place_f (x : Int) : spec_l02Place.f x = some (decide (-200 ≤ x ∧ x ≤ 200)) := by
  unfold spec_l02Place.f
  rw [in_f]
  rfl
theorem dens_f (x : Int) : spec_l02Density.f x = some (decide (0 ≤ x ∧ x ≤ 400)) := by
  unfold spec_l02Density.f
  rw [in_f]
  rfl
theorem cur_pt {c : List S78} (h : Cur c) : ∀ p ∈ c, Pt p := fun p hm => by
  obtain ⟨i, hi, e⟩ := List.getElem_of_mem hm
  have := (h.2.2 i (by omega) hi).1
  have r : rd_T78 c i = p := by simp [rd_T78, List.getD_eq_getElem?_getD, hi, e]
  rwa [r] at this
theorem ptL_inj {p q : S78} (hp : Pt p) (hq : Pt q) (e : ptL p = ptL q) : p = q := by
  have h := ptL_spl p hp
  rw [e, ptL_spl q hq] at h
  simp only [List.cons.injEq, and_true] at h
  have e1 := ba_ext h.1
  have e2 := ba_ext h.2
  unfold Pt at hp hq
  have a := (rd_f p.f0 (by omega) 20 (by omega)).1
  have b := (rd_f q.f0 (by omega) 20 (by omega)).1
  have a' := (rd_f p.f1 (by omega) 20 (by omega)).1
  have b' := (rd_f q.f1 (by omega) 20 (by omega)).1
  rw [e1, a] at b
  rw [e2, a'] at b'
  simp only [Option.some.injEq, Prod.mk.injEq, and_true] at b b'
  cases p
  cases q
  simp only at b b'
  rw [b, b']
theorem map_inj {c : List S78} : ∀ {a : List S78}, (∀ p ∈ a, Pt p) → (∀ p ∈ c, Pt p) → a.map ptL = c.map ptL → a = c := by
  induction c with
  | nil => intro a _ _ e; simpa using e
  | cons q c ih =>
    intro a ha hc e
    cases a with
    | nil => simp at e
    | cons p a =>
      simp only [List.map_cons, List.cons.injEq] at e
      rw [ptL_inj (ha p (by simp)) (hc q (by simp)) e.1, ih (fun x hx => ha x (by simp [hx])) (fun x hx => hc x (by simp [hx])) e.2]
theorem pt_smp {c : List S78} (h : ∀ p ∈ c, Pt p) : SmP c := fun p hp => by
  have := h p hp
  unfold Pt at this
  omega
theorem spl_sz (c : UInt8) : ∀ (l : List UInt8) (w : List UInt8), w ∈ spl c l → w.length ≤ l.length
  | [], w, h => by simp [spl] at h; rw [h]; exact Nat.le_refl _
  | b :: r, w, h => by
    have ih := spl_sz c r
    obtain ⟨x, t, e⟩ := spl_ne c r
    simp only [spl] at h
    by_cases q : b = c
    · rw [if_pos q] at h
      rcases List.mem_cons.1 h with rfl | h
      · exact Nat.zero_le _
      · have := ih w h
        rw [List.length_cons]
        omega
    · rw [if_neg q, e] at h
      rw [e] at ih
      rcases List.mem_cons.1 h with rfl | h
      · have := ih x (by simp)
        rw [List.length_cons, List.length_cons]
        omega
      · have := ih w (by simp [h])
        rw [List.length_cons]
        omega
theorem splitK_sz (c : UInt8) : ∀ (k : Nat) (s w : List UInt8), w ∈ Lib.splitK [c] 0 k s → w.length ≤ s.length
  | 0, s, w, h => by
    have : w = s := by simpa [Lib.splitK] using h
    rw [this]
    exact Nat.le_refl _
  | k + 1, s, w, h => by
    unfold Lib.splitK at h
    split at h
    · have : w = s := by simpa using h
      rw [this]
      exact Nat.le_refl _
    · rcases List.mem_cons.1 h with rfl | h
      · rw [List.length_take]
        omega
      · have := splitK_sz c k _ w h
        rw [List.length_drop] at this
        omega
theorem splitK_len (c : UInt8) : ∀ (k : Nat) (s : List UInt8), (Lib.splitK [c] 0 k s).length ≤ k + 1
  | 0, s => by simp [Lib.splitK]
  | k + 1, s => by
    unfold Lib.splitK
    split
    · simp
    · have := splitK_len c k (s.drop ((Lib.index s [c]).toNat + [c].length))
      rw [List.length_cons]
      omega
/-- the reference's loop over the words -/
theorem srd_l (L : List ByteArray) (W : List (List UInt8)) (hW : L.map (·.data.toList) = W) (hs : ∀ w ∈ L, w.size ≤ 1048576) (hn : L.length ≤ 1048577) (h0 : 0 < L.length) (hne : (∃ w t, W = w :: t ∧ w ≠ []) → L.length ≤ 1048576) (d : Nat) : ∀ (k i : Nat) (acc : List S78), i ≤ L.length → L.length - i = d → d + 1100000 < k → (∀ p ∈ acc, Pt p) → acc.map ptL = W.take i →
    ∃ r, spec_ReadCurve.l0 k L acc i = some r ∧ ((∃ c, r = (c, 0) ∧ Cur c ∧ c.map ptL = W) ∨ (r = ([], 5) ∧ ∀ c : List S78, Cur c → c.map ptL ≠ W)) := by
  have wl : W.length = L.length := by rw [← hW, List.length_map]
  induction d with
  | zero =>
    intro k i acc hi hd hk hp hm
    obtain ⟨k, rfl⟩ : ∃ n, k = n + 1 := ⟨k - 1, by omega⟩
    rw [List.take_of_length_le (by omega)] at hm
    have al : acc.length = L.length := by rw [← wl, ← hm, List.length_map]
    have lim : L.length ≤ 1048576 := by
      apply hne
      cases acc with
      | nil => simp at al; omega
      | cons p a =>
        refine ⟨ptL p, a.map ptL, by rw [← hm]; rfl, ?_⟩
        rw [ptL_eq]
        simp
    obtain ⟨r, e1, _, e3⟩ := cur_f acc (pt_smp hp) (by omega) k (by omega)
    simp only [spec_ReadCurve.l0]
    rw [if_neg (by omega), e1, Option.bind_some]
    cases r with
    | true =>
      rw [if_pos rfl]
      exact ⟨_, rfl, .inl ⟨acc, rfl, e3 rfl, hm⟩⟩
    | false =>
      rw [if_neg (by simp)]
      refine ⟨_, rfl, .inr ⟨rfl, fun c hc e => ?_⟩⟩
      have := map_inj hp (cur_pt hc) (hm.trans e.symm)
      subst this
      have q := (cur_t acc hc k (by omega)).1
      rw [e1] at q
      simp at q
  | succ d ih =>
    intro k i acc hi hd hk hp hm
    obtain ⟨k, rfl⟩ : ∃ n, k = n + 1 := ⟨k - 1, by omega⟩
    have hi : i < L.length := by omega
    obtain ⟨w, hw⟩ : ∃ w, L[i] = w := ⟨_, rfl⟩
    have hwm : w ∈ L := by rw [← hw]; exact List.getElem_mem hi
    have rw_ : rdOf ByteArray.empty L (i : Int) = w := by rw [← hw]; simp [rdOf, List.getD_eq_getElem?_getD, hi]
    have wW : W[i]? = some w.data.toList := by rw [← hW, List.getElem?_map, List.getElem?_eq_getElem hi, hw]; rfl
    have ws := hs w hwm
    obtain ⟨L2, s1, s2⟩ := split_f w 58 (by omega) k (by omega)
    have s1' : spec_l01Split.f k w 58 = some L2 := s1
    have al : acc.length = i := by
      have := congrArg List.length hm
      rw [List.length_map, List.length_take] at this
      omega
    have hq : ∀ c : List S78, Cur c → c.map ptL = W → ∃ q : S78, Pt q ∧ L2.map (·.data.toList) = [(decB q.f0).data.toList, (decB q.f1).data.toList] := by
      intro c hc e
      have l : c.length = W.length := by rw [← e, List.length_map]
      have hic : i < c.length := by omega
      have hq := cur_pt hc c[i] (List.getElem_mem _)
      refine ⟨c[i], hq, ?_⟩
      rw [s2, ← ptL_spl _ hq]
      congr 1
      have : W[i]? = some (ptL c[i]) := by rw [← e, List.getElem?_map, List.getElem?_eq_getElem hic]; rfl
      rw [wW] at this
      exact Option.some.inj this
    simp only [spec_ReadCurve.l0]
    rw [if_pos (by omega), if_pos (by omega), rw_, s1', Option.bind_some]
    by_cases two : (L2.length : Int) = 2
    · rw [if_pos two, if_pos (by omega)]
      obtain ⟨a, b, rfl⟩ : ∃ a b, L2 = [a, b] := by
        match L2, (show L2.length = 2 by omega) with
        | [a, b], _ => exact ⟨a, b, rfl⟩
      have ra : rdOf ByteArray.empty [a, b] 0 = a := rfl
      have rb : rdOf ByteArray.empty [a, b] 1 = b := rfl
      have g1 : (1 : Int) < (([a, b] : List ByteArray).length : Int) := by rw [two]; omega
      obtain ⟨x, o1, e1⟩ := sgn_tot a k (by omega)
      obtain ⟨y, o2, e2⟩ := num_tot b k (by omega)
      rw [ra, e1, Option.bind_some, if_pos g1, rb, e2, Option.bind_some]
      simp only [place_f, dens_f, Option.bind_some]
      have no : ¬ (o1 = true ∧ o2 = true ∧ (-200 ≤ x ∧ x ≤ 200) ∧ (0 ≤ y ∧ y ≤ 400)) → ∀ c : List S78, Cur c → c.map ptL ≠ W := by
        intro hn c hc e
        obtain ⟨q, hq1, hq2⟩ := hq c hc e
        simp only [List.map_cons, List.map_nil, List.cons.injEq, and_true] at hq2
        have ea : a = decB q.f0 := ba_ext hq2.1
        have eb : b = decB q.f1 := ba_ext hq2.2
        unfold Pt at hq1
        rw [ea, (rd_f q.f0 (by omega) k (by omega)).1] at e1
        rw [eb, rn_f q.f1 (by omega) k (by omega)] at e2
        simp only [Option.some.injEq, Prod.mk.injEq] at e1 e2
        exact hn ⟨e1.2.symm, e2.2.symm, by omega, by omega⟩
      by_cases ok : o1 = true ∧ o2 = true ∧ (-200 ≤ x ∧ x ≤ 200) ∧ (0 ≤ y ∧ y ≤ 400)
      · obtain ⟨rfl, rfl, hx, hy⟩ := ok
        have ea := sgn_inv a k x e1 (by omega) (by omega)
        have eb := (num_inv b k y e2 (by omega)).2
        rw [if_pos rfl, if_pos rfl, if_pos (decide_eq_true hx), if_pos (decide_eq_true hy), if_pos (by omega), i16w (x := x) (by omega) (by omega), i16w (x := y) (by omega) (by omega), w64 (x := (i : Int) + 1) (by omega) (by omega)]
        refine ih k (i + 1) (acc ++ [⟨x, y⟩]) (by omega) (by omega) (by omega) (fun p hpm => ?_) ?_
        · rcases List.mem_append.1 hpm with h | h
          · exact hp p h
          · rw [List.mem_singleton.1 h]
            exact ⟨hx, hy⟩
        · rw [List.map_append, hm, List.take_add_one, wW]
          congr 1
          have j := spl_join 58 w.data.toList
          rw [← s2] at j
          simp only [List.map_cons, List.map_nil] at j
          rw [Lib.join_cons, jt_cons] at j
          show [ptL (⟨x, y⟩ : S78)] = [w.data.toList]
          rw [ptL_eq, ← j, ea, eb]
          simp [Lib.joinTail]
      · refine ⟨([], 5), ?_, .inr ⟨rfl, no ok⟩⟩
        cases o1 with
        | false => simp
        | true =>
          cases o2 with
          | false => simp
          | true =>
            by_cases hx : -200 ≤ x ∧ x ≤ 200
            · by_cases hy : 0 ≤ y ∧ y ≤ 400
              · exact absurd ⟨rfl, rfl, hx, hy⟩ ok
              · simp [hx, hy]
            · simp [hx]
    · rw [if_neg two]
      refine ⟨_, rfl, .inr ⟨rfl, fun c hc e => ?_⟩⟩
      obtain ⟨q, _, h⟩ := hq c hc e
      have := congrArg List.length h
      rw [List.length_map] at this
      exact two (by rw [this]; rfl)
theorem i16r (x : Int) : -32768 ≤ IntKind.i16.wrap x ∧ IntKind.i16.wrap x ≤ 32767 := by
  show -32768 ≤ (if (true && decide (x % 65536 ≥ 32768)) = true then x % 65536 - 65536 else x % 65536) ∧ (if (true && decide (x % 65536 ≥ 32768)) = true then x % 65536 - 65536 else x % 65536) ≤ 32767
  by_cases e : x % 65536 ≥ 32768
  · rw [if_pos (by simpa using e)]; omega
  · rw [if_neg (by simpa using e)]; omega
theorem cut_sz (l s : List UInt8) : (Lib.cut l s).1.length ≤ l.length ∧ (Lib.cut l s).2.1.length ≤ l.length := by
  unfold Lib.cut
  split
  · simp only [List.length_take, List.length_drop]
    omega
  · simp
/-- the program's loop over the words: where it ends well, the text is that of the curve -/
theorem ird_l (s : ByteArray) (R : List ByteArray) (hs : ∀ w ∈ R, w.size ≤ 1048576) (hn : R.length ≤ 13) (d : Nat) : ∀ (k i : Nat) (acc : List S78), i ≤ R.length → R.length - i = d → d + 100 < k → SmP acc → acc.length = i →
    ∃ r, impl_ReadCurve.l0 k s acc R (R.length : Int) i = some r ∧ (r = ([], 5) ∨ ∃ c, r = (c, 0) ∧ Cur c ∧ s.data.toList = Lib.join (c.map ptL) [32]) := by
  induction d with
  | zero =>
    intro k i acc hi hd hk hp hm
    obtain ⟨k, rfl⟩ : ∃ n, k = n + 1 := ⟨k - 1, by omega⟩
    obtain ⟨r, _, e2, e3⟩ := cur_f acc hp (by omega) k (by omega)
    simp only [impl_ReadCurve.l0]
    rw [if_neg (by omega), e2, Option.bind_some]
    cases r with
    | true =>
      obtain ⟨v, v1, v2⟩ := ictext_f acc (e3 rfl) k (by omega)
      rw [if_pos rfl, v1, Option.bind_some, Lib.toList_data, Lib.toList_data]
      by_cases q : v.data.toList = s.data.toList
      · rw [if_pos q]
        exact ⟨_, rfl, .inr ⟨acc, rfl, e3 rfl, by rw [← q, v2]⟩⟩
      · rw [if_neg q]
        exact ⟨_, rfl, .inl rfl⟩
    | false =>
      rw [if_neg (by simp)]
      exact ⟨_, rfl, .inl rfl⟩
  | succ d ih =>
    intro k i acc hi hd hk hp hm
    obtain ⟨k, rfl⟩ : ∃ n, k = n + 1 := ⟨k - 1, by omega⟩
    have hi : i < R.length := by omega
    obtain ⟨w, hw⟩ : ∃ w, R[i] = w := ⟨_, rfl⟩
    have hwm : w ∈ R := by rw [← hw]; exact List.getElem_mem hi
    have rw_ : rdOf ByteArray.empty R (i : Int) = w := by rw [← hw]; simp [rdOf, List.getD_eq_getElem?_getD, hi]
    have ws := hs w hwm
    have wl := size_list w
    obtain ⟨z1, z2⟩ := cut_sz w.data.toList (⟨#[58]⟩ : ByteArray).data.toList
    obtain ⟨A, hA⟩ : ∃ A, (⟨(Lib.cut w.data.toList (⟨#[58]⟩ : ByteArray).data.toList).1.toArray⟩ : ByteArray) = A := ⟨_, rfl⟩
    obtain ⟨B, hB⟩ : ∃ B, (⟨(Lib.cut w.data.toList (⟨#[58]⟩ : ByteArray).data.toList).2.1.toArray⟩ : ByteArray) = B := ⟨_, rfl⟩
    have sA : A.size ≤ 1048576 := by rw [← hA, ← size_list]; show (Lib.cut _ _).1.length ≤ _; omega
    have sB : B.size ≤ 1048576 := by rw [← hB, ← size_list]; show (Lib.cut _ _).2.1.length ≤ _; omega
    have e0 : strings_Cut.f w (⟨#[58]⟩ : ByteArray) = some (A, B, (Lib.cut w.data.toList (⟨#[58]⟩ : ByteArray).data.toList).2.2) := by
      unfold strings_Cut.f
      rw [if_pos (by omega), hA, hB]
    have pa : ∀ t : ByteArray, t.size ≤ 1048576 → strconv_ParseInt.f t 10 16 = some (strconv_ParseInt.v t.data.toList, strconv_ParseInt.b t.data.toList) := fun t ht => by
      unfold strconv_ParseInt.f
      rw [if_pos ⟨rfl, rfl, by omega⟩]
    simp only [impl_ReadCurve.l0]
    rw [if_pos (by omega), if_pos (by omega), if_pos (by omega), rw_, e0, Option.bind_some]
    simp only []
    rw [pa A sA, Option.bind_some, pa B sB, Option.bind_some]
    simp only []
    split
    · exact ⟨_, rfl, .inl rfl⟩
    · split
      · exact ⟨_, rfl, .inl rfl⟩
      · rw [if_pos (by omega), w64 (x := (i : Int) + 1) (by omega) (by omega)]
        refine ih k (i + 1) _ (by omega) (by omega) (by omega) (fun p hpm => ?_) (by rw [List.length_append, List.length_singleton]; omega)
        rcases List.mem_append.1 hpm with h | h
        · exact hp p h
        · rw [List.mem_singleton.1 h]
          exact ⟨i16r _, i16r _⟩
/-- .. and at the text of a curve it ends well -/
theorem icp_l (s : ByteArray) (R : List ByteArray) (c : List S78) (hc : Cur c) (hR : R.map (·.data.toList) = c.map ptL) (hs : s.data.toList = Lib.join (c.map ptL) [32]) (d : Nat) : ∀ (k i : Nat), i ≤ c.length → c.length - i = d → d + 100 < k →
    impl_ReadCurve.l0 k s (c.take i) R (R.length : Int) i = some (c, 0) := by
  have rl : R.length = c.length := by
    have := congrArg List.length hR
    rw [List.length_map, List.length_map] at this
    exact this
  have cl := hc.1
  induction d with
  | zero =>
    intro k i hi hd hk
    obtain ⟨k, rfl⟩ : ∃ n, k = n + 1 := ⟨k - 1, by omega⟩
    obtain ⟨v, v1, v2⟩ := ictext_f c hc k (by omega)
    simp only [impl_ReadCurve.l0]
    rw [if_neg (by omega), List.take_of_length_le (by omega), (cur_t c hc k (by omega)).2, Option.bind_some, if_pos rfl, v1, Option.bind_some, Lib.toList_data, Lib.toList_data, if_pos (by rw [v2, hs])]
  | succ d ih =>
    intro k i hi hd hk
    obtain ⟨k, rfl⟩ : ∃ n, k = n + 1 := ⟨k - 1, by omega⟩
    have hi : i < c.length := by omega
    have hir : i < R.length := by omega
    have hp := cur_pt hc c[i] (List.getElem_mem _)
    obtain ⟨w, hw⟩ : ∃ w, R[i] = w := ⟨_, rfl⟩
    have rw_ : rdOf ByteArray.empty R (i : Int) = w := by rw [← hw]; simp [rdOf, List.getD_eq_getElem?_getD, hir]
    have we : w.data.toList = ptL c[i] := by
      have h1 : (R.map (·.data.toList))[i]? = some w.data.toList := by rw [List.getElem?_map, List.getElem?_eq_getElem hir, hw]; rfl
      rw [hR, List.getElem?_map, List.getElem?_eq_getElem hi] at h1
      exact (Option.some.inj h1).symm
    have wb : w = ptB c[i] := ba_ext we
    have ws : w.size ≤ 9 := by rw [wb]; exact (ptB_size _ hp).1
    have e0 : strings_Cut.f w (⟨#[58]⟩ : ByteArray) = some (decB c[i].f0, decB c[i].f1, true) := by
      unfold strings_Cut.f
      have cu : Lib.cut w.data.toList (⟨#[58]⟩ : ByteArray).data.toList = ((decB c[i].f0).data.toList, (decB c[i].f1).data.toList, true) := by rw [we]; exact ptL_cut _ hp
      rw [if_pos (by omega), cu]
    unfold Pt at hp
    simp only [impl_ReadCurve.l0]
    rw [if_pos (by omega), if_pos (by omega), if_pos (by omega), rw_, e0, Option.bind_some]
    simp only []
    rw [(rd_f c[i].f0 (by omega) 20 (by omega)).2.1, Option.bind_some, (rd_f c[i].f1 (by omega) 20 (by omega)).2.1, Option.bind_some]
    simp only [Bool.false_eq_true, if_false]
    rw [if_pos (by rw [List.length_take]; omega), w64 (x := (i : Int) + 1) (by omega) (by omega), i16w (x := c[i].f0) (by omega) (by omega), i16w (x := c[i].f1) (by omega) (by omega)]
    have tk : c.take i ++ [(⟨c[i].f0, c[i].f1⟩ : S78)] = c.take (i + 1) := by
      rw [List.take_add_one, List.getElem?_eq_getElem hi]
      rfl
    rw [tk]
    exact ih k (i + 1) (by omega) (by omega) (by omega)
/-- both readers, at every text -/
theorem rc_f (s : ByteArray) (hs : s.size ≤ 1048576) (k : Nat) (hk : 2300000 < k) : ∃ r, spec_ReadCurve.f k s = some r ∧ impl_ReadCurve.f k s = some r ∧ r.1.length ≤ 12 := by
  have sl := size_list s
  obtain ⟨L, l1, l2⟩ := split_f s 32 (by omega) k (by omega)
  have l1' : spec_l01Split.f k s 32 = some L := l1
  have ln := spl_len 32 s.data.toList
  have ll : L.length = (spl 32 s.data.toList).length := by rw [← l2, List.length_map]
  obtain ⟨hd, tl, ht⟩ := spl_ne 32 s.data.toList
  have wsz : ∀ w ∈ L, w.size ≤ 1048576 := fun w hw => by
    have := spl_sz 32 s.data.toList w.data.toList (by rw [← l2]; exact List.mem_map_of_mem hw)
    rw [size_list] at this
    omega
  obtain ⟨r, r1, r2⟩ := srd_l L _ l2 wsz (by omega) (by rw [ll, ht]; simp) (fun ⟨w, t, e, hw⟩ => by have := spl_len1 32 _ w t e hw; omega) L.length k 0 [] (by omega) (by omega) (by omega) (fun p hp => by simp at hp) rfl
  have r1' : spec_ReadCurve.l0 k L [] 0 = some r := r1
  obtain ⟨R, q1, q2⟩ : ∃ R, strings_SplitN.f s (⟨#[32]⟩ : ByteArray) 13 = some R ∧ R.map (·.data.toList) = Lib.splitK [32] 0 (min 13 (s.size + 1) - 1) s.data.toList := by
    refine ⟨Lib.splitB (⟨#[32]⟩ : ByteArray) 0 (min 13 (s.size + 1) - 1) s, ?_, Lib.splitB_data _ _ _ _⟩
    unfold strings_SplitN.f
    rw [if_pos (by omega), if_pos (by decide), if_pos (by omega)]
    rfl
  have rl : R.length ≤ 13 := by
    have := splitK_len 32 (min 13 (s.size + 1) - 1) s.data.toList
    rw [← q2, List.length_map] at this
    omega
  have rsz : ∀ w ∈ R, w.size ≤ 1048576 := fun w hw => by
    have := splitK_sz 32 (min 13 (s.size + 1) - 1) s.data.toList w.data.toList (by rw [← q2]; exact List.mem_map_of_mem hw)
    rw [size_list] at this
    omega
  obtain ⟨z, z1, z2⟩ := ird_l s R rsz rl R.length k 0 [] (by omega) (by omega) (by omega) (fun p hp => by simp at hp) rfl
  have z1' : impl_ReadCurve.l0 k s [] R (R.length : Int) 0 = some z := z1
  have es : spec_ReadCurve.f k s = some r := by
    unfold spec_ReadCurve.f
    rw [l1', Option.bind_some, r1']
  have ei : impl_ReadCurve.f k s = some z := by
    unfold impl_ReadCurve.f
    rw [q1, Option.bind_some, z1']
  refine ⟨r, es, ?_, ?_⟩
  · rw [ei]
    rcases r2 with ⟨c, rfl, hc, hw⟩ | ⟨rfl, hno⟩
    · have js : s.data.toList = Lib.join (c.map ptL) [32] := by rw [hw, spl_join]
      have cl := hc.1
      have c0 := hc.2.1
      have k1 := (splitK_spl 32 (min 13 (s.size + 1) - 1) s.data.toList).1 (by rw [← hw, List.length_map]; rw [← hw, List.length_map] at ln; omega)
      have hR : R.map (·.data.toList) = c.map ptL := by rw [q2, k1, hw]
      have w := icp_l s R c hc hR js c.length k 0 (by omega) (by omega) (by omega)
      have w' : impl_ReadCurve.l0 k s [] R (R.length : Int) 0 = some (c, 0) := w
      rw [z1'] at w'
      exact w'
    · rcases z2 with rfl | ⟨c, rfl, hc, hj⟩
      · rfl
      · exfalso
        have c0 := hc.2.1
        obtain ⟨p, t, e⟩ : ∃ p t, c = p :: t := by
          cases c with
          | nil => simp at c0
          | cons p t => exact ⟨p, t, rfl⟩
        refine hno c hc ?_
        rw [hj, e, List.map_cons, join_spl]
        intro x hx
        have hx' : x ∈ c.map ptL := by rw [e, List.map_cons]; exact hx
        obtain ⟨q, hq, rfl⟩ := List.mem_map.1 hx'
        exact ptL_no32 q (cur_pt hc q hq)
  · rcases r2 with ⟨c, rfl, hc, _⟩ | ⟨rfl, _⟩
    · exact hc.1
    · exact Nat.zero_le _
theorem eqCurve_l (l : List S78) (hl : l.length ≤ 1048576) (d : Nat) : ∀ (k : Nat) (i : Nat), i ≤ l.length → l.length - i = d → d < k → laws_eqCurve.l0 k l l i = some true := by
  induction d with
  | zero =>
    intro k i h0 hd hk
    obtain ⟨k, rfl⟩ : ∃ n, k = n + 1 := ⟨k - 1, by omega⟩
    simp only [laws_eqCurve.l0]
    rw [if_neg (by omega)]
  | succ d ih =>
    intro k i h0 hd hk
    obtain ⟨k, rfl⟩ : ∃ n, k = n + 1 := ⟨k - 1, by omega⟩
    simp only [laws_eqCurve.l0, laws_eqPoint.f, if_true, Option.bind_some]
    rw [if_pos (by omega), if_pos (by omega), if_pos (by omega), w64 (by omega) (by omega)]
    exact ih k (i + 1) (by omega) (by omega) (by omega)
theorem eqCurve_f (l : List S78) (hl : l.length ≤ 1048576) (k : Nat) (hk : l.length < k) : laws_eqCurve.f k l l = some true := by
  unfold laws_eqCurve.f
  rw [if_pos rfl]
  exact eqCurve_l l hl l.length k 0 (by omega) (by omega) hk
def mkCurve (s : Int) : S78 := ⟨IntKind.i16.wrap s, IntKind.i16.wrap (s + 1)⟩
theorem markCurve_l (n : Nat) (hn : n ≤ 1048576) (d : Nat) : ∀ (k : Nat) (l : List S78) (s : Int) (i : Nat), l.length = n → i ≤ n → n - i = d → d < k → 0 ≤ s → s + 2 * d ≤ 100000000000 →
    ∃ l', laws_markCurve.l0 k l s i = some (s + 2 * d, l') ∧ l'.length = n ∧ (∀ j, j < i → l'.getD j z78 = l.getD j z78) ∧ (∀ j : Nat, i ≤ j → j < n → l'.getD j z78 = mkCurve (s + 2 * ((j : Int) - i))) := by
  induction d with
  | zero =>
    intro k l s i hl h0 hd hk hs hb
    obtain ⟨k, rfl⟩ : ∃ n, k = n + 1 := ⟨k - 1, by omega⟩
    simp only [laws_markCurve.l0]
    rw [if_neg (by omega)]
    exact ⟨l, by simp, hl, fun j hj => rfl, fun j j0 j1 => by omega⟩
  | succ d ih =>
    intro k l s i hl h0 hd hk hs hb
    obtain ⟨k, rfl⟩ : ∃ n, k = n + 1 := ⟨k - 1, by omega⟩
    simp only [laws_markCurve.l0]
    rw [if_pos (by omega), if_pos (by omega), Option.bind_some, w64 (x := s + 1) (by omega) (by omega), w64 (x := s + 1 + 1) (by omega) (by omega), w64 (x := (i : Int) + 1) (by omega) (by omega)]
    have hset : ∀ x : S78, (l.set i x).getD i z78 = x := fun x => getD_set_eq _ _ _ _ (by omega)
    simp only [rd_T78, Int.toNat_natCast, List.set_set, hset]
    obtain ⟨l', e1, e2, e3, e4⟩ := ih k (l.set i (mkCurve s)) (s + 1 + 1) (i + 1) (by simpa using hl) (by omega) (by omega) (by omega) (by omega) (by omega)
    refine ⟨l', ?_, e2, fun j hj => ?_, fun j j0 j1 => ?_⟩
    · rw [show s + 2 * ((d + 1 : Nat) : Int) = s + 1 + 1 + 2 * (d : Int) by omega]
      exact e1
    · rw [e3 j (by omega), getD_set_ne _ _ _ _ _ (by omega)]
    · by_cases c : j = i
      · subst c
        rw [e3 j (by omega), getD_set_eq _ _ _ _ (by omega)]
        congr 1
        omega
      · rw [e4 j (by omega) j1]
        congr 1
        omega
theorem markCurve_r (l : List S78) (hl : l.length ≤ 1048576) (k : Nat) (hk : l.length < k) : ∃ l', laws_markCurve.f k l 1 = some (1 + 2 * (l.length : Int), l') := by
  obtain ⟨l', e1, e2, _, e4⟩ := markCurve_l l.length hl l.length k l 1 0 rfl (by omega) (by omega) hk (by omega) (by omega)
  exact ⟨l', e1⟩
theorem markCurve_s (l : List S78) (s : Int) (hs : 0 ≤ s ∧ s ≤ 10000000) (hl : l.length ≤ 1048576) (k : Nat) (hk : l.length < k) : ∃ l', laws_markCurve.f k l s = some (s + 2 * (l.length : Int), l') := by
  obtain ⟨l', e1, e2, _, e4⟩ := markCurve_l l.length hl l.length k l s 0 rfl (by omega) (by omega) hk (by omega) (by omega)
  exact ⟨l', e1⟩
theorem heldCurve_l (n : Nat) (hn : n ≤ 1048576) (l : List S78) (hl : l.length = n) (d : Nat) : ∀ (k : Nat) (s : Int) (i : Nat), i ≤ n → n - i = d → d < k → 0 ≤ s → s + 2 * d ≤ 100000000000 → (∀ j : Nat, i ≤ j → j < n → l.getD j z78 = mkCurve (s + 2 * ((j : Int) - i))) →
    laws_heldCurve.l0 k l s i = some (s + 2 * d) := by
  induction d with
  | zero =>
    intro k s i h0 hd hk hs hb hj
    obtain ⟨k, rfl⟩ : ∃ n, k = n + 1 := ⟨k - 1, by omega⟩
    simp only [laws_heldCurve.l0]
    rw [if_neg (by omega)]
    simp
  | succ d ih =>
    intro k s i h0 hd hk hs hb hj
    obtain ⟨k, rfl⟩ : ∃ n, k = n + 1 := ⟨k - 1, by omega⟩
    have e := hj i (by omega) (by omega)
    rw [show s + 2 * ((i : Int) - i) = s by omega] at e
    have e' : rd_T78 l i = mkCurve s := by rw [rd_T78, Int.toNat_natCast]; exact e
    have c1 : (i : Int) < (l.length : Int) := by omega
    have c2 : 0 ≤ (i : Int) := by omega
    simp only [laws_heldCurve.l0, e', mkCurve, w64 (x := s + 1) (by omega) (by omega), w64 (x := s + 1 + 1) (by omega) (by omega), w64 (x := (i : Int) + 1) (by omega) (by omega), c1, c2, if_true]
    rw [show s + 2 * ((d + 1 : Nat) : Int) = s + 1 + 1 + 2 * (d : Int) by omega]
    refine ih k (s + 1 + 1) (i + 1) (by omega) (by omega) (by omega) (by omega) (by omega) (fun j j0 j1 => ?_)
    rw [hj j (by omega) j1]
    congr 1
    omega
theorem markCurve_f (l : List S78) (hl : l.length ≤ 1048576) (k : Nat) (hk : l.length < k) : ∃ l', laws_markCurve.f k l 1 = some (1 + 2 * (l.length : Int), l') ∧ l'.length = l.length ∧ ∀ k', l.length < k' → laws_heldCurve.f k' l' 1 = some (1 + 2 * (l.length : Int)) := by
  obtain ⟨l', e1, e2, _, e4⟩ := markCurve_l l.length hl l.length k l 1 0 rfl (by omega) (by omega) hk (by omega) (by omega)
  exact ⟨l', e1, e2, fun k' hk' => heldCurve_l l.length hl l' e2 l.length k' 1 0 (by omega) (by omega) hk' (by omega) (by omega) e4⟩
theorem up {α : Type} {g : Nat → Option α} (h : ∀ k, LeO (g k) (g (k + 1))) {r q : α} (i j : Nat) (hr : g i = some r) (hq : g j = some q) : g j = some r := by
  have a := at_rounds h (Nat.le_max_left i j) hr
  have b := at_rounds h (Nat.le_max_right i j) hq
  rw [a] at b
  rw [hq, Option.some.inj b]
theorem FnExactReadCurve : laws_FnExactReadCurve.Pure := by
  intro s hs
  refine ⟨3000000, ?_⟩
  unfold laws_FnExactReadCurve.f
  by_cases c : (s.size : Int) > 1048576
  · rw [if_pos c]
  · rw [if_neg c]
    obtain ⟨z, z1, z2, z3⟩ := rc_f s (by omega) 3000000 (by omega)
    obtain ⟨y, y1, y2, y3⟩ := rc_f s (by omega) 2999999 (by omega)
    have hz : impl_ReadCurve.f 2999999 s = some z := up (impl_ReadCurve.mono s) 3000000 2999999 z2 y2
    obtain ⟨l3, n1, n2, n3⟩ := markCurve_f z.1 (by omega) 2999999 (by omega)
    have q0 : ∀ k, 2999990 ≤ k → laws_eqCurve.f k z.1 z.1 = some true := fun k hk => eqCurve_f _ (by omega) k (by omega)
    simp only [Option.bind_some, z1, z2, q0 3000000 (by omega), if_true, bne_self_eq_false]
    simp only [laws_FnExactReadCurve.j0, Bool.false_eq_true, if_false, n1, Option.bind_some, n3 2999999 (by omega), if_true, hz, q0 2999999 (by omega), bne_self_eq_false]
    rw [if_neg (by omega)]
    simp only [laws_FnExactReadCurve.j1, Bool.false_eq_true, if_false, n3 2999998 (by omega), Option.bind_some, if_true]
    rw [if_neg (by omega)]

end Go.Proofs.YtfhbjjkkhjijmaaDoor.Pure
