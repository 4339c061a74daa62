/- Proves, in plain numbers and lists, that the law FnExactMeteredFor answers true at all inputs. No condition is added. -/
import Derived.Test.YtclneihcbnbmbaaPFnExactMeteredForx0
import Derived.Test.YtclneihcbnbmbaaPFnExactMeteredForx1
import Derived.Test.YtclneihcbnbmbaaPFnExactMeteredForx2
import Derived.Test.YtclneihcbnbmbaaPFnExactMeteredForx3
import Derived.Test.YtclneihcbnbmbaaPFnExactMeteredForx4
import Derived.Test.YtclneihcbnbmbaaPFnExactMeteredForx5
namespace Go.Proofs.Ytclneihcbnbmbaa.Pure
open Go.RowKit Go.Proofs.Ytclneihcbnbmbaa.PFnExactMeteredFor Go.Proofs.YtclneihcbnbmbaaW.PrintWords Go.Proofs.YtclneihcbnbmbaaW.PrintLast Go.Proofs.YtclneihcbnbmbaaW.PrintMore
set_option linter.unusedVariables false
set_option linter.unusedSimpArgs false
theorem w64 {x : Int} (h : -9223372036854775808 ≤ x) (h' : x ≤ 9223372036854775807) : wrap64 x = x := by unfold wrap64; omega
theorem wf8 {x : Int} (h : (Lit.int .i8 x).wf = true) : -128 ≤ x ∧ x ≤ 127 := by
  have h2 : (decide ((-128 : Int) ≤ x) && decide (x ≤ 127)) = true := h
  simpa using h2
theorem wf16 {x : Int} (h : (Lit.int .i16 x).wf = true) : -32768 ≤ x ∧ x ≤ 32767 := by
  have h2 : (decide ((-32768 : Int) ≤ x) && decide (x ≤ 32767)) = true := h
  simpa using h2
theorem wf64 {x : Int} (h : (Lit.int .i64 x).wf = true) : -9223372036854775808 ≤ x ∧ x ≤ 9223372036854775807 := by
  have h2 : (decide ((-9223372036854775808 : Int) ≤ x) && decide (x ≤ 9223372036854775807)) = true := h
  simpa using h2
theorem wfu64 {x : Int} (h : (Lit.int .u64 x).wf = true) : 0 ≤ x ∧ x ≤ 18446744073709551615 := by
  have h2 : (decide ((0 : Int) ≤ x) && decide (x ≤ 18446744073709551615)) = true := h
  simpa using h2
theorem i8w {x : Int} (h : -128 ≤ x) (h' : x ≤ 127) : IntKind.i8.wrap x = x := by
  show (if (true && decide (x % 256 ≥ 128)) = true then x % 256 - 256 else x % 256) = x
  by_cases e : x % 256 ≥ 128
  · rw [if_pos (by simpa using e)]; omega
  · rw [if_neg (by simpa using e)]; omega
theorem i16w {x : Int} (h : -32768 ≤ x) (h' : x ≤ 32767) : IntKind.i16.wrap x = x := by
  show (if (true && decide (x % 65536 ≥ 32768)) = true then x % 65536 - 65536 else x % 65536) = x
  by_cases e : x % 65536 ≥ 32768
  · rw [if_pos (by simpa using e)]; omega
  · rw [if_neg (by simpa using e)]; omega
theorem u64w {x : Int} (h : 0 ≤ x) (h' : x ≤ 18446744073709551615) : IntKind.u64.wrap x = x := by
  show (if (false && decide (x % 18446744073709551616 ≥ 9223372036854775808)) = true then x % 18446744073709551616 - 18446744073709551616 else x % 18446744073709551616) = x
  rw [if_neg (by simp)]; omega
theorem szLongS_f (l : List S70) (hl : l.length ≤ 9223372036854775807) : laws_szLongS.f l 1048576 = some (if l.length ≤ 1048576 then 1048576 - (l.length : Int) else -1) := by
  unfold laws_szLongS.f
  rw [w64 (by omega) (by omega)]
  by_cases c : l.length ≤ 1048576
  · rw [if_neg (by omega), if_pos c]
  · rw [if_pos (by omega), if_neg c]
theorem set_nextg {α β : Type} (f : α → β) (z : β) (d : α) (l : List α) (i : Nat) (h : i < l.length) : ((l.take i).map f ++ List.replicate (l.length - i) z).set i (f (l.getD i d)) = (l.take (i + 1)).map f ++ List.replicate (l.length - (i + 1)) z := by
  apply List.ext_getElem
  · simp; omega
  · intro j h1 h2
    simp only [List.getElem_set, List.getElem_append, List.length_map, List.length_take, List.getElem_map, List.getElem_take, List.getElem_replicate]
    by_cases e : i = j
    · subst e
      rw [if_pos rfl, dif_pos (by omega)]
      simp [h]
    · rw [if_neg e]
      by_cases c : j < i
      · rw [dif_pos (by omega), dif_pos (by omega)]
      · rw [dif_neg (by omega), dif_neg (by omega)]
theorem getD_mem {α : Type} (l : List α) (i : Nat) (d : α) (h : i < l.length) : l.getD i d ∈ l := by
  rw [List.getD_eq_getElem?_getD, List.getElem?_eq_getElem h]
  exact List.getElem_mem h
theorem getD_set_ne {α : Type} (l : List α) (i j : Nat) (x d : α) (h : i ≠ j) : (l.set i x).getD j d = l.getD j d := by
  simp [List.getD_eq_getElem?_getD, List.getElem?_set_ne h]
theorem getD_set_eq {α : Type} (l : List α) (i : Nat) (x d : α) (h : i < l.length) : (l.set i x).getD i d = x := by
  simp [List.getD_eq_getElem?_getD, List.getElem?_set_self h]
def cvLongS (x : S70) : S68 := ⟨x.f0, x.f1⟩
theorem toLongS_l (l : List S70) (hl : l.length ≤ 1048576) (d : Nat) : ∀ (k : Nat) (i : Nat), i ≤ l.length → l.length - i = d → d < k → laws_toLongS.l0 k l ((l.take i).map cvLongS ++ List.replicate (l.length - i) z68) i = some (l.map cvLongS) := by
  induction d with
  | zero =>
    intro k i h0 hd hk
    obtain ⟨k, rfl⟩ : ∃ n, k = n + 1 := ⟨k - 1, by omega⟩
    have e : i = l.length := by omega
    subst e
    simp only [laws_toLongS.l0]
    rw [if_neg (by omega)]
    simp
  | succ d ih =>
    intro k i h0 hd hk
    obtain ⟨k, rfl⟩ : ∃ n, k = n + 1 := ⟨k - 1, by omega⟩
    simp only [laws_toLongS.l0, laws_toLong.f, Option.bind_some]
    rw [if_pos (by omega), if_pos (by omega), if_pos (by simp; omega), w64 (by omega) (by omega)]
    have e := ih k (i + 1) (by omega) (by omega) (by omega)
    rw [← set_nextg cvLongS z68 z70 l i (by omega)] at e
    simpa [rd_T70, cvLongS] using e
theorem toLongS_f (l : List S70) (hl : l.length ≤ 1048576) (k : Nat) (hk : l.length < k) : laws_toLongS.f k l = some (l.map cvLongS) := by
  have e := toLongS_l l hl l.length k 0 (by omega) (by omega) hk
  unfold laws_toLongS.f
  rw [if_pos (by omega), if_pos (by omega)]
  simpa using e
theorem eqLongS_l (l : List S68) (hl : l.length ≤ 1048576) (d : Nat) : ∀ (k : Nat) (i : Nat), i ≤ l.length → l.length - i = d → d < k → laws_eqLongS.l0 k l l i = some true := by
  induction d with
  | zero =>
    intro k i h0 hd hk
    obtain ⟨k, rfl⟩ : ∃ n, k = n + 1 := ⟨k - 1, by omega⟩
    simp only [laws_eqLongS.l0]
    rw [if_neg (by omega)]
  | succ d ih =>
    intro k i h0 hd hk
    obtain ⟨k, rfl⟩ : ∃ n, k = n + 1 := ⟨k - 1, by omega⟩
    simp only [laws_eqLongS.l0, laws_eqLong.f, if_true, Option.bind_some]
    rw [if_pos (by omega), if_pos (by omega), if_pos (by omega), w64 (by omega) (by omega)]
    exact ih k (i + 1) (by omega) (by omega) (by omega)
theorem eqLongS_f (l : List S68) (hl : l.length ≤ 1048576) (k : Nat) (hk : l.length < k) : laws_eqLongS.f k l l = some true := by
  unfold laws_eqLongS.f
  rw [if_pos rfl]
  exact eqLongS_l l hl l.length k 0 (by omega) (by omega) hk
theorem in_f (a b c : Int) : spec_l00In.f a b c = some (decide (b ≤ a ∧ a ≤ c)) := by
  unfold spec_l00In.f
  by_cases h : b ≤ a <;> simp [h]
theorem within_f (a b c : Int) : impl_within.f a b c = some (decide (b ≤ a ∧ a ≤ c)) := by
  unfold impl_within.f
  by_cases h : b ≤ a <;> simp [h]
def Sm (m : List S68) : Prop := ∀ x ∈ m, (-128 ≤ x.f0 ∧ x.f0 ≤ 127) ∧ (-128 ≤ x.f1 ∧ x.f1 ≤ 127)
theorem sm_rd {m : List S68} (h : Sm m) (i : Nat) (hi : i < m.length) : (-128 ≤ (rd_T68 m i).f0 ∧ (rd_T68 m i).f0 ≤ 127) ∧ (-128 ≤ (rd_T68 m i).f1 ∧ (rd_T68 m i).f1 ≤ 127) := by
  have := h _ (getD_mem m i z68 hi)
  simpa [rd_T68] using this
/-- entries from i on, behind one with these two numbers, are as they may be -/
def Tab (m : List S68) (i : Nat) : Prop := m.length ≤ 10 ∧ ∀ j : Nat, i ≤ j → j < m.length → (0 ≤ (rd_T68 m j).f0 ∧ (rd_T68 m j).f0 ≤ 45) ∧ (0 ≤ (rd_T68 m j).f1 ∧ (rd_T68 m j).f1 ≤ 30) ∧ (0 < j → (rd_T68 m (j - 1 : Nat)).f0 < (rd_T68 m j).f0 ∧ (rd_T68 m (j - 1 : Nat)).f1 ≤ (rd_T68 m j).f1)
theorem table_l (m : List S68) (hm : Sm m) (hl : m.length ≤ 1048576) (d : Nat) : ∀ (k : Nat) (a b : Int) (i : Nat), i ≤ m.length → m.length - i = d → d < k →
    (i = 0 ∧ a = -1 ∧ b = 0 ∨ 0 < i ∧ a = (rd_T68 m (i - 1 : Nat)).f0 ∧ b = (rd_T68 m (i - 1 : Nat)).f1 ∧ 0 ≤ a ∧ a ≤ 45 ∧ 0 ≤ b ∧ b ≤ 30) →
    ∃ r, spec_l01Table.l0 k m a b i = some r ∧ impl_ValidTable.l0 k m m (m.length : Int) i = some r ∧ (r = true → Tab m i) := by
  induction d with
  | zero =>
    intro k a b i h0 hd hk hr
    obtain ⟨k, rfl⟩ : ∃ n, k = n + 1 := ⟨k - 1, by omega⟩
    simp only [spec_l01Table.l0, impl_ValidTable.l0]
    have g1 : ¬ (i : Int) < (m.length : Int) := by omega
    simp only [g1, if_false]
    refine ⟨_, rfl, rfl, fun h => ⟨?_, fun j j0 j1 => by omega⟩⟩
    have := of_decide_eq_true h
    omega
  | succ d ih =>
    intro k a b i h0 hd hk hr
    obtain ⟨k, rfl⟩ : ∃ n, k = n + 1 := ⟨k - 1, by omega⟩
    simp only [spec_l01Table.l0, impl_ValidTable.l0, impl_isShutter.f, in_f, within_f, Option.bind_some]
    have g1 : (i : Int) < (m.length : Int) := by omega
    have g2 : 0 ≤ (i : Int) := by omega
    simp only [g1, g2, if_true]
    obtain ⟨s1, s2⟩ := sm_rd hm i (by omega)
    rw [w64 (x := (i : Int) + 1) (by omega) (by omega), w64 (x := (rd_T68 m i).f0) (by omega) (by omega), w64 (x := (rd_T68 m i).f1) (by omega) (by omega), w64 (x := a + 1) (by omega) (by omega), w64 (x := (i : Int) - 1) (by omega) (by omega)]
    have fin : ∀ r, r = true → (((0 ≤ (rd_T68 m i).f0 ∧ (rd_T68 m i).f0 ≤ 45) ∧ (0 ≤ (rd_T68 m i).f1 ∧ (rd_T68 m i).f1 ≤ 30) ∧ (0 < i → (rd_T68 m (i - 1 : Nat)).f0 < (rd_T68 m i).f0 ∧ (rd_T68 m (i - 1 : Nat)).f1 ≤ (rd_T68 m i).f1))) → (r = true → Tab m (i + 1)) → Tab m i := by
      intro r hr hi h
      obtain ⟨t1, t2⟩ := h hr
      refine ⟨t1, fun j j0 j1 => ?_⟩
      by_cases e : j = i
      · subst e; exact hi
      · exact t2 j (by omega) j1
    by_cases z : i = 0
    · subst z
      obtain ⟨_, ha, hb⟩ : (0 : Nat) = 0 ∧ a = -1 ∧ b = 0 := by rcases hr with h | h <;> omega
      subst ha
      subst hb
      have g3 : ¬ ((0 : Nat) : Int) > 0 := by omega
      simp only [g3, if_false]
      by_cases c1 : 0 ≤ (rd_T68 m ((0 : Nat) : Int)).f0 ∧ (rd_T68 m ((0 : Nat) : Int)).f0 ≤ 45
      · by_cases c2 : 0 ≤ (rd_T68 m ((0 : Nat) : Int)).f1 ∧ (rd_T68 m ((0 : Nat) : Int)).f1 ≤ 30
        · have c1' : -1 + 1 ≤ (rd_T68 m ((0 : Nat) : Int)).f0 ∧ (rd_T68 m ((0 : Nat) : Int)).f0 ≤ 45 := by omega
          simp only [c1, c1', c2, and_self, decide_true, if_true]
          obtain ⟨r, e1, e2, e3⟩ := ih k (rd_T68 m ((0 : Nat) : Int)).f0 (rd_T68 m ((0 : Nat) : Int)).f1 (0 + 1) (by omega) (by omega) (by omega) (.inr ⟨by omega, rfl, rfl, c1.1, c1.2, c2.1, c2.2⟩)
          exact ⟨r, e1, e2, fun hr => fin r hr ⟨c1, c2, fun h => by omega⟩ e3⟩
        · have c1' : -1 + 1 ≤ (rd_T68 m ((0 : Nat) : Int)).f0 ∧ (rd_T68 m ((0 : Nat) : Int)).f0 ≤ 45 := by omega
          simp only [c1, c1', c2, and_self, decide_true, decide_false, Bool.false_eq_true, if_true, if_false]
          exact ⟨_, rfl, rfl, fun h => by cases h⟩
      · have c1' : ¬ (-1 + 1 ≤ (rd_T68 m ((0 : Nat) : Int)).f0 ∧ (rd_T68 m ((0 : Nat) : Int)).f0 ≤ 45) := by omega
        simp only [c1, c1', decide_false, Bool.false_eq_true, if_false]
        exact ⟨_, rfl, rfl, fun h => by cases h⟩
    · obtain ⟨_, ha, hb, a0, a1, b0, b1⟩ : 0 < i ∧ a = (rd_T68 m (i - 1 : Nat)).f0 ∧ b = (rd_T68 m (i - 1 : Nat)).f1 ∧ 0 ≤ a ∧ a ≤ 45 ∧ 0 ≤ b ∧ b ≤ 30 := by
        rcases hr with h | h
        · omega
        · exact h
      have ei : ((i : Int) - 1) = ((i - 1 : Nat) : Int) := by omega
      have g3 : (i : Int) > 0 := by omega
      have g4 : 0 ≤ ((i - 1 : Nat) : Int) := by omega
      have g5 : ((i - 1 : Nat) : Int) < (m.length : Int) := by omega
      rw [ei, ← ha, ← hb]
      simp only [g3, g4, g5, if_true]
      by_cases c1 : 0 ≤ (rd_T68 m i).f0 ∧ (rd_T68 m i).f0 ≤ 45
      · by_cases c2 : 0 ≤ (rd_T68 m i).f1 ∧ (rd_T68 m i).f1 ≤ 30
        · simp only [c1, c2, and_self, decide_true, if_true]
          by_cases c3 : a ≥ (rd_T68 m i).f0
          · have c1' : ¬ (a + 1 ≤ (rd_T68 m i).f0 ∧ (rd_T68 m i).f0 ≤ 45) := by omega
            have c1'' : ¬ (a + 1 ≤ (rd_T68 m i).f0 ∧ True) := by omega
            simp only [c3, c1', c1'', decide_false, Bool.false_eq_true, if_false, if_true]
            exact ⟨_, rfl, rfl, fun h => by cases h⟩
          · have c1' : (a + 1 ≤ (rd_T68 m i).f0 ∧ (rd_T68 m i).f0 ≤ 45) := by omega
            have c1'' : (a + 1 ≤ (rd_T68 m i).f0 ∧ True) := ⟨c1'.1, trivial⟩
            by_cases c4 : b > (rd_T68 m i).f1
            · have c2' : ¬ (b ≤ (rd_T68 m i).f1 ∧ (rd_T68 m i).f1 ≤ 30) := by omega
              have c2'' : ¬ (b ≤ (rd_T68 m i).f1 ∧ True) := by omega
              simp only [c3, c4, c1', c2', c1'', c2'', and_self, decide_true, decide_false, Bool.false_eq_true, if_false, if_true]
              exact ⟨_, rfl, rfl, fun h => by cases h⟩
            · have c2' : (b ≤ (rd_T68 m i).f1 ∧ (rd_T68 m i).f1 ≤ 30) := by omega
              have c2'' : (b ≤ (rd_T68 m i).f1 ∧ True) := ⟨c2'.1, trivial⟩
              simp only [c3, c4, c1', c2', c1'', c2'', and_self, decide_true, decide_false, Bool.false_eq_true, if_false, if_true]
              obtain ⟨r, e1, e2, e3⟩ := ih k (rd_T68 m i).f0 (rd_T68 m i).f1 (i + 1) (by omega) (by omega) (by omega) (.inr ⟨by omega, rfl, rfl, c1.1, c1.2, c2.1, c2.2⟩)
              exact ⟨r, e1, e2, fun hr => fin r hr ⟨c1, c2, fun h => ⟨by rw [← ha]; omega, by rw [← hb]; omega⟩⟩ e3⟩
        · simp only [c1, c2, and_self, decide_true, decide_false, Bool.false_eq_true, if_true, if_false]
          have c2' : ¬ (b ≤ (rd_T68 m i).f1 ∧ (rd_T68 m i).f1 ≤ 30) := by omega
          simp only [c2', decide_false, Bool.false_eq_true, if_false, ite_self]
          exact ⟨_, rfl, rfl, fun h => by cases h⟩
      · have c1' : ¬ (a + 1 ≤ (rd_T68 m i).f0 ∧ (rd_T68 m i).f0 ≤ 45) := by omega
        simp only [c1, c1', decide_false, Bool.false_eq_true, if_false]
        exact ⟨_, rfl, rfl, fun h => by cases h⟩
theorem table_f (m : List S68) (hm : Sm m) (hl : m.length ≤ 1048576) (k : Nat) (hk : m.length < k) : ∃ r, spec_l01Table.f k m = some r ∧ impl_ValidTable.f k m = some r ∧ (r = true → Tab m 0) :=
  table_l m hm hl m.length k (-1) 0 0 (by omega) (by omega) hk (.inl ⟨rfl, rfl, rfl⟩)
theorem ex_l (m : List S68) (hm : Sm m) (hl : m.length ≤ 1048576) (s : Int) (d : Nat) : ∀ (k : Nat) (a : Int) (i : Nat), i ≤ m.length → m.length - i = d → d < k → -128 ≤ a → a ≤ 127 →
    ∃ r, spec_l01Extra.l0 k m s a i = some r ∧ impl_extra.l0 k s a m (m.length : Int) i = some r ∧ -128 ≤ r ∧ r ≤ 127 := by
  induction d with
  | zero =>
    intro k a i h0 hd hk h1 h2
    obtain ⟨k, rfl⟩ : ∃ n, k = n + 1 := ⟨k - 1, by omega⟩
    simp only [spec_l01Extra.l0, impl_extra.l0]
    have g1 : ¬ (i : Int) < (m.length : Int) := by omega
    simp only [g1, if_false]
    exact ⟨_, rfl, rfl, h1, h2⟩
  | succ d ih =>
    intro k a i h0 hd hk h1 h2
    obtain ⟨k, rfl⟩ : ∃ n, k = n + 1 := ⟨k - 1, by omega⟩
    simp only [spec_l01Extra.l0, impl_extra.l0]
    have g1 : (i : Int) < (m.length : Int) := by omega
    have g2 : 0 ≤ (i : Int) := by omega
    simp only [g1, g2, if_true]
    obtain ⟨s1, s2⟩ := sm_rd hm i (by omega)
    rw [w64 (x := (i : Int) + 1) (by omega) (by omega), w64 (x := (rd_T68 m i).f0) (by omega) (by omega), w64 (x := (rd_T68 m i).f1) (by omega) (by omega)]
    by_cases c : (rd_T68 m i).f0 ≤ s
    · simp only [c, if_true]
      exact ih k _ (i + 1) (by omega) (by omega) (by omega) s2.1 s2.2
    · simp only [c, if_false]
      exact ih k _ (i + 1) (by omega) (by omega) (by omega) h1 h2
theorem ex_f (m : List S68) (hm : Sm m) (hl : m.length ≤ 1048576) (s : Int) (k : Nat) (hk : m.length < k) : ∃ r, spec_l01Extra.f k m s = some r ∧ impl_extra.f k m s = some r ∧ -128 ≤ r ∧ r ≤ 127 :=
  ex_l m hm hl s m.length k 0 0 (by omega) (by omega) hk (by omega) (by omega)
theorem sm_map {l : List S70} (hw : ∀ x ∈ l, (Lit.int .i8 x.f0).wf = true ∧ (Lit.int .i8 x.f1).wf = true) : Sm (l.map cvLongS) := by
  intro x hx
  obtain ⟨y, hy, rfl⟩ := List.mem_map.1 hx
  exact ⟨wf8 (hw y hy).1, wf8 (hw y hy).2⟩
theorem code_f (m : List S68) (hm : Sm m) (hl : m.length ≤ 1048576) (s : Int) (k : Nat) (hk : m.length < k) : ∃ r, spec_l01Metered.f k m s = some r ∧ impl_tableCode.f k m s = some r ∧ (r = 0 → Tab m 0 ∧ 0 ≤ s ∧ s ≤ 45) := by
  obtain ⟨t, e1, e2, e3⟩ := table_f m hm hl k hk
  unfold spec_l01Metered.f impl_tableCode.f impl_isShutter.f
  simp only [e1, e2, in_f, within_f, Option.bind_some]
  cases t with
  | true =>
    by_cases c : 0 ≤ s ∧ s ≤ 45
    · simp only [c, and_self, decide_true, if_true]
      exact ⟨_, rfl, rfl, fun _ => ⟨e3 rfl, trivial⟩⟩
    · simp only [c, decide_false, Bool.false_eq_true, if_true, if_false]
      exact ⟨_, rfl, rfl, fun h => by omega⟩
  | false =>
    simp only [Bool.false_eq_true, if_false]
    exact ⟨_, rfl, rfl, fun h => by omega⟩
theorem met_l (m : List S68) (hm : Sm m) (hl : m.length ≤ 1048576) (s : Int) (d : Nat) : ∀ (k : Nat) (acc : List Int) (x : Int), 0 ≤ x → x ≤ 46 → 46 - x = d → m.length + 1 + d < k → acc.length + d ≤ 1000 →
    ∃ r, spec_MeteredFor.l0 k m s acc x = some r ∧ impl_MeteredFor.l0 k m s acc x = some r ∧ r.1.length ≤ 1000 ∧ r.2 = 0 := by
  induction d with
  | zero =>
    intro k acc x h0 h1 hd hk ha
    obtain ⟨k, rfl⟩ : ∃ n, k = n + 1 := ⟨k - 1, by omega⟩
    simp only [spec_MeteredFor.l0, impl_MeteredFor.l0, impl_isShutter.f, within_f, Option.bind_some]
    have g1 : ¬ x ≤ 45 := by omega
    have g2 : ¬ (0 ≤ x ∧ x ≤ 45) := by omega
    simp only [g1, and_false, decide_false, Bool.false_eq_true, if_false]
    exact ⟨_, rfl, rfl, by show acc.length ≤ 1000; omega, rfl⟩
  | succ d ih =>
    intro k acc x h0 h1 hd hk ha
    obtain ⟨k, rfl⟩ : ∃ n, k = n + 1 := ⟨k - 1, by omega⟩
    obtain ⟨r, e1, e2, b1, b2⟩ := ex_f m hm hl x k (by omega)
    simp only [spec_MeteredFor.l0, impl_MeteredFor.l0, impl_isShutter.f, within_f, Option.bind_some, e1, e2]
    have g1 : x ≤ 45 := by omega
    simp only [g1, h0, and_self, decide_true, if_true]
    rw [w64 (x := x + 1) (by omega) (by omega)]
    by_cases c : wrap64 (x + r) = s
    · simp only [c, if_true]
      have hacc : acc.length < 17592186044416 := by omega
      simp only [hacc, if_true]
      have hlen : (acc ++ [x]).length = acc.length + 1 := by simp
      exact ih k (acc ++ [x]) (x + 1) (by omega) (by omega) (by omega) (by omega) (by omega)
    · simp only [c, if_false]
      exact ih k _ (x + 1) (by omega) (by omega) (by omega) (by omega) (by omega)
theorem met_f (m : List S68) (hm : Sm m) (hl : m.length ≤ 1048576) (s : Int) (k : Nat) (hk : m.length + 50 < k) : ∃ r, spec_MeteredFor.f k m s = some r ∧ impl_MeteredFor.f k m s = some r ∧ r.1.length ≤ 1000 := by
  obtain ⟨q, f1, f2, _⟩ := code_f m hm hl s k (by omega)
  unfold spec_MeteredFor.f impl_MeteredFor.f
  simp only [f1, f2, Option.bind_some]
  by_cases c : q = 0
  · simp only [c, if_true]
    obtain ⟨r, e1, e2, e3, _⟩ := met_l m hm hl s 46 k [] 0 (by omega) (by omega) (by omega) (by omega) (by show 0 + 46 ≤ 1000; omega)
    exact ⟨r, e1, e2, e3⟩
  · simp only [c, if_false]
    exact ⟨_, rfl, rfl, by simp⟩
def mkLongS (s : Int) : S68 := ⟨IntKind.i8.wrap s, IntKind.i8.wrap (s + 1)⟩
theorem markLongS_l (n : Nat) (hn : n ≤ 1048576) (d : Nat) : ∀ (k : Nat) (l : List S68) (s : Int) (i : Nat), l.length = n → i ≤ n → n - i = d → d < k → 0 ≤ s → s + 2 * d ≤ 100000000000 →
    ∃ l', laws_markLongS.l0 k l s i = some (s + 2 * d, l') ∧ l'.length = n ∧ (∀ j, j < i → l'.getD j z68 = l.getD j z68) ∧ (∀ j : Nat, i ≤ j → j < n → l'.getD j z68 = mkLongS (s + 2 * ((j : Int) - i))) := by
  induction d with
  | zero =>
    intro k l s i hl h0 hd hk hs hb
    obtain ⟨k, rfl⟩ : ∃ n, k = n + 1 := ⟨k - 1, by omega⟩
    simp only [laws_markLongS.l0]
    rw [if_neg (by omega)]
    exact ⟨l, by simp, hl, fun j hj => rfl, fun j j0 j1 => by omega⟩
  | succ d ih =>
    intro k l s i hl h0 hd hk hs hb
    obtain ⟨k, rfl⟩ : ∃ n, k = n + 1 := ⟨k - 1, by omega⟩
    simp only [laws_markLongS.l0]
    rw [if_pos (by omega), if_pos (by omega), Option.bind_some, w64 (x := s + 1) (by omega) (by omega), w64 (x := s + 1 + 1) (by omega) (by omega), w64 (x := (i : Int) + 1) (by omega) (by omega)]
    have hset : ∀ x : S68, (l.set i x).getD i z68 = x := fun x => getD_set_eq _ _ _ _ (by omega)
    simp only [rd_T68, Int.toNat_natCast, List.set_set, hset]
    obtain ⟨l', e1, e2, e3, e4⟩ := ih k (l.set i (mkLongS s)) (s + 1 + 1) (i + 1) (by simpa using hl) (by omega) (by omega) (by omega) (by omega) (by omega)
    refine ⟨l', ?_, e2, fun j hj => ?_, fun j j0 j1 => ?_⟩
    · rw [show s + 2 * ((d + 1 : Nat) : Int) = s + 1 + 1 + 2 * (d : Int) by omega]
      exact e1
    · rw [e3 j (by omega), getD_set_ne _ _ _ _ _ (by omega)]
    · by_cases c : j = i
      · subst c
        rw [e3 j (by omega), getD_set_eq _ _ _ _ (by omega)]
        congr 1
        omega
      · rw [e4 j (by omega) j1]
        congr 1
        omega
theorem markLongS_r (l : List S68) (hl : l.length ≤ 1048576) (k : Nat) (hk : l.length < k) : ∃ l', laws_markLongS.f k l 1 = some (1 + 2 * (l.length : Int), l') := by
  obtain ⟨l', e1, e2, _, e4⟩ := markLongS_l l.length hl l.length k l 1 0 rfl (by omega) (by omega) hk (by omega) (by omega)
  exact ⟨l', e1⟩
theorem markI_l (n : Nat) (hn : n ≤ 1048576) (d : Nat) : ∀ (k : Nat) (l : List Int) (s : Int) (i : Nat), l.length = n → i ≤ n → n - i = d → d < k → 0 ≤ s → s + d ≤ 100000000000 →
    ∃ l', laws_markInt64S.l0 k l s i = some (s + d, l') ∧ l'.length = n ∧ (∀ j, j < i → l'.getD j 0 = l.getD j 0) ∧ (∀ j : Nat, i ≤ j → j < n → l'.getD j 0 = s + ((j : Int) - i)) := by
  induction d with
  | zero =>
    intro k l s i hl h0 hd hk hs hb
    obtain ⟨k, rfl⟩ : ∃ n, k = n + 1 := ⟨k - 1, by omega⟩
    simp only [laws_markInt64S.l0]
    rw [if_neg (by omega)]
    exact ⟨l, by simp, hl, fun j hj => rfl, fun j j0 j1 => by omega⟩
  | succ d ih =>
    intro k l s i hl h0 hd hk hs hb
    obtain ⟨k, rfl⟩ : ∃ n, k = n + 1 := ⟨k - 1, by omega⟩
    simp only [laws_markInt64S.l0]
    rw [if_pos (by omega), if_pos (by omega), w64 (x := s + 1) (by omega) (by omega), w64 (x := (i : Int) + 1) (by omega) (by omega)]
    simp only [Int.toNat_natCast]
    obtain ⟨l', e1, e2, e3, e4⟩ := ih k (l.set i s) (s + 1) (i + 1) (by simpa using hl) (by omega) (by omega) (by omega) (by omega) (by omega)
    refine ⟨l', ?_, e2, fun j hj => ?_, fun j j0 j1 => ?_⟩
    · rw [show s + ((d + 1 : Nat) : Int) = s + 1 + (d : Int) by omega]
      exact e1
    · rw [e3 j (by omega), getD_set_ne _ _ _ _ _ (by omega)]
    · by_cases c : j = i
      · subst c
        rw [e3 j (by omega), getD_set_eq _ _ _ _ (by omega)]
        omega
      · rw [e4 j (by omega) j1]
        omega
theorem heldI_l (n : Nat) (hn : n ≤ 1048576) (l : List Int) (hl : l.length = n) (d : Nat) : ∀ (k : Nat) (s : Int) (i : Nat), i ≤ n → n - i = d → d < k → 0 ≤ s → s + d ≤ 100000000000 → (∀ j : Nat, i ≤ j → j < n → l.getD j 0 = s + ((j : Int) - i)) →
    laws_heldInt64S.l0 k l s i = some (s + d) := by
  induction d with
  | zero =>
    intro k s i h0 hd hk hs hb hj
    obtain ⟨k, rfl⟩ : ∃ n, k = n + 1 := ⟨k - 1, by omega⟩
    simp only [laws_heldInt64S.l0]
    rw [if_neg (by omega)]
    simp
  | succ d ih =>
    intro k s i h0 hd hk hs hb hj
    obtain ⟨k, rfl⟩ : ∃ n, k = n + 1 := ⟨k - 1, by omega⟩
    have e := hj i (by omega) (by omega)
    rw [show s + ((i : Int) - i) = s by omega] at e
    have e : rd l i = s := e
    simp only [laws_heldInt64S.l0]
    rw [if_pos (by omega), if_pos (by omega), if_pos e, w64 (x := s + 1) (by omega) (by omega), w64 (x := (i : Int) + 1) (by omega) (by omega)]
    rw [show s + ((d + 1 : Nat) : Int) = s + 1 + (d : Int) by omega]
    refine ih k (s + 1) (i + 1) (by omega) (by omega) (by omega) (by omega) (by omega) (fun j j0 j1 => ?_)
    rw [hj j (by omega) j1]
    omega
theorem markI_f (l : List Int) (hl : l.length ≤ 1048576) (k : Nat) (hk : l.length < k) : ∃ l', laws_markInt64S.f k l 1 = some (1 + (l.length : Int), l') ∧ l'.length = l.length ∧ ∀ k', l.length < k' → laws_heldInt64S.f k' l' 1 = some (1 + (l.length : Int)) := by
  obtain ⟨l', e1, e2, _, e4⟩ := markI_l l.length hl l.length k l 1 0 rfl (by omega) (by omega) hk (by omega) (by omega)
  exact ⟨l', e1, e2, fun k' hk' => heldI_l l.length hl l' e2 l.length k' 1 0 (by omega) (by omega) hk' (by omega) (by omega) e4⟩
theorem eqInts_l (l : List Int) (hl : l.length ≤ 1048576) (d : Nat) : ∀ (k : Nat) (i : Nat), i ≤ l.length → l.length - i = d → d < k → laws_eqInt64S.l0 k l l i = some true := by
  induction d with
  | zero =>
    intro k i h0 hd hk
    obtain ⟨k, rfl⟩ : ∃ n, k = n + 1 := ⟨k - 1, by omega⟩
    simp only [laws_eqInt64S.l0]
    rw [if_neg (by omega)]
  | succ d ih =>
    intro k i h0 hd hk
    obtain ⟨k, rfl⟩ : ∃ n, k = n + 1 := ⟨k - 1, by omega⟩
    simp only [laws_eqInt64S.l0]
    rw [if_pos (by omega), if_pos (by omega), if_pos (by omega), if_pos trivial, w64 (by omega) (by omega)]
    exact ih k (i + 1) (by omega) (by omega) (by omega)
theorem eqInts_f (l : List Int) (hl : l.length ≤ 1048576) (k : Nat) (hk : l.length < k) : laws_eqInt64S.f k l l = some true := by
  unfold laws_eqInt64S.f
  rw [if_pos rfl]
  exact eqInts_l l hl l.length k 0 (by omega) (by omega) hk
theorem FnExactMeteredFor : laws_FnExactMeteredFor.Pure := by
  intro l s h0 hw _
  refine ⟨1048700, ?_⟩
  unfold laws_FnExactMeteredFor.f
  rw [szLongS_f l (by omega), Option.bind_some]
  by_cases c : l.length ≤ 1048576
  · rw [if_pos c, if_neg (by omega), toLongS_f l c _ (by omega)]
    have hm := sm_map hw
    have hl : (l.map cvLongS).length ≤ 1048576 := by simpa using c
    obtain ⟨z, z1, z2, z3⟩ := met_f _ hm hl s 1048700 (by omega)
    have hz : impl_MeteredFor.f 1048698 (l.map cvLongS) s = some z := by
      obtain ⟨z', y1, y2, _⟩ := met_f _ hm hl s 1048698 (by omega)
      have := impl_MeteredFor.mono (l.map cvLongS) s 1048698 _ y2
      have := impl_MeteredFor.mono (l.map cvLongS) s 1048699 _ this
      rw [y2]
      rw [this] at z2
      exact z2
    obtain ⟨l1, m1⟩ := markLongS_r _ hl 1048699 (by omega)
    obtain ⟨l2, n1, n2, n3⟩ := markI_f z.1 (by omega) 1048698 (by omega)
    have q0 : ∀ k, 1048690 ≤ k → laws_eqInt64S.f k z.1 z.1 = some true := fun k hk => eqInts_f _ (by omega) k (by omega)
    simp only [Option.bind_some, z1, z2, q0 1048700 (by omega), if_true, bne_self_eq_false]
    simp only [laws_FnExactMeteredFor.j0, Bool.false_eq_true, if_false, toLongS_f l c 1048699 (by omega), Option.bind_some, eqLongS_f _ hl 1048699 (by omega), if_true, m1, q0 1048699 (by omega), bne_self_eq_false]
    rw [if_neg (by omega)]
    simp only [laws_FnExactMeteredFor.j1, Bool.false_eq_true, if_false, n1, Option.bind_some, n3 1048698 (by omega), if_true, toLongS_f l c 1048698 (by omega), hz, q0 1048698 (by omega), bne_self_eq_false]
    rw [if_neg (by omega)]
    simp only [laws_FnExactMeteredFor.j2, Bool.false_eq_true, if_false, n3 1048697 (by omega), Option.bind_some, if_true]
    rw [if_neg (by omega)]
  · rw [if_neg c, if_pos (by omega)]

end Go.Proofs.Ytclneihcbnbmbaa.Pure
