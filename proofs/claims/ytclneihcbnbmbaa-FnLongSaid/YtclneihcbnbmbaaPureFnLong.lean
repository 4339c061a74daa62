/- Proves, in plain numbers and lists, that the law FnLong answers true at all inputs. No condition is added. -/
import Derived.Test.YtclneihcbnbmbaaPFnLongx8
import Derived.Test.YtclneihcbnbmbaaPFnLongx8
import Derived.Test.YtclneihcbnbmbaaPFnLongx8
import Derived.Test.YtclneihcbnbmbaaPFnLongx8
import Derived.Test.YtclneihcbnbmbaaPFnLongx8
import Derived.Test.YtclneihcbnbmbaaPFnLongx8
import Derived.Test.YtclneihcbnbmbaaPFnLongx8
import Derived.Test.YtclneihcbnbmbaaPFnLongx8
import Derived.Test.YtclneihcbnbmbaaPFnLongx8
namespace Go.Proofs.Ytclneihcbnbmbaa.Pure
open Go.RowKit Go.Proofs.Ytclneihcbnbmbaa.PFnLong Go.Proofs.YtclneihcbnbmbaaW.PrintWords Go.Proofs.YtclneihcbnbmbaaW.PrintLast Go.Proofs.YtclneihcbnbmbaaW.PrintMore
set_option linter.unusedVariables false
set_option linter.unusedSimpArgs false
theorem w64 {x : Int} (h : -9223372036854775808 ≤ x) (h' : x ≤ 9223372036854775807) : wrap64 x = x := by unfold wrap64; omega
theorem wf8 {x : Int} (h : (Lit.int .i8 x).wf = true) : -128 ≤ x ∧ x ≤ 127 := by
  have h2 : (decide ((-128 : Int) ≤ x) && decide (x ≤ 127)) = true := h
  simpa using h2
theorem wf16 {x : Int} (h : (Lit.int .i16 x).wf = true) : -32768 ≤ x ∧ x ≤ 32767 := by
  have h2 : (decide ((-32768 : Int) ≤ x) && decide (x ≤ 32767)) = true := h
  simpa using h2
theorem wf64 {x : Int} (h : (Lit.int .i64 x).wf = true) : -9223372036854775808 ≤ x ∧ x ≤ 9223372036854775807 := by
  have h2 : (decide ((-9223372036854775808 : Int) ≤ x) && decide (x ≤ 9223372036854775807)) = true := h
  simpa using h2
theorem wfu64 {x : Int} (h : (Lit.int .u64 x).wf = true) : 0 ≤ x ∧ x ≤ 18446744073709551615 := by
  have h2 : (decide ((0 : Int) ≤ x) && decide (x ≤ 18446744073709551615)) = true := h
  simpa using h2
theorem i8w {x : Int} (h : -128 ≤ x) (h' : x ≤ 127) : IntKind.i8.wrap x = x := by
  show (if (true && decide (x % 256 ≥ 128)) = true then x % 256 - 256 else x % 256) = x
  by_cases e : x % 256 ≥ 128
  · rw [if_pos (by simpa using e)]; omega
  · rw [if_neg (by simpa using e)]; omega
theorem i16w {x : Int} (h : -32768 ≤ x) (h' : x ≤ 32767) : IntKind.i16.wrap x = x := by
  show (if (true && decide (x % 65536 ≥ 32768)) = true then x % 65536 - 65536 else x % 65536) = x
  by_cases e : x % 65536 ≥ 32768
  · rw [if_pos (by simpa using e)]; omega
  · rw [if_neg (by simpa using e)]; omega
theorem u64w {x : Int} (h : 0 ≤ x) (h' : x ≤ 18446744073709551615) : IntKind.u64.wrap x = x := by
  show (if (false && decide (x % 18446744073709551616 ≥ 9223372036854775808)) = true then x % 18446744073709551616 - 18446744073709551616 else x % 18446744073709551616) = x
  rw [if_neg (by simp)]; omega
theorem set_nextg {α β : Type} (f : α → β) (z : β) (d : α) (l : List α) (i : Nat) (h : i < l.length) : ((l.take i).map f ++ List.replicate (l.length - i) z).set i (f (l.getD i d)) = (l.take (i + 1)).map f ++ List.replicate (l.length - (i + 1)) z := by
  apply List.ext_getElem
  · simp; omega
  · intro j h1 h2
    simp only [List.getElem_set, List.getElem_append, List.length_map, List.length_take, List.getElem_map, List.getElem_take, List.getElem_replicate]
    by_cases e : i = j
    · subst e
      rw [if_pos rfl, dif_pos (by omega)]
      simp [h]
    · rw [if_neg e]
      by_cases c : j < i
      · rw [dif_pos (by omega), dif_pos (by omega)]
      · rw [dif_neg (by omega), dif_neg (by omega)]
theorem getD_mem {α : Type} (l : List α) (i : Nat) (d : α) (h : i < l.length) : l.getD i d ∈ l := by
  rw [List.getD_eq_getElem?_getD, List.getElem?_eq_getElem h]
  exact List.getElem_mem h
theorem getD_set_ne {α : Type} (l : List α) (i j : Nat) (x d : α) (h : i ≠ j) : (l.set i x).getD j d = l.getD j d := by
  simp [List.getD_eq_getElem?_getD, List.getElem?_set_ne h]
theorem getD_set_eq {α : Type} (l : List α) (i : Nat) (x d : α) (h : i < l.length) : (l.set i x).getD i d = x := by
  simp [List.getD_eq_getElem?_getD, List.getElem?_set_self h]
theorem in_f (a b c : Int) : spec_l00In.f a b c = some (decide (b ≤ a ∧ a ≤ c)) := by
  unfold spec_l00In.f
  by_cases h : b ≤ a <;> simp [h]
theorem within_f (a b c : Int) : impl_within.f a b c = some (decide (b ≤ a ∧ a ≤ c)) := by
  unfold impl_within.f
  by_cases h : b ≤ a <;> simp [h]
def Sm (m : List S68) : Prop := ∀ x ∈ m, (-128 ≤ x.f0 ∧ x.f0 ≤ 127) ∧ (-128 ≤ x.f1 ∧ x.f1 ≤ 127)
theorem sm_rd {m : List S68} (h : Sm m) (i : Nat) (hi : i < m.length) : (-128 ≤ (rd_T68 m i).f0 ∧ (rd_T68 m i).f0 ≤ 127) ∧ (-128 ≤ (rd_T68 m i).f1 ∧ (rd_T68 m i).f1 ≤ 127) := by
  have := h _ (getD_mem m i z68 hi)
  simpa [rd_T68] using this
/-- entries from i on, behind one with these two numbers, are as they may be -/
def Tab (m : List S68) (i : Nat) : Prop := m.length ≤ 10 ∧ ∀ j : Nat, i ≤ j → j < m.length → (0 ≤ (rd_T68 m j).f0 ∧ (rd_T68 m j).f0 ≤ 45) ∧ (0 ≤ (rd_T68 m j).f1 ∧ (rd_T68 m j).f1 ≤ 30) ∧ (0 < j → (rd_T68 m (j - 1 : Nat)).f0 < (rd_T68 m j).f0 ∧ (rd_T68 m (j - 1 : Nat)).f1 ≤ (rd_T68 m j).f1)
theorem ex_l (m : List S68) (hm : Sm m) (hl : m.length ≤ 1048576) (s : Int) (d : Nat) : ∀ (k : Nat) (a : Int) (i : Nat), i ≤ m.length → m.length - i = d → d < k → -128 ≤ a → a ≤ 127 →
    ∃ r, spec_l01Extra.l0 k m s a i = some r ∧ impl_extra.l0 k s a m (m.length : Int) i = some r ∧ -128 ≤ r ∧ r ≤ 127 := by
  induction d with
  | zero =>
    intro k a i h0 hd hk h1 h2
    obtain ⟨k, rfl⟩ : ∃ n, k = n + 1 := ⟨k - 1, by omega⟩
    simp only [spec_l01Extra.l0, impl_extra.l0]
    have g1 : ¬ (i : Int) < (m.length : Int) := by omega
    simp only [g1, if_false]
    exact ⟨_, rfl, rfl, h1, h2⟩
  | succ d ih =>
    intro k a i h0 hd hk h1 h2
    obtain ⟨k, rfl⟩ : ∃ n, k = n + 1 := ⟨k - 1, by omega⟩
    simp only [spec_l01Extra.l0, impl_extra.l0]
    have g1 : (i : Int) < (m.length : Int) := by omega
    have g2 : 0 ≤ (i : Int) := by omega
    simp only [g1, g2, if_true]
    obtain ⟨s1, s2⟩ := sm_rd hm i (by omega)
    rw [w64 (x := (i : Int) + 1) (by omega) (by omega), w64 (x := (rd_T68 m i).f0) (by omega) (by omega), w64 (x := (rd_T68 m i).f1) (by omega) (by omega)]
    by_cases c : (rd_T68 m i).f0 ≤ s
    · simp only [c, if_true]
      exact ih k _ (i + 1) (by omega) (by omega) (by omega) s2.1 s2.2
    · simp only [c, if_false]
      exact ih k _ (i + 1) (by omega) (by omega) (by omega) h1 h2
theorem ex_f (m : List S68) (hm : Sm m) (hl : m.length ≤ 1048576) (s : Int) (k : Nat) (hk : m.length < k) : ∃ r, spec_l01Extra.f k m s = some r ∧ impl_extra.f k m s = some r ∧ -128 ≤ r ∧ r ≤ 127 :=
  ex_l m hm hl s m.length k 0 0 (by omega) (by omega) hk (by omega) (by omega)
def Bytes (l : List Int) : Prop := ∀ x ∈ l, 0 ≤ x ∧ x ≤ 255
theorem bytes_rd {l : List Int} (h : Bytes l) (i : Nat) (hi : i < l.length) : 0 ≤ rd l i ∧ rd l i ≤ 255 := by
  have hm : l.getD i 0 ∈ l := by
    rw [List.getD_eq_getElem?_getD, List.getElem?_eq_getElem hi]
    exact List.getElem_mem hi
  have := h _ hm
  simpa [rd] using this
theorem and255 (x : Int) (h : 0 ≤ x) (h' : x < 18446744073709551616) : Go.bits .and .u64 x 255 = x % 256 :=
  bits_mask .u64 64 (by decide) (fun n a b => u64w a (by omega)) 8 (by decide) x h h'
theorem u64wr (x : Int) : 0 ≤ IntKind.u64.wrap x ∧ IntKind.u64.wrap x < 18446744073709551616 := by
  show 0 ≤ (if (false && decide (x % 18446744073709551616 ≥ 9223372036854775808)) = true then x % 18446744073709551616 - 18446744073709551616 else x % 18446744073709551616) ∧ (if (false && decide (x % 18446744073709551616 ≥ 9223372036854775808)) = true then x % 18446744073709551616 - 18446744073709551616 else x % 18446744073709551616) < 18446744073709551616
  rw [if_neg (by simp)]
  omega
/-- what comes next is a byte; the place goes on by one -/
theorem next_f (l : List Int) (hb : Bytes l) (hl : l.length ≤ 4096) (i : Nat) (hi : i ≤ 100000) (s : Int) : ∃ v s', spec_l00Src_next.f l i s = some (v, ((i + 1 : Nat) : Int), s') ∧ 0 ≤ v ∧ v ≤ 255 := by
  unfold spec_l00Src_next.f
  have ec : wrap64 ((i : Int) + 1) = ((i + 1 : Nat) : Int) := w64 (by omega) (by omega)
  have hq : ∀ y : Int, ∃ v, wrap64 (Go.bits .and .u64 (IntKind.u64.wrap y / 1099511627776) 255) = v ∧ 0 ≤ v ∧ v ≤ 255 := fun y => by
    have u := u64wr y
    have d0 : 0 ≤ IntKind.u64.wrap y / 1099511627776 := by omega
    have d1 : IntKind.u64.wrap y / 1099511627776 < 18446744073709551616 := by omega
    refine ⟨_, rfl, ?_⟩
    rw [and255 _ d0 d1, w64 (by omega) (by omega)]
    omega
  rw [ec]
  by_cases c : (i : Int) < (l.length : Int)
  · have v := bytes_rd hb i (by omega)
    rw [if_pos c, if_pos (by omega), if_pos (by omega), w64 (x := rd l i) (by omega) (by omega)]
    exact ⟨_, _, rfl, v⟩
  · rw [if_neg c, if_neg (by omega)]
    obtain ⟨v, e, h⟩ := hq (IntKind.u64.wrap (IntKind.u64.wrap (s * 6364136223846793005)) + 1442695040888963407)
    rw [e]
    exact ⟨_, _, rfl, h⟩
/-- a number that is picked lies below n -/
theorem pick_f (l : List Int) (hb : Bytes l) (hl : l.length ≤ 4096) (i : Nat) (hi : i ≤ 90000) (s n : Int) (hn : 1 ≤ n) (hn' : n ≤ 100000000) : ∃ v, ∃ i' : Nat, ∃ s', spec_l00Src_pick.f l i s n = some (v, (i' : Int), s') ∧ 0 ≤ v ∧ v < n ∧ i' ≤ i + 2 := by
  unfold spec_l00Src_pick.f
  by_cases c : n ≤ 1
  · rw [if_pos c]
    exact ⟨0, i, s, rfl, by omega, by omega, by omega⟩
  · rw [if_neg c]
    obtain ⟨v, s', e, v0, v1⟩ := next_f l hb hl i (by omega) s
    rw [e]
    simp only [Option.bind_some]
    by_cases c2 : n > 200
    · rw [if_pos c2]
      obtain ⟨u, s'', e', u0, u1⟩ := next_f l hb hl (i + 1) (by omega) s'
      rw [e']
      simp only [Option.bind_some]
      rw [if_neg (by omega), w64 (x := v * 256) (by omega) (by omega), w64 (x := v * 256 + u) (by omega) (by omega), Int.tmod_eq_emod_of_nonneg (by omega)]
      have m1 := Int.emod_nonneg (v * 256 + u) (show n ≠ 0 by omega)
      have m2 := Int.emod_lt_of_pos (v * 256 + u) (show 0 < n by omega)
      exact ⟨_, i + 1 + 1, _, rfl, m1, m2, by omega⟩
    · rw [if_neg c2, if_neg (by omega), Int.tmod_eq_emod_of_nonneg (by omega)]
      have m1 := Int.emod_nonneg v (show n ≠ 0 by omega)
      have m2 := Int.emod_lt_of_pos v (show 0 < n by omega)
      exact ⟨_, i + 1, _, rfl, m1, m2, by omega⟩
theorem p6_f (l : List Int) (hb : Bytes l) (hl : l.length ≤ 4096) (n : Int) (hn : 1 ≤ n) (hn' : n ≤ 100000000) : ∃ v, spec_P6Pick.f l n = some v ∧ 0 ≤ v ∧ v < n := by
  obtain ⟨v, i', s', e, v0, v1, _⟩ := pick_f l hb hl 0 (by omega) 0 n hn hn'
  have e' : spec_l00Src_pick.f l 0 0 n = some (v, (i' : Int), s') := e
  unfold spec_P6Pick.f spec_l00From.f
  simp only [Option.bind_some, e']
  exact ⟨v, rfl, v0, v1⟩
theorem p6set_f (l : List Int) (hb : Bytes l) (hl : l.length ≤ 4096) : ∃ a b c, spec_P6Setting.f l = some (a, b, c) ∧ (0 ≤ a ∧ a ≤ 45) ∧ (0 ≤ b ∧ b ≤ 30) ∧ (0 ≤ c ∧ c ≤ 21) := by
  obtain ⟨v, i1, s1, e1, v0, v1, w1⟩ := pick_f l hb hl 0 (by omega) 0 46 (by omega) (by omega)
  obtain ⟨u, i2, s2, e2, u0, u1, w2⟩ := pick_f l hb hl i1 (by omega) s1 31 (by omega) (by omega)
  obtain ⟨t, i3, s3, e3, t0, t1, w3⟩ := pick_f l hb hl i2 (by omega) s2 22 (by omega) (by omega)
  have e1' : spec_l00Src_pick.f l 0 0 46 = some (v, (i1 : Int), s1) := e1
  unfold spec_P6Setting.f spec_l00From.f spec_l01Drawn.f
  simp only [Option.bind_some, e1', e2, e3]
  rw [i8w (x := v) (by omega) (by omega), i8w (x := u) (by omega) (by omega), i8w (x := t) (by omega) (by omega)]
  exact ⟨v, u, t, rfl, by omega, by omega, by omega⟩
def tm (n : Nat) : Int := [1000, 1260, 1587].getD (n % 3) 0 * 2 ^ (n / 3)
def tI (a : Int) : Int := tm a.toNat
theorem stime_nat : ∀ n : Fin 37, spec_l01Time.f (n.val : Int) = some (tm n.val) := by decide +kernel
theorem itime_nat : ∀ n : Fin 37, impl_timeOf.f (n.val : Int) = some (tm n.val) := by decide +kernel
theorem stime {a : Int} (h : 0 ≤ a) (h' : a ≤ 36) : spec_l01Time.f a = some (tI a) := by
  have := stime_nat ⟨a.toNat, by omega⟩
  simpa [tI, Int.toNat_of_nonneg h] using this
theorem itime {a : Int} (h : 0 ≤ a) (h' : a ≤ 36) : impl_timeOf.f a = some (tI a) := by
  have := itime_nat ⟨a.toNat, by omega⟩
  simpa [tI, Int.toNat_of_nonneg h] using this
theorem tm_lt_nat : ∀ i : Fin 37, ∀ j : Fin 37, i < j → tm i.val < tm j.val := by decide +kernel
theorem tm_bd_nat : ∀ i : Fin 37, 1000 ≤ tm i.val ∧ tm i.val ≤ 4096000 := by decide +kernel
theorem tI_lt {i j : Int} (h : 0 ≤ i) (h1 : i < j) (h2 : j ≤ 36) : tI i < tI j := tm_lt_nat ⟨i.toNat, by omega⟩ ⟨j.toNat, by omega⟩ (by show i.toNat < j.toNat; omega)
theorem tI_le {i j : Int} (h : 0 ≤ i) (h1 : i ≤ j) (h2 : j ≤ 36) : tI i ≤ tI j := by
  by_cases e : i = j
  · rw [e]; exact Int.le_refl _
  · have := tI_lt h (by omega) h2; omega
theorem tI_bd {i : Int} (h : 0 ≤ i) (h2 : i ≤ 36) : 1000 ≤ tI i ∧ tI i ≤ 4096000 := tm_bd_nat ⟨i.toNat, by omega⟩
theorem factor_l (a : Int) (ha : 1 ≤ a ∧ a ≤ 1000) (d : Nat) : ∀ (k : Nat) (x : Int), 0 ≤ x → x ≤ 30 → 30 - x = d → d < k → (∀ j, 0 ≤ j → j < x → tI j < 1000 * a) →
    ∃ r, spec_l01Factor.l0 k a x = some r ∧ impl_factorThirds.l0 k a x = some r ∧ 0 ≤ r ∧ r ≤ 30 ∧ 1000 * a ≤ tI r ∧ (∀ j, 0 ≤ j → j < r → tI j < 1000 * a) := by
  induction d with
  | zero =>
    intro k x h0 h1 hd hk hx
    obtain ⟨k, rfl⟩ : ∃ n, k = n + 1 := ⟨k - 1, by omega⟩
    have e : x = 30 := by omega
    subst e
    have e : tI 30 = 1024000 := by decide
    refine ⟨30, ?_, ?_, by omega, by omega, by omega, hx⟩
    · simp only [spec_l01Factor.l0]
      rw [stime (by omega) (by omega), w64 (by omega) (by omega), Option.bind_some, if_neg (by omega)]
    · simp only [impl_factorThirds.l0]
      rw [itime (by omega) (by omega), w64 (by omega) (by omega), Option.bind_some, if_neg (by omega)]
  | succ d ih =>
    intro k x h0 h1 hd hk hx
    obtain ⟨k, rfl⟩ : ∃ n, k = n + 1 := ⟨k - 1, by omega⟩
    simp only [spec_l01Factor.l0, impl_factorThirds.l0]
    rw [stime (by omega) (by omega), itime (by omega) (by omega), w64 (by omega) (by omega), w64 (by omega) (by omega), Option.bind_some, Option.bind_some]
    by_cases c : tI x < 1000 * a
    · rw [if_pos c, if_pos c]
      refine ih k (x + 1) (by omega) (by omega) (by omega) (by omega) (fun j j0 j1 => ?_)
      by_cases e : j = x
      · rw [e]; exact c
      · exact hx j j0 (by omega)
    · rw [if_neg c, if_neg c]
      exact ⟨x, rfl, rfl, h0, by omega, by omega, hx⟩
theorem factor_f (a : Int) (ha : 1 ≤ a ∧ a ≤ 1000) (k : Nat) (hk : 31 ≤ k) : ∃ r, spec_l01Factor.f k a = some r ∧ impl_factorThirds.f k a = some r ∧ 0 ≤ r ∧ r ≤ 30 ∧ 1000 * a ≤ tI r ∧ (∀ j, 0 ≤ j → j < r → tI j < 1000 * a) :=
  factor_l a ha 30 k 0 (by omega) (by omega) (by omega) (by omega) (fun j _ _ => by omega)
theorem ok_f {a b c : Int} (ha : -128 ≤ a ∧ a ≤ 127) (hb : -128 ≤ b ∧ b ≤ 127) (hc : -128 ≤ c ∧ c ≤ 127) : spec_l01Ok.f a b c = some (decide ((0 ≤ a ∧ a ≤ 45) ∧ (0 ≤ b ∧ b ≤ 30) ∧ (0 ≤ c ∧ c ≤ 21))) := by
  unfold spec_l01Ok.f
  rw [w64 (by omega) (by omega), w64 (by omega) (by omega), w64 (by omega) (by omega)]
  simp only [in_f, Option.bind_some]
  by_cases h1 : 0 ≤ a ∧ a ≤ 45 <;> by_cases h2 : 0 ≤ b ∧ b ≤ 30 <;> simp [h1, h2]
theorem valid_f {a b c : Int} (ha : -128 ≤ a ∧ a ≤ 127) (hb : -128 ≤ b ∧ b ≤ 127) (hc : -128 ≤ c ∧ c ≤ 127) : impl_ValidSetting.f a b c = some (decide ((0 ≤ a ∧ a ≤ 45) ∧ (0 ≤ b ∧ b ≤ 30) ∧ (0 ≤ c ∧ c ≤ 21))) := by
  unfold impl_ValidSetting.f impl_isShutter.f
  rw [w64 (by omega) (by omega), w64 (by omega) (by omega), w64 (by omega) (by omega)]
  simp only [within_f, Option.bind_some]
  by_cases h1 : 0 ≤ a ∧ a ≤ 45 <;> by_cases h2 : 0 ≤ b ∧ b ≤ 30 <;> simp [h1, h2]
theorem mxmn (t : Int) : mn 45 (mx 0 t) = (if 0 < (if 45 < t then 45 else t) then (if 45 < t then 45 else t) else 0) := by
  unfold mn mx
  repeat' split
  all_goals omega
theorem more_f {a b c t : Int} (ha : 0 ≤ a ∧ a ≤ 45) (hb : 0 ≤ b ∧ b ≤ 30) (hc : 0 ≤ c ∧ c ≤ 21) (ht : -100 ≤ t ∧ t ≤ 100) :
    ∃ s p : Int, (0 ≤ s ∧ s ≤ 45) ∧ p = b - (t - (s - a)) ∧ (s = 45 ∨ s = 0 ∨ s = a + t) ∧ (s = a + t ∨ a + t < s ∧ s = 0 ∨ s < a + t ∧ s = 45) ∧ (0 ≤ p ∧ p ≤ 30 → spec_l01More.f a b c t = some (s, p, c, true) ∧ impl_Setting_more.f a b c t = some (s, p, c, 0)) ∧
      (¬ (0 ≤ p ∧ p ≤ 30) → spec_l01More.f a b c t = some (0, 0, 0, false) ∧ impl_Setting_more.f a b c t = some (0, 0, 0, 6)) := by
  obtain ⟨s, hs⟩ : ∃ s, s = mn 45 (mx 0 (a + t)) := ⟨_, rfl⟩
  have hs' := hs
  rw [mxmn] at hs'
  have hb2 : (0 ≤ s ∧ s ≤ 45) ∧ (s = 45 ∨ s = 0 ∨ s = a + t) ∧ (s = a + t ∨ a + t < s ∧ s = 0 ∨ s < a + t ∧ s = 45) := by
    rw [hs']
    repeat' split
    all_goals omega
  obtain ⟨sb, s3, s4⟩ := hb2
  refine ⟨s, b - (t - (s - a)), sb, rfl, s3, s4, ?_⟩
  have e1 : spec_l01More.f a b c t = (if 0 ≤ b - (t - (s - a)) ∧ b - (t - (s - a)) ≤ 30 then some (s, b - (t - (s - a)), c, true) else some (0, 0, 0, false)) := by
    unfold spec_l01More.f spec_l00Min.f spec_l00Max.f
    rw [w64 (x := a) (by omega) (by omega), w64 (x := b) (by omega) (by omega), w64 (x := a + t) (by omega) (by omega)]
    have e0 : (if (45 : Int) < a + t then some 45 else some (a + t)) = some (if 45 < a + t then 45 else a + t) := by split <;> rfl
    rw [e0, Option.bind_some]
    have e0 : (if 0 > (if 45 < a + t then 45 else a + t) then some 0 else some (if 45 < a + t then 45 else a + t)) = some s := by
      rw [hs']
      repeat' split
      all_goals first | rfl | (congr 1; omega)
    rw [e0, Option.bind_some, w64 (x := s - a) (by omega) (by omega), w64 (x := t - (s - a)) (by omega) (by omega), w64 (x := b - (t - (s - a))) (by omega) (by omega), in_f, Option.bind_some]
    by_cases g : 0 ≤ b - (t - (s - a)) ∧ b - (t - (s - a)) ≤ 30
    · rw [if_pos (by simpa using g), if_pos g, i8w (by omega) (by omega), i8w (by omega) (by omega)]
    · rw [if_neg (by simpa using g), if_neg g]
  have e2 : impl_Setting_more.f a b c t = (if 0 ≤ b - (t - (s - a)) ∧ b - (t - (s - a)) ≤ 30 then some (s, b - (t - (s - a)), c, 0) else some (0, 0, 0, 6)) := by
    unfold impl_Setting_more.f
    rw [w64 (x := a) (by omega) (by omega), w64 (x := b) (by omega) (by omega), w64 (x := a + t) (by omega) (by omega), ← hs]
    rw [w64 (x := s - a) (by omega) (by omega), w64 (x := t - (s - a)) (by omega) (by omega), w64 (x := b - (t - (s - a))) (by omega) (by omega), within_f, Option.bind_some]
    by_cases g : 0 ≤ b - (t - (s - a)) ∧ b - (t - (s - a)) ≤ 30
    · rw [if_pos (by simpa using g), if_pos g, i8w (x := b - (t - (s - a))) (by omega) (by omega)]
      try rw [i8w (x := s) (by omega) (by omega)]
    · rw [if_neg (by simpa using g), if_neg g]
  exact ⟨fun g => ⟨by rw [e1, if_pos g], by rw [e2, if_pos g]⟩, fun g => ⟨by rw [e1, if_neg g], by rw [e2, if_neg g]⟩⟩
theorem more_same {a b c t : Int} (ha : 0 ≤ a ∧ a ≤ 45) (hb : 0 ≤ b ∧ b ≤ 30) (hc : 0 ≤ c ∧ c ≤ 21) (ht : -100 ≤ t ∧ t ≤ 100) :
    ∃ s p q, (spec_l01More.f a b c t = some (s, p, q, true) ∧ impl_Setting_more.f a b c t = some (s, p, q, 0)) ∨ (spec_l01More.f a b c t = some (0, 0, 0, false) ∧ impl_Setting_more.f a b c t = some (0, 0, 0, 6)) := by
  obtain ⟨s, p, _, _, _, _, h1, h2⟩ := more_f ha hb hc ht
  by_cases g : 0 ≤ p ∧ p ≤ 30
  · exact ⟨s, p, c, .inl (h1 g)⟩
  · exact ⟨s, p, c, .inr (h2 g)⟩
theorem up {α : Type} {g : Nat → Option α} (h : ∀ k, LeO (g k) (g (k + 1))) {r q : α} (i j : Nat) (hr : g i = some r) (hq : g j = some q) : g j = some r := by
  have a := at_rounds h (Nat.le_max_left i j) hr
  have b := at_rounds h (Nat.le_max_right i j) hq
  rw [a] at b
  rw [hq, Option.some.inj b]
theorem tab_sm {m : List S68} (h : Tab m 0) : Sm m := by
  intro x hx
  obtain ⟨i, hi, e⟩ := List.getElem_of_mem hx
  obtain ⟨a, b, _⟩ := h.2 i (by omega) hi
  have r : rd_T68 m i = x := by simp [rd_T68, List.getD_eq_getElem?_getD, hi, e]
  rw [r] at a b
  omega
theorem stab_l (m : List S68) (h : Tab m 0) (d : Nat) : ∀ (k : Nat) (a b : Int) (i : Nat), i ≤ m.length → m.length - i = d → d < k →
    (i = 0 ∧ a = -1 ∧ b = 0 ∨ 0 < i ∧ a = (rd_T68 m (i - 1 : Nat)).f0 ∧ b = (rd_T68 m (i - 1 : Nat)).f1) → spec_l01Table.l0 k m a b i = some true := by
  have hlen := h.1
  induction d with
  | zero =>
    intro k a b i h0 hd hk hr
    obtain ⟨k, rfl⟩ : ∃ n, k = n + 1 := ⟨k - 1, by omega⟩
    simp only [spec_l01Table.l0]
    have g : (m.length : Int) ≤ 10 := by omega
    rw [if_neg (by omega)]
    simp [g]
  | succ d ih =>
    intro k a b i h0 hd hk hr
    obtain ⟨k, rfl⟩ : ∃ n, k = n + 1 := ⟨k - 1, by omega⟩
    obtain ⟨s1, s2, s3⟩ := h.2 i (by omega) (by omega)
    have nx := ih k (rd_T68 m i).f0 (rd_T68 m i).f1 (i + 1) (by omega) (by omega) (by omega) (.inr ⟨by omega, rfl, rfl⟩)
    have hab : -1 ≤ a ∧ a < (rd_T68 m i).f0 ∧ b ≤ (rd_T68 m i).f1 := by
      rcases hr with ⟨_, ha, hb⟩ | ⟨hi, ha, hb⟩
      · omega
      · obtain ⟨p1, _⟩ := h.2 (i - 1) (by omega) (by omega)
        have := s3 hi
        rw [ha, hb]
        omega
    simp only [spec_l01Table.l0, in_f, Option.bind_some]
    rw [w64 (x := (i : Int) + 1) (by omega) (by omega), w64 (x := (rd_T68 m i).f0) (by omega) (by omega), w64 (x := (rd_T68 m i).f1) (by omega) (by omega), w64 (x := a + 1) (by omega) (by omega)]
    rw [if_pos (by omega), if_pos (by omega), if_pos (by rw [decide_eq_true_eq]; omega), if_pos (by rw [decide_eq_true_eq]; omega)]
    exact nx
theorem itab_l (m : List S68) (h : Tab m 0) (d : Nat) : ∀ (k : Nat) (i : Nat), i ≤ m.length → m.length - i = d → 2 * d + 2 < k → impl_ValidTable.l0 k m m (m.length : Int) i = some true := by
  have hlen := h.1
  induction d with
  | zero =>
    intro k i h0 hd hk
    obtain ⟨k, rfl⟩ : ∃ n, k = n + 1 := ⟨k - 1, by omega⟩
    simp only [impl_ValidTable.l0]
    have g : (m.length : Int) ≤ 10 := by omega
    rw [if_neg (by omega)]
    simp [g]
  | succ d ih =>
    intro k i h0 hd hk
    obtain ⟨k, rfl⟩ : ∃ n, k = n + 1 + 1 := ⟨k - 2, by omega⟩
    obtain ⟨s1, s2, s3⟩ := h.2 i (by omega) (by omega)
    have nx : impl_ValidTable.l0 k m m (m.length : Int) ((i : Int) + 1) = some true := ih k (i + 1) (by omega) (by omega) (by omega)
    have j1 : impl_ValidTable.j1 (k + 1) m m (m.length : Int) i false = some true := by
      simp only [impl_ValidTable.j1, Bool.false_eq_true, if_false]
      rw [w64 (by omega) (by omega)]
      exact nx
    simp only [impl_ValidTable.l0, impl_isShutter.f, within_f, Option.bind_some]
    rw [w64 (x := (i : Int) - 1) (by omega) (by omega), w64 (x := (rd_T68 m i).f0) (by omega) (by omega), w64 (x := (rd_T68 m i).f1) (by omega) (by omega)]
    rw [if_pos (by omega), if_pos (by omega), if_pos (by omega), if_pos (by rw [decide_eq_true_eq]; omega), if_pos (by rw [decide_eq_true_eq]; omega)]
    by_cases z : i = 0
    · rw [if_neg (by omega)]
      exact j1
    · obtain ⟨q1, q2⟩ := s3 (by omega)
      rw [if_pos (by omega), if_pos (by omega), if_pos (by omega), show (i : Int) - 1 = ((i - 1 : Nat) : Int) by omega, if_neg (by omega)]
      have g : ¬ (rd_T68 m (i - 1 : Nat)).f1 > (rd_T68 m i).f1 := by omega
      simp only [g, decide_false]
      exact j1
theorem tab_t (m : List S68) (h : Tab m 0) (k : Nat) (hk : 40 < k) : spec_l01Table.f k m = some true ∧ impl_ValidTable.f k m = some true := by
  have hlen := h.1
  exact ⟨stab_l m h m.length k (-1) 0 0 (by omega) (by omega) (by omega) (.inl ⟨rfl, rfl, rfl⟩), itab_l m h m.length k 0 (by omega) (by omega) (by omega)⟩
def exV (m : List S68) (s : Int) : Int := (spec_l01Extra.f 20 m s).getD 0
theorem ex_t (m : List S68) (h : Tab m 0) (s : Int) : (∀ k, 12 < k → spec_l01Extra.f k m s = some (exV m s) ∧ impl_extra.f k m s = some (exV m s)) := by
  have hlen := h.1
  intro k hk
  obtain ⟨r, r1, r2, _⟩ := ex_f m (tab_sm h) (by omega) s 20 (by omega)
  obtain ⟨q, q1, q2, _⟩ := ex_f m (tab_sm h) (by omega) s k (by omega)
  have e : exV m s = r := by unfold exV; rw [r1]; rfl
  rw [e]
  exact ⟨up (spec_l01Extra.mono m s) 20 k r1 q1, up (impl_extra.mono m s) 20 k r2 q2⟩
theorem exm_l (m : List S68) (h : Tab m 0) (s : Int) (d : Nat) : ∀ (k : Nat) (a b : Int) (i : Nat), i ≤ m.length → m.length - i = d → d < k → 0 ≤ a → a ≤ b → b ≤ 30 → (∀ j : Nat, i ≤ j → j < m.length → a ≤ (rd_T68 m j).f1) →
    ∃ r q, spec_l01Extra.l0 k m (s - 1) a i = some r ∧ spec_l01Extra.l0 k m s b i = some q ∧ 0 ≤ r ∧ r ≤ q ∧ q ≤ 30 := by
  have hlen := h.1
  induction d with
  | zero =>
    intro k a b i h0 hd hk h1 h2 h3 h4
    obtain ⟨k, rfl⟩ : ∃ n, k = n + 1 := ⟨k - 1, by omega⟩
    simp only [spec_l01Extra.l0]
    have g1 : ¬ (i : Int) < (m.length : Int) := by omega
    simp only [g1, if_false]
    exact ⟨a, b, rfl, rfl, h1, h2, h3⟩
  | succ d ih =>
    intro k a b i h0 hd hk h1 h2 h3 h4
    obtain ⟨k, rfl⟩ : ∃ n, k = n + 1 := ⟨k - 1, by omega⟩
    obtain ⟨s1, s2, s3⟩ := h.2 i (by omega) (by omega)
    have mono : ∀ j : Nat, i + 1 ≤ j → j < m.length → (rd_T68 m i).f1 ≤ (rd_T68 m j).f1 := by
      intro j
      induction j with
      | zero => intro j0; omega
      | succ j ihj =>
        intro j0 j1
        obtain ⟨_, _, t3⟩ := h.2 (j + 1) (by omega) j1
        have t4 := (t3 (by omega)).2
        rw [show j + 1 - 1 = j by omega] at t4
        by_cases e : j = i
        · rw [← e]; exact t4
        · have := ihj (by omega) (by omega)
          omega
    simp only [spec_l01Extra.l0]
    have g1 : (i : Int) < (m.length : Int) := by omega
    have g2 : 0 ≤ (i : Int) := by omega
    simp only [g1, g2, if_true]
    rw [w64 (x := (i : Int) + 1) (by omega) (by omega), w64 (x := (rd_T68 m i).f0) (by omega) (by omega), w64 (x := (rd_T68 m i).f1) (by omega) (by omega)]
    have hi := h4 i (by omega) (by omega)
    by_cases c : (rd_T68 m i).f0 ≤ s - 1
    · have c' : (rd_T68 m i).f0 ≤ s := by omega
      simp only [c, c', if_true]
      exact ih k _ _ (i + 1) (by omega) (by omega) (by omega) s2.1 (Int.le_refl _) s2.2 mono
    · by_cases c' : (rd_T68 m i).f0 ≤ s
      · simp only [c, c', if_true, if_false]
        exact ih k _ _ (i + 1) (by omega) (by omega) (by omega) h1 hi s2.2 (fun j j0 j1 => h4 j (by omega) j1)
      · simp only [c, c', if_false]
        exact ih k _ _ (i + 1) (by omega) (by omega) (by omega) h1 h2 h3 (fun j j0 j1 => h4 j (by omega) j1)
theorem exV_mono (m : List S68) (h : Tab m 0) (s : Int) : 0 ≤ exV m (s - 1) ∧ exV m (s - 1) ≤ exV m s ∧ exV m s ≤ 30 := by
  have hlen := h.1
  obtain ⟨r, q, e1, e2, h1, h2, h3⟩ := exm_l m h s m.length 20 0 0 0 (by omega) (by omega) (by omega) (by omega) (by omega) (by omega) (fun j _ hj => (h.2 j (by omega) hj).2.1.1)
  have e1' : spec_l01Extra.f 20 m (s - 1) = some r := e1
  have e2' : spec_l01Extra.f 20 m s = some q := e2
  unfold exV
  rw [e1', e2']
  exact ⟨h1, h2, h3⟩
theorem exV_bd (m : List S68) (h : Tab m 0) (s : Int) : 0 ≤ exV m s ∧ exV m s ≤ 30 := by
  have := exV_mono m h s
  omega
theorem efor_t (m : List S68) (h : Tab m 0) (s : Int) (hs : 0 ≤ s ∧ s ≤ 45) (k : Nat) (hk : 60 < k) : spec_ExtraFor.f k m s = some (exV m s, 0) ∧ impl_ExtraFor.f k m s = some (exV m s, 0) := by
  obtain ⟨a1, a2⟩ := tab_t m h k (by omega)
  obtain ⟨b1, b2⟩ := ex_t m h s k (by omega)
  unfold spec_ExtraFor.f impl_ExtraFor.f spec_l01Metered.f impl_tableCode.f impl_isShutter.f
  simp [a1, a2, b1, b2, in_f, within_f, hs]
theorem cor_t (m : List S68) (h : Tab m 0) (a b c : Int) (ha : 0 ≤ a ∧ a ≤ 45) (hb : 0 ≤ b ∧ b ≤ 30) (hc : 0 ≤ c ∧ c ≤ 21) (k : Nat) (hk : 60 < k) :
    ∃ z, spec_CorrectedFor.f k m a b c = some z ∧ impl_CorrectedFor.f k m a b c = some z ∧ (z = (a + exV m a, b, c, 0) ∧ a + exV m a ≤ 45 ∨ z = (0, 0, 0, 6) ∧ 45 < a + exV m a) := by
  obtain ⟨a1, a2⟩ := tab_t m h k (by omega)
  have eb := exV_bd m h a
  obtain ⟨k, rfl⟩ : ∃ n, k = n + 1 := ⟨k - 1, by omega⟩
  obtain ⟨b1, b2⟩ := ex_t m h a k (by omega)
  unfold spec_CorrectedFor.f impl_CorrectedFor.f
  have g : (0 ≤ a ∧ a ≤ 45) ∧ (0 ≤ b ∧ b ≤ 30) ∧ (0 ≤ c ∧ c ≤ 21) := ⟨ha, hb, hc⟩
  simp only [a1, a2, ok_f (a := a) (b := b) (c := c) (by omega) (by omega) (by omega), valid_f (a := a) (b := b) (c := c) (by omega) (by omega) (by omega), g, and_self, decide_true, Option.bind_some, if_true, Bool.not_true, spec_CorrectedFor.j0, impl_CorrectedFor.j0, Bool.false_eq_true, if_false]
  rw [w64 (x := a) (by omega) (by omega), b1, b2]
  simp only [Option.bind_some]
  rw [w64 (x := a + exV m a) (by omega) (by omega)]
  by_cases c2 : a + exV m a > 45
  · have c3 : 45 < a + exV m a := c2
    simp only [c2, if_true]
    exact ⟨_, rfl, rfl, .inr ⟨rfl, trivial⟩⟩
  · have c3 : a + exV m a ≤ 45 := by omega
    simp only [c2, if_false]
    rw [i8w (x := a + exV m a) (by omega) (by omega)]
    exact ⟨_, rfl, rfl, .inl ⟨rfl, c3⟩⟩
theorem mets_l (m : List S68) (h : Tab m 0) (s : Int) (d : Nat) : ∀ (k : Nat) (acc : List Int) (x : Int), 0 ≤ x → x ≤ 46 → 46 - x = d → 60 + d < k → acc.length + d ≤ 1000 → (∀ n ∈ acc, (0 ≤ n ∧ n ≤ 45) ∧ n + exV m n = s) → (∀ n, 0 ≤ n → n < x → n + exV m n = s → n ∈ acc) →
    ∃ l, impl_MeteredFor.l0 k m s acc x = some (l, 0) ∧ l.length ≤ 1000 ∧ (∀ n ∈ l, (0 ≤ n ∧ n ≤ 45) ∧ n + exV m n = s) ∧ (∀ n, 0 ≤ n → n < 46 → n + exV m n = s → n ∈ l) := by
  induction d with
  | zero =>
    intro k acc x h0 h1 hd hk ha p1 p2
    obtain ⟨k, rfl⟩ : ∃ n, k = n + 1 := ⟨k - 1, by omega⟩
    simp only [impl_MeteredFor.l0, impl_isShutter.f, within_f, Option.bind_some]
    have g1 : ¬ x ≤ 45 := by omega
    simp only [g1, and_false, decide_false, Bool.false_eq_true, if_false]
    have ex : x = 46 := by omega
    rw [ex] at p2
    exact ⟨acc, rfl, by omega, p1, p2⟩
  | succ d ih =>
    intro k acc x h0 h1 hd hk ha p1 p2
    obtain ⟨k, rfl⟩ : ∃ n, k = n + 1 := ⟨k - 1, by omega⟩
    obtain ⟨_, e2⟩ := ex_t m h x k (by omega)
    have eb := exV_bd m h x
    simp only [impl_MeteredFor.l0, impl_isShutter.f, within_f, Option.bind_some, e2]
    have g1 : x ≤ 45 := by omega
    have hacc : acc.length < 17592186044416 := by omega
    simp only [g1, h0, and_self, decide_true, if_true, hacc]
    rw [w64 (x := x + 1) (by omega) (by omega), w64 (x := x + exV m x) (by omega) (by omega)]
    have hlen : (acc ++ [x]).length = acc.length + 1 := by simp
    by_cases c : x + exV m x = s
    · rw [if_pos c]
      refine ih k (acc ++ [x]) (x + 1) (by omega) (by omega) (by omega) (by omega) (by omega) (fun n hn => ?_) (fun n n0 n1 hn => ?_)
      · rcases List.mem_append.1 hn with hn | hn
        · exact p1 n hn
        · rw [List.mem_singleton.1 hn]
          exact ⟨⟨h0, g1⟩, c⟩
      · by_cases e : n = x
        · rw [e]; simp
        · exact List.mem_append_left _ (p2 n n0 (by omega) hn)
    · rw [if_neg c]
      refine ih k acc (x + 1) (by omega) (by omega) (by omega) (by omega) (by omega) p1 (fun n n0 n1 hn => ?_)
      by_cases e : n = x
      · rw [e] at hn; exact absurd hn c
      · exact p2 n n0 (by omega) hn
theorem mets_t (m : List S68) (h : Tab m 0) (s : Int) (hs : 0 ≤ s ∧ s ≤ 45) (k : Nat) (hk : 200 < k) :
    ∃ l, impl_MeteredFor.f k m s = some (l, 0) ∧ l.length ≤ 1000 ∧ (∀ n ∈ l, (0 ≤ n ∧ n ≤ 45) ∧ n + exV m n = s) ∧ (∀ n, 0 ≤ n → n < 46 → n + exV m n = s → n ∈ l) := by
  obtain ⟨_, a2⟩ := tab_t m h k (by omega)
  obtain ⟨l, e, h1, h2, h3⟩ := mets_l m h s 46 k [] 0 (by omega) (by omega) (by omega) (by omega) (by show 0 + 46 ≤ 1000; omega) (fun n hn => by cases hn) (fun n n0 n1 => by omega)
  refine ⟨l, ?_, h1, h2, h3⟩
  unfold impl_MeteredFor.f impl_tableCode.f impl_isShutter.f
  simp [a2, within_f, hs, e]
theorem has_l (l : List Int) (hl : l.length ≤ 1000) (a : Int) (d : Nat) : ∀ (k i : Nat), i ≤ l.length → l.length - i = d → d < k → (∃ j : Nat, i ≤ j ∧ j < l.length ∧ rd l j = a) → spec_l00Has.l0 k l a i = some true := by
  induction d with
  | zero =>
    intro k i h0 hd hk ⟨j, j0, j1, _⟩
    omega
  | succ d ih =>
    intro k i h0 hd hk ⟨j, j0, j1, hj⟩
    obtain ⟨k, rfl⟩ : ∃ n, k = n + 1 := ⟨k - 1, by omega⟩
    simp only [spec_l00Has.l0]
    rw [if_pos (by omega), if_pos (by omega)]
    by_cases c : rd l i = a
    · rw [if_pos c]
    · rw [if_neg c, w64 (by omega) (by omega)]
      have hne : j ≠ i := fun e => by rw [e] at hj; exact c hj
      exact ih k (i + 1) (by omega) (by omega) (by omega) ⟨j, by omega, j1, hj⟩
theorem has_t (l : List Int) (hl : l.length ≤ 1000) (a : Int) (ha : a ∈ l) (k : Nat) (hk : 1001 < k) : spec_HasNumber.f k l a = some true := by
  obtain ⟨i, hi, e⟩ := List.getElem_of_mem ha
  have r : rd l i = a := by simp [rd, List.getD_eq_getElem?_getD, hi, e]
  have := has_l l hl a l.length k 0 (by omega) (by omega) (by omega) ⟨i, by omega, hi, r⟩
  have e' : spec_l00Has.f k l a = some true := this
  unfold spec_HasNumber.f
  rw [e']
  rfl
theorem ft_t (f : Int) (hf : 1 ≤ f ∧ f ≤ 1000) (k : Nat) (hk : 50 < k) : ∃ r, spec_FactorThirds.f k f = some (r, 0) ∧ impl_FactorThirds.f k f = some (r, 0) ∧ 0 ≤ r ∧ r ≤ 30 ∧ 1000 * f ≤ tI r ∧ (∀ j, 0 ≤ j → j < r → tI j < 1000 * f) := by
  obtain ⟨r, e1, e2, h⟩ := factor_f f hf k (by omega)
  unfold spec_FactorThirds.f impl_FactorThirds.f impl_isFactor.f
  simp only [in_f, within_f, hf, and_self, decide_true, if_true, e1, e2, Option.bind_some]
  exact ⟨r, rfl, rfl, h⟩
theorem to_t {a : Int} (h : 0 ≤ a ∧ a ≤ 36) : impl_TimeOf.f a = some (tI a, 0) := by
  unfold impl_TimeOf.f impl_areThirds.f
  simp [within_f, h, itime h.1 h.2]
theorem two_f (f : Int) (hf : 1 ≤ f ∧ f ≤ 1000) (a b c r : Int) (ha : 0 ≤ a ∧ a ≤ 45) (hb : 0 ≤ b ∧ b ≤ 30) (hc : 0 ≤ c ∧ c ≤ 21) (k : Nat) (hk : 100 < k) (hr : impl_FactorThirds.f k f = some (r, 0)) (hr0 : 0 ≤ r ∧ r ≤ 30) (hu : ∀ j, 50 < j → impl_factorThirds.f j f = some r) :
    ∃ z, impl_WithFilters.f k a b c [f, f] = some z ∧ spec_MoreLight.f a b c (2 * r) = some z := by
  obtain ⟨k, rfl⟩ : ∃ n, k = n + 1 + 1 + 1 := ⟨k - 3, by omega⟩
  have g : (0 ≤ a ∧ a ≤ 45) ∧ (0 ≤ b ∧ b ≤ 30) ∧ (0 ≤ c ∧ c ≤ 21) := ⟨ha, hb, hc⟩
  have l2 : (([f, f] : List Int).length : Int) = 2 := rfl
  have r0 : rd [f, f] 0 = f := rfl
  have r1 : rd [f, f] 1 = f := rfl
  have w1 : wrap64 (0 + 1) = 1 := by rw [w64 (by decide) (by decide)]; rfl
  have w2 : wrap64 (1 + 1) = 2 := by rw [w64 (by decide) (by decide)]; rfl
  have u1 := hu (k + 1 + 1) (by omega)
  have u2 := hu (k + 1) (by omega)
  unfold impl_WithFilters.f spec_MoreLight.f
  simp only [ok_f (a := a) (b := b) (c := c) (by omega) (by omega) (by omega), valid_f (a := a) (b := b) (c := c) (by omega) (by omega) (by omega), g, and_self, decide_true, if_true, Option.bind_some, l2]
  rw [if_neg (by decide)]
  simp only [impl_WithFilters.l0, l2, r0, r1, w1, w2, impl_isFactor.f, within_f, hf, u1, u2, and_self, decide_true, if_true, Option.bind_some]
  clear w1 w2
  rw [w64 (x := 0 + r) (by omega) (by omega), w64 (x := 0 + r + r) (by omega) (by omega)]
  have g4 : -100 ≤ 2 * r ∧ 2 * r ≤ 100 := by omega
  simp only [in_f, g4, and_self, decide_true, if_true, Option.bind_some]
  rw [show 0 + r + r = 2 * r by omega]
  obtain ⟨u, v, w, ⟨e1, e2⟩ | ⟨e1, e2⟩⟩ := more_same ha hb hc g4
  · rw [if_pos (by decide), if_pos (by decide), if_pos (by decide), if_pos (by decide), if_pos (by decide), if_pos (by decide), if_neg (by decide), if_neg (by omega)]
    simp only [e1, e2, Option.bind_some, if_true]
    exact ⟨_, rfl, rfl⟩
  · rw [if_pos (by decide), if_pos (by decide), if_pos (by decide), if_pos (by decide), if_pos (by decide), if_pos (by decide), if_neg (by decide), if_neg (by omega)]
    simp only [e1, e2, Option.bind_some, Bool.false_eq_true, if_false]
    exact ⟨_, rfl, rfl⟩
theorem j5_t (l : List Int) (hb : Bytes l) (hl : l.length ≤ 4096) (a b c : Int) (ha : 0 ≤ a ∧ a ≤ 45) (hb' : 0 ≤ b ∧ b ≤ 30) (hc : 0 ≤ c ∧ c ≤ 21) (k : Nat) (hk : 300 < k) : laws_FnLong.j5 k l a b c = some true := by
  obtain ⟨k, rfl⟩ : ∃ n, k = n + 1 + 1 + 1 := ⟨k - 3, by omega⟩
  obtain ⟨t, et, t0, t1⟩ := p6_f l hb hl 60 (by omega) (by omega)
  obtain ⟨f, ef⟩ : ∃ f, f = 1 + t := ⟨_, rfl⟩
  obtain ⟨r, e1, e2, r0, r1, r2, r3⟩ := ft_t f (by omega) (k + 1 + 1) (by omega)
  have tr := tI_bd (i := r) r0 (by omega)
  have hu : ∀ j, 50 < j → impl_factorThirds.f j f = some r := fun j hj => by
    obtain ⟨q, _, q2, _⟩ := factor_f f (by omega) j (by omega)
    obtain ⟨q', _, q2', _⟩ := factor_f f (by omega) (k + 1 + 1) (by omega)
    have e3 := e2
    unfold impl_FactorThirds.f impl_isFactor.f at e3
    have hf : 1 ≤ f ∧ f ≤ 1000 := by omega
    simp only [within_f, hf, and_self, decide_true, if_true, q2', Option.bind_some, Option.some.injEq, Prod.mk.injEq, and_true] at e3
    have := up (impl_factorThirds.mono f) (k + 1 + 1) j q2' q2
    rw [this, e3]
  obtain ⟨z, z1, z2⟩ := two_f f (by omega) a b c r ha hb' hc k (by omega) (by
    obtain ⟨q, _, q2, _⟩ := ft_t f (by omega) k (by omega)
    exact up (impl_FactorThirds.mono f) (k + 1 + 1) k e2 q2) ⟨r0, r1⟩ hu
  have fin : laws_FnLong.j7 (k + 1) f r a b c = some true := by
    simp only [laws_FnLong.j7]
    rw [w64 (x := 2 * r) (by omega) (by omega), z1, z2]
    simp
  simp only [laws_FnLong.j5, et, Option.bind_some]
  rw [w64 (x := 1 + t) (by omega) (by omega), ← ef, e1, e2]
  simp only [Option.bind_some, to_t (a := r) (by omega), if_true]
  have g1 : ¬ tI r < 1000 * f := by omega
  rw [w64 (x := 1000 * f) (by omega) (by omega)]
  simp only [laws_FnLong.j6, g1, decide_false, Bool.false_eq_true, if_false]
  by_cases c1 : r > 0
  · rw [if_pos c1, w64 (x := r - 1) (by omega) (by omega), to_t (a := r - 1) (by omega)]
    have := r3 (r - 1) (by omega) (by omega)
    simp only [Option.bind_some, if_true]
    rw [w64 (x := 1000 * f) (by omega) (by omega), if_neg (by omega)]
    exact fin
  · rw [if_neg c1]
    exact fin
theorem j4_t (m : List S68) (h : Tab m 0) (l : List Int) (hb : Bytes l) (hl : l.length ≤ 4096) (a b c : Int) (ha : 0 ≤ a ∧ a ≤ 45) (hb' : 0 ≤ b ∧ b ≤ 30) (hc : 0 ≤ c ∧ c ≤ 21) (k : Nat) (hk : 400 < k) : laws_FnLong.j4 k l m (exV m a) a b c = some true := by
  obtain ⟨k, rfl⟩ : ∃ n, k = n + 1 := ⟨k - 1, by omega⟩
  have fin := j5_t l hb hl a b c ha hb' hc k (by omega)
  simp only [laws_FnLong.j4]
  by_cases c1 : a > 0
  · rw [if_pos c1, w64 (x := a) (by omega) (by omega), w64 (x := a - 1) (by omega) (by omega), (efor_t m h (a - 1) (by omega) k (by omega)).2]
    have := exV_mono m h a
    simp only [Option.bind_some, if_true]
    rw [if_neg (by omega)]
    exact fin
  · rw [if_neg c1]
    exact fin
theorem lp_t (m : List S68) (h : Tab m 0) (l : List Int) (hb : Bytes l) (hl : l.length ≤ 4096) (a b c p q r : Int) (ha : 0 ≤ a ∧ a ≤ 45) (hb' : 0 ≤ b ∧ b ≤ 30) (hc : 0 ≤ c ∧ c ≤ 21) (hp : 0 ≤ p ∧ p ≤ 45) (L : List Int) (hL : L.length ≤ 1000) (hq : ∀ n ∈ L, (0 ≤ n ∧ n ≤ 45) ∧ n + exV m n = p) (d : Nat) :
    ∀ (k i : Nat), i ≤ L.length → L.length - i = d → 500 + d < k → laws_FnLong.l0 k l m (exV m a) L i a b c p q r = some true := by
  induction d with
  | zero =>
    intro k i h0 hd hk
    obtain ⟨k, rfl⟩ : ∃ n, k = n + 1 := ⟨k - 1, by omega⟩
    simp only [laws_FnLong.l0]
    rw [if_neg (by omega)]
    exact j4_t m h l hb hl a b c ha hb' hc k (by omega)
  | succ d ih =>
    intro k i h0 hd hk
    obtain ⟨k, rfl⟩ : ∃ n, k = n + 1 := ⟨k - 1, by omega⟩
    have hm : rd L i ∈ L := by
      have := getD_mem L i 0 (by omega)
      simpa [rd] using this
    obtain ⟨n0, n1⟩ := hq _ hm
    have eb := exV_bd m h (rd L i)
    simp only [laws_FnLong.l0]
    rw [if_pos (by omega), if_pos (by omega), (efor_t m h (rd L i) n0 k (by omega)).1]
    simp only [Option.bind_some, if_true]
    rw [w64 (x := rd L i + exV m (rd L i)) (by omega) (by omega), w64 (x := p) (by omega) (by omega), if_pos n1, w64 (x := (i : Int) + 1) (by omega) (by omega)]
    exact ih k (i + 1) (by omega) (by omega) (by omega)
theorem tsnoc {m : List S68} {x y : Int} (h : Tab m 0) (hl : m.length < 10) (hx : 0 ≤ x ∧ x ≤ 45) (hy : 0 ≤ y ∧ y ≤ 30) (hq : m ≠ [] → (rd_T68 m (m.length - 1 : Nat)).f0 < x ∧ (rd_T68 m (m.length - 1 : Nat)).f1 ≤ y) : Tab (m ++ [⟨x, y⟩]) 0 := by
  have r0 : ∀ j : Nat, j < m.length → rd_T68 (m ++ [⟨x, y⟩]) j = rd_T68 m j := fun j hj => by
    simp only [rd_T68, Int.toNat_natCast, List.getD_eq_getElem?_getD]
    rw [List.getElem?_append_left hj]
  have r1 : rd_T68 (m ++ [⟨x, y⟩]) (m.length : Nat) = ⟨x, y⟩ := by
    simp [rd_T68, List.getD_eq_getElem?_getD]
  refine ⟨by simp; omega, fun j _ hj => ?_⟩
  simp only [List.length_append, List.length_singleton] at hj
  by_cases e : j = m.length
  · subst e
    rw [r1]
    refine ⟨hx, hy, fun h0 => ?_⟩
    rw [r0 (m.length - 1) (by omega)]
    exact hq (fun h => by rw [h] at h0; simp at h0)
  · rw [r0 j (by omega)]
    obtain ⟨a, b, c⟩ := h.2 j (by omega) (by omega)
    refine ⟨a, b, fun h0 => ?_⟩
    rw [r0 (j - 1) (by omega)]
    exact c h0
theorem p6t_l (l : List Int) (hb : Bytes l) (hl : l.length ≤ 4096) (n : Nat) : ∀ (k : Nat) (m : List S68) (x y : Int) (i : Nat) (s : Int), m.length + n ≤ 5 → i ≤ 100 * m.length + 100 → 2 * n + 2 < k → Tab m 0 → 0 ≤ x → x ≤ 29 + 8 * m.length → 0 ≤ y → y ≤ 4 * m.length →
    (m ≠ [] → (rd_T68 m (m.length - 1 : Nat)).f0 < x ∧ (rd_T68 m (m.length - 1 : Nat)).f1 ≤ y) → ∃ m', spec_P6Table.l0 k m x y n l i s = some m' ∧ Tab m' 0 := by
  induction n with
  | zero =>
    intro k m x y i s hn hi hk hm x0 x1 y0 y1 hq
    obtain ⟨k, rfl⟩ : ∃ n, k = n + 1 + 1 := ⟨k - 2, by omega⟩
    simp only [spec_P6Table.l0, spec_P6Table.j1]
    simp only [show ¬ ((0 : Nat) : Int) > 0 by omega, Bool.false_eq_true, if_false]
    exact ⟨m, rfl, hm⟩
  | succ n ih =>
    intro k m x y i s hn hi hk hm x0 x1 y0 y1 hq
    obtain ⟨k, rfl⟩ : ∃ n, k = n + 1 + 1 := ⟨k - 2, by omega⟩
    simp only [spec_P6Table.l0]
    rw [if_pos (by omega)]
    by_cases c : x ≤ 45
    · simp only [spec_P6Table.j1, c, decide_true, if_true]
      obtain ⟨v, i1, s1, e1, v0, v1, w1⟩ := pick_f l hb hl i (by omega) s 5 (by omega) (by omega)
      obtain ⟨u, i2, s2, e2, u0, u1, w2⟩ := pick_f l hb hl i1 (by omega) s1 8 (by omega) (by omega)
      rw [e1]
      simp only [Option.bind_some]
      rw [if_pos (by omega), e2]
      simp only [Option.bind_some]
      rw [w64 (x := y + v) (by omega) (by omega), i8w (x := x) (by omega) (by omega), i8w (x := y + v) (by omega) (by omega), w64 (x := 1 + u) (by omega) (by omega), w64 (x := x + (1 + u)) (by omega) (by omega), w64 (x := ((n + 1 : Nat) : Int) - 1) (by omega) (by omega), show ((n + 1 : Nat) : Int) - 1 = (n : Int) by omega]
      have hlen : (m ++ [(⟨x, y + v⟩ : S68)]).length = m.length + 1 := by simp
      have hq' : m ≠ [] → (rd_T68 m (m.length - 1 : Nat)).f0 < x ∧ (rd_T68 m (m.length - 1 : Nat)).f1 ≤ y + v := fun h => by
        have := hq h
        omega
      refine ih k (m ++ [⟨x, y + v⟩]) (x + (1 + u)) (y + v) i2 s2 (by omega) (by omega) (by omega) (tsnoc hm (by omega) ⟨x0, c⟩ ⟨by omega, by omega⟩ hq') (by omega) (by omega) (by omega) (by omega) (fun _ => ?_)
      have : rd_T68 (m ++ [(⟨x, y + v⟩ : S68)]) ((m ++ [(⟨x, y + v⟩ : S68)]).length - 1 : Nat) = ⟨x, y + v⟩ := by
        simp [rd_T68, List.getD_eq_getElem?_getD]
      rw [this]
      exact ⟨by show x < _; omega, by show y + v ≤ _; omega⟩
    · simp only [spec_P6Table.j1, c, decide_false, Bool.false_eq_true, if_false]
      exact ⟨m, rfl, hm⟩
theorem p6t_f (l : List Int) (hb : Bytes l) (hl : l.length ≤ 4096) (k : Nat) (hk : 20 < k) : ∃ m, spec_P6Table.f k l = some m ∧ Tab m 0 := by
  unfold spec_P6Table.f spec_l00From.f
  simp only [Option.bind_some]
  obtain ⟨v, i1, s1, e1, v0, v1, w1⟩ := pick_f l hb hl 0 (by omega) 0 30 (by omega) (by omega)
  obtain ⟨u, i2, s2, e2, u0, u1, w2⟩ := pick_f l hb hl i1 (by omega) s1 5 (by omega) (by omega)
  have e1' : spec_l00Src_pick.f l 0 0 30 = some (v, (i1 : Int), s1) := e1
  simp only [e1', e2, Option.bind_some]
  obtain ⟨n, hn⟩ : ∃ n : Nat, u = n := ⟨u.toNat, by omega⟩
  rw [hn]
  exact p6t_l l hb hl n k [] v 0 i2 s2 (by show 0 + n ≤ 5; omega) (by show i2 ≤ 100 * 0 + 100; omega) (by omega) ⟨by show 0 ≤ 10; omega, fun j _ hj => absurd hj (by show ¬ j < 0; omega)⟩ v0 (by show v ≤ 29 + 8 * ((0 : Nat) : Int); omega) (by omega) (by show (0 : Int) ≤ 4 * ((0 : Nat) : Int); omega) (fun h => absurd rfl h)
theorem FnLong : laws_FnLong.Pure := by
  intro l m l0 l1 lw m0 m1 mw
  refine ⟨4000, ?_⟩
  have hl : Bytes l := fun x hx => by
    have h2 : (decide ((0 : Int) ≤ x) && decide (x ≤ 255)) = true := lw x hx
    simpa using h2
  have hm : Bytes m := fun x hx => by
    have h2 : (decide ((0 : Int) ≤ x) && decide (x ≤ 255)) = true := mw x hx
    simpa using h2
  have yes : laws_FnLong.j0 4000 l m true = some true := rfl
  unfold laws_FnLong.f laws_f6big.f
  simp only [Option.bind_some]
  by_cases c1 : (l.length : Int) > 4096
  · simp only [c1, decide_true, if_true]
    exact yes
  · by_cases c2 : (m.length : Int) > 4096
    · simp only [c1, c2, decide_true, decide_false, Bool.false_eq_true, if_false]
      exact yes
    · simp only [c1, c2, decide_false, Bool.false_eq_true, if_false, laws_FnLong.j0]
      obtain ⟨t, et, ht⟩ := p6t_f l hl (by omega) 3999 (by omega)
      obtain ⟨a, b, c, es, ha, hb, hc⟩ := p6set_f m hm (by omega)
      obtain ⟨x1, x2⟩ := efor_t t ht a ha 3999 (by omega)
      obtain ⟨z, z1, z2, z3⟩ := cor_t t ht a b c ha hb hc 3999 (by omega)
      have eb := exV_bd t ht a
      obtain ⟨_, vt⟩ := tab_t t ht 3999 (by omega)
      simp only [et, es, Option.bind_some]
      rw [w64 (x := a) (by omega) (by omega), x1, x2]
      simp only [Option.bind_some, z1, z2, vt, if_true]
      rw [if_neg (by omega)]
      simp only [beq_self_eq_true, Bool.not_true, Bool.or_self, Bool.false_eq_true, if_false, laws_FnLong.j1]
      have fin := j4_t t ht m hm (by omega) a b c ha hb hc 3998 (by omega)
      rcases z3 with ⟨rfl, g⟩ | ⟨rfl, g⟩
      · obtain ⟨L, eL, hL, q1, q2⟩ := mets_t t ht (a + exV t a) ⟨by omega, g⟩ 3998 (by omega)
        simp only [if_true]
        rw [w64 (x := a + exV t a) (by omega) (by omega), eL]
        simp only [Option.bind_some, if_true]
        rw [w64 (x := a) (by omega) (by omega), w64 (x := a + exV t a) (by omega) (by omega), has_t L hL a (q2 a ha.1 (by omega) rfl) 3998 (by omega)]
        simp only [Option.bind_some, if_true, Bool.not_true, laws_FnLong.j2, Bool.false_eq_true, if_false]
        exact lp_t t ht m hm (by omega) a b c (a + exV t a) b c ha hb hc ⟨by omega, g⟩ L hL q1 L.length 3997 0 (by omega) (by omega) (by omega)
      · simp only
        rw [if_neg (by decide), w64 (x := a) (by omega) (by omega), w64 (x := a + exV t a) (by omega) (by omega), if_pos trivial, if_neg (by omega)]
        exact fin

end Go.Proofs.Ytclneihcbnbmbaa.Pure
