/- Proves, in plain numbers and lists, that the law FnExactBracketOf answers true at all inputs. No condition is added. -/
import Derived.Test.YtclneihcbnbmbaaPFnExactBracketOfx0
import Derived.Test.YtclneihcbnbmbaaPFnExactBracketOfx1
import Derived.Test.YtclneihcbnbmbaaPFnExactBracketOfx2
import Derived.Test.YtclneihcbnbmbaaPFnExactBracketOfx3
namespace Go.Proofs.Ytclneihcbnbmbaa.Pure
open Go.RowKit Go.Proofs.Ytclneihcbnbmbaa.PFnExactBracketOf Go.Proofs.YtclneihcbnbmbaaW.PrintWords Go.Proofs.YtclneihcbnbmbaaW.PrintLast Go.Proofs.YtclneihcbnbmbaaW.PrintMore
set_option linter.unusedVariables false
set_option linter.unusedSimpArgs false
theorem w64 {x : Int} (h : -9223372036854775808 ≤ x) (h' : x ≤ 9223372036854775807) : wrap64 x = x := by unfold wrap64; omega
theorem wf8 {x : Int} (h : (Lit.int .i8 x).wf = true) : -128 ≤ x ∧ x ≤ 127 := by
  have h2 : (decide ((-128 : Int) ≤ x) && decide (x ≤ 127)) = true := h
  simpa using h2
theorem wf16 {x : Int} (h : (Lit.int .i16 x).wf = true) : -32768 ≤ x ∧ x ≤ 32767 := by
  have h2 : (decide ((-32768 : Int) ≤ x) && decide (x ≤ 32767)) = true := h
  simpa using h2
theorem wf64 {x : Int} (h : (Lit.int .i64 x).wf = true) : -9223372036854775808 ≤ x ∧ x ≤ 9223372036854775807 := by
  have h2 : (decide ((-9223372036854775808 : Int) ≤ x) && decide (x ≤ 9223372036854775807)) = true := h
  simpa using h2
theorem wfu64 {x : Int} (h : (Lit.int .u64 x).wf = true) : 0 ≤ x ∧ x ≤ 18446744073709551615 := by
  have h2 : (decide ((0 : Int) ≤ x) && decide (x ≤ 18446744073709551615)) = true := h
  simpa using h2
theorem i8w {x : Int} (h : -128 ≤ x) (h' : x ≤ 127) : IntKind.i8.wrap x = x := by
  show (if (true && decide (x % 256 ≥ 128)) = true then x % 256 - 256 else x % 256) = x
  by_cases e : x % 256 ≥ 128
  · rw [if_pos (by simpa using e)]; omega
  · rw [if_neg (by simpa using e)]; omega
theorem i16w {x : Int} (h : -32768 ≤ x) (h' : x ≤ 32767) : IntKind.i16.wrap x = x := by
  show (if (true && decide (x % 65536 ≥ 32768)) = true then x % 65536 - 65536 else x % 65536) = x
  by_cases e : x % 65536 ≥ 32768
  · rw [if_pos (by simpa using e)]; omega
  · rw [if_neg (by simpa using e)]; omega
theorem u64w {x : Int} (h : 0 ≤ x) (h' : x ≤ 18446744073709551615) : IntKind.u64.wrap x = x := by
  show (if (false && decide (x % 18446744073709551616 ≥ 9223372036854775808)) = true then x % 18446744073709551616 - 18446744073709551616 else x % 18446744073709551616) = x
  rw [if_neg (by simp)]; omega
theorem in_f (a b c : Int) : spec_l00In.f a b c = some (decide (b ≤ a ∧ a ≤ c)) := by
  unfold spec_l00In.f
  by_cases h : b ≤ a <;> simp [h]
theorem within_f (a b c : Int) : impl_within.f a b c = some (decide (b ≤ a ∧ a ≤ c)) := by
  unfold impl_within.f
  by_cases h : b ≤ a <;> simp [h]
theorem ok_f {a b c : Int} (ha : -128 ≤ a ∧ a ≤ 127) (hb : -128 ≤ b ∧ b ≤ 127) (hc : -128 ≤ c ∧ c ≤ 127) : spec_l01Ok.f a b c = some (decide ((0 ≤ a ∧ a ≤ 45) ∧ (0 ≤ b ∧ b ≤ 30) ∧ (0 ≤ c ∧ c ≤ 21))) := by
  unfold spec_l01Ok.f
  rw [w64 (by omega) (by omega), w64 (by omega) (by omega), w64 (by omega) (by omega)]
  simp only [in_f, Option.bind_some]
  by_cases h1 : 0 ≤ a ∧ a ≤ 45 <;> by_cases h2 : 0 ≤ b ∧ b ≤ 30 <;> simp [h1, h2]
theorem valid_f {a b c : Int} (ha : -128 ≤ a ∧ a ≤ 127) (hb : -128 ≤ b ∧ b ≤ 127) (hc : -128 ≤ c ∧ c ≤ 127) : impl_ValidSetting.f a b c = some (decide ((0 ≤ a ∧ a ≤ 45) ∧ (0 ≤ b ∧ b ≤ 30) ∧ (0 ≤ c ∧ c ≤ 21))) := by
  unfold impl_ValidSetting.f impl_isShutter.f
  rw [w64 (by omega) (by omega), w64 (by omega) (by omega), w64 (by omega) (by omega)]
  simp only [within_f, Option.bind_some]
  by_cases h1 : 0 ≤ a ∧ a ≤ 45 <;> by_cases h2 : 0 ≤ b ∧ b ≤ 30 <;> simp [h1, h2]
theorem mxmn (t : Int) : mn 45 (mx 0 t) = (if 0 < (if 45 < t then 45 else t) then (if 45 < t then 45 else t) else 0) := by
  unfold mn mx
  repeat' split
  all_goals omega
theorem more_f {a b c t : Int} (ha : 0 ≤ a ∧ a ≤ 45) (hb : 0 ≤ b ∧ b ≤ 30) (hc : 0 ≤ c ∧ c ≤ 21) (ht : -100 ≤ t ∧ t ≤ 100) :
    ∃ s p : Int, (0 ≤ s ∧ s ≤ 45) ∧ p = b - (t - (s - a)) ∧ (s = 45 ∨ s = 0 ∨ s = a + t) ∧ (s = a + t ∨ a + t < s ∧ s = 0 ∨ s < a + t ∧ s = 45) ∧ (0 ≤ p ∧ p ≤ 30 → spec_l01More.f a b c t = some (s, p, c, true) ∧ impl_Setting_more.f a b c t = some (s, p, c, 0)) ∧
      (¬ (0 ≤ p ∧ p ≤ 30) → spec_l01More.f a b c t = some (0, 0, 0, false) ∧ impl_Setting_more.f a b c t = some (0, 0, 0, 6)) := by
  obtain ⟨s, hs⟩ : ∃ s, s = mn 45 (mx 0 (a + t)) := ⟨_, rfl⟩
  have hs' := hs
  rw [mxmn] at hs'
  have hb2 : (0 ≤ s ∧ s ≤ 45) ∧ (s = 45 ∨ s = 0 ∨ s = a + t) ∧ (s = a + t ∨ a + t < s ∧ s = 0 ∨ s < a + t ∧ s = 45) := by
    rw [hs']
    repeat' split
    all_goals omega
  obtain ⟨sb, s3, s4⟩ := hb2
  refine ⟨s, b - (t - (s - a)), sb, rfl, s3, s4, ?_⟩
  have e1 : spec_l01More.f a b c t = (if 0 ≤ b - (t - (s - a)) ∧ b - (t - (s - a)) ≤ 30 then some (s, b - (t - (s - a)), c, true) else some (0, 0, 0, false)) := by
    unfold spec_l01More.f spec_l00Min.f spec_l00Max.f
    rw [w64 (x := a) (by omega) (by omega), w64 (x := b) (by omega) (by omega), w64 (x := a + t) (by omega) (by omega)]
    have e0 : (if (45 : Int) < a + t then some 45 else some (a + t)) = some (if 45 < a + t then 45 else a + t) := by split <;> rfl
    rw [e0, Option.bind_some]
    have e0 : (if 0 > (if 45 < a + t then 45 else a + t) then some 0 else some (if 45 < a + t then 45 else a + t)) = some s := by
      rw [hs']
      repeat' split
      all_goals first | rfl | (congr 1; omega)
    rw [e0, Option.bind_some, w64 (x := s - a) (by omega) (by omega), w64 (x := t - (s - a)) (by omega) (by omega), w64 (x := b - (t - (s - a))) (by omega) (by omega), in_f, Option.bind_some]
    by_cases g : 0 ≤ b - (t - (s - a)) ∧ b - (t - (s - a)) ≤ 30
    · rw [if_pos (by simpa using g), if_pos g, i8w (by omega) (by omega), i8w (by omega) (by omega)]
    · rw [if_neg (by simpa using g), if_neg g]
  have e2 : impl_Setting_more.f a b c t = (if 0 ≤ b - (t - (s - a)) ∧ b - (t - (s - a)) ≤ 30 then some (s, b - (t - (s - a)), c, 0) else some (0, 0, 0, 6)) := by
    unfold impl_Setting_more.f
    rw [w64 (x := a) (by omega) (by omega), w64 (x := b) (by omega) (by omega), w64 (x := a + t) (by omega) (by omega), ← hs]
    rw [w64 (x := s - a) (by omega) (by omega), w64 (x := t - (s - a)) (by omega) (by omega), w64 (x := b - (t - (s - a))) (by omega) (by omega), within_f, Option.bind_some]
    by_cases g : 0 ≤ b - (t - (s - a)) ∧ b - (t - (s - a)) ≤ 30
    · rw [if_pos (by simpa using g), if_pos g, i8w (x := b - (t - (s - a))) (by omega) (by omega)]
      try rw [i8w (x := s) (by omega) (by omega)]
    · rw [if_neg (by simpa using g), if_neg g]
  exact ⟨fun g => ⟨by rw [e1, if_pos g], by rw [e2, if_pos g]⟩, fun g => ⟨by rw [e1, if_neg g], by rw [e2, if_neg g]⟩⟩
theorem more_same {a b c t : Int} (ha : 0 ≤ a ∧ a ≤ 45) (hb : 0 ≤ b ∧ b ≤ 30) (hc : 0 ≤ c ∧ c ≤ 21) (ht : -100 ≤ t ∧ t ≤ 100) :
    ∃ s p q, (spec_l01More.f a b c t = some (s, p, q, true) ∧ impl_Setting_more.f a b c t = some (s, p, q, 0)) ∨ (spec_l01More.f a b c t = some (0, 0, 0, false) ∧ impl_Setting_more.f a b c t = some (0, 0, 0, 6)) := by
  obtain ⟨s, p, _, _, _, _, h1, h2⟩ := more_f ha hb hc ht
  by_cases g : 0 ≤ p ∧ p ≤ 30
  · exact ⟨s, p, c, .inl (h1 g)⟩
  · exact ⟨s, p, c, .inr (h2 g)⟩
theorem bra_l (a b c e s : Int) (ha : 0 ≤ a ∧ a ≤ 45) (hb : 0 ≤ b ∧ b ≤ 30) (hc : 0 ≤ c ∧ c ≤ 21) (he : 0 ≤ e ∧ e ≤ 5) (hs : 1 ≤ s ∧ s ≤ 9) (d : Nat) : ∀ (k : Nat) (acc : List S41) (x : Int), -e ≤ x → x ≤ e + 1 → e + 1 - x = d → d < k → acc.length + d ≤ 100 →
    ∃ r, spec_BracketOf.l0 k e s acc x a b c = some r ∧ impl_BracketOf.l0 k e s acc x a b c = some r ∧ r.1.length ≤ 100 := by
  induction d with
  | zero =>
    intro k acc x h0 h1 hd hk hl
    obtain ⟨k, rfl⟩ : ∃ n, k = n + 1 := ⟨k - 1, by omega⟩
    simp only [spec_BracketOf.l0, impl_BracketOf.l0]
    have g : ¬ x ≤ e := by omega
    simp only [g, if_false]
    exact ⟨_, rfl, rfl, by show acc.length ≤ 100; omega⟩
  | succ d ih =>
    intro k acc x h0 h1 hd hk hl
    obtain ⟨k, rfl⟩ : ∃ n, k = n + 1 := ⟨k - 1, by omega⟩
    simp only [spec_BracketOf.l0, impl_BracketOf.l0]
    have g : x ≤ e := by omega
    have p1 : -45 ≤ x * s ∧ x * s ≤ 45 := by
      have q1 : (x + 5) * s ≥ 0 := Int.mul_nonneg (by omega) (by omega)
      have q2 : (5 - x) * s ≥ 0 := Int.mul_nonneg (by omega) (by omega)
      rw [Int.add_mul] at q1
      rw [Int.sub_mul] at q2
      omega
    simp only [g, if_true]
    rw [w64 (x := x * s) (by omega) (by omega), w64 (x := x + 1) (by omega) (by omega)]
    obtain ⟨u, v, w, ⟨e1, e2⟩ | ⟨e1, e2⟩⟩ := more_same ha hb hc (t := x * s) (by omega)
    · simp only [e1, e2, Option.bind_some, if_true]
      have hacc : acc.length < 46912496118442 := by omega
      simp only [hacc, if_true]
      have hlen : (acc ++ [(⟨u, v, w⟩ : S41)]).length = acc.length + 1 := by simp
      exact ih k (acc ++ [(⟨u, v, w⟩ : S41)]) (x + 1) (by omega) (by omega) (by omega) (by omega) (by omega)
    · simp only [e1, e2, Option.bind_some, Bool.false_eq_true, if_false]
      exact ⟨_, rfl, rfl, by show 0 ≤ 100; omega⟩
theorem bra_f (a b c e s : Int) (ha : -128 ≤ a ∧ a ≤ 127) (hb : -128 ≤ b ∧ b ≤ 127) (hc : -128 ≤ c ∧ c ≤ 127) (k : Nat) (hk : 20 < k) : ∃ r, spec_BracketOf.f k a b c e s = some r ∧ impl_BracketOf.f k a b c e s = some r ∧ r.1.length ≤ 100 := by
  obtain ⟨k, rfl⟩ : ∃ n, k = n + 1 := ⟨k - 1, by omega⟩
  unfold spec_BracketOf.f impl_BracketOf.f
  simp only [ok_f ha hb hc, valid_f ha hb hc, in_f, within_f, Option.bind_some]
  by_cases h : (0 ≤ a ∧ a ≤ 45) ∧ (0 ≤ b ∧ b ≤ 30) ∧ (0 ≤ c ∧ c ≤ 21)
  · by_cases h1 : 0 ≤ e ∧ e ≤ 5
    · by_cases h2 : 1 ≤ s ∧ s ≤ 9
      · simp only [h, h1, h2, and_self, decide_true, if_true, Bool.not_true, spec_BracketOf.j0, Bool.false_eq_true, if_false]
        rw [w64 (x := -e) (by omega) (by omega)]
        obtain ⟨r, r1, r2, r3⟩ := bra_l a b c e s h.1 h.2.1 h.2.2 h1 h2 (e + 1 + e).toNat (k + 1) [] (-e) (by omega) (by omega) (by omega) (by omega) (by show 0 + _ ≤ 100; omega)
        obtain ⟨q, q1, q2, q3⟩ := bra_l a b c e s h.1 h.2.1 h.2.2 h1 h2 (e + 1 + e).toNat k [] (-e) (by omega) (by omega) (by omega) (by omega) (by show 0 + _ ≤ 100; omega)
        have := spec_BracketOf.mono_l
        refine ⟨r, ?_, r2, r3⟩
        have m := impl_BracketOf.mono a b c e s k q (by unfold impl_BracketOf.f; simp only [valid_f ha hb hc, within_f, Option.bind_some, h, h1, h2, and_self, decide_true, if_true]; rw [w64 (x := -e) (by omega) (by omega)]; exact q2)
        have m2 : impl_BracketOf.f (k + 1) a b c e s = some r := by unfold impl_BracketOf.f; simp only [valid_f ha hb hc, within_f, Option.bind_some, h, h1, h2, and_self, decide_true, if_true]; rw [w64 (x := -e) (by omega) (by omega)]; exact r2
        rw [m] at m2
        rw [q1, m2]
      · simp only [h, h1, h2, and_self, decide_true, decide_false, if_true, Bool.not_false, spec_BracketOf.j0, Bool.false_eq_true, if_false]
        exact ⟨_, rfl, rfl, by show 0 ≤ 100; omega⟩
    · simp only [h, h1, and_self, decide_true, decide_false, if_true, spec_BracketOf.j0, Bool.false_eq_true, if_false]
      exact ⟨_, rfl, rfl, by show 0 ≤ 100; omega⟩
  · simp only [h, decide_false, Bool.false_eq_true, if_false]
    exact ⟨_, rfl, rfl, by show 0 ≤ 100; omega⟩
theorem set_nextg {α β : Type} (f : α → β) (z : β) (d : α) (l : List α) (i : Nat) (h : i < l.length) : ((l.take i).map f ++ List.replicate (l.length - i) z).set i (f (l.getD i d)) = (l.take (i + 1)).map f ++ List.replicate (l.length - (i + 1)) z := by
  apply List.ext_getElem
  · simp; omega
  · intro j h1 h2
    simp only [List.getElem_set, List.getElem_append, List.length_map, List.length_take, List.getElem_map, List.getElem_take, List.getElem_replicate]
    by_cases e : i = j
    · subst e
      rw [if_pos rfl, dif_pos (by omega)]
      simp [h]
    · rw [if_neg e]
      by_cases c : j < i
      · rw [dif_pos (by omega), dif_pos (by omega)]
      · rw [dif_neg (by omega), dif_neg (by omega)]
theorem getD_mem {α : Type} (l : List α) (i : Nat) (d : α) (h : i < l.length) : l.getD i d ∈ l := by
  rw [List.getD_eq_getElem?_getD, List.getElem?_eq_getElem h]
  exact List.getElem_mem h
theorem getD_set_ne {α : Type} (l : List α) (i j : Nat) (x d : α) (h : i ≠ j) : (l.set i x).getD j d = l.getD j d := by
  simp [List.getD_eq_getElem?_getD, List.getElem?_set_ne h]
theorem getD_set_eq {α : Type} (l : List α) (i : Nat) (x d : α) (h : i < l.length) : (l.set i x).getD i d = x := by
  simp [List.getD_eq_getElem?_getD, List.getElem?_set_self h]
theorem eqSettingS_l (l : List S41) (hl : l.length ≤ 1048576) (d : Nat) : ∀ (k : Nat) (i : Nat), i ≤ l.length → l.length - i = d → d < k → laws_eqSettingS.l0 k l l i = some true := by
  induction d with
  | zero =>
    intro k i h0 hd hk
    obtain ⟨k, rfl⟩ : ∃ n, k = n + 1 := ⟨k - 1, by omega⟩
    simp only [laws_eqSettingS.l0]
    rw [if_neg (by omega)]
  | succ d ih =>
    intro k i h0 hd hk
    obtain ⟨k, rfl⟩ : ∃ n, k = n + 1 := ⟨k - 1, by omega⟩
    simp only [laws_eqSettingS.l0, laws_eqSetting.f, if_true, Option.bind_some]
    rw [if_pos (by omega), if_pos (by omega), if_pos (by omega), w64 (by omega) (by omega)]
    exact ih k (i + 1) (by omega) (by omega) (by omega)
theorem eqSettingS_f (l : List S41) (hl : l.length ≤ 1048576) (k : Nat) (hk : l.length < k) : laws_eqSettingS.f k l l = some true := by
  unfold laws_eqSettingS.f
  rw [if_pos rfl]
  exact eqSettingS_l l hl l.length k 0 (by omega) (by omega) hk
def mkSettingS (s : Int) : S41 := ⟨IntKind.i8.wrap s, IntKind.i8.wrap (s + 1), IntKind.i8.wrap (s + 1 + 1)⟩
theorem markSettingS_l (n : Nat) (hn : n ≤ 1048576) (d : Nat) : ∀ (k : Nat) (l : List S41) (s : Int) (i : Nat), l.length = n → i ≤ n → n - i = d → d < k → 0 ≤ s → s + 3 * d ≤ 100000000000 →
    ∃ l', laws_markSettingS.l0 k l s i = some (s + 3 * d, l') ∧ l'.length = n ∧ (∀ j, j < i → l'.getD j z41 = l.getD j z41) ∧ (∀ j : Nat, i ≤ j → j < n → l'.getD j z41 = mkSettingS (s + 3 * ((j : Int) - i))) := by
  induction d with
  | zero =>
    intro k l s i hl h0 hd hk hs hb
    obtain ⟨k, rfl⟩ : ∃ n, k = n + 1 := ⟨k - 1, by omega⟩
    simp only [laws_markSettingS.l0]
    rw [if_neg (by omega)]
    exact ⟨l, by simp, hl, fun j hj => rfl, fun j j0 j1 => by omega⟩
  | succ d ih =>
    intro k l s i hl h0 hd hk hs hb
    obtain ⟨k, rfl⟩ : ∃ n, k = n + 1 := ⟨k - 1, by omega⟩
    simp only [laws_markSettingS.l0]
    rw [if_pos (by omega), if_pos (by omega), Option.bind_some, Option.bind_some, w64 (x := s + 1) (by omega) (by omega), w64 (x := s + 1 + 1) (by omega) (by omega), w64 (x := s + 1 + 1 + 1) (by omega) (by omega), w64 (x := (i : Int) + 1) (by omega) (by omega)]
    have hset : ∀ x : S41, (l.set i x).getD i z41 = x := fun x => getD_set_eq _ _ _ _ (by omega)
    simp only [rd_T41, Int.toNat_natCast, List.set_set, hset]
    obtain ⟨l', e1, e2, e3, e4⟩ := ih k (l.set i (mkSettingS s)) (s + 1 + 1 + 1) (i + 1) (by simpa using hl) (by omega) (by omega) (by omega) (by omega) (by omega)
    refine ⟨l', ?_, e2, fun j hj => ?_, fun j j0 j1 => ?_⟩
    · rw [show s + 3 * ((d + 1 : Nat) : Int) = s + 1 + 1 + 1 + 3 * (d : Int) by omega]
      exact e1
    · rw [e3 j (by omega), getD_set_ne _ _ _ _ _ (by omega)]
    · by_cases c : j = i
      · subst c
        rw [e3 j (by omega), getD_set_eq _ _ _ _ (by omega)]
        congr 1
        omega
      · rw [e4 j (by omega) j1]
        congr 1
        omega
theorem markSettingS_r (l : List S41) (hl : l.length ≤ 1048576) (k : Nat) (hk : l.length < k) : ∃ l', laws_markSettingS.f k l 1 = some (1 + 3 * (l.length : Int), l') := by
  obtain ⟨l', e1, e2, _, e4⟩ := markSettingS_l l.length hl l.length k l 1 0 rfl (by omega) (by omega) hk (by omega) (by omega)
  exact ⟨l', e1⟩
theorem heldSettingS_l (n : Nat) (hn : n ≤ 1048576) (l : List S41) (hl : l.length = n) (d : Nat) : ∀ (k : Nat) (s : Int) (i : Nat), i ≤ n → n - i = d → d < k → 0 ≤ s → s + 3 * d ≤ 100000000000 → (∀ j : Nat, i ≤ j → j < n → l.getD j z41 = mkSettingS (s + 3 * ((j : Int) - i))) →
    laws_heldSettingS.l0 k l s i = some (s + 3 * d) := by
  induction d with
  | zero =>
    intro k s i h0 hd hk hs hb hj
    obtain ⟨k, rfl⟩ : ∃ n, k = n + 1 := ⟨k - 1, by omega⟩
    simp only [laws_heldSettingS.l0]
    rw [if_neg (by omega)]
    simp
  | succ d ih =>
    intro k s i h0 hd hk hs hb hj
    obtain ⟨k, rfl⟩ : ∃ n, k = n + 1 := ⟨k - 1, by omega⟩
    have e := hj i (by omega) (by omega)
    rw [show s + 3 * ((i : Int) - i) = s by omega] at e
    have e' : rd_T41 l i = mkSettingS s := by rw [rd_T41, Int.toNat_natCast]; exact e
    have c1 : (i : Int) < (l.length : Int) := by omega
    have c2 : 0 ≤ (i : Int) := by omega
    simp only [laws_heldSettingS.l0, e', mkSettingS, w64 (x := s + 1) (by omega) (by omega), w64 (x := s + 1 + 1) (by omega) (by omega), w64 (x := s + 1 + 1 + 1) (by omega) (by omega), w64 (x := (i : Int) + 1) (by omega) (by omega), c1, c2, if_true]
    rw [show s + 3 * ((d + 1 : Nat) : Int) = s + 1 + 1 + 1 + 3 * (d : Int) by omega]
    refine ih k (s + 1 + 1 + 1) (i + 1) (by omega) (by omega) (by omega) (by omega) (by omega) (fun j j0 j1 => ?_)
    rw [hj j (by omega) j1]
    congr 1
    omega
theorem markSettingS_f (l : List S41) (hl : l.length ≤ 1048576) (k : Nat) (hk : l.length < k) : ∃ l', laws_markSettingS.f k l 1 = some (1 + 3 * (l.length : Int), l') ∧ l'.length = l.length ∧ ∀ k', l.length < k' → laws_heldSettingS.f k' l' 1 = some (1 + 3 * (l.length : Int)) := by
  obtain ⟨l', e1, e2, _, e4⟩ := markSettingS_l l.length hl l.length k l 1 0 rfl (by omega) (by omega) hk (by omega) (by omega)
  exact ⟨l', e1, e2, fun k' hk' => heldSettingS_l l.length hl l' e2 l.length k' 1 0 (by omega) (by omega) hk' (by omega) (by omega) e4⟩
theorem up {α : Type} {g : Nat → Option α} (h : ∀ k, LeO (g k) (g (k + 1))) {r q : α} (i j : Nat) (hr : g i = some r) (hq : g j = some q) : g j = some r := by
  have a := at_rounds h (Nat.le_max_left i j) hr
  have b := at_rounds h (Nat.le_max_right i j) hq
  rw [a] at b
  rw [hq, Option.some.inj b]
theorem FnExactBracketOf : laws_FnExactBracketOf.Pure := by
  intro a b c e s ha hb hc _ _
  refine ⟨1000, ?_⟩
  unfold laws_FnExactBracketOf.f
  obtain ⟨z, z1, z2, z3⟩ := bra_f a b c e s (wf8 ha) (wf8 hb) (wf8 hc) 1000 (by omega)
  obtain ⟨y, y1, y2, y3⟩ := bra_f a b c e s (wf8 ha) (wf8 hb) (wf8 hc) 999 (by omega)
  have hz : impl_BracketOf.f 999 a b c e s = some z := up (impl_BracketOf.mono a b c e s) 1000 999 z2 y2
  obtain ⟨l2, n1, n2, n3⟩ := markSettingS_f z.1 (by omega) 999 (by omega)
  have q0 : ∀ k, 990 ≤ k → laws_eqSettingS.f k z.1 z.1 = some true := fun k hk => eqSettingS_f _ (by omega) k (by omega)
  simp only [laws_toSetting.f, Option.bind_some, z1, z2, q0 1000 (by omega), if_true, bne_self_eq_false]
  simp only [laws_FnExactBracketOf.j0, Bool.false_eq_true, if_false, n1, Option.bind_some, n3 999 (by omega), if_true, laws_toSetting.f, hz, q0 999 (by omega), bne_self_eq_false]
  rw [if_neg (by omega)]
  simp only [laws_FnExactBracketOf.j1, Bool.false_eq_true, if_false, n3 998 (by omega), Option.bind_some, if_true]
  rw [if_neg (by omega)]

end Go.Proofs.Ytclneihcbnbmbaa.Pure
