/- Proves, in plain numbers and lists, that the law FnExactNearestSettings answers true at all inputs. No condition is added. -/
import Derived.Test.YtclneihcbnbmbaaPFnExactNearestSettingsx0
import Derived.Test.YtclneihcbnbmbaaPFnExactNearestSettingsx1
import Derived.Test.YtclneihcbnbmbaaPFnExactNearestSettingsx2
import Derived.Test.YtclneihcbnbmbaaPFnExactNearestSettingsx3
namespace Go.Proofs.Ytclneihcbnbmbaa.Pure
open Go.RowKit Go.Proofs.Ytclneihcbnbmbaa.PFnExactNearestSettings Go.Proofs.YtclneihcbnbmbaaW.PrintWords Go.Proofs.YtclneihcbnbmbaaW.PrintLast Go.Proofs.YtclneihcbnbmbaaW.PrintMore
set_option linter.unusedVariables false
set_option linter.unusedSimpArgs false
theorem w64 {x : Int} (h : -9223372036854775808 ≤ x) (h' : x ≤ 9223372036854775807) : wrap64 x = x := by unfold wrap64; omega
theorem wf8 {x : Int} (h : (Lit.int .i8 x).wf = true) : -128 ≤ x ∧ x ≤ 127 := by
  have h2 : (decide ((-128 : Int) ≤ x) && decide (x ≤ 127)) = true := h
  simpa using h2
theorem wf16 {x : Int} (h : (Lit.int .i16 x).wf = true) : -32768 ≤ x ∧ x ≤ 32767 := by
  have h2 : (decide ((-32768 : Int) ≤ x) && decide (x ≤ 32767)) = true := h
  simpa using h2
theorem wf64 {x : Int} (h : (Lit.int .i64 x).wf = true) : -9223372036854775808 ≤ x ∧ x ≤ 9223372036854775807 := by
  have h2 : (decide ((-9223372036854775808 : Int) ≤ x) && decide (x ≤ 9223372036854775807)) = true := h
  simpa using h2
theorem wfu64 {x : Int} (h : (Lit.int .u64 x).wf = true) : 0 ≤ x ∧ x ≤ 18446744073709551615 := by
  have h2 : (decide ((0 : Int) ≤ x) && decide (x ≤ 18446744073709551615)) = true := h
  simpa using h2
theorem i8w {x : Int} (h : -128 ≤ x) (h' : x ≤ 127) : IntKind.i8.wrap x = x := by
  show (if (true && decide (x % 256 ≥ 128)) = true then x % 256 - 256 else x % 256) = x
  by_cases e : x % 256 ≥ 128
  · rw [if_pos (by simpa using e)]; omega
  · rw [if_neg (by simpa using e)]; omega
theorem i16w {x : Int} (h : -32768 ≤ x) (h' : x ≤ 32767) : IntKind.i16.wrap x = x := by
  show (if (true && decide (x % 65536 ≥ 32768)) = true then x % 65536 - 65536 else x % 65536) = x
  by_cases e : x % 65536 ≥ 32768
  · rw [if_pos (by simpa using e)]; omega
  · rw [if_neg (by simpa using e)]; omega
theorem u64w {x : Int} (h : 0 ≤ x) (h' : x ≤ 18446744073709551615) : IntKind.u64.wrap x = x := by
  show (if (false && decide (x % 18446744073709551616 ≥ 9223372036854775808)) = true then x % 18446744073709551616 - 18446744073709551616 else x % 18446744073709551616) = x
  rw [if_neg (by simp)]; omega
theorem set_nextg {α β : Type} (f : α → β) (z : β) (d : α) (l : List α) (i : Nat) (h : i < l.length) : ((l.take i).map f ++ List.replicate (l.length - i) z).set i (f (l.getD i d)) = (l.take (i + 1)).map f ++ List.replicate (l.length - (i + 1)) z := by
  apply List.ext_getElem
  · simp; omega
  · intro j h1 h2
    simp only [List.getElem_set, List.getElem_append, List.length_map, List.length_take, List.getElem_map, List.getElem_take, List.getElem_replicate]
    by_cases e : i = j
    · subst e
      rw [if_pos rfl, dif_pos (by omega)]
      simp [h]
    · rw [if_neg e]
      by_cases c : j < i
      · rw [dif_pos (by omega), dif_pos (by omega)]
      · rw [dif_neg (by omega), dif_neg (by omega)]
theorem getD_mem {α : Type} (l : List α) (i : Nat) (d : α) (h : i < l.length) : l.getD i d ∈ l := by
  rw [List.getD_eq_getElem?_getD, List.getElem?_eq_getElem h]
  exact List.getElem_mem h
theorem getD_set_ne {α : Type} (l : List α) (i j : Nat) (x d : α) (h : i ≠ j) : (l.set i x).getD j d = l.getD j d := by
  simp [List.getD_eq_getElem?_getD, List.getElem?_set_ne h]
theorem getD_set_eq {α : Type} (l : List α) (i : Nat) (x d : α) (h : i < l.length) : (l.set i x).getD i d = x := by
  simp [List.getD_eq_getElem?_getD, List.getElem?_set_self h]
theorem in_f (a b c : Int) : spec_l00In.f a b c = some (decide (b ≤ a ∧ a ≤ c)) := by
  unfold spec_l00In.f
  by_cases h : b ≤ a <;> simp [h]
theorem within_f (a b c : Int) : impl_within.f a b c = some (decide (b ≤ a ∧ a ≤ c)) := by
  unfold impl_within.f
  by_cases h : b ≤ a <;> simp [h]
def grow (sp s : Int) : Nat → Int → List S41
  | 0, _ => []
  | n + 1, a => ⟨s, a, sp⟩ :: grow sp s n (a + 3)
def grid (sp : Int) : Nat → Int → List S41
  | 0, _ => []
  | n + 1, s => grow sp s 11 0 ++ grid sp n (s + 3)
theorem grow_len (sp s : Int) : ∀ (n : Nat) (a : Int), (grow sp s n a).length = n
  | 0, _ => rfl
  | n + 1, a => by simp [grow, grow_len sp s n (a + 3)]
theorem grid_len (sp : Int) : ∀ (n : Nat) (s : Int), (grid sp n s).length = 11 * n
  | 0, _ => rfl
  | n + 1, s => by simp [grid, grow_len, grid_len sp n (s + 3)]; omega
theorem grow_mem (sp s : Int) : ∀ (n : Nat) (a : Int) (x : S41), x ∈ grow sp s n a → x.f0 = s ∧ a ≤ x.f1 ∧ x.f1 < a + 3 * n ∧ x.f2 = sp
  | 0, _, x, h => by simp [grow] at h
  | n + 1, a, x, h => by
    simp only [grow, List.mem_cons] at h
    rcases h with h | h
    · subst h
      exact ⟨rfl, Int.le_refl _, by show a < _; omega, rfl⟩
    · have := grow_mem sp s n (a + 3) x h
      omega
theorem grid_mem (sp : Int) : ∀ (n : Nat) (s : Int) (x : S41), x ∈ grid sp n s → s ≤ x.f0 ∧ x.f0 < s + 3 * n ∧ 0 ≤ x.f1 ∧ x.f1 < 33 ∧ x.f2 = sp
  | 0, _, x, h => by simp [grid] at h
  | n + 1, s, x, h => by
    simp only [grid, List.mem_append] at h
    rcases h with h | h
    · have := grow_mem sp s 11 0 x h
      omega
    · have := grid_mem sp n (s + 3) x h
      omega
def gsz (v : Int) (x : S41) : Int := if x.f0 - x.f1 + x.f2 - v < 0 then -(x.f0 - x.f1 + x.f2 - v) else x.f0 - x.f1 + x.f2 - v
theorem off_l1 (v sp off : Int) (hv : -100 ≤ v ∧ v ≤ 100) (hsp : 0 ≤ sp ∧ sp ≤ 21) (s : Int) (hs : 0 ≤ s ∧ s ≤ 45) : ∀ (n K k : Nat) (acc : List S41) (a : Int), K = k + n + 1 → 0 ≤ a → a + 3 * n = 33 → acc.length + n ≤ 1000 →
    spec_l01Off.l1 K v sp off acc s a = spec_l01Off.l0 k v sp off (acc ++ (grow sp s n a).filter (fun x => gsz v x == off)) (s + 3) := by
  intro n
  induction n with
  | zero =>
    intro K k acc a hK h0 h1 hl
    obtain rfl : K = k + 1 := by omega
    simp only [spec_l01Off.l1]
    rw [if_neg (by omega), w64 (by omega) (by omega)]
    simp [grow]
  | succ n ih =>
    intro K k acc a hK h0 h1 hl
    obtain ⟨K, rfl⟩ : ∃ q, K = q + 1 := ⟨K - 1, by omega⟩
    simp only [spec_l01Off.l1, spec_l01Size.f]
    rw [if_pos (by omega), w64 (x := s - a) (by omega) (by omega), w64 (x := s - a + sp) (by omega) (by omega), w64 (x := s - a + sp - v) (by omega) (by omega), w64 (x := -(s - a + sp - v)) (by omega) (by omega), w64 (x := a + 3) (by omega) (by omega)]
    have e : (if s - a + sp - v < 0 then some (-(s - a + sp - v)) else some (s - a + sp - v)) = some (gsz v (⟨s, a, sp⟩ : S41)) := by
      unfold gsz
      split <;> rfl
    rw [e, Option.bind_some, i8w (x := s) (by omega) (by omega), i8w (x := a) (by omega) (by omega), i8w (x := sp) (by omega) (by omega)]
    have hlen : (acc ++ [(⟨s, a, sp⟩ : S41)]).length = acc.length + 1 := by simp
    by_cases c : gsz v (⟨s, a, sp⟩ : S41) = off
    · rw [if_pos c, if_pos (by omega), ih K k (acc ++ [(⟨s, a, sp⟩ : S41)]) (a + 3) (by omega) (by omega) (by omega) (by omega)]
      simp [grow, List.filter_cons, c]
    · rw [if_neg c, ih K k acc (a + 3) (by omega) (by omega) (by omega) (by omega)]
      simp [grow, List.filter_cons, c]
theorem off_l0 (v sp off : Int) (hv : -100 ≤ v ∧ v ≤ 100) (hsp : 0 ≤ sp ∧ sp ≤ 21) : ∀ (n k : Nat) (acc : List S41) (s : Int), 0 ≤ s → s + 3 * n = 48 → 13 * n < k → acc.length + 11 * n ≤ 900 →
    spec_l01Off.l0 k v sp off acc s = some (acc ++ (grid sp n s).filter (fun x => gsz v x == off)) := by
  intro n
  induction n with
  | zero =>
    intro k acc s h0 h1 hk hl
    obtain ⟨k, rfl⟩ : ∃ n, k = n + 1 := ⟨k - 1, by omega⟩
    simp only [spec_l01Off.l0]
    rw [if_neg (by omega)]
    simp [grid]
  | succ n ih =>
    intro k acc s h0 h1 hk hl
    obtain ⟨k, rfl⟩ : ∃ n, k = n + 1 := ⟨k - 1, by omega⟩
    simp only [spec_l01Off.l0]
    rw [if_pos (by omega), off_l1 v sp off hv hsp s (by omega) 11 k (k - 12) acc 0 (by omega) (by omega) (by omega) (by omega)]
    have hf : ((grow sp s 11 0).filter (fun x => gsz v x == off)).length ≤ 11 := by
      have := List.length_filter_le (fun x => gsz v x == off) (grow sp s 11 0)
      rw [grow_len] at this
      exact this
    have hlen : (acc ++ (grow sp s 11 0).filter (fun x => gsz v x == off)).length = acc.length + ((grow sp s 11 0).filter (fun x => gsz v x == off)).length := by simp
    rw [ih (k - 12) _ (s + 3) (by omega) (by omega) (by omega) (by omega)]
    simp [grid, List.filter_append]
theorem off_f (v sp off : Int) (hv : -100 ≤ v ∧ v ≤ 100) (hsp : 0 ≤ sp ∧ sp ≤ 21) (k : Nat) (hk : 210 < k) : spec_l01Off.f k v sp off = some ((grid sp 16 0).filter (fun x => gsz v x == off)) := by
  have := off_l0 v sp off hv hsp 16 k [] 0 (by omega) (by omega) (by omega) (by show 0 + 11 * 16 ≤ 900; omega)
  simpa [spec_l01Off.f] using this
theorem who_l1 (sp : Int) (hsp : 0 ≤ sp ∧ sp ≤ 21) (s : Int) (hs : 0 ≤ s ∧ s ≤ 45) : ∀ (n K k : Nat) (acc : List S41) (a : Int), K = k + n + 1 → 0 ≤ a → a + 3 * n = 33 → acc.length + n ≤ 1000 →
    impl_wholeStops.l1 K sp acc s a = impl_wholeStops.l0 k sp (acc ++ grow sp s n a) (s + 3) := by
  intro n
  induction n with
  | zero =>
    intro K k acc a hK h0 h1 hl
    obtain rfl : K = k + 1 := by omega
    simp only [impl_wholeStops.l1]
    rw [if_neg (by omega), i8w (by omega) (by omega)]
    simp [grow]
  | succ n ih =>
    intro K k acc a hK h0 h1 hl
    obtain ⟨K, rfl⟩ : ∃ q, K = q + 1 := ⟨K - 1, by omega⟩
    simp only [impl_wholeStops.l1]
    have hlen : (acc ++ [(⟨s, a, sp⟩ : S41)]).length = acc.length + 1 := by simp
    rw [if_pos (by omega), if_pos (by omega), i8w (x := sp) (by omega) (by omega), i8w (x := a + 3) (by omega) (by omega), ih K k (acc ++ [(⟨s, a, sp⟩ : S41)]) (a + 3) (by omega) (by omega) (by omega) (by omega)]
    simp [grow]
theorem who_l0 (sp : Int) (hsp : 0 ≤ sp ∧ sp ≤ 21) : ∀ (n k : Nat) (acc : List S41) (s : Int), 0 ≤ s → s + 3 * n = 48 → 13 * n < k → acc.length + 11 * n ≤ 900 →
    impl_wholeStops.l0 k sp acc s = some (acc ++ grid sp n s) := by
  intro n
  induction n with
  | zero =>
    intro k acc s h0 h1 hk hl
    obtain ⟨k, rfl⟩ : ∃ n, k = n + 1 := ⟨k - 1, by omega⟩
    simp only [impl_wholeStops.l0]
    rw [if_neg (by omega)]
    simp [grid]
  | succ n ih =>
    intro k acc s h0 h1 hk hl
    obtain ⟨k, rfl⟩ : ∃ n, k = n + 1 := ⟨k - 1, by omega⟩
    simp only [impl_wholeStops.l0]
    rw [if_pos (by omega), who_l1 sp hsp s (by omega) 11 k (k - 12) acc 0 (by omega) (by omega) (by omega) (by omega)]
    have hlen : (acc ++ grow sp s 11 0).length = acc.length + 11 := by rw [List.length_append, grow_len]
    rw [ih (k - 12) _ (s + 3) (by omega) (by omega) (by omega) (by omega)]
    simp [grid]
theorem who_f (sp : Int) (hsp : 0 ≤ sp ∧ sp ≤ 21) (k : Nat) (hk : 210 < k) : impl_wholeStops.f k sp = some (grid sp 16 0) := by
  have := who_l0 sp hsp 16 k [] 0 (by omega) (by omega) (by omega) (by show 0 + 11 * 16 ≤ 900; omega)
  simpa [impl_wholeStops.f] using this
theorem asked_f (v sp : Int) : spec_l01Asked.f v sp = some (decide ((-100 ≤ v ∧ v ≤ 100) ∧ (0 ≤ sp ∧ sp ≤ 21))) := by
  unfold spec_l01Asked.f
  simp only [in_f, Option.bind_some]
  by_cases c : -100 ≤ v ∧ v ≤ 100 <;> simp [c]
theorem isasked_f (v sp : Int) : impl_isAsked.f v sp = some (decide ((-100 ≤ v ∧ v ≤ 100) ∧ (0 ≤ sp ∧ sp ≤ 21))) := by
  unfold impl_isAsked.f
  simp only [within_f, Option.bind_some]
  by_cases c : -100 ≤ v ∧ v ≤ 100 <;> simp [c]
theorem gval {sp v : Int} {m : List S41} (hsp : 0 ≤ sp ∧ sp ≤ 21) (hv : -100 ≤ v ∧ v ≤ 100) (hm : ∀ x ∈ m, x ∈ grid sp 16 0) (i : Nat) (hi : i < m.length) :
    impl_Setting_value.f ((rd_T41 m i).f0) ((rd_T41 m i).f1) ((rd_T41 m i).f2) = some ((rd_T41 m i).f0 - (rd_T41 m i).f1 + (rd_T41 m i).f2) ∧ -200 ≤ (rd_T41 m i).f0 - (rd_T41 m i).f1 + (rd_T41 m i).f2 ∧ (rd_T41 m i).f0 - (rd_T41 m i).f1 + (rd_T41 m i).f2 ≤ 200 := by
  have h := grid_mem sp 16 0 _ (hm _ (getD_mem m i z41 hi))
  have h2 : 0 ≤ (rd_T41 m i).f0 ∧ (rd_T41 m i).f0 < 48 ∧ 0 ≤ (rd_T41 m i).f1 ∧ (rd_T41 m i).f1 < 33 ∧ (rd_T41 m i).f2 = sp := by
    simpa [rd_T41] using h
  unfold impl_Setting_value.f
  rw [w64 (x := (rd_T41 m i).f0) (by omega) (by omega), w64 (x := (rd_T41 m i).f1) (by omega) (by omega), w64 (x := (rd_T41 m i).f2) (by omega) (by omega), w64 (x := (rd_T41 m i).f0 - (rd_T41 m i).f1) (by omega) (by omega), w64 (by omega) (by omega)]
  exact ⟨rfl, by omega, by omega⟩
theorem drop_rd (m : List S41) (i : Nat) (hi : i < m.length) : m.drop i = rd_T41 m i :: m.drop (i + 1) := by
  rw [List.drop_eq_getElem_cons hi]
  congr 1
  simp [rd_T41, List.getD_eq_getElem?_getD, hi]
theorem gsz_nonneg (v : Int) (x : S41) : 0 ≤ gsz v x := by
  unfold gsz
  split <;> omega
theorem eqSettingS_l (l : List S41) (hl : l.length ≤ 1048576) (d : Nat) : ∀ (k : Nat) (i : Nat), i ≤ l.length → l.length - i = d → d < k → laws_eqSettingS.l0 k l l i = some true := by
  induction d with
  | zero =>
    intro k i h0 hd hk
    obtain ⟨k, rfl⟩ : ∃ n, k = n + 1 := ⟨k - 1, by omega⟩
    simp only [laws_eqSettingS.l0]
    rw [if_neg (by omega)]
  | succ d ih =>
    intro k i h0 hd hk
    obtain ⟨k, rfl⟩ : ∃ n, k = n + 1 := ⟨k - 1, by omega⟩
    simp only [laws_eqSettingS.l0, laws_eqSetting.f, if_true, Option.bind_some]
    rw [if_pos (by omega), if_pos (by omega), if_pos (by omega), w64 (by omega) (by omega)]
    exact ih k (i + 1) (by omega) (by omega) (by omega)
theorem eqSettingS_f (l : List S41) (hl : l.length ≤ 1048576) (k : Nat) (hk : l.length < k) : laws_eqSettingS.f k l l = some true := by
  unfold laws_eqSettingS.f
  rw [if_pos rfl]
  exact eqSettingS_l l hl l.length k 0 (by omega) (by omega) hk
def mkSettingS (s : Int) : S41 := ⟨IntKind.i8.wrap s, IntKind.i8.wrap (s + 1), IntKind.i8.wrap (s + 1 + 1)⟩
theorem markSettingS_l (n : Nat) (hn : n ≤ 1048576) (d : Nat) : ∀ (k : Nat) (l : List S41) (s : Int) (i : Nat), l.length = n → i ≤ n → n - i = d → d < k → 0 ≤ s → s + 3 * d ≤ 100000000000 →
    ∃ l', laws_markSettingS.l0 k l s i = some (s + 3 * d, l') ∧ l'.length = n ∧ (∀ j, j < i → l'.getD j z41 = l.getD j z41) ∧ (∀ j : Nat, i ≤ j → j < n → l'.getD j z41 = mkSettingS (s + 3 * ((j : Int) - i))) := by
  induction d with
  | zero =>
    intro k l s i hl h0 hd hk hs hb
    obtain ⟨k, rfl⟩ : ∃ n, k = n + 1 := ⟨k - 1, by omega⟩
    simp only [laws_markSettingS.l0]
    rw [if_neg (by omega)]
    exact ⟨l, by simp, hl, fun j hj => rfl, fun j j0 j1 => by omega⟩
  | succ d ih =>
    intro k l s i hl h0 hd hk hs hb
    obtain ⟨k, rfl⟩ : ∃ n, k = n + 1 := ⟨k - 1, by omega⟩
    simp only [laws_markSettingS.l0]
    rw [if_pos (by omega), if_pos (by omega), Option.bind_some, Option.bind_some, w64 (x := s + 1) (by omega) (by omega), w64 (x := s + 1 + 1) (by omega) (by omega), w64 (x := s + 1 + 1 + 1) (by omega) (by omega), w64 (x := (i : Int) + 1) (by omega) (by omega)]
    have hset : ∀ x : S41, (l.set i x).getD i z41 = x := fun x => getD_set_eq _ _ _ _ (by omega)
    simp only [rd_T41, Int.toNat_natCast, List.set_set, hset]
    obtain ⟨l', e1, e2, e3, e4⟩ := ih k (l.set i (mkSettingS s)) (s + 1 + 1 + 1) (i + 1) (by simpa using hl) (by omega) (by omega) (by omega) (by omega) (by omega)
    refine ⟨l', ?_, e2, fun j hj => ?_, fun j j0 j1 => ?_⟩
    · rw [show s + 3 * ((d + 1 : Nat) : Int) = s + 1 + 1 + 1 + 3 * (d : Int) by omega]
      exact e1
    · rw [e3 j (by omega), getD_set_ne _ _ _ _ _ (by omega)]
    · by_cases c : j = i
      · subst c
        rw [e3 j (by omega), getD_set_eq _ _ _ _ (by omega)]
        congr 1
        omega
      · rw [e4 j (by omega) j1]
        congr 1
        omega
theorem markSettingS_r (l : List S41) (hl : l.length ≤ 1048576) (k : Nat) (hk : l.length < k) : ∃ l', laws_markSettingS.f k l 1 = some (1 + 3 * (l.length : Int), l') := by
  obtain ⟨l', e1, e2, _, e4⟩ := markSettingS_l l.length hl l.length k l 1 0 rfl (by omega) (by omega) hk (by omega) (by omega)
  exact ⟨l', e1⟩
theorem markSettingS_s (l : List S41) (s : Int) (hs : 0 ≤ s ∧ s ≤ 10000000) (hl : l.length ≤ 1048576) (k : Nat) (hk : l.length < k) : ∃ l', laws_markSettingS.f k l s = some (s + 3 * (l.length : Int), l') := by
  obtain ⟨l', e1, e2, _, e4⟩ := markSettingS_l l.length hl l.length k l s 0 rfl (by omega) (by omega) hk (by omega) (by omega)
  exact ⟨l', e1⟩
theorem heldSettingS_l (n : Nat) (hn : n ≤ 1048576) (l : List S41) (hl : l.length = n) (d : Nat) : ∀ (k : Nat) (s : Int) (i : Nat), i ≤ n → n - i = d → d < k → 0 ≤ s → s + 3 * d ≤ 100000000000 → (∀ j : Nat, i ≤ j → j < n → l.getD j z41 = mkSettingS (s + 3 * ((j : Int) - i))) →
    laws_heldSettingS.l0 k l s i = some (s + 3 * d) := by
  induction d with
  | zero =>
    intro k s i h0 hd hk hs hb hj
    obtain ⟨k, rfl⟩ : ∃ n, k = n + 1 := ⟨k - 1, by omega⟩
    simp only [laws_heldSettingS.l0]
    rw [if_neg (by omega)]
    simp
  | succ d ih =>
    intro k s i h0 hd hk hs hb hj
    obtain ⟨k, rfl⟩ : ∃ n, k = n + 1 := ⟨k - 1, by omega⟩
    have e := hj i (by omega) (by omega)
    rw [show s + 3 * ((i : Int) - i) = s by omega] at e
    have e' : rd_T41 l i = mkSettingS s := by rw [rd_T41, Int.toNat_natCast]; exact e
    have c1 : (i : Int) < (l.length : Int) := by omega
    have c2 : 0 ≤ (i : Int) := by omega
    simp only [laws_heldSettingS.l0, e', mkSettingS, w64 (x := s + 1) (by omega) (by omega), w64 (x := s + 1 + 1) (by omega) (by omega), w64 (x := s + 1 + 1 + 1) (by omega) (by omega), w64 (x := (i : Int) + 1) (by omega) (by omega), c1, c2, if_true]
    rw [show s + 3 * ((d + 1 : Nat) : Int) = s + 1 + 1 + 1 + 3 * (d : Int) by omega]
    refine ih k (s + 1 + 1 + 1) (i + 1) (by omega) (by omega) (by omega) (by omega) (by omega) (fun j j0 j1 => ?_)
    rw [hj j (by omega) j1]
    congr 1
    omega
theorem markSettingS_f (l : List S41) (hl : l.length ≤ 1048576) (k : Nat) (hk : l.length < k) : ∃ l', laws_markSettingS.f k l 1 = some (1 + 3 * (l.length : Int), l') ∧ l'.length = l.length ∧ ∀ k', l.length < k' → laws_heldSettingS.f k' l' 1 = some (1 + 3 * (l.length : Int)) := by
  obtain ⟨l', e1, e2, _, e4⟩ := markSettingS_l l.length hl l.length k l 1 0 rfl (by omega) (by omega) hk (by omega) (by omega)
  exact ⟨l', e1, e2, fun k' hk' => heldSettingS_l l.length hl l' e2 l.length k' 1 0 (by omega) (by omega) hk' (by omega) (by omega) e4⟩
theorem up {α : Type} {g : Nat → Option α} (h : ∀ k, LeO (g k) (g (k + 1))) {r q : α} (i j : Nat) (hr : g i = some r) (hq : g j = some q) : g j = some r := by
  have a := at_rounds h (Nat.le_max_left i j) hr
  have b := at_rounds h (Nat.le_max_right i j) hq
  rw [a] at b
  rw [hq, Option.some.inj b]
theorem isz {x : Int} (h : -9223372036854775808 < x) (h' : x ≤ 9223372036854775807) : impl_size.f x = some (if x < 0 then -x else x) := by
  unfold impl_size.f mx
  rw [w64 (by omega) (by omega)]
  by_cases c : x < 0
  · rw [if_pos (by omega), if_pos c]
  · by_cases e : x = 0
    · subst e; rfl
    · rw [if_neg (by omega), if_neg c]
theorem take_rd (m : List S41) (i : Nat) (hi : i < m.length) : m.take (i + 1) = m.take i ++ [rd_T41 m i] := by
  rw [List.take_succ_eq_append_getElem hi]
  simp [rd_T41, List.getD_eq_getElem?_getD, hi]
def Hits (v q : Int) (m : List S41) : Prop := q < 1000 → ∃ x ∈ m, gsz v x = q
theorem nst_l (v sp : Int) (hv : -100 ≤ v ∧ v ≤ 100) (hsp : 0 ≤ sp ∧ sp ≤ 21) (m : List S41) (hm : ∀ x ∈ m, x ∈ grid sp 16 0) (hl : m.length ≤ 200) (d : Nat) : ∀ (k : Nat) (q : Int) (i : Nat), i ≤ m.length → m.length - i = d → d < k → 0 ≤ q → q ≤ 1000 → (∀ x ∈ m.take i, q ≤ gsz v x) → Hits v q (m.take i) →
    ∃ q', 0 ≤ q' ∧ q' ≤ 1000 ∧ impl_NearestSettings.l0 k v ((m.take i).filter (fun x => gsz v x == q)) q m (m.length : Int) i = some (m.filter (fun x => gsz v x == q'), 0) ∧ (∀ x ∈ m, q' ≤ gsz v x) ∧ Hits v q' m := by
  induction d with
  | zero =>
    intro k q i h0 hd hk q0 q1 h1 h2
    obtain ⟨k, rfl⟩ : ∃ n, k = n + 1 := ⟨k - 1, by omega⟩
    simp only [impl_NearestSettings.l0]
    rw [List.take_of_length_le (by omega)] at h1 h2 ⊢
    exact ⟨q, q0, q1, by rw [if_neg (by omega)], h1, h2⟩
  | succ d ih =>
    intro k q i h0 hd hk q0 q1 h1 h2
    obtain ⟨k, rfl⟩ : ∃ n, k = n + 1 := ⟨k - 1, by omega⟩
    simp only [impl_NearestSettings.l0]
    obtain ⟨e1, e2, e3⟩ := gval (v := v) hsp hv hm i (by omega)
    rw [if_pos (by omega), if_pos (by omega), if_pos (by omega), e1, Option.bind_some, w64 (x := (i : Int) + 1) (by omega) (by omega), w64 (x := (rd_T41 m i).f0 - (rd_T41 m i).f1 + (rd_T41 m i).f2 - v) (by omega) (by omega), isz (by omega) (by omega), Option.bind_some]
    have eg : (if (rd_T41 m i).f0 - (rd_T41 m i).f1 + (rd_T41 m i).f2 - v < 0 then -((rd_T41 m i).f0 - (rd_T41 m i).f1 + (rd_T41 m i).f2 - v) else (rd_T41 m i).f0 - (rd_T41 m i).f1 + (rd_T41 m i).f2 - v) = gsz v (rd_T41 m i) := rfl
    have eb : gsz v (rd_T41 m i) ≤ 300 := by unfold gsz; split <;> omega
    have en := gsz_nonneg v (rd_T41 m i)
    rw [eg]
    have fl : ((m.take i).filter (fun x => gsz v x == q)).length ≤ 200 := by
      have a1 := List.length_filter_le (fun x => gsz v x == q) (m.take i)
      have a2 := List.length_take_le i m
      omega
    by_cases c : gsz v (rd_T41 m i) < q
    · rw [if_pos c, if_pos (by decide)]
      have hf : ([] : List S41) ++ [(⟨(rd_T41 m i).f0, (rd_T41 m i).f1, (rd_T41 m i).f2⟩ : S41)] = (m.take (i + 1)).filter (fun x => gsz v x == gsz v (rd_T41 m i)) := by
        rw [take_rd m i (by omega), List.filter_append]
        have : (m.take i).filter (fun x => gsz v x == gsz v (rd_T41 m i)) = [] := by
          rw [List.filter_eq_nil_iff]
          intro x hx
          have := h1 x hx
          simp only [beq_iff_eq]
          omega
        rw [this]
        simp
      rw [hf]
      refine ih k (gsz v (rd_T41 m i)) (i + 1) (by omega) (by omega) (by omega) (by omega) (by omega) (fun x hx => ?_) (fun _ => ⟨rd_T41 m i, by rw [take_rd m i (by omega)]; simp, rfl⟩)
      rw [take_rd m i (by omega)] at hx
      rcases List.mem_append.1 hx with hx | hx
      · have := h1 x hx
        omega
      · rw [List.mem_singleton.1 hx]
        exact Int.le_refl _
    · rw [if_neg c]
      have hall : ∀ x ∈ m.take (i + 1), q ≤ gsz v x := fun x hx => by
        rw [take_rd m i (by omega)] at hx
        rcases List.mem_append.1 hx with hx | hx
        · exact h1 x hx
        · rw [List.mem_singleton.1 hx]
          omega
      have hsome : Hits v q (m.take (i + 1)) := fun hq => by
        obtain ⟨x, hx, e⟩ := h2 hq
        exact ⟨x, by rw [take_rd m i (by omega)]; exact List.mem_append_left _ hx, e⟩
      by_cases c2 : gsz v (rd_T41 m i) = q
      · rw [if_pos c2, if_pos (by omega)]
        have hf : (m.take i).filter (fun x => gsz v x == q) ++ [(⟨(rd_T41 m i).f0, (rd_T41 m i).f1, (rd_T41 m i).f2⟩ : S41)] = (m.take (i + 1)).filter (fun x => gsz v x == q) := by
          rw [take_rd m i (by omega), List.filter_append]
          simp [List.filter_cons, c2]
        rw [hf]
        exact ih k q (i + 1) (by omega) (by omega) (by omega) q0 q1 hall hsome
      · rw [if_neg c2]
        have hf : (m.take i).filter (fun x => gsz v x == q) = (m.take (i + 1)).filter (fun x => gsz v x == q) := by
          rw [take_rd m i (by omega), List.filter_append]
          simp [List.filter_cons, c2]
        rw [hf]
        exact ih k q (i + 1) (by omega) (by omega) (by omega) q0 q1 hall hsome
theorem nsp_l (v sp q : Int) (hv : -100 ≤ v ∧ v ≤ 100) (hsp : 0 ≤ sp ∧ sp ≤ 21) (q1 : q ≤ 300) (hq : ∀ x ∈ grid sp 16 0, q ≤ gsz v x) (hx : ∃ x ∈ grid sp 16 0, gsz v x = q) (d : Nat) : ∀ (k : Nat) (o : Int), 0 ≤ o → o ≤ q → q - o = d → d + 220 < k →
    spec_NearestSettings.l0 k v sp o = some ((grid sp 16 0).filter (fun x => gsz v x == q), 0) := by
  induction d with
  | zero =>
    intro k o h0 h1 hd hk
    obtain ⟨k, rfl⟩ : ∃ n, k = n + 1 := ⟨k - 1, by omega⟩
    simp only [spec_NearestSettings.l0]
    rw [off_f v sp o hv hsp k (by omega), Option.bind_some, show o = q by omega]
    obtain ⟨x, hx, e⟩ := hx
    have hmem : x ∈ (grid sp 16 0).filter (fun x => gsz v x == q) := List.mem_filter.2 ⟨hx, by simpa using e⟩
    have := List.length_pos_of_mem hmem
    rw [if_pos (by omega)]
  | succ d ih =>
    intro k o h0 h1 hd hk
    obtain ⟨k, rfl⟩ : ∃ n, k = n + 1 := ⟨k - 1, by omega⟩
    simp only [spec_NearestSettings.l0]
    have he : (grid sp 16 0).filter (fun x => gsz v x == o) = [] := by
      rw [List.filter_eq_nil_iff]
      intro x hx
      have := hq x hx
      simp only [beq_iff_eq]
      omega
    rw [off_f v sp o hv hsp k (by omega), Option.bind_some, he, if_neg (by decide), w64 (by omega) (by omega)]
    exact ih k (o + 1) (by omega) (by omega) (by omega) (by omega)
theorem near_set (v sp : Int) (k : Nat) (hk : 600 < k) : ∃ r, spec_NearestSettings.f k v sp = some r ∧ impl_NearestSettings.f k v sp = some r ∧ r.1.length ≤ 200 := by
  unfold spec_NearestSettings.f impl_NearestSettings.f
  simp only [asked_f, isasked_f, Option.bind_some]
  by_cases h : (-100 ≤ v ∧ v ≤ 100) ∧ (0 ≤ sp ∧ sp ≤ 21)
  · have gl := grid_len sp 16 0
    simp only [h, and_self, decide_true, if_true]
    obtain ⟨q, q0, q1, e, hq, hx⟩ := nst_l v sp h.1 h.2 (grid sp 16 0) (fun x hx => hx) (by omega) (grid sp 16 0).length k 1000 0 (by omega) (by omega) (by omega) (by omega) (by omega) (fun x hx => by simp at hx) (fun h => by omega)
    have m0 : (⟨0, 0, sp⟩ : S41) ∈ grid sp 16 0 := by
      show _ ∈ grow sp 0 11 0 ++ grid sp 15 (0 + 3)
      exact List.mem_append_left _ (by show _ ∈ (_ :: _); exact List.mem_cons_self)
    have q2 := hq _ m0
    have q3 : gsz v (⟨0, 0, sp⟩ : S41) ≤ 300 := by unfold gsz; split <;> (simp only; omega)
    rw [who_f sp h.2 k (by omega), Option.bind_some]
    rw [List.take_zero, List.filter_nil, show ((0 : Nat) : Int) = 0 from rfl] at e
    rw [e]
    refine ⟨_, nsp_l v sp q h.1 h.2 (by omega) hq (hx (by omega)) q.toNat k 0 (by omega) (by omega) (by omega) (by omega), rfl, ?_⟩
    have := List.length_filter_le (fun x => gsz v x == q) (grid sp 16 0)
    show ((grid sp 16 0).filter (fun x => gsz v x == q)).length ≤ 200
    omega
  · simp only [h, decide_false, Bool.false_eq_true, if_false]
    exact ⟨_, rfl, rfl, by show 0 ≤ 200; omega⟩
theorem FnExactNearestSettings : laws_FnExactNearestSettings.Pure := by
  intro v sp _ _
  refine ⟨1000, ?_⟩
  unfold laws_FnExactNearestSettings.f
  obtain ⟨z, z1, z2, z3⟩ := near_set v sp 1000 (by omega)
  obtain ⟨y, y1, y2, y3⟩ := near_set v sp 999 (by omega)
  have hz : impl_NearestSettings.f 999 v sp = some z := up (impl_NearestSettings.mono v sp) 1000 999 z2 y2
  obtain ⟨l2, n1, n2, n3⟩ := markSettingS_f z.1 (by omega) 999 (by omega)
  have q0 : ∀ k, 990 ≤ k → laws_eqSettingS.f k z.1 z.1 = some true := fun k hk => eqSettingS_f _ (by omega) k (by omega)
  simp only [Option.bind_some, z1, z2, q0 1000 (by omega), if_true, bne_self_eq_false]
  simp only [laws_FnExactNearestSettings.j0, Bool.false_eq_true, if_false, n1, Option.bind_some, n3 999 (by omega), if_true, hz, q0 999 (by omega), bne_self_eq_false]
  rw [if_neg (by omega)]
  simp only [laws_FnExactNearestSettings.j1, Bool.false_eq_true, if_false, n3 998 (by omega), Option.bind_some, if_true]
  rw [if_neg (by omega)]

end Go.Proofs.Ytclneihcbnbmbaa.Pure
