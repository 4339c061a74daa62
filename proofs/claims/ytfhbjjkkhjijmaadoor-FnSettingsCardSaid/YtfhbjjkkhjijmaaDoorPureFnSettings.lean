/- Proves, in plain numbers and lists, that the law FnSettings answers true at all inputs. No condition is added. -/
import Derived.Test.YtfhbjjkkhjijmaaDoorPFnSettingsx0
import Derived.Test.YtfhbjjkkhjijmaaDoorPFnSettingsx1
import Derived.Test.YtfhbjjkkhjijmaaDoorPFnSettingsx2
import Derived.Test.YtfhbjjkkhjijmaaDoorPFnSettingsx3
import Derived.Test.YtfhbjjkkhjijmaaDoorPFnSettingsx4
import Derived.Test.YtfhbjjkkhjijmaaDoorPFnSettingsx5
import Derived.Test.YtfhbjjkkhjijmaaDoorPFnSettingsx6
import Derived.Test.YtfhbjjkkhjijmaaDoorPFnSettingsx7
namespace Go.Proofs.YtfhbjjkkhjijmaaDoor.Pure
open Go.RowKit Go.Proofs.YtfhbjjkkhjijmaaDoor.PFnSettings Go.Proofs.YtfhbjjkkhjijmaaDoorW.PrintWords Go.Proofs.YtfhbjjkkhjijmaaDoorW.PrintLast Go.Proofs.YtfhbjjkkhjijmaaDoorW.PrintMore
set_option linter.unusedVariables false
set_option linter.unusedSimpArgs false
theorem w64 {x : Int} (h : -9223372036854775808 ≤ x) (h' : x ≤ 9223372036854775807) : wrap64 x = x := by unfold wrap64; omega
theorem i8w {x : Int} (h : -128 ≤ x) (h' : x ≤ 127) : IntKind.i8.wrap x = x := by
 show (if (true && decide (x % 256 ≥ 128)) = true then x % 256 - 256 else x % 256) = x
 by_cases e : x % 256 ≥ 128
 · rw [if_pos (by simpa using e)]; omega
 · rw [if_neg (by simpa using e)]; omega
theorem u64w {x : Int} (h : 0 ≤ x) (h' : x ≤ 18446744073709551615) : IntKind.u64.wrap x = x := by
 show (if (false && decide (x % 18446744073709551616 ≥ 9223372036854775808)) = true then x % 18446744073709551616 - 18446744073709551616 else x % 18446744073709551616) = x
 rw [if_neg (by simp)]; omega
theorem getD_mem {α : Type} (l : List α) (i : Nat) (d : α) (h : i < l.length) : l.getD i d ∈ l := by
 rw [List.getD_eq_getElem?_getD, List.getElem?_eq_getElem h]
 exact List.getElem_mem h
theorem in_f (a b c : Int) : spec_l00In.f a b c = some (decide (b ≤ a ∧ a ≤ c)) := by
 unfold spec_l00In.f
 by_cases h : b ≤ a <;> simp [h]
theorem within_f (a b c : Int) : impl_within.f a b c = some (decide (b ≤ a ∧ a ≤ c)) := by
 unfold impl_within.f
 by_cases h : b ≤ a <;> simp [h]
def grow (sp s : Int) : Nat → Int → List S26
 | 0, _ => []
 | n + 1, a => ⟨s, a, sp⟩ :: grow sp s n (a + 3)
def grid (sp : Int) : Nat → Int → List S26
 | 0, _ => []
 | n + 1, s => grow sp s 11 0 ++ grid sp n (s + 3)
theorem grow_len (sp s : Int) : ∀ (n : Nat) (a : Int), (grow sp s n a).length = n
 | 0, _ => rfl
 | n + 1, a => by simp [grow, grow_len sp s n (a + 3)]
theorem grid_len (sp : Int) : ∀ (n : Nat) (s : Int), (grid sp n s).length = 11 * n
 | 0, _ => rfl
 | n + 1, s => by simp [grid, grow_len, grid_len sp n (s + 3)]; omega
theorem grow_mem (sp s : Int) : ∀ (n : Nat) (a : Int) (x : S26), x ∈ grow sp s n a → x.f0 = s ∧ a ≤ x.f1 ∧ x.f1 < a + 3 * n ∧ x.f2 = sp
 | 0, _, x, h => by simp [grow] at h
 | n + 1, a, x, h => by
  simp only [grow, List.mem_cons] at h
  rcases h with h | h
  · subst h
    exact ⟨rfl, Int.le_refl _, by show a < _; omega, rfl⟩
  · have := grow_mem sp s n (a + 3) x h
    omega
theorem grid_mem (sp : Int) : ∀ (n : Nat) (s : Int) (x : S26), x ∈ grid sp n s → s ≤ x.f0 ∧ x.f0 < s + 3 * n ∧ 0 ≤ x.f1 ∧ x.f1 < 33 ∧ x.f2 = sp
 | 0, _, x, h => by simp [grid] at h
 | n + 1, s, x, h => by
  simp only [grid, List.mem_append] at h
  rcases h with h | h
  · have := grow_mem sp s 11 0 x h
    omega
  · have := grid_mem sp n (s + 3) x h
    omega
def gsz (v : Int) (x : S26) : Int := if x.f0 - x.f1 + x.f2 - v < 0 then -(x.f0 - x.f1 + x.f2 - v) else x.f0 - x.f1 + x.f2 - v
theorem off_l1 (v sp off : Int) (hv : -100 ≤ v ∧ v ≤ 100) (hsp : 0 ≤ sp ∧ sp ≤ 21) (s : Int) (hs : 0 ≤ s ∧ s ≤ 45) : ∀ (n K k : Nat) (acc : List S26) (a : Int), K = k + n + 1 → 0 ≤ a → a + 3 * n = 33 → acc.length + n ≤ 1000 →
 spec_l01Off.l1 K v sp off acc s a = spec_l01Off.l0 k v sp off (acc ++ (grow sp s n a).filter (fun x => gsz v x == off)) (s + 3) := by
 intro n
 induction n with
 | zero =>
  intro K k acc a hK h0 h1 hl
  obtain rfl : K = k + 1 := by omega
  simp only [spec_l01Off.l1]
  rw [if_neg (by omega), w64 (by omega) (by omega)]
  simp [grow]
 | succ n ih =>
  intro K k acc a hK h0 h1 hl
  obtain ⟨K, rfl⟩ : ∃ q, K = q + 1 := ⟨K - 1, by omega⟩
  simp only [spec_l01Off.l1, spec_l01Size.f]
  rw [if_pos (by omega), w64 (x := s - a) (by omega) (by omega), w64 (x := s - a + sp) (by omega) (by omega), w64 (x := s - a + sp - v) (by omega) (by omega), w64 (x := -(s - a + sp - v)) (by omega) (by omega), w64 (x := a + 3) (by omega) (by omega)]
  have e : (if s - a + sp - v < 0 then some (-(s - a + sp - v)) else some (s - a + sp - v)) = some (gsz v (⟨s, a, sp⟩ : S26)) := by
   unfold gsz
   split <;> rfl
  rw [e, Option.bind_some, i8w (x := s) (by omega) (by omega), i8w (x := a) (by omega) (by omega), i8w (x := sp) (by omega) (by omega)]
  have hlen : (acc ++ [(⟨s, a, sp⟩ : S26)]).length = acc.length + 1 := by simp
  by_cases c : gsz v (⟨s, a, sp⟩ : S26) = off
  · rw [if_pos c, if_pos (by omega), ih K k (acc ++ [(⟨s, a, sp⟩ : S26)]) (a + 3) (by omega) (by omega) (by omega) (by omega)]
    simp [grow, List.filter_cons, c]
  · rw [if_neg c, ih K k acc (a + 3) (by omega) (by omega) (by omega) (by omega)]
    simp [grow, List.filter_cons, c]
theorem off_l0 (v sp off : Int) (hv : -100 ≤ v ∧ v ≤ 100) (hsp : 0 ≤ sp ∧ sp ≤ 21) : ∀ (n k : Nat) (acc : List S26) (s : Int), 0 ≤ s → s + 3 * n = 48 → 13 * n < k → acc.length + 11 * n ≤ 900 →
 spec_l01Off.l0 k v sp off acc s = some (acc ++ (grid sp n s).filter (fun x => gsz v x == off)) := by
 intro n
 induction n with
 | zero =>
  intro k acc s h0 h1 hk hl
  obtain ⟨k, rfl⟩ : ∃ n, k = n + 1 := ⟨k - 1, by omega⟩
  simp only [spec_l01Off.l0]
  rw [if_neg (by omega)]
  simp [grid]
 | succ n ih =>
  intro k acc s h0 h1 hk hl
  obtain ⟨k, rfl⟩ : ∃ n, k = n + 1 := ⟨k - 1, by omega⟩
  simp only [spec_l01Off.l0]
  rw [if_pos (by omega), off_l1 v sp off hv hsp s (by omega) 11 k (k - 12) acc 0 (by omega) (by omega) (by omega) (by omega)]
  have hf : ((grow sp s 11 0).filter (fun x => gsz v x == off)).length ≤ 11 := by
   have := List.length_filter_le (fun x => gsz v x == off) (grow sp s 11 0)
   rw [grow_len] at this
   exact this
  have hlen : (acc ++ (grow sp s 11 0).filter (fun x => gsz v x == off)).length = acc.length + ((grow sp s 11 0).filter (fun x => gsz v x == off)).length := by simp
  rw [ih (k - 12) _ (s + 3) (by omega) (by omega) (by omega) (by omega)]
  simp [grid, List.filter_append]
theorem off_f (v sp off : Int) (hv : -100 ≤ v ∧ v ≤ 100) (hsp : 0 ≤ sp ∧ sp ≤ 21) (k : Nat) (hk : 210 < k) : spec_l01Off.f k v sp off = some ((grid sp 16 0).filter (fun x => gsz v x == off)) := by
 have := off_l0 v sp off hv hsp 16 k [] 0 (by omega) (by omega) (by omega) (by show 0 + 11 * 16 ≤ 900; omega)
 simpa [spec_l01Off.f] using this
theorem who_l1 (sp : Int) (hsp : 0 ≤ sp ∧ sp ≤ 21) (s : Int) (hs : 0 ≤ s ∧ s ≤ 45) : ∀ (n K k : Nat) (acc : List S26) (a : Int), K = k + n + 1 → 0 ≤ a → a + 3 * n = 33 → acc.length + n ≤ 1000 →
 impl_wholeStops.l1 K sp acc s a = impl_wholeStops.l0 k sp (acc ++ grow sp s n a) (s + 3) := by
 intro n
 induction n with
 | zero =>
  intro K k acc a hK h0 h1 hl
  obtain rfl : K = k + 1 := by omega
  simp only [impl_wholeStops.l1]
  rw [if_neg (by omega), i8w (by omega) (by omega)]
  simp [grow]
 | succ n ih =>
  intro K k acc a hK h0 h1 hl
  obtain ⟨K, rfl⟩ : ∃ q, K = q + 1 := ⟨K - 1, by omega⟩
  simp only [impl_wholeStops.l1]
  have hlen : (acc ++ [(⟨s, a, sp⟩ : S26)]).length = acc.length + 1 := by simp
  rw [if_pos (by omega), if_pos (by omega), i8w (x := sp) (by omega) (by omega), i8w (x := a + 3) (by omega) (by omega), ih K k (acc ++ [(⟨s, a, sp⟩ : S26)]) (a + 3) (by omega) (by omega) (by omega) (by omega)]
  simp [grow]
theorem who_l0 (sp : Int) (hsp : 0 ≤ sp ∧ sp ≤ 21) : ∀ (n k : Nat) (acc : List S26) (s : Int), 0 ≤ s → s + 3 * n = 48 → 13 * n < k → acc.length + 11 * n ≤ 900 →
 impl_wholeStops.l0 k sp acc s = some (acc ++ grid sp n s) := by
 intro n
 induction n with
 | zero =>
  intro k acc s h0 h1 hk hl
  obtain ⟨k, rfl⟩ : ∃ n, k = n + 1 := ⟨k - 1, by omega⟩
  simp only [impl_wholeStops.l0]
  rw [if_neg (by omega)]
  simp [grid]
 | succ n ih =>
  intro k acc s h0 h1 hk hl
  obtain ⟨k, rfl⟩ : ∃ n, k = n + 1 := ⟨k - 1, by omega⟩
  simp only [impl_wholeStops.l0]
  rw [if_pos (by omega), who_l1 sp hsp s (by omega) 11 k (k - 12) acc 0 (by omega) (by omega) (by omega) (by omega)]
  have hlen : (acc ++ grow sp s 11 0).length = acc.length + 11 := by rw [List.length_append, grow_len]
  rw [ih (k - 12) _ (s + 3) (by omega) (by omega) (by omega) (by omega)]
  simp [grid]
theorem who_f (sp : Int) (hsp : 0 ≤ sp ∧ sp ≤ 21) (k : Nat) (hk : 210 < k) : impl_wholeStops.f k sp = some (grid sp 16 0) := by
 have := who_l0 sp hsp 16 k [] 0 (by omega) (by omega) (by omega) (by show 0 + 11 * 16 ≤ 900; omega)
 simpa [impl_wholeStops.f] using this
theorem asked_f (v sp : Int) : spec_l01Asked.f v sp = some (decide ((-100 ≤ v ∧ v ≤ 100) ∧ (0 ≤ sp ∧ sp ≤ 21))) := by
 unfold spec_l01Asked.f
 simp only [in_f, Option.bind_some]
 by_cases c : -100 ≤ v ∧ v ≤ 100 <;> simp [c]
theorem isasked_f (v sp : Int) : impl_isAsked.f v sp = some (decide ((-100 ≤ v ∧ v ≤ 100) ∧ (0 ≤ sp ∧ sp ≤ 21))) := by
 unfold impl_isAsked.f
 simp only [within_f, Option.bind_some]
 by_cases c : -100 ≤ v ∧ v ≤ 100 <;> simp [c]
theorem gval {sp v : Int} {m : List S26} (hsp : 0 ≤ sp ∧ sp ≤ 21) (hv : -100 ≤ v ∧ v ≤ 100) (hm : ∀ x ∈ m, x ∈ grid sp 16 0) (i : Nat) (hi : i < m.length) :
 impl_Setting_value.f ((rd_T26 m i).f0) ((rd_T26 m i).f1) ((rd_T26 m i).f2) = some ((rd_T26 m i).f0 - (rd_T26 m i).f1 + (rd_T26 m i).f2) ∧ -200 ≤ (rd_T26 m i).f0 - (rd_T26 m i).f1 + (rd_T26 m i).f2 ∧ (rd_T26 m i).f0 - (rd_T26 m i).f1 + (rd_T26 m i).f2 ≤ 200 := by
 have h := grid_mem sp 16 0 _ (hm _ (getD_mem m i z26 hi))
 have h2 : 0 ≤ (rd_T26 m i).f0 ∧ (rd_T26 m i).f0 < 48 ∧ 0 ≤ (rd_T26 m i).f1 ∧ (rd_T26 m i).f1 < 33 ∧ (rd_T26 m i).f2 = sp := by
  simpa [rd_T26] using h
 unfold impl_Setting_value.f
 rw [w64 (x := (rd_T26 m i).f0) (by omega) (by omega), w64 (x := (rd_T26 m i).f1) (by omega) (by omega), w64 (x := (rd_T26 m i).f2) (by omega) (by omega), w64 (x := (rd_T26 m i).f0 - (rd_T26 m i).f1) (by omega) (by omega), w64 (by omega) (by omega)]
 exact ⟨rfl, by omega, by omega⟩
theorem drop_rd (m : List S26) (i : Nat) (hi : i < m.length) : m.drop i = rd_T26 m i :: m.drop (i + 1) := by
 rw [List.drop_eq_getElem_cons hi]
 congr 1
 simp [rd_T26, List.getD_eq_getElem?_getD, hi]
theorem gsz_nonneg (v : Int) (x : S26) : 0 ≤ gsz v x := by
 unfold gsz
 split <;> omega
theorem fin_l (v sp : Int) (hv : -100 ≤ v ∧ v ≤ 100) (hsp : 0 ≤ sp ∧ sp ≤ 21) (m : List S26) (hm : ∀ x ∈ m, x ∈ grid sp 16 0) (hl : m.length ≤ 200) (d : Nat) : ∀ (k : Nat) (acc : List S26) (i : Nat), i ≤ m.length → m.length - i = d → d < k → acc.length + d ≤ 300 →
 impl_SettingsFor.l0 k v acc m (m.length : Int) i = some (if ((acc ++ (m.drop i).filter (fun x => gsz v x == 0)).length : Int) = 0 then ([], 6) else (acc ++ (m.drop i).filter (fun x => gsz v x == 0), 0)) := by
 induction d with
 | zero =>
  intro k acc i h0 hd hk ha
  obtain ⟨k, rfl⟩ : ∃ n, k = n + 1 := ⟨k - 1, by omega⟩
  simp only [impl_SettingsFor.l0]
  rw [if_neg (by omega), List.drop_of_length_le (by omega)]
  simp only [List.filter_nil, List.append_nil]
  split <;> rfl
 | succ d ih =>
  intro k acc i h0 hd hk ha
  obtain ⟨k, rfl⟩ : ∃ n, k = n + 1 := ⟨k - 1, by omega⟩
  simp only [impl_SettingsFor.l0]
  obtain ⟨e1, e2, e3⟩ := gval (v := v) hsp hv hm i (by omega)
  rw [if_pos (by omega), if_pos (by omega), if_pos (by omega), e1, Option.bind_some, w64 (x := (i : Int) + 1) (by omega) (by omega)]
  rw [drop_rd m i (by omega), List.filter_cons]
  have hlen : (acc ++ [(⟨(rd_T26 m i).f0, (rd_T26 m i).f1, (rd_T26 m i).f2⟩ : S26)]).length = acc.length + 1 := by simp
  by_cases c : (rd_T26 m i).f0 - (rd_T26 m i).f1 + (rd_T26 m i).f2 = v
  · have g : (gsz v (rd_T26 m i) == 0) = true := by unfold gsz; rw [beq_iff_eq]; split <;> omega
    rw [if_pos c, if_pos (by omega), if_pos g]
    have := ih k (acc ++ [⟨(rd_T26 m i).f0, (rd_T26 m i).f1, (rd_T26 m i).f2⟩]) (i + 1) (by omega) (by omega) (by omega) (by omega)
    rw [List.append_assoc] at this
    exact this
  · have g : ¬ (gsz v (rd_T26 m i) == 0) = true := by unfold gsz; rw [beq_iff_eq]; split <;> omega
    rw [if_neg c, if_neg g]
    exact ih k acc (i + 1) (by omega) (by omega) (by omega) (by omega)
theorem isz {x : Int} (h : -9223372036854775808 < x) (h' : x ≤ 9223372036854775807) : impl_size.f x = some (if x < 0 then -x else x) := by
 unfold impl_size.f mx
 rw [w64 (by omega) (by omega)]
 by_cases c : x < 0
 · rw [if_pos (by omega), if_pos c]
 · by_cases e : x = 0
   · subst e; rfl
   · rw [if_neg (by omega), if_neg c]
theorem take_rd (m : List S26) (i : Nat) (hi : i < m.length) : m.take (i + 1) = m.take i ++ [rd_T26 m i] := by
 rw [List.take_succ_eq_append_getElem hi]
 simp [rd_T26, List.getD_eq_getElem?_getD, hi]
def Hits (v q : Int) (m : List S26) : Prop := q < 1000 → ∃ x ∈ m, gsz v x = q
theorem nst_l (v sp : Int) (hv : -100 ≤ v ∧ v ≤ 100) (hsp : 0 ≤ sp ∧ sp ≤ 21) (m : List S26) (hm : ∀ x ∈ m, x ∈ grid sp 16 0) (hl : m.length ≤ 200) (d : Nat) : ∀ (k : Nat) (q : Int) (i : Nat), i ≤ m.length → m.length - i = d → d < k → 0 ≤ q → q ≤ 1000 → (∀ x ∈ m.take i, q ≤ gsz v x) → Hits v q (m.take i) →
 ∃ q', 0 ≤ q' ∧ q' ≤ 1000 ∧ impl_NearestSettings.l0 k v ((m.take i).filter (fun x => gsz v x == q)) q m (m.length : Int) i = some (m.filter (fun x => gsz v x == q'), 0) ∧ (∀ x ∈ m, q' ≤ gsz v x) ∧ Hits v q' m := by
 induction d with
 | zero =>
  intro k q i h0 hd hk q0 q1 h1 h2
  obtain ⟨k, rfl⟩ : ∃ n, k = n + 1 := ⟨k - 1, by omega⟩
  simp only [impl_NearestSettings.l0]
  rw [List.take_of_length_le (by omega)] at h1 h2 ⊢
  exact ⟨q, q0, q1, by rw [if_neg (by omega)], h1, h2⟩
 | succ d ih =>
  intro k q i h0 hd hk q0 q1 h1 h2
  obtain ⟨k, rfl⟩ : ∃ n, k = n + 1 := ⟨k - 1, by omega⟩
  simp only [impl_NearestSettings.l0]
  obtain ⟨e1, e2, e3⟩ := gval (v := v) hsp hv hm i (by omega)
  rw [if_pos (by omega), if_pos (by omega), if_pos (by omega), e1, Option.bind_some, w64 (x := (i : Int) + 1) (by omega) (by omega), w64 (x := (rd_T26 m i).f0 - (rd_T26 m i).f1 + (rd_T26 m i).f2 - v) (by omega) (by omega), isz (by omega) (by omega), Option.bind_some]
  have eg : (if (rd_T26 m i).f0 - (rd_T26 m i).f1 + (rd_T26 m i).f2 - v < 0 then -((rd_T26 m i).f0 - (rd_T26 m i).f1 + (rd_T26 m i).f2 - v) else (rd_T26 m i).f0 - (rd_T26 m i).f1 + (rd_T26 m i).f2 - v) = gsz v (rd_T26 m i) := rfl
  have eb : gsz v (rd_T26 m i) ≤ 300 := by unfold gsz; split <;> omega
  have en := gsz_nonneg v (rd_T26 m i)
  rw [eg]
  have fl : ((m.take i).filter (fun x => gsz v x == q)).length ≤ 200 := by
   have a1 := List.length_filter_le (fun x => gsz v x == q) (m.take i)
   have a2 := List.length_take_le i m
   omega
  by_cases c : gsz v (rd_T26 m i) < q
  · rw [if_pos c, if_pos (by decide)]
    have hf : ([] : List S26) ++ [(⟨(rd_T26 m i).f0, (rd_T26 m i).f1, (rd_T26 m i).f2⟩ : S26)] = (m.take (i + 1)).filter (fun x => gsz v x == gsz v (rd_T26 m i)) := by
     rw [take_rd m i (by omega), List.filter_append]
     have : (m.take i).filter (fun x => gsz v x == gsz v (rd_T26 m i)) = [] := by
      rw [List.filter_eq_nil_iff]
      intro x hx
      have := h1 x hx
      simp only [beq_iff_eq]
      omega
     rw [this]
     simp
    rw [hf]
    refine ih k (gsz v (rd_T26 m i)) (i + 1) (by omega) (by omega) (by omega) (by omega) (by omega) (fun x hx => ?_) (fun _ => ⟨rd_T26 m i, by rw [take_rd m i (by omega)]; simp, rfl⟩)
    rw [take_rd m i (by omega)] at hx
    rcases List.mem_append.1 hx with hx | hx
    · have := h1 x hx
      omega
    · rw [List.mem_singleton.1 hx]
      exact Int.le_refl _
  · rw [if_neg c]
    have hall : ∀ x ∈ m.take (i + 1), q ≤ gsz v x := fun x hx => by
     rw [take_rd m i (by omega)] at hx
     rcases List.mem_append.1 hx with hx | hx
     · exact h1 x hx
     · rw [List.mem_singleton.1 hx]
       omega
    have hsome : Hits v q (m.take (i + 1)) := fun hq => by
     obtain ⟨x, hx, e⟩ := h2 hq
     exact ⟨x, by rw [take_rd m i (by omega)]; exact List.mem_append_left _ hx, e⟩
    by_cases c2 : gsz v (rd_T26 m i) = q
    · rw [if_pos c2, if_pos (by omega)]
      have hf : (m.take i).filter (fun x => gsz v x == q) ++ [(⟨(rd_T26 m i).f0, (rd_T26 m i).f1, (rd_T26 m i).f2⟩ : S26)] = (m.take (i + 1)).filter (fun x => gsz v x == q) := by
       rw [take_rd m i (by omega), List.filter_append]
       simp [List.filter_cons, c2]
      rw [hf]
      exact ih k q (i + 1) (by omega) (by omega) (by omega) q0 q1 hall hsome
    · rw [if_neg c2]
      have hf : (m.take i).filter (fun x => gsz v x == q) = (m.take (i + 1)).filter (fun x => gsz v x == q) := by
       rw [take_rd m i (by omega), List.filter_append]
       simp [List.filter_cons, c2]
      rw [hf]
      exact ih k q (i + 1) (by omega) (by omega) (by omega) q0 q1 hall hsome
theorem nsp_l (v sp q : Int) (hv : -100 ≤ v ∧ v ≤ 100) (hsp : 0 ≤ sp ∧ sp ≤ 21) (q1 : q ≤ 300) (hq : ∀ x ∈ grid sp 16 0, q ≤ gsz v x) (hx : ∃ x ∈ grid sp 16 0, gsz v x = q) (d : Nat) : ∀ (k : Nat) (o : Int), 0 ≤ o → o ≤ q → q - o = d → d + 220 < k →
 spec_NearestSettings.l0 k v sp o = some ((grid sp 16 0).filter (fun x => gsz v x == q), 0) := by
 induction d with
 | zero =>
  intro k o h0 h1 hd hk
  obtain ⟨k, rfl⟩ : ∃ n, k = n + 1 := ⟨k - 1, by omega⟩
  simp only [spec_NearestSettings.l0]
  rw [off_f v sp o hv hsp k (by omega), Option.bind_some, show o = q by omega]
  obtain ⟨x, hx, e⟩ := hx
  have hmem : x ∈ (grid sp 16 0).filter (fun x => gsz v x == q) := List.mem_filter.2 ⟨hx, by simpa using e⟩
  have := List.length_pos_of_mem hmem
  rw [if_pos (by omega)]
 | succ d ih =>
  intro k o h0 h1 hd hk
  obtain ⟨k, rfl⟩ : ∃ n, k = n + 1 := ⟨k - 1, by omega⟩
  simp only [spec_NearestSettings.l0]
  have he : (grid sp 16 0).filter (fun x => gsz v x == o) = [] := by
   rw [List.filter_eq_nil_iff]
   intro x hx
   have := hq x hx
   simp only [beq_iff_eq]
   omega
  rw [off_f v sp o hv hsp k (by omega), Option.bind_some, he, if_neg (by decide), w64 (by omega) (by omega)]
  exact ih k (o + 1) (by omega) (by omega) (by omega) (by omega)
theorem ok_f {a b c : Int} (ha : -128 ≤ a ∧ a ≤ 127) (hb : -128 ≤ b ∧ b ≤ 127) (hc : -128 ≤ c ∧ c ≤ 127) : spec_l01Ok.f a b c = some (decide ((0 ≤ a ∧ a ≤ 45) ∧ (0 ≤ b ∧ b ≤ 30) ∧ (0 ≤ c ∧ c ≤ 21))) := by
 unfold spec_l01Ok.f
 rw [w64 (by omega) (by omega), w64 (by omega) (by omega), w64 (by omega) (by omega)]
 simp only [in_f, Option.bind_some]
 by_cases h1 : 0 ≤ a ∧ a ≤ 45 <;> by_cases h2 : 0 ≤ b ∧ b ≤ 30 <;> simp [h1, h2]
theorem valid_f {a b c : Int} (ha : -128 ≤ a ∧ a ≤ 127) (hb : -128 ≤ b ∧ b ≤ 127) (hc : -128 ≤ c ∧ c ≤ 127) : impl_ValidSetting.f a b c = some (decide ((0 ≤ a ∧ a ≤ 45) ∧ (0 ≤ b ∧ b ≤ 30) ∧ (0 ≤ c ∧ c ≤ 21))) := by
 unfold impl_ValidSetting.f impl_isShutter.f
 rw [w64 (by omega) (by omega), w64 (by omega) (by omega), w64 (by omega) (by omega)]
 simp only [within_f, Option.bind_some]
 by_cases h1 : 0 ≤ a ∧ a ≤ 45 <;> by_cases h2 : 0 ≤ b ∧ b ≤ 30 <;> simp [h1, h2]
theorem mxmn (t : Int) : mn 45 (mx 0 t) = (if 0 < (if 45 < t then 45 else t) then (if 45 < t then 45 else t) else 0) := by
 unfold mn mx
 repeat' split
 all_goals omega
theorem more_f {a b c t : Int} (ha : 0 ≤ a ∧ a ≤ 45) (hb : 0 ≤ b ∧ b ≤ 30) (hc : 0 ≤ c ∧ c ≤ 21) (ht : -100 ≤ t ∧ t ≤ 100) :
 ∃ s p : Int, (0 ≤ s ∧ s ≤ 45) ∧ p = b - (t - (s - a)) ∧ (s = 45 ∨ s = 0 ∨ s = a + t) ∧ (s = a + t ∨ a + t < s ∧ s = 0 ∨ s < a + t ∧ s = 45) ∧ (0 ≤ p ∧ p ≤ 30 → spec_l01More.f a b c t = some (s, p, c, true) ∧ impl_Setting_more.f a b c t = some (s, p, c, 0)) ∧
  (¬ (0 ≤ p ∧ p ≤ 30) → spec_l01More.f a b c t = some (0, 0, 0, false) ∧ impl_Setting_more.f a b c t = some (0, 0, 0, 6)) := by
 obtain ⟨s, hs⟩ : ∃ s, s = mn 45 (mx 0 (a + t)) := ⟨_, rfl⟩
 have hs' := hs
 rw [mxmn] at hs'
 have hb2 : (0 ≤ s ∧ s ≤ 45) ∧ (s = 45 ∨ s = 0 ∨ s = a + t) ∧ (s = a + t ∨ a + t < s ∧ s = 0 ∨ s < a + t ∧ s = 45) := by
  rw [hs']
  repeat' split
  all_goals omega
 obtain ⟨sb, s3, s4⟩ := hb2
 refine ⟨s, b - (t - (s - a)), sb, rfl, s3, s4, ?_⟩
 have e1 : spec_l01More.f a b c t = (if 0 ≤ b - (t - (s - a)) ∧ b - (t - (s - a)) ≤ 30 then some (s, b - (t - (s - a)), c, true) else some (0, 0, 0, false)) := by
  unfold spec_l01More.f spec_l00Min.f spec_l00Max.f
  rw [w64 (x := a) (by omega) (by omega), w64 (x := b) (by omega) (by omega), w64 (x := a + t) (by omega) (by omega)]
  have e0 : (if (45 : Int) < a + t then some 45 else some (a + t)) = some (if 45 < a + t then 45 else a + t) := by split <;> rfl
  rw [e0, Option.bind_some]
  have e0 : (if 0 > (if 45 < a + t then 45 else a + t) then some 0 else some (if 45 < a + t then 45 else a + t)) = some s := by
   rw [hs']
   repeat' split
   all_goals first | rfl | (congr 1; omega)
  rw [e0, Option.bind_some, w64 (x := s - a) (by omega) (by omega), w64 (x := t - (s - a)) (by omega) (by omega), w64 (x := b - (t - (s - a))) (by omega) (by omega), in_f, Option.bind_some]
  by_cases g : 0 ≤ b - (t - (s - a)) ∧ b - (t - (s - a)) ≤ 30
  · rw [if_pos (by simpa using g), if_pos g, i8w (by omega) (by omega), i8w (by omega) (by omega)]
  · rw [if_neg (by simpa using g), if_neg g]
 have e2 : impl_Setting_more.f a b c t = (if 0 ≤ b - (t - (s - a)) ∧ b - (t - (s - a)) ≤ 30 then some (s, b - (t - (s - a)), c, 0) else some (0, 0, 0, 6)) := by
  unfold impl_Setting_more.f
  rw [w64 (x := a) (by omega) (by omega), w64 (x := b) (by omega) (by omega), w64 (x := a + t) (by omega) (by omega), ← hs]
  rw [w64 (x := s - a) (by omega) (by omega), w64 (x := t - (s - a)) (by omega) (by omega), w64 (x := b - (t - (s - a))) (by omega) (by omega), within_f, Option.bind_some]
  by_cases g : 0 ≤ b - (t - (s - a)) ∧ b - (t - (s - a)) ≤ 30
  · rw [if_pos (by simpa using g), if_pos g, i8w (x := b - (t - (s - a))) (by omega) (by omega)]
    try rw [i8w (x := s) (by omega) (by omega)]
  · rw [if_neg (by simpa using g), if_neg g]
 exact ⟨fun g => ⟨by rw [e1, if_pos g], by rw [e2, if_pos g]⟩, fun g => ⟨by rw [e1, if_neg g], by rw [e2, if_neg g]⟩⟩
def Bytes (l : List Int) : Prop := ∀ x ∈ l, 0 ≤ x ∧ x ≤ 255
theorem bytes_rd {l : List Int} (h : Bytes l) (i : Nat) (hi : i < l.length) : 0 ≤ rd l i ∧ rd l i ≤ 255 := by
 have hm : l.getD i 0 ∈ l := by
  rw [List.getD_eq_getElem?_getD, List.getElem?_eq_getElem hi]
  exact List.getElem_mem hi
 have := h _ hm
 simpa [rd] using this
theorem and255 (x : Int) (h : 0 ≤ x) (h' : x < 18446744073709551616) : Go.bits .and .u64 x 255 = x % 256 :=
 bits_mask .u64 64 (by decide) (fun n a b => u64w a (by omega)) 8 (by decide) x h h'
theorem u64wr (x : Int) : 0 ≤ IntKind.u64.wrap x ∧ IntKind.u64.wrap x < 18446744073709551616 := by
 show 0 ≤ (if (false && decide (x % 18446744073709551616 ≥ 9223372036854775808)) = true then x % 18446744073709551616 - 18446744073709551616 else x % 18446744073709551616) ∧ (if (false && decide (x % 18446744073709551616 ≥ 9223372036854775808)) = true then x % 18446744073709551616 - 18446744073709551616 else x % 18446744073709551616) < 18446744073709551616
 rw [if_neg (by simp)]
 omega
theorem next_f (l : List Int) (hb : Bytes l) (hl : l.length ≤ 4096) (i : Nat) (hi : i ≤ 100000) (s : Int) : ∃ v s', spec_l00Src_next.f l i s = some (v, ((i + 1 : Nat) : Int), s') ∧ 0 ≤ v ∧ v ≤ 255 := by
 unfold spec_l00Src_next.f
 have ec : wrap64 ((i : Int) + 1) = ((i + 1 : Nat) : Int) := w64 (by omega) (by omega)
 have hq : ∀ y : Int, ∃ v, wrap64 (Go.bits .and .u64 (IntKind.u64.wrap y / 1099511627776) 255) = v ∧ 0 ≤ v ∧ v ≤ 255 := fun y => by
  have u := u64wr y
  have d0 : 0 ≤ IntKind.u64.wrap y / 1099511627776 := by omega
  have d1 : IntKind.u64.wrap y / 1099511627776 < 18446744073709551616 := by omega
  refine ⟨_, rfl, ?_⟩
  rw [and255 _ d0 d1, w64 (by omega) (by omega)]
  omega
 rw [ec]
 by_cases c : (i : Int) < (l.length : Int)
 · have v := bytes_rd hb i (by omega)
   rw [if_pos c, if_pos (by omega), if_pos (by omega), w64 (x := rd l i) (by omega) (by omega)]
   exact ⟨_, _, rfl, v⟩
 · rw [if_neg c, if_neg (by omega)]
   obtain ⟨v, e, h⟩ := hq (IntKind.u64.wrap (IntKind.u64.wrap (s * 6364136223846793005)) + 1442695040888963407)
   rw [e]
   exact ⟨_, _, rfl, h⟩
theorem pick_f (l : List Int) (hb : Bytes l) (hl : l.length ≤ 4096) (i : Nat) (hi : i ≤ 90000) (s n : Int) (hn : 1 ≤ n) (hn' : n ≤ 100000000) : ∃ v, ∃ i' : Nat, ∃ s', spec_l00Src_pick.f l i s n = some (v, (i' : Int), s') ∧ 0 ≤ v ∧ v < n ∧ i' ≤ i + 2 := by
 unfold spec_l00Src_pick.f
 by_cases c : n ≤ 1
 · rw [if_pos c]
   exact ⟨0, i, s, rfl, by omega, by omega, by omega⟩
 · rw [if_neg c]
   obtain ⟨v, s', e, v0, v1⟩ := next_f l hb hl i (by omega) s
   rw [e]
   simp only [Option.bind_some]
   by_cases c2 : n > 200
   · rw [if_pos c2]
     obtain ⟨u, s'', e', u0, u1⟩ := next_f l hb hl (i + 1) (by omega) s'
     rw [e']
     simp only [Option.bind_some]
     rw [if_neg (by omega), w64 (x := v * 256) (by omega) (by omega), w64 (x := v * 256 + u) (by omega) (by omega), Int.tmod_eq_emod_of_nonneg (by omega)]
     have m1 := Int.emod_nonneg (v * 256 + u) (show n ≠ 0 by omega)
     have m2 := Int.emod_lt_of_pos (v * 256 + u) (show 0 < n by omega)
     exact ⟨_, i + 1 + 1, _, rfl, m1, m2, by omega⟩
   · rw [if_neg c2, if_neg (by omega), Int.tmod_eq_emod_of_nonneg (by omega)]
     have m1 := Int.emod_nonneg v (show n ≠ 0 by omega)
     have m2 := Int.emod_lt_of_pos v (show 0 < n by omega)
     exact ⟨_, i + 1, _, rfl, m1, m2, by omega⟩
theorem p6_f (l : List Int) (hb : Bytes l) (hl : l.length ≤ 4096) (n : Int) (hn : 1 ≤ n) (hn' : n ≤ 100000000) : ∃ v, spec_P6Pick.f l n = some v ∧ 0 ≤ v ∧ v < n := by
 obtain ⟨v, i', s', e, v0, v1, _⟩ := pick_f l hb hl 0 (by omega) 0 n hn hn'
 have e' : spec_l00Src_pick.f l 0 0 n = some (v, (i' : Int), s') := e
 unfold spec_P6Pick.f spec_l00From.f
 simp only [Option.bind_some, e']
 exact ⟨v, rfl, v0, v1⟩
theorem p6set_f (l : List Int) (hb : Bytes l) (hl : l.length ≤ 4096) : ∃ a b c, spec_P6Setting.f l = some (a, b, c) ∧ (0 ≤ a ∧ a ≤ 45) ∧ (0 ≤ b ∧ b ≤ 30) ∧ (0 ≤ c ∧ c ≤ 21) := by
 obtain ⟨v, i1, s1, e1, v0, v1, w1⟩ := pick_f l hb hl 0 (by omega) 0 46 (by omega) (by omega)
 obtain ⟨u, i2, s2, e2, u0, u1, w2⟩ := pick_f l hb hl i1 (by omega) s1 31 (by omega) (by omega)
 obtain ⟨t, i3, s3, e3, t0, t1, w3⟩ := pick_f l hb hl i2 (by omega) s2 22 (by omega) (by omega)
 have e1' : spec_l00Src_pick.f l 0 0 46 = some (v, (i1 : Int), s1) := e1
 unfold spec_P6Setting.f spec_l00From.f spec_l01Drawn.f
 simp only [Option.bind_some, e1', e2, e3]
 rw [i8w (x := v) (by omega) (by omega), i8w (x := u) (by omega) (by omega), i8w (x := t) (by omega) (by omega)]
 exact ⟨v, u, t, rfl, by omega, by omega, by omega⟩
theorem ba_ext {s t : ByteArray} (h : s.data.toList = t.data.toList) : s = t := by
 obtain ⟨⟨a⟩⟩ := s
 obtain ⟨⟨b⟩⟩ := t
 simp at h
 rw [h]
def spl (c : UInt8) : List UInt8 → List (List UInt8)
 | [] => [[]]
 | b :: r => if b = c then [] :: spl c r else match spl c r with | [] => [[b]] | h :: t => (b :: h) :: t
theorem spl_ne (c : UInt8) (l : List UInt8) : ∃ h t, spl c l = h :: t := by
 induction l with
 | nil => exact ⟨[], [], rfl⟩
 | cons b r ih =>
  obtain ⟨h, t, e⟩ := ih
  simp only [spl]
  by_cases q : b = c
  · rw [if_pos q]; exact ⟨_, _, rfl⟩
  · rw [if_neg q, e]; exact ⟨_, _, rfl⟩
theorem spl_idx (c : UInt8) : ∀ s : List UInt8, (Lib.index s [c] = -1 ∧ spl c s = [s]) ∨ ∃ j : Nat, Lib.index s [c] = (j : Int) ∧ spl c s = s.take j :: spl c (s.drop (j + 1))
 | [] => .inl ⟨rfl, rfl⟩
 | b :: l => by
  by_cases q : b = c
  · subst q
    refine .inr ⟨0, ?_, ?_⟩
    · simp [Lib.index, List.isPrefixOf]
    · simp [spl]
  · have nq : ¬ (List.isPrefixOf [c] (b :: l)) = true := by
     simp [List.isPrefixOf]
     exact fun h => q h.symm
    rcases spl_idx c l with ⟨e1, e2⟩ | ⟨j, e1, e2⟩
    · refine .inl ⟨?_, ?_⟩
      · rw [Lib.index, if_neg nq, e1]; rfl
      · simp only [spl]; rw [if_neg q, e2]
    · refine .inr ⟨j + 1, ?_, ?_⟩
      · rw [Lib.index, if_neg nq, e1, if_neg (by simp)]; rfl
      · simp only [spl]; rw [if_neg q, e2]; rfl
theorem splitK_spl (c : UInt8) : ∀ (k : Nat) (s : List UInt8), ((spl c s).length ≤ k + 1 → Lib.splitK [c] 0 k s = spl c s) ∧ (k + 1 < (spl c s).length → (Lib.splitK [c] 0 k s).length = k + 1)
 | 0, s => by
  rcases spl_idx c s with ⟨_, e2⟩ | ⟨j, _, e2⟩
  · exact ⟨fun _ => by rw [e2]; rfl, fun h => by rw [e2] at h; simp at h⟩
  · obtain ⟨h', t', e'⟩ := spl_ne c (s.drop (j + 1))
    exact ⟨fun h => by rw [e2, e'] at h; simp at h, fun _ => rfl⟩
 | k + 1, s => by
  unfold Lib.splitK
  rcases spl_idx c s with ⟨e1, e2⟩ | ⟨j, e1, e2⟩
  · rw [if_pos (by rw [e1]; rfl)]
    exact ⟨fun _ => e2.symm, fun h => by rw [e2] at h; simp at h⟩
  · have ih := splitK_spl c k (s.drop (j + 1))
    rw [if_neg (by rw [e1]; simp), e1, e2]
    simp only [Int.toNat_natCast, Nat.add_zero, List.length_cons, List.length_nil, Nat.zero_add]
    exact ⟨fun h => by rw [ih.1 (by omega)], fun h => by rw [ih.2 (by omega)]⟩
def Dg (m : Nat) : List UInt8 := if m < 10 then [UInt8.ofNat (48 + m)] else [UInt8.ofNat (48 + m / 10), UInt8.ofNat (48 + m % 10)]
theorem all_dg : (List.range 22).all (fun n => decide ((impl_decimal.f (n : Int)).map (·.data.toList) = some (Dg n))) = true := by kernel_rfl
theorem dg_f (m : Nat) (h : m ≤ 21) : ∃ v, impl_decimal.f (m : Int) = some v ∧ v.data.toList = Dg m := by
 have q := of_decide_eq_true (List.all_eq_true.1 all_dg m (List.mem_range.2 (by omega)))
 obtain ⟨v, e1, e2⟩ := Option.map_eq_some_iff.1 q
 exact ⟨v, e1, e2⟩
theorem nosp_sh : (List.range 46).all (fun n => (impl_ShutterName.f (n : Int)).elim false fun v => v.data.toList.all (· != 32) && decide (v.size ≤ 20)) = true := by kernel_rfl
theorem nosp_ap : (List.range 31).all (fun n => (impl_ApertureName.f (n : Int)).elim false fun v => v.data.toList.all (· != 32) && decide (v.size ≤ 20)) = true := by kernel_rfl
theorem nosp_dc : (List.range 22).all (fun n => (impl_decimal.f (n : Int)).elim false fun v => v.data.toList.all (· != 32) && decide (v.size ≤ 20)) = true := by kernel_rfl
theorem nosp_of {f : Int → Option ByteArray} {m : Nat} (h : (List.range m).all (fun n => (f (n : Int)).elim false fun v => v.data.toList.all (· != 32) && decide (v.size ≤ 20)) = true) {x : Int} (h0 : 0 ≤ x) (h1 : x < m) : ∃ v, f x = some v ∧ (∀ b ∈ v.data.toList, b ≠ 32) ∧ v.size ≤ 20 := by
 have q := List.all_eq_true.1 h x.toNat (List.mem_range.2 (by omega))
 rw [show ((x.toNat : Nat) : Int) = x by omega] at q
 cases e : f x with
 | none => rw [e] at q; exact absurd q (by simp)
 | some v =>
  rw [e] at q
  have q2 : (v.data.toList.all (· != 32) && decide (v.size ≤ 20)) = true := q
  rw [Bool.and_eq_true, decide_eq_true_eq] at q2
  refine ⟨v, rfl, fun b hb => ?_, q2.2⟩
  have := List.all_eq_true.1 q2.1 b hb
  simpa using this
theorem sh_f (a : Int) (h : 0 ≤ a ∧ a ≤ 45) : ∃ v, True ∧ impl_ShutterName.f a = some v ∧ v.size ≤ 20 := by
 obtain ⟨v, v1, _, v2⟩ := nosp_of nosp_sh (x := a) (by omega) (by omega)
 exact ⟨v, trivial, v1, v2⟩
theorem ap_f (a : Int) (h : 0 ≤ a ∧ a ≤ 30) : ∃ v, True ∧ impl_ApertureName.f a = some v ∧ v.size ≤ 20 := by
 obtain ⟨v, v1, _, v2⟩ := nosp_of nosp_ap (x := a) (by omega) (by omega)
 exact ⟨v, trivial, v1, v2⟩
theorem sh_apart : (List.range 46).all (fun n => (List.range 46).all fun m => decide (n = m ∨ impl_ShutterName.f (n : Int) ≠ impl_ShutterName.f (m : Int))) = true := by kernel_rfl
theorem ap_apart : (List.range 31).all (fun n => (List.range 31).all fun m => decide (n = m ∨ impl_ApertureName.f (n : Int) ≠ impl_ApertureName.f (m : Int))) = true := by kernel_rfl
def ShM (w : List UInt8) (n : Nat) : Prop := ∃ v, impl_ShutterName.f (n : Int) = some v ∧ v.data.toList = w
def ApM (w : List UInt8) (n : Nat) : Prop := ∃ v, impl_ApertureName.f (n : Int) = some v ∧ v.data.toList = w
theorem sh_one {w : List UInt8} {n m : Nat} (hn : n ≤ 45) (hm : m ≤ 45) (h : ShM w n) (h' : ShM w m) : n = m := by
 have q := of_decide_eq_true (List.all_eq_true.1 (List.all_eq_true.1 sh_apart n (List.mem_range.2 (by omega))) m (List.mem_range.2 (by omega)))
 obtain ⟨v, e1, e2⟩ := h
 obtain ⟨v', e1', e2'⟩ := h'
 rcases q with q | q
 · exact q
 · exact absurd (by rw [e1, e1', ba_ext (e2.trans e2'.symm)]) q
theorem ap_one {w : List UInt8} {n m : Nat} (hn : n ≤ 30) (hm : m ≤ 30) (h : ApM w n) (h' : ApM w m) : n = m := by
 have q := of_decide_eq_true (List.all_eq_true.1 (List.all_eq_true.1 ap_apart n (List.mem_range.2 (by omega))) m (List.mem_range.2 (by omega)))
 obtain ⟨v, e1, e2⟩ := h
 obtain ⟨v', e1', e2'⟩ := h'
 rcases q with q | q
 · exact q
 · exact absurd (by rw [e1, e1', ba_ext (e2.trans e2'.symm)]) q
theorem dg_one {n m : Nat} (hn : n ≤ 21) (hm : m ≤ 21) (h : Dg n = Dg m) : n = m := by
 have all : (List.range 22).all (fun n => (List.range 22).all fun m => decide (n = m ∨ Dg n ≠ Dg m)) = true := by decide +kernel
 have q := of_decide_eq_true (List.all_eq_true.1 (List.all_eq_true.1 all n (List.mem_range.2 (by omega))) m (List.mem_range.2 (by omega)))
 rcases q with q | q
 · exact q
 · exact absurd h q
def At (M : Nat → Prop) (i : Nat) (most : Nat) (x : Int) : Prop := (x = -1 ∧ ∀ n : Nat, n < i → n ≤ most → ¬ M n) ∨ ∃ n : Nat, x = n ∧ n < i ∧ n ≤ most ∧ M n
theorem at_step {M : Nat → Prop} {i most : Nat} {x : Int} (h : At M i most x) : (i ≤ most → M i → At M (i + 1) most i) ∧ ((¬ (i ≤ most ∧ M i)) → At M (i + 1) most x) := by
 refine ⟨fun a b => .inr ⟨i, rfl, by omega, a, b⟩, fun hn => ?_⟩
 rcases h with ⟨h1, h2⟩ | ⟨n, h1, h2, h3, h4⟩
 · refine .inl ⟨h1, fun n n1 n2 q => ?_⟩
   by_cases e : n = i
   · subst e; exact hn ⟨n2, q⟩
   · exact h2 n (by omega) n2 q
 · exact .inr ⟨n, h1, by omega, h3, h4⟩
theorem rs_l (ws : List ByteArray) (h3 : ws.length = 3) (d : Nat) : ∀ (k i : Nat) (a b c : Int), i ≤ 46 → 46 - i = d → 3 * d + 3 < k → At (ShM (rdOf ByteArray.empty ws 0).data.toList) i 45 a → At (ApM (rdOf ByteArray.empty ws 1).data.toList) i 30 b → At (fun m => (rdOf ByteArray.empty ws 2).data.toList = Dg m) i 21 c →
 ∃ a' b' c', impl_ReadSetting.l0 k ws i a b c = (impl_ValidSetting.f a' b' c').bind (fun t => if t = true then some (a', b', c', 0) else some (0, 0, 0, 5)) ∧ At (ShM (rdOf ByteArray.empty ws 0).data.toList) 46 45 a' ∧ At (ApM (rdOf ByteArray.empty ws 1).data.toList) 46 30 b' ∧ At (fun m => (rdOf ByteArray.empty ws 2).data.toList = Dg m) 46 21 c' := by
 induction d with
 | zero =>
  intro k i a b c h0 hd hk ha hb hc
  obtain ⟨k, rfl⟩ : ∃ n, k = n + 1 := ⟨k - 1, by omega⟩
  have e : i = 46 := by omega
  subst e
  refine ⟨a, b, c, ?_, ha, hb, hc⟩
  simp only [impl_ReadSetting.l0]
  rw [if_neg (by omega)]
 | succ d ih =>
  intro k i a b c h0 hd hk ha hb hc
  obtain ⟨k, rfl⟩ : ∃ n, k = n + 1 + 1 + 1 := ⟨k - 3, by omega⟩
  obtain ⟨K, hK⟩ : ∃ K, k + 1 + 1 = K := ⟨_, rfl⟩
  have w1 : wrap64 ((i : Int) + 1) = ((i + 1 : Nat) : Int) := by rw [w64 (by omega) (by omega)]; rfl
  have i8 : ∀ j : Int, 0 ≤ j → j ≤ 45 → IntKind.i8.wrap j = j := fun j j0 j1 => i8w (by omega) (by omega)
  -- the last test
  have last : ∀ (a b : Int) (t : Bool) (b' : Int), (t = true → b' = (i : Int)) → (t = false → b' = b) → At (ShM (rdOf ByteArray.empty ws 0).data.toList) (i + 1) 45 a → At (ApM (rdOf ByteArray.empty ws 1).data.toList) (i + 1) 30 b' →
   ∃ a'' b'' c'', impl_ReadSetting.j2 (k + 1) ws i t a b c = (impl_ValidSetting.f a'' b'' c'').bind (fun t => if t = true then some (a'', b'', c'', 0) else some (0, 0, 0, 5)) ∧ At (ShM (rdOf ByteArray.empty ws 0).data.toList) 46 45 a'' ∧ At (ApM (rdOf ByteArray.empty ws 1).data.toList) 46 30 b'' ∧ At (fun m => (rdOf ByteArray.empty ws 2).data.toList = Dg m) 46 21 c'' := by
   intro a b t b' t1 t2 hA hB
   have e : impl_ReadSetting.j2 (k + 1) ws i t a b c = if (i : Int) ≤ 21 then ((impl_decimal.f i).bind fun t124 => if t124.toList = (rdOf ByteArray.empty ws 2).toList then impl_ReadSetting.l0 k ws ((i + 1 : Nat) : Int) a b' (i : Int) else impl_ReadSetting.l0 k ws ((i + 1 : Nat) : Int) a b' c) else impl_ReadSetting.l0 k ws ((i + 1 : Nat) : Int) a b' c := by
    simp only [impl_ReadSetting.j2, w1, i8 (i : Int) (by omega) (by omega)]
    have g : 2 < (ws.length : Int) := by omega
    cases t with
    | true => rw [t1 rfl]; simp only [if_true, g]
    | false => rw [t2 rfl]; simp only [Bool.false_eq_true, if_false, if_true, g]
   rw [e]
   obtain ⟨st1, st2⟩ := at_step hc
   by_cases q : (i : Int) ≤ 21
   · rw [if_pos q]
     obtain ⟨v, v1, v2⟩ := dg_f i (by omega)
     rw [v1, Option.bind_some, Lib.toList_data, Lib.toList_data]
     by_cases m : v.data.toList = (rdOf ByteArray.empty ws 2).data.toList
     · rw [if_pos m]
       exact ih k (i + 1) a b' i (by omega) (by omega) (by omega) hA hB (st1 (by omega) (m.symm.trans v2))
     · rw [if_neg m]
       exact ih k (i + 1) a b' c (by omega) (by omega) (by omega) hA hB (st2 (fun h => m (v2.trans h.2.symm)))
   · rw [if_neg q]
     exact ih k (i + 1) a b' c (by omega) (by omega) (by omega) hA hB (st2 (fun h => by omega))
  -- the second test
  have second : ∀ (a : Int), At (ShM (rdOf ByteArray.empty ws 0).data.toList) (i + 1) 45 a →
   ∃ a'' b'' c'', impl_ReadSetting.j1 (k + 1 + 1) ws i a b c = (impl_ValidSetting.f a'' b'' c'').bind (fun t => if t = true then some (a'', b'', c'', 0) else some (0, 0, 0, 5)) ∧ At (ShM (rdOf ByteArray.empty ws 0).data.toList) 46 45 a'' ∧ At (ApM (rdOf ByteArray.empty ws 1).data.toList) 46 30 b'' ∧ At (fun m => (rdOf ByteArray.empty ws 2).data.toList = Dg m) 46 21 c'' := by
   intro a hA
   obtain ⟨K1, hK1⟩ : ∃ K1, k + 1 = K1 := ⟨_, rfl⟩
   rw [hK1] at last ⊢
   simp only [impl_ReadSetting.j1]
   obtain ⟨st1, st2⟩ := at_step hb
   by_cases q : (i : Int) ≤ 30
   · rw [if_pos q]
     obtain ⟨v, _, v1, _⟩ := ap_f (i : Int) (by omega)
     rw [v1, Option.bind_some, if_pos (by omega), Lib.toList_data, Lib.toList_data]
     by_cases m : v.data.toList = (rdOf ByteArray.empty ws 1).data.toList
     · rw [show (v.data.toList == (rdOf ByteArray.empty ws 1).data.toList) = true from beq_iff_eq.2 m]
       exact last a b true i (fun _ => rfl) (fun h => by cases h) hA (st1 (by omega) ⟨v, v1, m⟩)
     · rw [show (v.data.toList == (rdOf ByteArray.empty ws 1).data.toList) = false from beq_eq_false_iff_ne.2 m]
       exact last a b false b (fun h => by cases h) (fun _ => rfl) hA (st2 (fun h => by
        obtain ⟨_, v', e1, e2⟩ := h
        rw [v1] at e1
        obtain rfl := Option.some.inj e1
        exact m e2))
   · rw [if_neg q]
     exact last a b false b (fun h => by cases h) (fun _ => rfl) hA (st2 (fun h => by omega))
  rw [hK] at second ⊢
  simp only [impl_ReadSetting.l0]
  obtain ⟨st1, st2⟩ := at_step ha
  rw [if_pos (by omega)]
  obtain ⟨v, _, v1, _⟩ := sh_f (i : Int) (by omega)
  rw [v1, Option.bind_some, if_pos (by omega), Lib.toList_data, Lib.toList_data]
  by_cases m : v.data.toList = (rdOf ByteArray.empty ws 0).data.toList
  · rw [if_pos m, i8 (i : Int) (by omega) (by omega)]
    exact second i (st1 (by omega) ⟨v, v1, m⟩)
  · rw [if_neg m]
    exact second a (st2 (fun h => by
     obtain ⟨_, v', e1, e2⟩ := h
     rw [v1] at e1
     obtain rfl := Option.some.inj e1
     exact m e2))
theorem byt {l : List Int} (h : ∀ x ∈ l, (Lit.int .u8 x).wf = true) : Bytes l := by
 intro x hx
 have h2 : (decide ((0 : Int) ≤ x) && decide (x ≤ 255)) = true := h x hx
 simpa using h2
theorem iv_f {a b c : Int} (ha : 0 ≤ a ∧ a ≤ 45) (hb : 0 ≤ b ∧ b ≤ 30) (hc : 0 ≤ c ∧ c ≤ 21) : impl_ValueOf.f a b c = some (a - b + c, 0) ∧ spec_ValueOf.f a b c = some (a - b + c, 0) := by
 unfold spec_ValueOf.f impl_ValueOf.f spec_l01Value.f impl_Setting_value.f
 rw [ok_f (by omega) (by omega) (by omega), valid_f (by omega) (by omega) (by omega)]
 have g : decide ((0 ≤ a ∧ a ≤ 45) ∧ (0 ≤ b ∧ b ≤ 30) ∧ (0 ≤ c ∧ c ≤ 21)) = true := decide_eq_true ⟨ha, hb, hc⟩
 simp only [g, Option.bind_some, if_true]
 rw [w64 (x := a) (by omega) (by omega), w64 (x := b) (by omega) (by omega), w64 (x := c) (by omega) (by omega), w64 (x := a - b) (by omega) (by omega), w64 (x := a - b + c) (by omega) (by omega)]
 exact ⟨rfl, rfl⟩
theorem mor_v {a b c t : Int} (ha : 0 ≤ a ∧ a ≤ 45) (hb : 0 ≤ b ∧ b ≤ 30) (hc : 0 ≤ c ∧ c ≤ 21) (ht : -100 ≤ t ∧ t ≤ 100) :
 (impl_MoreLight.f a b c t = some (0, 0, 0, 6) ∧ spec_MoreLight.f a b c t = some (0, 0, 0, 6)) ∨ ∃ s p, impl_MoreLight.f a b c t = some (s, p, c, 0) ∧ spec_MoreLight.f a b c t = some (s, p, c, 0) ∧ (0 ≤ s ∧ s ≤ 45) ∧ (0 ≤ p ∧ p ≤ 30) ∧ s - p + c = a - b + c + t ∧
  ∃ s' p', impl_MoreLight.f s p c (-t) = some (s', p', c, 0) ∧ (0 ≤ s' ∧ s' ≤ 45) ∧ (0 ≤ p' ∧ p' ≤ 30) ∧ s' - p' + c = a - b + c := by
 have im : ∀ {a b c t : Int}, (0 ≤ a ∧ a ≤ 45) → (0 ≤ b ∧ b ≤ 30) → (0 ≤ c ∧ c ≤ 21) → (-100 ≤ t ∧ t ≤ 100) → impl_MoreLight.f a b c t = (impl_Setting_more.f a b c t).bind (fun z => some (z.1, z.2.1, z.2.2.1, z.2.2.2)) ∧ spec_MoreLight.f a b c t = (spec_l01More.f a b c t).bind (fun z => if z.2.2.2 = true then some (z.1, z.2.1, z.2.2.1, 0) else some (0, 0, 0, 6)) := by
  intro a b c t ha hb hc ht
  unfold impl_MoreLight.f spec_MoreLight.f
  rw [ok_f (by omega) (by omega) (by omega), valid_f (by omega) (by omega) (by omega), in_f, within_f]
  have g : decide ((0 ≤ a ∧ a ≤ 45) ∧ (0 ≤ b ∧ b ≤ 30) ∧ (0 ≤ c ∧ c ≤ 21)) = true := decide_eq_true ⟨ha, hb, hc⟩
  have g' : decide (-100 ≤ t ∧ t ≤ 100) = true := decide_eq_true ht
  rw [g, g', Option.bind_some, Option.bind_some, if_pos rfl, if_pos rfl, Option.bind_some, Option.bind_some, if_pos rfl, if_pos rfl]
  exact ⟨rfl, rfl⟩
 obtain ⟨i1, i2⟩ := im ha hb hc ht
 obtain ⟨s, p, s0, hp, s3, s4, h1, h2⟩ := more_f ha hb hc ht
 by_cases g : 0 ≤ p ∧ p ≤ 30
 · right
   obtain ⟨e1, e2⟩ := h1 g
   rw [e2] at i1
   rw [e1] at i2
   refine ⟨s, p, i1, i2, s0, g, by omega, ?_⟩
   obtain ⟨j1, _⟩ := im (t := -t) s0 g hc (by omega)
   obtain ⟨s', p', q0, hq, q3, q4, k1, k2⟩ := more_f (t := -t) s0 g hc (by omega)
   have g' : 0 ≤ p' ∧ p' ≤ 30 := by omega
   obtain ⟨_, f2⟩ := k1 g'
   rw [f2] at j1
   exact ⟨s', p', j1, q0, g', by omega⟩
 · left
   obtain ⟨e1, e2⟩ := h2 g
   rw [e2] at i1
   rw [e1] at i2
   exact ⟨i1, i2⟩
theorem sam_l (l : List S26) (hl : l.length ≤ 1048576) (d : Nat) : ∀ (k : Nat) (i : Nat), i ≤ l.length → l.length - i = d → d < k → spec_SameSettings.l0 k l l i = some true := by
 induction d with
 | zero =>
  intro k i h0 hd hk
  obtain ⟨k, rfl⟩ : ∃ n, k = n + 1 := ⟨k - 1, by omega⟩
  simp only [spec_SameSettings.l0]
  rw [if_neg (by omega)]
 | succ d ih =>
  intro k i h0 hd hk
  obtain ⟨k, rfl⟩ : ∃ n, k = n + 1 := ⟨k - 1, by omega⟩
  simp only [spec_SameSettings.l0]
  rw [if_pos (by omega), if_pos (by omega), if_pos (by omega), if_neg (by simp), w64 (by omega) (by omega)]
  exact ih k (i + 1) (by omega) (by omega) (by omega)
theorem sam_f (l : List S26) (hl : l.length ≤ 1048576) (k : Nat) (hk : l.length < k) : spec_SameSettings.f k l l = some true := by
 unfold spec_SameSettings.f
 rw [if_pos rfl]
 exact sam_l l hl l.length k 0 (by omega) (by omega) hk
def Aft (x y : S26) : Prop := x.f2 = y.f2 ∧ (x.f0 < y.f0 ∨ x.f0 = y.f0 ∧ x.f1 < y.f1)
theorem grow_aft (sp s : Int) : ∀ (n : Nat) (a : Int), (grow sp s n a).Pairwise Aft
 | 0, _ => List.Pairwise.nil
 | n + 1, a => by
  refine List.Pairwise.cons (fun y hy => ?_) (grow_aft sp s n (a + 3))
  have := grow_mem sp s n (a + 3) y hy
  refine ⟨by show sp = y.f2; omega, .inr ⟨by show s = y.f0; omega, by show a < y.f1; omega⟩⟩
theorem grid_aft (sp : Int) : ∀ (n : Nat) (s : Int), (grid sp n s).Pairwise Aft
 | 0, _ => List.Pairwise.nil
 | n + 1, s => by
  refine List.pairwise_append.2 ⟨grow_aft sp s 11 0, grid_aft sp n (s + 3), fun x hx y hy => ?_⟩
  have := grow_mem sp s 11 0 x hx
  have := grid_mem sp n (s + 3) y hy
  refine ⟨by omega, .inl (by omega)⟩
theorem grow_mod (sp s : Int) : ∀ (n : Nat) (a : Int), a % 3 = 0 → ∀ x ∈ grow sp s n a, x.f1 % 3 = 0
 | 0, _, _, x, h => by simp [grow] at h
 | n + 1, a, ha, x, h => by
  simp only [grow, List.mem_cons] at h
  rcases h with h | h
  · subst h; exact ha
  · exact grow_mod sp s n (a + 3) (by omega) x h
theorem grid_mod (sp : Int) : ∀ (n : Nat) (s : Int), s % 3 = 0 → ∀ x ∈ grid sp n s, x.f0 % 3 = 0 ∧ x.f1 % 3 = 0
 | 0, _, _, x, h => by simp [grid] at h
 | n + 1, s, hs, x, h => by
  simp only [grid, List.mem_append] at h
  rcases h with h | h
  · have := grow_mem sp s 11 0 x h
    exact ⟨by omega, grow_mod sp s 11 0 (by omega) x h⟩
  · exact grid_mod sp n (s + 3) (by omega) x h
def Fits (v : Int) (m : List S26) : Prop := m.length ≤ 200 ∧ ∀ i : Nat, i < m.length → (0 ≤ (rd_T26 m i).f0 ∧ (rd_T26 m i).f0 ≤ 45) ∧ (0 ≤ (rd_T26 m i).f1 ∧ (rd_T26 m i).f1 ≤ 30) ∧ (0 ≤ (rd_T26 m i).f2 ∧ (rd_T26 m i).f2 ≤ 21) ∧ (rd_T26 m i).f0 - (rd_T26 m i).f1 + (rd_T26 m i).f2 = v ∧ (rd_T26 m i).f0 % 3 = 0 ∧ (rd_T26 m i).f1 % 3 = 0 ∧ (0 < i → (rd_T26 m (i - 1 : Nat)).f0 < (rd_T26 m i).f0)
theorem fits_f (v sp : Int) (hsp : 0 ≤ sp ∧ sp ≤ 21) : Fits v ((grid sp 16 0).filter (fun x => gsz v x == 0)) := by
 have gl := grid_len sp 16 0
 have fl := List.length_filter_le (fun x => gsz v x == 0) (grid sp 16 0)
 have pw : ((grid sp 16 0).filter (fun x => gsz v x == 0)).Pairwise Aft := (grid_aft sp 16 0).sublist List.filter_sublist
 have key : ∀ x ∈ (grid sp 16 0).filter (fun x => gsz v x == 0), (0 ≤ x.f0 ∧ x.f0 ≤ 45) ∧ (0 ≤ x.f1 ∧ x.f1 ≤ 30) ∧ x.f2 = sp ∧ x.f0 - x.f1 + x.f2 = v ∧ x.f0 % 3 = 0 ∧ x.f1 % 3 = 0 := by
  intro x hx
  obtain ⟨h1, h2⟩ := List.mem_filter.1 hx
  have g := grid_mem sp 16 0 x h1
  have q := grid_mod sp 16 0 (by omega) x h1
  have z : gsz v x = 0 := by simpa using h2
  unfold gsz at z
  split at z <;> omega
 generalize (grid sp 16 0).filter (fun x => gsz v x == 0) = m at fl pw key
 refine ⟨by omega, fun i hi => ?_⟩
 have r : ∀ j : Nat, (hj : j < m.length) → rd_T26 m j = m[j] := fun j hj => by simp [rd_T26, List.getD_eq_getElem?_getD, hj]
 have a1 := key (rd_T26 m i) (by rw [r i hi]; exact List.getElem_mem hi)
 refine ⟨a1.1, a1.2.1, by omega, a1.2.2.2.1, a1.2.2.2.2.1, a1.2.2.2.2.2, fun h0 => ?_⟩
 have a2 := key (rd_T26 m (i - 1 : Nat)) (by rw [r (i - 1) (by omega)]; exact List.getElem_mem _)
 have w := List.pairwise_iff_getElem.1 pw (i - 1) i (by omega) hi (by omega)
 rw [← r i hi, ← r (i - 1) (by omega)] at w
 obtain ⟨_, w | w⟩ := w <;> omega
theorem for_v (v sp : Int) (hv : -100 ≤ v ∧ v ≤ 100) (hsp : 0 ≤ sp ∧ sp ≤ 21) (k : Nat) (hk : 500 < k) : ∃ z : Int, spec_SettingsFor.f k v sp = some ((grid sp 16 0).filter (fun x => gsz v x == 0), z) ∧ impl_SettingsFor.f k v sp = some ((grid sp 16 0).filter (fun x => gsz v x == 0), z) ∧ (z = 0 → ∃ x ∈ grid sp 16 0, gsz v x = 0) := by
 unfold spec_SettingsFor.f impl_SettingsFor.f
 simp only [asked_f, isasked_f, Option.bind_some]
 have gl := grid_len sp 16 0
 simp only [hv, hsp, and_self, decide_true, if_true]
 rw [off_f v sp 0 hv hsp k (by omega), who_f sp hsp k (by omega), Option.bind_some, Option.bind_some]
 have e := fin_l v sp hv hsp (grid sp 16 0) (fun x hx => hx) (by omega) (grid sp 16 0).length k [] 0 (by omega) (by omega) (by omega) (by show 0 + _ ≤ 300; omega)
 simp only [List.drop_zero, List.nil_append] at e
 rw [show ((0 : Nat) : Int) = 0 from rfl] at e
 rw [e]
 by_cases c : (((grid sp 16 0).filter (fun x => gsz v x == 0)).length : Int) = 0
 · rw [if_pos c, if_pos c, List.length_eq_zero_iff.1 (by omega : ((grid sp 16 0).filter (fun x => gsz v x == 0)).length = 0)]
   exact ⟨6, rfl, rfl, fun h => by omega⟩
 · rw [if_neg c, if_neg c]
   refine ⟨0, rfl, rfl, fun _ => ?_⟩
   obtain ⟨x, hx⟩ := List.exists_mem_of_length_pos (by omega : 0 < ((grid sp 16 0).filter (fun x => gsz v x == 0)).length)
   obtain ⟨h1, h2⟩ := List.mem_filter.1 hx
   exact ⟨x, h1, by simpa using h2⟩
theorem near_v (v sp : Int) (hv : -100 ≤ v ∧ v ≤ 100) (hsp : 0 ≤ sp ∧ sp ≤ 21) (k : Nat) (hk : 600 < k) : ∃ q : Int, spec_NearestSettings.f k v sp = some ((grid sp 16 0).filter (fun x => gsz v x == q), 0) ∧ impl_NearestSettings.f k v sp = some ((grid sp 16 0).filter (fun x => gsz v x == q), 0) ∧ 0 ≤ q ∧ (∀ x ∈ grid sp 16 0, q ≤ gsz v x) ∧ ∃ x ∈ grid sp 16 0, gsz v x = q := by
 unfold spec_NearestSettings.f impl_NearestSettings.f
 simp only [asked_f, isasked_f, Option.bind_some]
 have gl := grid_len sp 16 0
 simp only [hv, hsp, and_self, decide_true, if_true]
 obtain ⟨q, q0, q1, e, hq, hx⟩ := nst_l v sp hv hsp (grid sp 16 0) (fun x hx => hx) (by omega) (grid sp 16 0).length k 1000 0 (by omega) (by omega) (by omega) (by omega) (by omega) (fun x hx => by simp at hx) (fun h => by omega)
 have m0 : (⟨0, 0, sp⟩ : S26) ∈ grid sp 16 0 := by
  show _ ∈ grow sp 0 11 0 ++ grid sp 15 (0 + 3)
  exact List.mem_append_left _ (by show _ ∈ (_ :: _); exact List.mem_cons_self)
 have q2 := hq _ m0
 have q3 : gsz v (⟨0, 0, sp⟩ : S26) ≤ 300 := by unfold gsz; split <;> (simp only; omega)
 rw [who_f sp hsp k (by omega), Option.bind_some]
 rw [List.take_zero, List.filter_nil, show ((0 : Nat) : Int) = 0 from rfl] at e
 rw [e]
 exact ⟨q, nsp_l v sp q hv hsp (by omega) hq (hx (by omega)) q.toNat k 0 (by omega) (by omega) (by omega) (by omega), rfl, q0, hq, hx (by omega)⟩
def Brv (a b c e s : Int) (m : List S26) : Prop := ∀ i : Nat, i < m.length → (0 ≤ (rd_T26 m i).f0 ∧ (rd_T26 m i).f0 ≤ 45) ∧ (0 ≤ (rd_T26 m i).f1 ∧ (rd_T26 m i).f1 ≤ 30) ∧ (rd_T26 m i).f2 = c ∧ (rd_T26 m i).f0 - (rd_T26 m i).f1 + (rd_T26 m i).f2 = a - b + c + ((i : Int) - e) * s
theorem mul_b {x s : Int} (hx : -5 ≤ x ∧ x ≤ 5) (hs : 1 ≤ s ∧ s ≤ 9) : -45 ≤ x * s ∧ x * s ≤ 45 := by
 have q1 : (x + 5) * s ≥ 0 := Int.mul_nonneg (by omega) (by omega)
 have q2 : (5 - x) * s ≥ 0 := Int.mul_nonneg (by omega) (by omega)
 rw [Int.add_mul] at q1
 rw [Int.sub_mul] at q2
 omega
theorem brv_l (a b c e s : Int) (ha : 0 ≤ a ∧ a ≤ 45) (hb : 0 ≤ b ∧ b ≤ 30) (hc : 0 ≤ c ∧ c ≤ 21) (he : 0 ≤ e ∧ e ≤ 5) (hs : 1 ≤ s ∧ s ≤ 9) (d : Nat) : ∀ (k : Nat) (acc : List S26) (x : Int), -e ≤ x → x ≤ e + 1 → e + 1 - x = d → d < k → (acc.length : Int) = x + e → Brv a b c e s acc →
 ∃ r, spec_BracketOf.l0 k e s acc x a b c = some r ∧ impl_BracketOf.l0 k e s acc x a b c = some r ∧ r.1.length ≤ 100 ∧ (r.2 = 6 ∨ r.2 = 0 ∧ (r.1.length : Int) = 2 * e + 1 ∧ Brv a b c e s r.1) := by
 induction d with
 | zero =>
  intro k acc x h0 h1 hd hk hl hv
  obtain ⟨k, rfl⟩ : ∃ n, k = n + 1 := ⟨k - 1, by omega⟩
  simp only [spec_BracketOf.l0, impl_BracketOf.l0]
  have g : ¬ x ≤ e := by omega
  simp only [g, if_false]
  exact ⟨_, rfl, rfl, by show acc.length ≤ 100; omega, .inr ⟨rfl, by show (acc.length : Int) = _; omega, hv⟩⟩
 | succ d ih =>
  intro k acc x h0 h1 hd hk hl hv
  obtain ⟨k, rfl⟩ : ∃ n, k = n + 1 := ⟨k - 1, by omega⟩
  simp only [spec_BracketOf.l0, impl_BracketOf.l0]
  have g : x ≤ e := by omega
  have p1 := mul_b (x := x) (by omega) hs
  simp only [g, if_true]
  rw [w64 (x := x * s) (by omega) (by omega), w64 (x := x + 1) (by omega) (by omega)]
  obtain ⟨u, p, u0, hp, u3, u4, h1', h2'⟩ := more_f (t := x * s) ha hb hc (by omega)
  by_cases gp : 0 ≤ p ∧ p ≤ 30
  · obtain ⟨e1, e2⟩ := h1' gp
    simp only [e1, e2, Option.bind_some, if_true]
    have hacc : acc.length < 46912496118442 := by omega
    simp only [hacc, if_true]
    have hlen : (acc ++ [(⟨u, p, c⟩ : S26)]).length = acc.length + 1 := by simp
    refine ih k (acc ++ [(⟨u, p, c⟩ : S26)]) (x + 1) (by omega) (by omega) (by omega) (by omega) (by omega) (fun i hi => ?_)
    rw [hlen] at hi
    by_cases q : i = acc.length
    · subst q
      have r1 : rd_T26 (acc ++ [(⟨u, p, c⟩ : S26)]) (acc.length : Nat) = ⟨u, p, c⟩ := by simp [rd_T26, List.getD_eq_getElem?_getD]
      rw [r1, show ((acc.length : Nat) : Int) - e = x by omega]
      exact ⟨u0, gp, rfl, by show u - p + c = _; omega⟩
    · have r0 : rd_T26 (acc ++ [(⟨u, p, c⟩ : S26)]) i = rd_T26 acc i := by
       simp only [rd_T26, Int.toNat_natCast, List.getD_eq_getElem?_getD]
       rw [List.getElem?_append_left (by omega)]
      rw [r0]
      exact hv i (by omega)
  · obtain ⟨e1, e2⟩ := h2' gp
    simp only [e1, e2, Option.bind_some, Bool.false_eq_true, if_false]
    exact ⟨_, rfl, rfl, by show 0 ≤ 100; omega, .inl rfl⟩
theorem brv_f (a b c e s : Int) (ha : 0 ≤ a ∧ a ≤ 45) (hb : 0 ≤ b ∧ b ≤ 30) (hc : 0 ≤ c ∧ c ≤ 21) (he : 0 ≤ e ∧ e ≤ 5) (hs : 1 ≤ s ∧ s ≤ 9) (k : Nat) (hk : 30 < k) :
 ∃ r, spec_BracketOf.f k a b c e s = some r ∧ impl_BracketOf.f k a b c e s = some r ∧ r.1.length ≤ 100 ∧ (r.2 = 6 ∨ r.2 = 0 ∧ (r.1.length : Int) = 2 * e + 1 ∧ Brv a b c e s r.1) := by
 obtain ⟨k, rfl⟩ : ∃ n, k = n + 1 := ⟨k - 1, by omega⟩
 have vv : decide ((0 ≤ a ∧ a ≤ 45) ∧ (0 ≤ b ∧ b ≤ 30) ∧ (0 ≤ c ∧ c ≤ 21)) = true := decide_eq_true ⟨ha, hb, hc⟩
 have v1 : decide (0 ≤ e ∧ e ≤ 5) = true := decide_eq_true he
 have v2 : decide (1 ≤ s ∧ s ≤ 9) = true := decide_eq_true hs
 obtain ⟨r, r1, r2, r3, r4⟩ := brv_l a b c e s ha hb hc he hs (e + 1 + e).toNat k [] (-e) (by omega) (by omega) (by omega) (by omega) (by show ((0 : Nat) : Int) = _; omega) (fun i hi => absurd hi (by simp))
 refine ⟨r, ?_, ?_, r3, r4⟩
 · unfold spec_BracketOf.f
   simp only [ok_f (a := a) (b := b) (c := c) (by omega) (by omega) (by omega), in_f, Option.bind_some, vv, v1, v2, if_true, Bool.not_true, spec_BracketOf.j0, Bool.false_eq_true, if_false]
   rw [w64 (x := -e) (by omega) (by omega)]
   exact r1
 · refine impl_BracketOf.mono a b c e s k r ?_
   unfold impl_BracketOf.f
   simp only [valid_f (a := a) (b := b) (c := c) (by omega) (by omega) (by omega), within_f, Option.bind_some, vv, v1, v2, if_true]
   rw [w64 (x := -e) (by omega) (by omega)]
   exact r2
theorem itxt_f (a b c : Int) (ha : 0 ≤ a ∧ a ≤ 45) (hb : 0 ≤ b ∧ b ≤ 30) (hc : 0 ≤ c ∧ c ≤ 21) : ∃ v p q r, impl_SettingText.f a b c = some v ∧ v = p ++ (⟨#[32]⟩ : ByteArray) ++ q ++ (⟨#[32]⟩ : ByteArray) ++ r ∧ impl_ShutterName.f a = some p ∧ impl_ApertureName.f b = some q ∧ impl_decimal.f c = some r ∧ (p.size ≤ 20 ∧ q.size ≤ 20 ∧ r.size ≤ 20) ∧ (∀ b ∈ p.data.toList, b ≠ 32) ∧ (∀ b ∈ q.data.toList, b ≠ 32) ∧ (∀ b ∈ r.data.toList, b ≠ 32) := by
 obtain ⟨p, p2, np, p3⟩ := nosp_of nosp_sh (x := a) (by omega) (by omega)
 obtain ⟨q, q2, nq, q3⟩ := nosp_of nosp_ap (x := b) (by omega) (by omega)
 obtain ⟨r, r2, nr, r3⟩ := nosp_of nosp_dc (x := c) (by omega) (by omega)
 have one : (⟨#[32]⟩ : ByteArray).size = 1 := rfl
 have g1 : p.size + 1 ≤ 9223372036854775807 := by omega
 have g2 : (p ++ (⟨#[32]⟩ : ByteArray)).size + q.size ≤ 9223372036854775807 := by rw [ByteArray.size_append, one]; omega
 have g3 : ((p ++ (⟨#[32]⟩ : ByteArray)) ++ q).size + 1 ≤ 9223372036854775807 := by rw [ByteArray.size_append, ByteArray.size_append, one]; omega
 have g4 : (((p ++ (⟨#[32]⟩ : ByteArray)) ++ q) ++ (⟨#[32]⟩ : ByteArray)).size + r.size ≤ 9223372036854775807 := by rw [ByteArray.size_append, ByteArray.size_append, ByteArray.size_append, one]; omega
 refine ⟨_, p, q, r, ?_, rfl, p2, q2, r2, ⟨p3, q3, r3⟩, np, nq, nr⟩
 unfold impl_SettingText.f
 have vv : impl_ValidSetting.f a b c = some true := by rw [valid_f (by omega) (by omega) (by omega)]; exact congrArg some (decide_eq_true ⟨ha, hb, hc⟩)
 rw [vv, Option.bind_some, if_pos rfl, w64 (x := a) (by omega) (by omega), p2, Option.bind_some, if_pos g1, w64 (x := b) (by omega) (by omega), q2, Option.bind_some, if_pos g2, if_pos g3, w64 (x := c) (by omega) (by omega), r2, Option.bind_some, if_pos g4]
theorem spl_app (c : UInt8) : ∀ (p r : List UInt8), (∀ b ∈ p, b ≠ c) → spl c (p ++ c :: r) = p :: spl c r
 | [], r, _ => by simp [spl]
 | b :: p, r, h => by
  have hb : b ≠ c := h b (by simp)
  have ih := spl_app c p r (fun x hx => h x (by simp [hx]))
  simp only [List.cons_append, spl]
  rw [if_neg hb, ih]
theorem spl_one (c : UInt8) : ∀ (p : List UInt8), (∀ b ∈ p, b ≠ c) → spl c p = [p]
 | [], _ => rfl
 | b :: p, h => by
  have hb : b ≠ c := h b (by simp)
  have ih := spl_one c p (fun x hx => h x (by simp [hx]))
  simp only [spl]
  rw [if_neg hb, ih]
theorem back_f (a b c : Int) (ha : 0 ≤ a ∧ a ≤ 45) (hb : 0 ≤ b ∧ b ≤ 30) (hc : 0 ≤ c ∧ c ≤ 21) (k : Nat) (hk : 200 < k) : ∃ v, impl_SettingText.f a b c = some v ∧ impl_ReadSetting.f k v = some (a, b, c, 0) := by
 obtain ⟨v, p, q, r, e2, ev, p1, q1, r1, ⟨p2, q2, r2⟩, np, nq, nr⟩ := itxt_f a b c ha hb hc
 refine ⟨v, e2, ?_⟩
 have vl : v.data.toList = p.data.toList ++ 32 :: (q.data.toList ++ 32 :: r.data.toList) := by
  rw [ev]
  simp [ByteArray.data_append]
 have sp3 : spl 32 v.data.toList = [p.data.toList, q.data.toList, r.data.toList] := by
  rw [vl, spl_app 32 _ _ np, spl_app 32 _ _ nq, spl_one 32 _ nr]
 have vs : v.size ≤ 62 := by
  rw [ev, ByteArray.size_append, ByteArray.size_append, ByteArray.size_append, ByteArray.size_append]
  have one : (⟨#[32]⟩ : ByteArray).size = 1 := rfl
  omega
 have vs2 : 2 ≤ v.size := by
  rw [ev, ByteArray.size_append, ByteArray.size_append, ByteArray.size_append, ByteArray.size_append]
  have one : (⟨#[32]⟩ : ByteArray).size = 1 := rfl
  omega
 obtain ⟨R, r1', r2'⟩ : ∃ R, strings_SplitN.f v (⟨#[32]⟩ : ByteArray) 4 = some R ∧ R.map (·.data.toList) = Lib.splitK [32] 0 (min 4 (v.size + 1) - 1) v.data.toList := by
  refine ⟨Lib.splitB (⟨#[32]⟩ : ByteArray) 0 (min 4 (v.size + 1) - 1) v, ?_, Lib.splitB_data _ _ _ _⟩
  unfold strings_SplitN.f
  rw [if_pos (by omega), if_pos (by decide), if_pos (by omega)]
  rfl
 obtain ⟨k1, _⟩ := splitK_spl 32 (min 4 (v.size + 1) - 1) v.data.toList
 rw [k1 (by rw [sp3]; show 3 ≤ _; omega), sp3] at r2'
 have R3 : R.length = 3 := by
  have := congrArg List.length r2'
  simpa using this
 have at0 : (rdOf ByteArray.empty R 0).data.toList = p.data.toList ∧ (rdOf ByteArray.empty R 1).data.toList = q.data.toList ∧ (rdOf ByteArray.empty R 2).data.toList = r.data.toList := by
  match R, R3 with
  | [x, y, z], _ =>
   simp only [List.map_cons, List.map_nil, List.cons.injEq, and_true] at r2'
   exact r2'
 obtain ⟨x, y, z, i1, i2, i3, i4⟩ := rs_l R R3 46 k 0 (-1) (-1) (-1) (by omega) (by omega) (by omega) (.inl ⟨rfl, fun n h => by omega⟩) (.inl ⟨rfl, fun n h => by omega⟩) (.inl ⟨rfl, fun n h => by omega⟩)
 obtain ⟨v', d1, d2⟩ := dg_f c.toNat (by omega)
 rw [show ((c.toNat : Nat) : Int) = c by omega, r1] at d1
 obtain rfl := Option.some.inj d1
 rw [at0.1] at i2
 rw [at0.2.1] at i3
 rw [at0.2.2] at i4
 have ex : x = a := by
  have m : ShM p.data.toList a.toNat := ⟨p, by rw [show ((a.toNat : Nat) : Int) = a by omega]; exact p1, rfl⟩
  rcases i2 with ⟨_, h'⟩ | ⟨n, h, _, h', h''⟩
  · exact absurd m (h' _ (by omega) (by omega))
  · have := sh_one h' (by omega) h'' m
    omega
 have ey : y = b := by
  have m : ApM q.data.toList b.toNat := ⟨q, by rw [show ((b.toNat : Nat) : Int) = b by omega]; exact q1, rfl⟩
  rcases i3 with ⟨_, h'⟩ | ⟨n, h, _, h', h''⟩
  · exact absurd m (h' _ (by omega) (by omega))
  · have := ap_one h' (by omega) h'' m
    omega
 have ez : z = c := by
  rcases i4 with ⟨_, h'⟩ | ⟨n, h, _, h', h''⟩
  · exact absurd d2 (h' _ (by omega) (by omega))
  · have := dg_one h' (by omega) (h''.symm.trans d2)
    omega
 subst ex
 subst ey
 subst ez
 unfold impl_ReadSetting.f
 have i1' : impl_ReadSetting.l0 k R 0 (-1) (-1) (-1) = _ := i1
 rw [r1', Option.bind_some, if_pos (by omega), i1', valid_f (by omega) (by omega) (by omega), Option.bind_some, if_pos (decide_eq_true ⟨ha, hb, hc⟩)]
theorem j1_l (a b c e s : Int) (ha : 0 ≤ a ∧ a ≤ 45) (hb : 0 ≤ b ∧ b ≤ 30) (hc : 0 ≤ c ∧ c ≤ 21) (he : 0 ≤ e ∧ e ≤ 5) (hs : 1 ≤ s ∧ s ≤ 9) (m : List S26) (hl : (m.length : Int) = 2 * e + 1) (hm : Brv a b c e s m) (d : Nat) : ∀ (k i : Nat), i ≤ m.length → m.length - i = d → d < k → laws_FnSettings.l1 k (a - b + c) e s m i = some true := by
 induction d with
 | zero =>
  intro k i h0 hd hk
  obtain ⟨k, rfl⟩ : ∃ n, k = n + 1 := ⟨k - 1, by omega⟩
  simp only [laws_FnSettings.l1]
  rw [if_neg (by omega), w64 (x := 2 * e) (by omega) (by omega), w64 (x := 2 * e + 1) (by omega) (by omega), hl]
  simp
 | succ d ih =>
  intro k i h0 hd hk
  obtain ⟨k, rfl⟩ : ∃ n, k = n + 1 := ⟨k - 1, by omega⟩
  obtain ⟨x1, x2, x3, x4⟩ := hm i (by omega)
  have pb := mul_b (x := (i : Int) - e) (by omega) hs
  simp only [laws_FnSettings.l1]
  rw [if_pos (by omega), if_pos (by omega), (iv_f x1 x2 (by omega)).1, Option.bind_some]
  simp only [if_true]
  rw [w64 (x := (i : Int) - e) (by omega) (by omega), w64 (x := ((i : Int) - e) * s) (by omega) (by omega), w64 (x := a - b + c + ((i : Int) - e) * s) (by omega) (by omega), if_pos x4, w64 (x := (i : Int) + 1) (by omega) (by omega)]
  exact ih k (i + 1) (by omega) (by omega) (by omega)
theorem l0_l (p q : List Int) (v wish : Int) (hw : -100 ≤ wish ∧ wish ≤ 100) (m : List S26) (a b c : Int) (hm : Fits wish m) (K : Nat) (ht : ∀ k : Nat, K ≤ k → laws_FnSettings.l0 k p q v wish m (m.length : Int) a b c = some true) (d : Nat) : ∀ (k i : Nat), i ≤ m.length → m.length - i = d → 2 * d + K ≤ k → laws_FnSettings.l0 k p q v wish m i a b c = some true := by
 obtain ⟨hl, hm⟩ := hm
 induction d with
 | zero =>
  intro k i h0 hd hk
  obtain rfl : i = m.length := by omega
  exact ht k (by omega)
 | succ d ih =>
  intro k i h0 hd hk
  obtain ⟨k, rfl⟩ : ∃ n, k = n + 1 + 1 := ⟨k - 2, by omega⟩
  obtain ⟨x1, x2, x3, x4, x5, x6, x7⟩ := hm i (by omega)
  have nx : laws_FnSettings.l0 k p q v wish m ((i : Int) + 1) a b c = some true := ih k (i + 1) (by omega) (by omega) (by omega)
  have t0 : Int.tmod (rd_T26 m i).f0 3 = 0 := by rw [Int.tmod_eq_emod_of_nonneg (by omega)]; exact x5
  have t1 : Int.tmod (rd_T26 m i).f1 3 = 0 := by rw [Int.tmod_eq_emod_of_nonneg (by omega)]; exact x6
  have j6 : laws_FnSettings.j6 (k + 1) p q v wish m i false a b c = some true := by
   simp only [laws_FnSettings.j6, Bool.false_eq_true, if_false]
   rw [w64 (by omega) (by omega)]
   exact nx
  rw [laws_FnSettings.l0]
  rw [if_pos (by omega), if_pos (by omega), (iv_f x1 x2 x3).1, Option.bind_some, if_pos rfl, if_pos x4, if_pos t0, if_pos t1]
  by_cases z : i = 0
  · rw [if_neg (by omega)]
    exact j6
  · have y := x7 (by omega)
    rw [if_pos (by omega), w64 (x := (i : Int) - 1) (by omega) (by omega), if_pos (by omega), if_pos (by omega), show (i : Int) - 1 = ((i - 1 : Nat) : Int) by omega, show decide ((rd_T26 m i).f0 ≤ (rd_T26 m ((i - 1 : Nat) : Int)).f0) = false from decide_eq_false (by omega)]
    exact j6
theorem FnSettings : laws_FnSettings.Pure := by
 intro l0 l1 h0 _ w0 h1 _ w1
 refine ⟨2000, ?_⟩
 unfold laws_FnSettings.f laws_f6big.f
 rw [Option.bind_some, Option.bind_some]
 have jt : laws_FnSettings.j0 2000 l0 l1 true = some true := by
  rw [laws_FnSettings.j0, if_pos rfl]
 by_cases b0 : (l0.length : Int) > 4096
 · rw [if_pos (decide_eq_true b0)]
   exact jt
 rw [if_neg (by simpa using b0)]
 by_cases b1 : (l1.length : Int) > 4096
 · rw [show decide ((l1.length : Int) > 4096) = true from decide_eq_true b1]
   exact jt
 rw [show decide ((l1.length : Int) > 4096) = false from decide_eq_false b1]
 have y0 := byt w0
 have y1 := byt w1
 obtain ⟨a, b, c, e1, ha, hb, hc⟩ := p6set_f l0 y0 (by omega)
 obtain ⟨t, e2, t0, t1⟩ := p6_f l1 y1 (by omega) 80 (by omega) (by omega)
 obtain ⟨u, e3, u0, u1⟩ := p6_f l0 y0 (by omega) 60 (by omega) (by omega)
 obtain ⟨n, e4, n0, n1⟩ := p6_f l1 y1 (by omega) 4 (by omega) (by omega)
 obtain ⟨s, e5, s0, s1⟩ := p6_f l0 y0 (by omega) 4 (by omega) (by omega)
 -- the brackets
 have tail : ∀ k : Nat, 300 ≤ k → laws_FnSettings.l0 k l0 l1 (a - b + c) (u - 30) ((grid c 16 0).filter (fun x => gsz (u - 30) x == 0)) (((grid c 16 0).filter (fun x => gsz (u - 30) x == 0)).length : Int) a b c = some true := by
  intro k hk
  obtain ⟨k, rfl⟩ : ∃ n, k = n + 1 := ⟨k - 1, by omega⟩
  obtain ⟨r, r1, r2, r3, r4⟩ := brv_f a b c n (1 + s) ha hb hc (by omega) (by omega) k (by omega)
  rw [laws_FnSettings.l0, if_neg (by omega), e4, Option.bind_some, e5, Option.bind_some, w64 (x := 1 + s) (by omega) (by omega), r2, Option.bind_some, r1, Option.bind_some, if_pos rfl, sam_f r.1 (by omega) k (by omega), Option.bind_some]
  obtain ⟨k, rfl⟩ : ∃ n, k = n + 1 := ⟨k - 1, by omega⟩
  rw [laws_FnSettings.j7, if_neg (by simp)]
  rcases r4 with r4 | ⟨r4, r5, r6⟩
  · rw [r4, if_neg (by omega)]
    rfl
  · rw [r4, if_pos rfl]
    exact j1_l a b c n (1 + s) ha hb hc (by omega) (by omega) r.1 r5 r6 r.1.length k 0 (by omega) (by omega) (by omega)
 have fits := fits_f (u - 30) c hc
 have mid : ∀ k : Nat, 1100 ≤ k → laws_FnSettings.j3 k l0 l1 (a - b + c) a b c = some true := by
  intro k hk
  obtain ⟨k, rfl⟩ : ∃ n, k = n + 1 := ⟨k - 1, by omega⟩
  obtain ⟨z, z1, z2, z3⟩ := for_v (u - 30) c (by omega) hc k (by omega)
  obtain ⟨q, q1, q2, q0, q3, x, qx, q4⟩ := near_v (u - 30) c (by omega) hc k (by omega)
  have gl := grid_len c 16 0
  have ql := List.length_filter_le (fun x => gsz (u - 30) x == q) (grid c 16 0)
  have qp : 0 < ((grid c 16 0).filter (fun x => gsz (u - 30) x == q)).length := List.length_pos_of_mem (List.mem_filter.2 ⟨qx, by simpa using q4⟩)
  have j4 : laws_FnSettings.j4 k l0 l1 (a - b + c) (u - 30) ((grid c 16 0).filter (fun x => gsz (u - 30) x == 0)) false a b c = some true := by
   obtain ⟨k, rfl⟩ : ∃ n, k = n + 1 := ⟨k - 1, by omega⟩
   rw [laws_FnSettings.j4, if_neg (by simp)]
   exact l0_l l0 l1 (a - b + c) (u - 30) (by omega) _ a b c fits 300 tail _ k 0 (by omega) rfl (by have := fits.1; omega)
  rw [laws_FnSettings.j3, e3, Option.bind_some, w64 (x := u - 30) (by omega) (by omega), w64 (x := c) (by omega) (by omega), z2, Option.bind_some, z1, Option.bind_some, q2, Option.bind_some, q1, Option.bind_some, if_pos rfl, sam_f ((grid c 16 0).filter (fun x => gsz (u - 30) x == 0)) (by have := fits.1; omega) k (by have := fits.1; omega), Option.bind_some, if_pos rfl, if_pos rfl, if_pos rfl, sam_f ((grid c 16 0).filter (fun x => gsz (u - 30) x == q)) (by omega) k (by omega), Option.bind_some, if_pos rfl, if_neg (by show ¬ (((grid c 16 0).filter (fun x => gsz (u - 30) x == q)).length : Int) = 0; omega)]
  by_cases zz : z = 0
  · rw [if_pos zz]
    obtain ⟨x', x1, x2⟩ := z3 zz
    have := q3 x' x1
    obtain rfl : q = 0 := by omega
    rw [sam_f ((grid c 16 0).filter (fun x => gsz (u - 30) x == 0)) (by omega) k (by omega), Option.bind_some]
    exact j4
  · rw [if_neg zz]
    exact j4
 obtain ⟨tx, tx1, tx2⟩ := back_f a b c ha hb hc 1999 (by omega)
 have vv : impl_ValidSetting.f a b c = some true := by rw [valid_f (by omega) (by omega) (by omega)]; exact congrArg some (decide_eq_true ⟨ha, hb, hc⟩)
 rw [laws_FnSettings.j0, if_neg (by simp), e1, Option.bind_some]
 simp only []
 rw [(iv_f ha hb hc).1, Option.bind_some, tx1, Option.bind_some, tx2, Option.bind_some, e2, Option.bind_some, w64 (x := t - 40) (by omega) (by omega)]
 rcases mor_v (t := t - 40) ha hb hc (by omega) with ⟨m1, m2⟩ | ⟨x, p, m1, m2, x0, p0, mv, x', p', k1, x'0, p'0, kv⟩
 · rw [m1, Option.bind_some, m2, Option.bind_some]
   simp only [beq_self_eq_true, Bool.not_true, Bool.or_self, Bool.false_eq_true, if_true, if_false, vv, Option.bind_some]
   rw [laws_FnSettings.j1, if_neg (by simp), if_neg (by omega), if_pos rfl]
   exact mid _ (by omega)
 · rw [m1, Option.bind_some, m2, Option.bind_some]
   simp only [beq_self_eq_true, Bool.not_true, Bool.or_self, Bool.false_eq_true, if_true, if_false, vv, Option.bind_some]
   rw [laws_FnSettings.j1, if_neg (by simp), if_pos rfl, (iv_f x0 p0 hc).1, Option.bind_some, w64 (x := -(t - 40)) (by omega) (by omega), k1, Option.bind_some]
   simp only []
   rw [(iv_f x'0 p'0 hc).2, Option.bind_some]
   simp only [if_true]
   rw [w64 (x := a - b + c + (t - 40)) (by omega) (by omega), if_pos mv, laws_FnSettings.j2, if_neg (by simp [kv])]
   exact mid _ (by omega)
end Go.Proofs.YtfhbjjkkhjijmaaDoor.Pure
