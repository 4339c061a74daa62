/- Proves, in plain numbers and lists, that the law FnExactReadSetting answers true at all inputs. No condition is added. -/
import Derived.Test.YtfhbjjkkhjijmaaDoorPFnExactReadSettingx0
import Derived.Test.YtfhbjjkkhjijmaaDoorPFnExactReadSettingx1
import Derived.Test.YtfhbjjkkhjijmaaDoorPFnExactReadSettingx2
import Derived.Test.YtfhbjjkkhjijmaaDoorPFnExactReadSettingx3
import Derived.Test.YtfhbjjkkhjijmaaDoorPFnExactReadSettingx4
import Derived.Test.YtfhbjjkkhjijmaaDoorPFnExactReadSettingx5
import Derived.Test.YtfhbjjkkhjijmaaDoorPFnExactReadSettingx6
namespace Go.Proofs.YtfhbjjkkhjijmaaDoor.Pure
open Go.RowKit Go.Proofs.YtfhbjjkkhjijmaaDoor.PFnExactReadSetting Go.Proofs.YtfhbjjkkhjijmaaDoorW.PrintWords Go.Proofs.YtfhbjjkkhjijmaaDoorW.PrintLast Go.Proofs.YtfhbjjkkhjijmaaDoorW.PrintMore
set_option linter.unusedVariables false
set_option linter.unusedSimpArgs false
theorem w64 {x : Int} (h : -9223372036854775808 ≤ x) (h' : x ≤ 9223372036854775807) : wrap64 x = x := by unfold wrap64; omega
theorem wf8 {x : Int} (h : (Lit.int .i8 x).wf = true) : -128 ≤ x ∧ x ≤ 127 := by
  have h2 : (decide ((-128 : Int) ≤ x) && decide (x ≤ 127)) = true := h
  simpa using h2
theorem wf16 {x : Int} (h : (Lit.int .i16 x).wf = true) : -32768 ≤ x ∧ x ≤ 32767 := by
  have h2 : (decide ((-32768 : Int) ≤ x) && decide (x ≤ 32767)) = true := h
  simpa using h2
theorem wf64 {x : Int} (h : (Lit.int .i64 x).wf = true) : -9223372036854775808 ≤ x ∧ x ≤ 9223372036854775807 := by
  have h2 : (decide ((-9223372036854775808 : Int) ≤ x) && decide (x ≤ 9223372036854775807)) = true := h
  simpa using h2
theorem wfu64 {x : Int} (h : (Lit.int .u64 x).wf = true) : 0 ≤ x ∧ x ≤ 18446744073709551615 := by
  have h2 : (decide ((0 : Int) ≤ x) && decide (x ≤ 18446744073709551615)) = true := h
  simpa using h2
theorem i8w {x : Int} (h : -128 ≤ x) (h' : x ≤ 127) : IntKind.i8.wrap x = x := by
  show (if (true && decide (x % 256 ≥ 128)) = true then x % 256 - 256 else x % 256) = x
  by_cases e : x % 256 ≥ 128
  · rw [if_pos (by simpa using e)]; omega
  · rw [if_neg (by simpa using e)]; omega
theorem i16w {x : Int} (h : -32768 ≤ x) (h' : x ≤ 32767) : IntKind.i16.wrap x = x := by
  show (if (true && decide (x % 65536 ≥ 32768)) = true then x % 65536 - 65536 else x % 65536) = x
  by_cases e : x % 65536 ≥ 32768
  · rw [if_pos (by simpa using e)]; omega
  · rw [if_neg (by simpa using e)]; omega
theorem u64w {x : Int} (h : 0 ≤ x) (h' : x ≤ 18446744073709551615) : IntKind.u64.wrap x = x := by
  show (if (false && decide (x % 18446744073709551616 ≥ 9223372036854775808)) = true then x % 18446744073709551616 - 18446744073709551616 else x % 18446744073709551616) = x
  rw [if_neg (by simp)]; omega
theorem bt_list (s : ByteArray) (i : Nat) (h : i < s.size) : bt s i = ((s.data.toList.getD i 0).toNat : Int) := by
  have e := bt_at s (i : Int) (by rw [Int.toNat_natCast]; exact h)
  rw [← e]
  have h2 : i < s.data.size := h
  simp only [Int.toNat_natCast, List.getD_eq_getElem?_getD, Array.getElem?_toList, Array.getElem?_eq_getElem h2, Option.getD_some]
  rfl
theorem size_list (s : ByteArray) : s.data.toList.length = s.size := by
  rw [Array.length_toList]; rfl
theorem ba_ext {s t : ByteArray} (h : s.data.toList = t.data.toList) : s = t := by
  obtain ⟨⟨a⟩⟩ := s
  obtain ⟨⟨b⟩⟩ := t
  simp at h
  rw [h]
def spl (c : UInt8) : List UInt8 → List (List UInt8)
  | [] => [[]]
  | b :: r => if b = c then [] :: spl c r else match spl c r with | [] => [[b]] | h :: t => (b :: h) :: t
theorem spl_ne (c : UInt8) (l : List UInt8) : ∃ h t, spl c l = h :: t := by
  induction l with
  | nil => exact ⟨[], [], rfl⟩
  | cons b r ih =>
    obtain ⟨h, t, e⟩ := ih
    simp only [spl]
    by_cases q : b = c
    · rw [if_pos q]; exact ⟨_, _, rfl⟩
    · rw [if_neg q, e]; exact ⟨_, _, rfl⟩
theorem spl_len (c : UInt8) (l : List UInt8) : (spl c l).length ≤ l.length + 1 := by
  induction l with
  | nil => simp [spl]
  | cons b r ih =>
    obtain ⟨h, t, e⟩ := spl_ne c r
    simp only [spl]
    by_cases q : b = c
    · rw [if_pos q]; simp only [List.length_cons]; omega
    · rw [if_neg q]
      rw [e] at ih ⊢
      simp only [List.length_cons] at ih ⊢
      omega
theorem split_l (s : ByteArray) (c : UInt8) (hs : s.size ≤ 2000000) (d : Nat) : ∀ (k i b : Nat) (out : List ByteArray), b ≤ i → i ≤ s.size → s.size - i = d → d < k → out.length ≤ i →
    ∃ L, spec_l01Split.l0 k s (c.toNat : Int) out b i = some L ∧ ∀ hd tl, spl c (s.data.toList.drop i) = hd :: tl → L.map (·.data.toList) = out.map (·.data.toList) ++ ((s.data.toList.drop b).take (i - b) ++ hd) :: tl := by
  have hn := size_list s
  induction d with
  | zero =>
    intro k i b out hb h0 hd hk ho
    obtain ⟨k, rfl⟩ : ∃ n, k = n + 1 := ⟨k - 1, by omega⟩
    simp only [spec_l01Split.l0]
    rw [if_neg (by omega), if_pos (by omega), if_pos (by omega), if_pos (by omega)]
    refine ⟨_, rfl, fun hd tl e => ?_⟩
    rw [List.drop_of_length_le (by omega)] at e
    simp only [spl, List.cons.injEq] at e
    obtain ⟨rfl, rfl⟩ := e
    rw [List.map_append, List.map_singleton, Int.toNat_natCast, Lib.extract_to_end, List.append_nil, List.take_of_length_le (by rw [List.length_drop]; omega)]
  | succ d ih =>
    intro k i b out hb h0 hd hk ho
    obtain ⟨k, rfl⟩ : ∃ n, k = n + 1 := ⟨k - 1, by omega⟩
    have hi : i < s.data.toList.length := by omega
    simp only [spec_l01Split.l0]
    rw [if_pos (by omega), if_pos (by omega), bt_list s i (by omega), w64 (x := (i : Int) + 1) (by omega) (by omega)]
    have ei : s.data.toList.drop i = s.data.toList.getD i 0 :: s.data.toList.drop (i + 1) := by
      rw [List.drop_eq_getElem_cons hi]
      rw [List.getD_eq_getElem?_getD, List.getElem?_eq_getElem hi, Option.getD_some]
    by_cases q : s.data.toList.getD i 0 = c
    · rw [if_pos (by rw [q]), if_pos (by omega), if_pos (by omega), if_pos (by omega), if_pos (by omega)]
      obtain ⟨L, e1, e2⟩ := ih k (i + 1) (i + 1) (out ++ [s.extract ((b : Int)).toNat ((i : Int)).toNat]) (by omega) (by omega) (by omega) (by omega) (by simp; omega)
      refine ⟨L, e1, fun hd tl e => ?_⟩
      rw [ei] at e
      simp only [spl] at e
      rw [if_pos q] at e
      obtain ⟨h', t', e'⟩ := spl_ne c (s.data.toList.drop (i + 1))
      rw [e2 h' t' e']
      rw [e'] at e
      simp only [List.cons.injEq] at e
      obtain ⟨rfl, rfl⟩ := e
      rw [List.map_append, List.map_singleton, Lib.extract_data, Int.toNat_natCast, Int.toNat_natCast, Nat.sub_self, List.take_zero, List.nil_append, List.append_nil, List.append_assoc]
      rfl
    · rw [if_neg (by intro h; exact q (UInt8.toNat_inj.1 (by omega)))]
      obtain ⟨L, e1, e2⟩ := ih k (i + 1) b out (by omega) (by omega) (by omega) (by omega) (by omega)
      refine ⟨L, e1, fun hd tl e => ?_⟩
      rw [ei] at e
      simp only [spl] at e
      rw [if_neg q] at e
      obtain ⟨h', t', e'⟩ := spl_ne c (s.data.toList.drop (i + 1))
      rw [e2 h' t' e']
      rw [e'] at e
      simp only [List.cons.injEq] at e
      obtain ⟨rfl, rfl⟩ := e
      have tk : (s.data.toList.drop b).take (i + 1 - b) = (s.data.toList.drop b).take (i - b) ++ [s.data.toList.getD i 0] := by
        rw [show i + 1 - b = (i - b) + 1 by omega, List.take_add_one, List.getElem?_drop, show b + (i - b) = i by omega]
        rw [List.getD_eq_getElem?_getD, List.getElem?_eq_getElem hi, Option.getD_some]
        rfl
      rw [tk, List.append_assoc]
      rfl
theorem split_f (s : ByteArray) (c : UInt8) (hs : s.size ≤ 2000000) (k : Nat) (hk : s.size < k) : ∃ L, spec_l01Split.f k s (c.toNat : Int) = some L ∧ L.map (·.data.toList) = spl c s.data.toList := by
  obtain ⟨L, e1, e2⟩ := split_l s c hs s.size k 0 0 [] (by omega) (by omega) (by omega) hk (by simp)
  obtain ⟨h, t, e⟩ := spl_ne c s.data.toList
  refine ⟨L, e1, ?_⟩
  rw [e2 h t (by rw [List.drop_zero]; exact e), e]
  simp
theorem spl_idx (c : UInt8) : ∀ s : List UInt8, (Lib.index s [c] = -1 ∧ spl c s = [s]) ∨ ∃ j : Nat, Lib.index s [c] = (j : Int) ∧ spl c s = s.take j :: spl c (s.drop (j + 1))
  | [] => .inl ⟨rfl, rfl⟩
  | b :: l => by
    by_cases q : b = c
    · subst q
      refine .inr ⟨0, ?_, ?_⟩
      · simp [Lib.index, List.isPrefixOf]
      · simp [spl]
    · have nq : ¬ (List.isPrefixOf [c] (b :: l)) = true := by
        simp [List.isPrefixOf]
        exact fun h => q h.symm
      rcases spl_idx c l with ⟨e1, e2⟩ | ⟨j, e1, e2⟩
      · refine .inl ⟨?_, ?_⟩
        · rw [Lib.index, if_neg nq, e1]; rfl
        · simp only [spl]; rw [if_neg q, e2]
      · refine .inr ⟨j + 1, ?_, ?_⟩
        · rw [Lib.index, if_neg nq, e1, if_neg (by simp)]; rfl
        · simp only [spl]; rw [if_neg q, e2]; rfl
theorem splitK_spl (c : UInt8) : ∀ (k : Nat) (s : List UInt8), ((spl c s).length ≤ k + 1 → Lib.splitK [c] 0 k s = spl c s) ∧ (k + 1 < (spl c s).length → (Lib.splitK [c] 0 k s).length = k + 1)
  | 0, s => by
    rcases spl_idx c s with ⟨_, e2⟩ | ⟨j, _, e2⟩
    · exact ⟨fun _ => by rw [e2]; rfl, fun h => by rw [e2] at h; simp at h⟩
    · obtain ⟨h', t', e'⟩ := spl_ne c (s.drop (j + 1))
      exact ⟨fun h => by rw [e2, e'] at h; simp at h, fun _ => rfl⟩
  | k + 1, s => by
    unfold Lib.splitK
    rcases spl_idx c s with ⟨e1, e2⟩ | ⟨j, e1, e2⟩
    · rw [if_pos (by rw [e1]; rfl)]
      exact ⟨fun _ => e2.symm, fun h => by rw [e2] at h; simp at h⟩
    · have ih := splitK_spl c k (s.drop (j + 1))
      rw [if_neg (by rw [e1]; simp), e1, e2]
      simp only [Int.toNat_natCast, Nat.add_zero, List.length_cons, List.length_nil, Nat.zero_add]
      exact ⟨fun h => by rw [ih.1 (by omega)], fun h => by rw [ih.2 (by omega)]⟩
theorem name_of {s i : Option ByteArray} (h : (decide (s = i) && i.isSome) = true) : ∃ v, s = some v ∧ i = some v := by
  cases i with
  | none => simp at h
  | some v => exact ⟨v, by simpa using h, rfl⟩
theorem nm_of {s i : Option ByteArray} {n : Nat} (h : (decide (s = i) && (i.elim false fun v => decide (v.size ≤ n))) = true) : ∃ v, s = some v ∧ i = some v ∧ v.size ≤ n := by
  cases i with
  | none => simp at h
  | some v => simp only [Option.elim, Bool.and_eq_true, decide_eq_true_eq] at h; exact ⟨v, h.1, rfl, h.2⟩
theorem all_sh : (List.range 46).all (fun n => decide ((spec_l01Shutters.f.bind fun l => spec_l01Name.f 20 l (n : Int)) = impl_ShutterName.f (n : Int)) && ((impl_ShutterName.f (n : Int)).elim false fun v => decide (v.size ≤ 20))) = true := by kernel_rfl
theorem all_ap : (List.range 31).all (fun n => decide ((spec_l01Apertures.f.bind fun l => spec_l01Name.f 20 l (n : Int)) = impl_ApertureName.f (n : Int)) && ((impl_ApertureName.f (n : Int)).elim false fun v => decide (v.size ≤ 20))) = true := by kernel_rfl
theorem all_dc : (List.range 22).all (fun n => decide (spec_Decimal.f 20 (n : Int) = impl_decimal.f (n : Int)) && ((impl_decimal.f (n : Int)).elim false fun v => decide (v.size ≤ 20))) = true := by kernel_rfl
theorem sh_f (a : Int) (h : 0 ≤ a ∧ a ≤ 45) : ∃ v, (spec_l01Shutters.f.bind fun l => spec_l01Name.f 20 l a) = some v ∧ impl_ShutterName.f a = some v ∧ v.size ≤ 20 := by
  obtain ⟨n, rfl⟩ : ∃ n : Nat, a = n := ⟨a.toNat, by omega⟩
  exact nm_of (List.all_eq_true.1 all_sh n (List.mem_range.2 (by omega)))
theorem ap_f (a : Int) (h : 0 ≤ a ∧ a ≤ 30) : ∃ v, (spec_l01Apertures.f.bind fun l => spec_l01Name.f 20 l a) = some v ∧ impl_ApertureName.f a = some v ∧ v.size ≤ 20 := by
  obtain ⟨n, rfl⟩ : ∃ n : Nat, a = n := ⟨a.toNat, by omega⟩
  exact nm_of (List.all_eq_true.1 all_ap n (List.mem_range.2 (by omega)))
theorem dc_f (a : Int) (h : 0 ≤ a ∧ a ≤ 21) : ∃ v, spec_Decimal.f 20 a = some v ∧ impl_decimal.f a = some v ∧ v.size ≤ 20 := by
  obtain ⟨n, rfl⟩ : ∃ n : Nat, a = n := ⟨a.toNat, by omega⟩
  exact nm_of (List.all_eq_true.1 all_dc n (List.mem_range.2 (by omega)))
def Dg (m : Nat) : List UInt8 := if m < 10 then [UInt8.ofNat (48 + m)] else [UInt8.ofNat (48 + m / 10), UInt8.ofNat (48 + m % 10)]
theorem all_dg : (List.range 22).all (fun n => decide ((impl_decimal.f (n : Int)).map (·.data.toList) = some (Dg n))) = true := by kernel_rfl
theorem dg_f (m : Nat) (h : m ≤ 21) : ∃ v, impl_decimal.f (m : Int) = some v ∧ v.data.toList = Dg m := by
  have q := of_decide_eq_true (List.all_eq_true.1 all_dg m (List.mem_range.2 (by omega)))
  obtain ⟨v, e1, e2⟩ := Option.map_eq_some_iff.1 q
  exact ⟨v, e1, e2⟩
theorem ten9 (i : Nat) (h : i ≤ 9) : (10 : Int) ^ i ≤ 1000000000 := by
  have := Nat.pow_le_pow_right (n := 10) (by omega) h
  have e : ((10 : Nat) ^ i : Nat) ≤ 10 ^ 9 := this
  have f : (10 : Int) ^ i = (((10 : Nat) ^ i : Nat) : Int) := by simp
  rw [f]
  omega
theorem num_t (s : ByteArray) (n : Nat) (hn : s.size = n) (h9 : n ≤ 9) (d : Nat) : ∀ (k i : Nat) (a : Int), i ≤ n → n - i = d → d < k → 0 ≤ a → a < 10 ^ i →
    ∃ v ok, spec_l01Number.l0 k s a i = some (v, ok) ∧ (ok = true → a ≤ v) := by
  induction d with
  | zero =>
    intro k i a h0 hd hk ha hb
    obtain ⟨k, rfl⟩ : ∃ n, k = n + 1 := ⟨k - 1, by omega⟩
    simp only [spec_l01Number.l0]
    rw [if_neg (by omega)]
    exact ⟨_, _, rfl, fun _ => Int.le_refl _⟩
  | succ d ih =>
    intro k i a h0 hd hk ha hb
    obtain ⟨k, rfl⟩ : ∃ n, k = n + 1 := ⟨k - 1, by omega⟩
    simp only [spec_l01Number.l0]
    rw [if_pos (by omega), if_pos (by omega)]
    by_cases c1 : bt s (i : Int) < 48
    · rw [if_pos c1]; exact ⟨_, _, rfl, fun h => by cases h⟩
    · rw [if_neg c1]
      by_cases c2 : bt s (i : Int) > 57
      · rw [if_pos c2]; exact ⟨_, _, rfl, fun h => by cases h⟩
      · rw [if_neg c2]
        have t9 := ten9 i (by omega)
        have ts : (10 : Int) ^ (i + 1) = 10 ^ i * 10 := Int.pow_succ 10 i
        rw [w64 (x := 10 * a) (by omega) (by omega), w64 (x := (i : Int) + 1) (by omega) (by omega), w64 (by omega) (by omega)]
        obtain ⟨v, ok, e1, e2⟩ := ih k (i + 1) (10 * a + (bt s (i : Int) - 48) % 256) (by omega) (by omega) (by omega) (by omega) (by rw [ts]; omega)
        exact ⟨v, ok, e1, fun h => by have := e2 h; omega⟩
theorem num_step (s : ByteArray) (i : Nat) (a : Int) (k : Nat) (hi : i < s.size) (h9 : s.size ≤ 9) (ha : 0 ≤ a) (hb : a ≤ 10000000000) (b : UInt8) (e : s.data.toList.getD i 0 = b) :
    spec_l01Number.l0 (k + 1) s a i = if b.toNat < 48 then some (0, false) else if 57 < b.toNat then some (0, false) else spec_l01Number.l0 k s (10 * a + ((b.toNat : Int) - 48)) ((i + 1 : Nat) : Int) := by
  have bl := b.toNat_lt
  simp only [spec_l01Number.l0]
  rw [if_pos (by omega), if_pos (by omega), bt_list s i hi, e]
  by_cases c1 : b.toNat < 48
  · rw [if_pos c1, if_pos (by omega)]
  · rw [if_neg c1, if_neg (by omega)]
    by_cases c2 : 57 < b.toNat
    · rw [if_pos c2, if_pos (by omega)]
    · rw [if_neg c2, if_neg (by omega), w64 (x := 10 * a) (by omega) (by omega), w64 (x := (i : Int) + 1) (by omega) (by omega), w64 (by omega) (by omega), show ((b.toNat : Int) - 48) % 256 = (b.toNat : Int) - 48 by omega]
      rfl
theorem num_end (s : ByteArray) (i : Nat) (a : Int) (k : Nat) (hi : i = s.size) : spec_l01Number.l0 (k + 1) s a i = some (a, true) := by
  simp only [spec_l01Number.l0]
  rw [if_neg (by omega)]
def NoDg (l : List UInt8) : Prop := ∀ m : Nat, m ≤ 21 → l ≠ Dg m
theorem nodg_len {l : List UInt8} (h : l.length = 0 ∨ 3 ≤ l.length) : NoDg l := fun m hm e => by
  subst e
  unfold Dg at h
  by_cases q : m < 10
  · rw [if_pos q] at h; simp at h
  · rw [if_neg q] at h; simp at h
theorem nodg_one {x : UInt8} (h : x.toNat < 48 ∨ 57 < x.toNat) : NoDg [x] := fun m hm e => by
  unfold Dg at e
  by_cases q : m < 10
  · rw [if_pos q] at e
    simp only [List.cons.injEq, and_true] at e
    rw [e, UInt8.toNat_ofNat'] at h
    omega
  · rw [if_neg q] at e
    simp at e
theorem nodg_two {x y : UInt8} (h : ¬ (49 ≤ x.toNat ∧ x.toNat ≤ 50 ∧ 48 ≤ y.toNat ∧ y.toNat ≤ 57 ∧ 10 * (x.toNat - 48) + (y.toNat - 48) ≤ 21)) : NoDg [x, y] := fun m hm e => by
  unfold Dg at e
  by_cases q : m < 10
  · rw [if_pos q] at e
    simp at e
  · rw [if_neg q] at e
    simp only [List.cons.injEq, and_true] at e
    obtain ⟨ex, ey⟩ := e
    refine h ?_
    rw [ex, ey, UInt8.toNat_ofNat', UInt8.toNat_ofNat']
    omega
theorem num_l (s : ByteArray) (h9 : s.size ≤ 9) (h1 : 1 ≤ s.size) (hx : (s.data.toList.getD 0 0).toNat ≠ 48 ∨ s.size = 1) (k : Nat) (hk : 15 < k) :
    ∃ v ok, spec_l01Number.l0 k s 0 0 = some (v, ok) ∧ ((∃ m : Nat, m ≤ 21 ∧ s.data.toList = Dg m ∧ ok = true ∧ v = m) ∨ (NoDg s.data.toList ∧ ¬ (ok = true ∧ v ≤ 21))) := by
  have hn := size_list s
  obtain ⟨k, rfl⟩ : ∃ n, k = n + 1 + 1 + 1 := ⟨k - 3, by omega⟩
  have bad : ∀ l : List UInt8, NoDg l → ∃ v ok, (some (0, false) : Option (Int × Bool)) = some (v, ok) ∧ ((∃ m : Nat, m ≤ 21 ∧ l = Dg m ∧ ok = true ∧ v = m) ∨ (NoDg l ∧ ¬ (ok = true ∧ v ≤ 21))) := fun l h => ⟨0, false, rfl, .inr ⟨h, fun q => by cases q.1⟩⟩
  rcases hl : s.data.toList with _ | ⟨x, _ | ⟨y, _ | ⟨z, r⟩⟩⟩
  · rw [hl] at hn; simp at hn; omega
  · rw [hl] at hn hx
    simp only [List.length_cons, List.length_nil] at hn
    have s0 : spec_l01Number.l0 (k + 1 + 1 + 1) s 0 0 = _ := num_step s 0 0 (k + 1 + 1) (by omega) h9 (by omega) (by omega) x (by rw [hl]; rfl)
    rw [s0]
    by_cases c1 : x.toNat < 48
    · rw [if_pos c1]; exact bad _ (nodg_one (.inl c1))
    · rw [if_neg c1]
      by_cases c2 : 57 < x.toNat
      · rw [if_pos c2]; exact bad _ (nodg_one (.inr c2))
      · rw [if_neg c2, num_end s 1 _ (k + 1) (by omega)]
        refine ⟨_, _, rfl, .inl ⟨x.toNat - 48, by omega, ?_, rfl, by omega⟩⟩
        unfold Dg
        rw [if_pos (by omega), show 48 + (x.toNat - 48) = x.toNat by omega, UInt8.ofNat_toNat]
  · rw [hl] at hn hx
    simp only [List.length_cons, List.length_nil] at hn
    have x48 : x.toNat ≠ 48 := by rcases hx with h | h; exact h; omega
    have s0 : spec_l01Number.l0 (k + 1 + 1 + 1) s 0 0 = _ := num_step s 0 0 (k + 1 + 1) (by omega) h9 (by omega) (by omega) x (by rw [hl]; rfl)
    rw [s0]
    by_cases c1 : x.toNat < 48
    · rw [if_pos c1]; exact bad _ (nodg_two (by omega))
    · rw [if_neg c1]
      by_cases c2 : 57 < x.toNat
      · rw [if_pos c2]; exact bad _ (nodg_two (by omega))
      · rw [if_neg c2, num_step s 1 _ (k + 1) (by omega) h9 (by omega) (by omega) y (by rw [hl]; rfl)]
        by_cases c3 : y.toNat < 48
        · rw [if_pos c3]; exact bad _ (nodg_two (by omega))
        · rw [if_neg c3]
          by_cases c4 : 57 < y.toNat
          · rw [if_pos c4]; exact bad _ (nodg_two (by omega))
          · rw [if_neg c4, num_end s 2 _ k (by omega)]
            by_cases c5 : 10 * (x.toNat - 48) + (y.toNat - 48) ≤ 21
            · refine ⟨_, _, rfl, .inl ⟨10 * (x.toNat - 48) + (y.toNat - 48), c5, ?_, rfl, by omega⟩⟩
              unfold Dg
              rw [if_neg (by omega), show 48 + (10 * (x.toNat - 48) + (y.toNat - 48)) / 10 = x.toNat by omega, show 48 + (10 * (x.toNat - 48) + (y.toNat - 48)) % 10 = y.toNat by omega, UInt8.ofNat_toNat, UInt8.ofNat_toNat]
            · exact ⟨_, _, rfl, .inr ⟨nodg_two (by omega), fun h => by omega⟩⟩
  · rw [hl] at hn hx
    simp only [List.length_cons] at hn
    have nd : NoDg (x :: y :: z :: r) := nodg_len (.inr (by simp))
    have x48 : x.toNat ≠ 48 := by rcases hx with h | h; exact h; omega
    have s0 : spec_l01Number.l0 (k + 1 + 1 + 1) s 0 0 = _ := num_step s 0 0 (k + 1 + 1) (by omega) h9 (by omega) (by omega) x (by rw [hl]; rfl)
    rw [s0]
    by_cases c1 : x.toNat < 48
    · rw [if_pos c1]; exact bad _ nd
    · rw [if_neg c1]
      by_cases c2 : 57 < x.toNat
      · rw [if_pos c2]; exact bad _ nd
      · rw [if_neg c2, num_step s 1 _ (k + 1) (by omega) h9 (by omega) (by omega) y (by rw [hl]; rfl)]
        by_cases c3 : y.toNat < 48
        · rw [if_pos c3]; exact bad _ nd
        · rw [if_neg c3]
          by_cases c4 : 57 < y.toNat
          · rw [if_pos c4]; exact bad _ nd
          · rw [if_neg c4, num_step s 2 _ k (by omega) h9 (by omega) (by omega) z (by rw [hl]; rfl)]
            by_cases c5 : z.toNat < 48
            · rw [if_pos c5]; exact bad _ nd
            · rw [if_neg c5]
              by_cases c6 : 57 < z.toNat
              · rw [if_pos c6]; exact bad _ nd
              · rw [if_neg c6]
                have p3 : (10 : Int) ^ 3 = 1000 := by decide
                obtain ⟨v, ok, e1, e2⟩ := num_t s s.size rfl h9 (s.size - 3) k 3 (10 * (10 * (10 * 0 + ((x.toNat : Int) - 48)) + ((y.toNat : Int) - 48)) + ((z.toNat : Int) - 48)) (by omega) (by omega) (by omega) (by omega) (by rw [p3]; omega)
                rw [e1]
                exact ⟨_, _, rfl, .inr ⟨nd, fun h => by have := e2 h.1; omega⟩⟩
/-- a number as it is read, where it is at most 21 -/
theorem num_f (s : ByteArray) (k : Nat) (hk : 20 < k) : ∃ v ok, spec_l01Number.f k s = some (v, ok) ∧ ((∃ m : Nat, m ≤ 21 ∧ s.data.toList = Dg m ∧ ok = true ∧ v = m) ∨ (NoDg s.data.toList ∧ ¬ (ok = true ∧ v ≤ 21))) := by
  have hn := size_list s
  obtain ⟨k, rfl⟩ : ∃ n, k = n + 1 := ⟨k - 1, by omega⟩
  have go : spec_l01Number.j0 (k + 1) s false = spec_l01Number.l0 k s 0 0 := by
    simp only [spec_l01Number.j0, Bool.false_eq_true, if_false]
  have stop : spec_l01Number.j0 (k + 1) s true = some (0, false) := by
    simp only [spec_l01Number.j0, if_true]
  unfold spec_l01Number.f
  rw [Lib.toList_data]
  by_cases c0 : s.data.toList = []
  · rw [if_pos c0, stop, c0]
    exact ⟨_, _, rfl, .inr ⟨nodg_len (.inl rfl), fun h => by cases h.1⟩⟩
  · rw [if_neg c0]
    have h1 : 1 ≤ s.size := by
      rcases hl : s.data.toList with _ | ⟨x, r⟩
      · exact absurd hl c0
      · rw [hl] at hn; simp only [List.length_cons] at hn; omega
    by_cases c9 : (s.size : Int) > 9
    · rw [if_pos c9, stop]
      exact ⟨_, _, rfl, .inr ⟨nodg_len (.inr (by omega)), fun h => by cases h.1⟩⟩
    · have b0 : bt s (0 : Int) = ((s.data.toList.getD 0 0).toNat : Int) := bt_list s 0 (by omega)
      rw [if_neg c9, if_pos (by omega), b0]
      by_cases c48 : ((s.data.toList.getD 0 0).toNat : Int) = 48
      · rw [if_pos c48]
        by_cases one : s.size = 1
        · rw [show decide ((s.size : Int) > 1) = false from decide_eq_false (by omega), go]
          exact num_l s (by omega) h1 (.inr one) k (by omega)
        · rw [show decide ((s.size : Int) > 1) = true from decide_eq_true (by omega), stop]
          refine ⟨_, _, rfl, .inr ⟨?_, fun h => by cases h.1⟩⟩
          rcases hl : s.data.toList with _ | ⟨x, _ | ⟨y, _ | ⟨z, r⟩⟩⟩
          · exact absurd hl c0
          · rw [hl] at hn; simp at hn; omega
          · rw [hl] at c48
            have x48 : x.toNat = 48 := by have : (x.toNat : Int) = 48 := c48; omega
            exact nodg_two (by omega)
          · exact nodg_len (.inr (by simp))
      · rw [if_neg c48, go]
        exact num_l s (by omega) h1 (.inl (by omega)) k (by omega)
theorem withn_f (a b c : Int) : impl_within.f a b c = some (decide (b ≤ a ∧ a ≤ c)) := by
  unfold impl_within.f
  by_cases h : b ≤ a <;> simp [h]
theorem ivalid_f {a b c : Int} (ha : -128 ≤ a ∧ a ≤ 127) (hb : -128 ≤ b ∧ b ≤ 127) (hc : -128 ≤ c ∧ c ≤ 127) : impl_ValidSetting.f a b c = some (decide ((0 ≤ a ∧ a ≤ 45) ∧ (0 ≤ b ∧ b ≤ 30) ∧ (0 ≤ c ∧ c ≤ 21))) := by
  unfold impl_ValidSetting.f impl_isShutter.f
  rw [w64 (by omega) (by omega), w64 (by omega) (by omega), w64 (by omega) (by omega)]
  simp only [withn_f, Option.bind_some]
  by_cases h1 : 0 ≤ a ∧ a ≤ 45 <;> by_cases h2 : 0 ≤ b ∧ b ≤ 30 <;> simp [h1, h2]
/-- the names are apart -/
theorem sh_apart : (List.range 46).all (fun n => (List.range 46).all fun m => decide (n = m ∨ impl_ShutterName.f (n : Int) ≠ impl_ShutterName.f (m : Int))) = true := by kernel_rfl
theorem ap_apart : (List.range 31).all (fun n => (List.range 31).all fun m => decide (n = m ∨ impl_ApertureName.f (n : Int) ≠ impl_ApertureName.f (m : Int))) = true := by kernel_rfl
def ShM (w : List UInt8) (n : Nat) : Prop := ∃ v, impl_ShutterName.f (n : Int) = some v ∧ v.data.toList = w
def ApM (w : List UInt8) (n : Nat) : Prop := ∃ v, impl_ApertureName.f (n : Int) = some v ∧ v.data.toList = w
theorem sh_one {w : List UInt8} {n m : Nat} (hn : n ≤ 45) (hm : m ≤ 45) (h : ShM w n) (h' : ShM w m) : n = m := by
  have q := of_decide_eq_true (List.all_eq_true.1 (List.all_eq_true.1 sh_apart n (List.mem_range.2 (by omega))) m (List.mem_range.2 (by omega)))
  obtain ⟨v, e1, e2⟩ := h
  obtain ⟨v', e1', e2'⟩ := h'
  rcases q with q | q
  · exact q
  · exact absurd (by rw [e1, e1', ba_ext (e2.trans e2'.symm)]) q
theorem ap_one {w : List UInt8} {n m : Nat} (hn : n ≤ 30) (hm : m ≤ 30) (h : ApM w n) (h' : ApM w m) : n = m := by
  have q := of_decide_eq_true (List.all_eq_true.1 (List.all_eq_true.1 ap_apart n (List.mem_range.2 (by omega))) m (List.mem_range.2 (by omega)))
  obtain ⟨v, e1, e2⟩ := h
  obtain ⟨v', e1', e2'⟩ := h'
  rcases q with q | q
  · exact q
  · exact absurd (by rw [e1, e1', ba_ext (e2.trans e2'.symm)]) q
theorem dg_one {n m : Nat} (hn : n ≤ 21) (hm : m ≤ 21) (h : Dg n = Dg m) : n = m := by
  have all : (List.range 22).all (fun n => (List.range 22).all fun m => decide (n = m ∨ Dg n ≠ Dg m)) = true := by decide +kernel
  have q := of_decide_eq_true (List.all_eq_true.1 (List.all_eq_true.1 all n (List.mem_range.2 (by omega))) m (List.mem_range.2 (by omega)))
  rcases q with q | q
  · exact q
  · exact absurd h q
/-- which number: the greatest below i that fits, or -1 -/
def At (M : Nat → Prop) (i : Nat) (most : Nat) (x : Int) : Prop := (x = -1 ∧ ∀ n : Nat, n < i → n ≤ most → ¬ M n) ∨ ∃ n : Nat, x = n ∧ n < i ∧ n ≤ most ∧ M n
theorem at_step {M : Nat → Prop} {i most : Nat} {x : Int} (h : At M i most x) : (i ≤ most → M i → At M (i + 1) most i) ∧ ((¬ (i ≤ most ∧ M i)) → At M (i + 1) most x) := by
  refine ⟨fun a b => .inr ⟨i, rfl, by omega, a, b⟩, fun hn => ?_⟩
  rcases h with ⟨h1, h2⟩ | ⟨n, h1, h2, h3, h4⟩
  · refine .inl ⟨h1, fun n n1 n2 q => ?_⟩
    by_cases e : n = i
    · subst e; exact hn ⟨n2, q⟩
    · exact h2 n (by omega) n2 q
  · exact .inr ⟨n, h1, by omega, h3, h4⟩
/-- the program's loop -/
theorem rs_l (ws : List ByteArray) (h3 : ws.length = 3) (d : Nat) : ∀ (k i : Nat) (a b c : Int), i ≤ 46 → 46 - i = d → 3 * d + 3 < k → At (ShM (rdOf ByteArray.empty ws 0).data.toList) i 45 a → At (ApM (rdOf ByteArray.empty ws 1).data.toList) i 30 b → At (fun m => (rdOf ByteArray.empty ws 2).data.toList = Dg m) i 21 c →
    ∃ a' b' c', impl_ReadSetting.l0 k ws i a b c = (impl_ValidSetting.f a' b' c').bind (fun t => if t = true then some (a', b', c', 0) else some (0, 0, 0, 5)) ∧ At (ShM (rdOf ByteArray.empty ws 0).data.toList) 46 45 a' ∧ At (ApM (rdOf ByteArray.empty ws 1).data.toList) 46 30 b' ∧ At (fun m => (rdOf ByteArray.empty ws 2).data.toList = Dg m) 46 21 c' := by
  induction d with
  | zero =>
    intro k i a b c h0 hd hk ha hb hc
    obtain ⟨k, rfl⟩ : ∃ n, k = n + 1 := ⟨k - 1, by omega⟩
    have e : i = 46 := by omega
    subst e
    refine ⟨a, b, c, ?_, ha, hb, hc⟩
    simp only [impl_ReadSetting.l0]
    rw [if_neg (by omega)]
  | succ d ih =>
    intro k i a b c h0 hd hk ha hb hc
    obtain ⟨k, rfl⟩ : ∃ n, k = n + 1 + 1 + 1 := ⟨k - 3, by omega⟩
    obtain ⟨K, hK⟩ : ∃ K, k + 1 + 1 = K := ⟨_, rfl⟩
    have w1 : wrap64 ((i : Int) + 1) = ((i + 1 : Nat) : Int) := by rw [w64 (by omega) (by omega)]; rfl
    have i8 : ∀ j : Int, 0 ≤ j → j ≤ 45 → IntKind.i8.wrap j = j := fun j j0 j1 => i8w (by omega) (by omega)
    -- the last test
    have last : ∀ (a b : Int) (t : Bool) (b' : Int), (t = true → b' = (i : Int)) → (t = false → b' = b) → At (ShM (rdOf ByteArray.empty ws 0).data.toList) (i + 1) 45 a → At (ApM (rdOf ByteArray.empty ws 1).data.toList) (i + 1) 30 b' →
        ∃ a'' b'' c'', impl_ReadSetting.j2 (k + 1) ws i t a b c = (impl_ValidSetting.f a'' b'' c'').bind (fun t => if t = true then some (a'', b'', c'', 0) else some (0, 0, 0, 5)) ∧ At (ShM (rdOf ByteArray.empty ws 0).data.toList) 46 45 a'' ∧ At (ApM (rdOf ByteArray.empty ws 1).data.toList) 46 30 b'' ∧ At (fun m => (rdOf ByteArray.empty ws 2).data.toList = Dg m) 46 21 c'' := by
      intro a b t b' t1 t2 hA hB
      have e : impl_ReadSetting.j2 (k + 1) ws i t a b c = if (i : Int) ≤ 21 then ((impl_decimal.f i).bind fun t124 => if t124.toList = (rdOf ByteArray.empty ws 2).toList then impl_ReadSetting.l0 k ws ((i + 1 : Nat) : Int) a b' (i : Int) else impl_ReadSetting.l0 k ws ((i + 1 : Nat) : Int) a b' c) else impl_ReadSetting.l0 k ws ((i + 1 : Nat) : Int) a b' c := by
        simp only [impl_ReadSetting.j2, w1, i8 (i : Int) (by omega) (by omega)]
        have g : 2 < (ws.length : Int) := by omega
        cases t with
        | true => rw [t1 rfl]; simp only [if_true, g]
        | false => rw [t2 rfl]; simp only [Bool.false_eq_true, if_false, if_true, g]
      rw [e]
      obtain ⟨st1, st2⟩ := at_step hc
      by_cases q : (i : Int) ≤ 21
      · rw [if_pos q]
        obtain ⟨v, v1, v2⟩ := dg_f i (by omega)
        rw [v1, Option.bind_some, Lib.toList_data, Lib.toList_data]
        by_cases m : v.data.toList = (rdOf ByteArray.empty ws 2).data.toList
        · rw [if_pos m]
          exact ih k (i + 1) a b' i (by omega) (by omega) (by omega) hA hB (st1 (by omega) (m.symm.trans v2))
        · rw [if_neg m]
          exact ih k (i + 1) a b' c (by omega) (by omega) (by omega) hA hB (st2 (fun h => m (v2.trans h.2.symm)))
      · rw [if_neg q]
        exact ih k (i + 1) a b' c (by omega) (by omega) (by omega) hA hB (st2 (fun h => by omega))
    -- the second test
    have second : ∀ (a : Int), At (ShM (rdOf ByteArray.empty ws 0).data.toList) (i + 1) 45 a →
        ∃ a'' b'' c'', impl_ReadSetting.j1 (k + 1 + 1) ws i a b c = (impl_ValidSetting.f a'' b'' c'').bind (fun t => if t = true then some (a'', b'', c'', 0) else some (0, 0, 0, 5)) ∧ At (ShM (rdOf ByteArray.empty ws 0).data.toList) 46 45 a'' ∧ At (ApM (rdOf ByteArray.empty ws 1).data.toList) 46 30 b'' ∧ At (fun m => (rdOf ByteArray.empty ws 2).data.toList = Dg m) 46 21 c'' := by
      intro a hA
      obtain ⟨K1, hK1⟩ : ∃ K1, k + 1 = K1 := ⟨_, rfl⟩
      rw [hK1] at last ⊢
      simp only [impl_ReadSetting.j1]
      obtain ⟨st1, st2⟩ := at_step hb
      by_cases q : (i : Int) ≤ 30
      · rw [if_pos q]
        obtain ⟨v, _, v1, _⟩ := ap_f (i : Int) (by omega)
        rw [v1, Option.bind_some, if_pos (by omega), Lib.toList_data, Lib.toList_data]
        by_cases m : v.data.toList = (rdOf ByteArray.empty ws 1).data.toList
        · rw [show (v.data.toList == (rdOf ByteArray.empty ws 1).data.toList) = true from beq_iff_eq.2 m]
          exact last a b true i (fun _ => rfl) (fun h => by cases h) hA (st1 (by omega) ⟨v, v1, m⟩)
        · rw [show (v.data.toList == (rdOf ByteArray.empty ws 1).data.toList) = false from beq_eq_false_iff_ne.2 m]
          exact last a b false b (fun h => by cases h) (fun _ => rfl) hA (st2 (fun h => by
            obtain ⟨_, v', e1, e2⟩ := h
            rw [v1] at e1
            obtain rfl := Option.some.inj e1
            exact m e2))
      · rw [if_neg q]
        exact last a b false b (fun h => by cases h) (fun _ => rfl) hA (st2 (fun h => by omega))
    rw [hK] at second ⊢
    simp only [impl_ReadSetting.l0]
    obtain ⟨st1, st2⟩ := at_step ha
    rw [if_pos (by omega)]
    obtain ⟨v, _, v1, _⟩ := sh_f (i : Int) (by omega)
    rw [v1, Option.bind_some, if_pos (by omega), Lib.toList_data, Lib.toList_data]
    by_cases m : v.data.toList = (rdOf ByteArray.empty ws 0).data.toList
    · rw [if_pos m, i8 (i : Int) (by omega) (by omega)]
      exact second i (st1 (by omega) ⟨v, v1, m⟩)
    · rw [if_neg m]
      exact second a (st2 (fun h => by
        obtain ⟨_, v', e1, e2⟩ := h
        rw [v1] at e1
        obtain rfl := Option.some.inj e1
        exact m e2))
/-- the reference's search -/
theorem find_l (M : Nat → Prop) (names : List ByteArray) (most : Nat) (hm : most ≤ 45) (w : ByteArray) (hN : ∀ (k n : Nat), 20 ≤ k → n ≤ most → ∃ v, spec_l01Name.f k names n = some v ∧ (v.data.toList = w.data.toList ↔ M n)) (d : Nat) :
    ∀ (k i : Nat), i ≤ most + 1 → most + 1 - i = d → d + 30 < k → (∀ n : Nat, n < i → ¬ M n) → ∃ r, spec_l01Find.l0 k names most w i = some r ∧ ((r = -1 ∧ ∀ n : Nat, n ≤ most → ¬ M n) ∨ ∃ n : Nat, r = n ∧ n ≤ most ∧ M n) := by
  induction d with
  | zero =>
    intro k i h0 hd hk hb
    obtain ⟨k, rfl⟩ : ∃ n, k = n + 1 := ⟨k - 1, by omega⟩
    simp only [spec_l01Find.l0]
    rw [if_neg (by omega)]
    exact ⟨_, rfl, .inl ⟨rfl, fun n hn => hb n (by omega)⟩⟩
  | succ d ih =>
    intro k i h0 hd hk hb
    obtain ⟨k, rfl⟩ : ∃ n, k = n + 1 := ⟨k - 1, by omega⟩
    obtain ⟨v, v1, v2⟩ := hN k i (by omega) (by omega)
    simp only [spec_l01Find.l0]
    rw [if_pos (by omega), v1, Option.bind_some, Lib.toList_data, Lib.toList_data, w64 (x := (i : Int) + 1) (by omega) (by omega)]
    by_cases m : v.data.toList = w.data.toList
    · rw [if_pos m]
      exact ⟨_, rfl, .inr ⟨i, rfl, by omega, v2.1 m⟩⟩
    · rw [if_neg m]
      exact ih k (i + 1) (by omega) (by omega) (by omega) (fun n hn => by
        by_cases e : n = i
        · subst e; exact fun h => m (v2.2 h)
        · exact hb n (by omega))
theorem FnExactReadSetting : laws_FnExactReadSetting.Pure := by
  intro s hs
  refine ⟨2000000, ?_⟩
  unfold laws_FnExactReadSetting.f
  by_cases big : (s.size : Int) > 1048576
  · rw [if_pos big]
  rw [if_neg big]
  have hn := size_list s
  obtain ⟨L, l1, l2⟩ := split_f s 32 (by omega) 2000000 (by omega)
  have l1' : spec_l01Split.f 2000000 s 32 = some L := l1
  obtain ⟨R, r1, r2⟩ : ∃ R, strings_SplitN.f s (⟨#[32]⟩ : ByteArray) 4 = some R ∧ R.map (·.data.toList) = Lib.splitK [32] 0 (min 4 (s.size + 1) - 1) s.data.toList := by
    refine ⟨Lib.splitB (⟨#[32]⟩ : ByteArray) 0 (min 4 (s.size + 1) - 1) s, ?_, Lib.splitB_data _ _ _ _⟩
    unfold strings_SplitN.f
    rw [if_pos (by omega), if_pos (by decide), if_pos (by omega)]
    rfl
  obtain ⟨k1, k2⟩ := splitK_spl 32 (min 4 (s.size + 1) - 1) s.data.toList
  have sl := spl_len 32 s.data.toList
  have ll : L.length = (spl 32 s.data.toList).length := by rw [← l2, List.length_map]
  have rl : R.length = (Lib.splitK [32] 0 (min 4 (s.size + 1) - 1) s.data.toList).length := by rw [← r2, List.length_map]
  unfold spec_ReadSetting.f impl_ReadSetting.f
  rw [l1', r1, Option.bind_some, Option.bind_some]
  by_cases three : (spl 32 s.data.toList).length = 3
  · have e := k1 (by omega)
    have same : R = L := by
      have q : R.map (·.data.toList) = L.map (·.data.toList) := by rw [r2, e, l2]
      exact List.map_inj_right (fun a b h => ba_ext h) |>.1 q
    subst same
    have L3 : R.length = 3 := by omega
    have g0 : 0 < (R.length : Int) := by omega
    have g1 : 1 < (R.length : Int) := by omega
    have g2 : 2 < (R.length : Int) := by omega
    have g3 : (R.length : Int) = 3 := by omega
    rw [if_pos g3, if_pos g3]
    obtain ⟨ls, hls⟩ : ∃ l, spec_l01Shutters.f = some l := ⟨_, rfl⟩
    obtain ⟨la, hla⟩ : ∃ l, spec_l01Apertures.f = some l := ⟨_, rfl⟩
    have fs : ∀ (k n : Nat), 20 ≤ k → n ≤ 45 → ∃ v, spec_l01Name.f k ls n = some v ∧ (v.data.toList = (rdOf ByteArray.empty R 0).data.toList ↔ ShM (rdOf ByteArray.empty R 0).data.toList n) := fun k n hk hn => by
      obtain ⟨v, v1, v2, _⟩ := sh_f (n : Int) (by omega)
      rw [hls, Option.bind_some] at v1
      refine ⟨v, at_rounds (fun k => spec_l01Name.mono ls n k) hk v1, fun h => ⟨v, v2, h⟩, fun h => ?_⟩
      obtain ⟨v', e1, e2⟩ := h
      rw [v2] at e1
      obtain rfl := Option.some.inj e1
      exact e2
    have fa : ∀ (k n : Nat), 20 ≤ k → n ≤ 30 → ∃ v, spec_l01Name.f k la n = some v ∧ (v.data.toList = (rdOf ByteArray.empty R 1).data.toList ↔ ApM (rdOf ByteArray.empty R 1).data.toList n) := fun k n hk hn => by
      obtain ⟨v, v1, v2, _⟩ := ap_f (n : Int) (by omega)
      rw [hla, Option.bind_some] at v1
      refine ⟨v, at_rounds (fun k => spec_l01Name.mono la n k) hk v1, fun h => ⟨v, v2, h⟩, fun h => ?_⟩
      obtain ⟨v', e1, e2⟩ := h
      rw [v2] at e1
      obtain rfl := Option.some.inj e1
      exact e2
    obtain ⟨x, x1, x2⟩ := find_l _ ls 45 (by omega) _ fs 46 2000000 0 (by omega) (by omega) (by omega) (fun n h => by omega)
    obtain ⟨y, y1, y2⟩ := find_l _ la 30 (by omega) _ fa 31 2000000 0 (by omega) (by omega) (by omega) (fun n h => by omega)
    have x1' : spec_l01Find.f 2000000 ls 45 (rdOf ByteArray.empty R 0) = some x := x1
    have y1' : spec_l01Find.f 2000000 la 30 (rdOf ByteArray.empty R 1) = some y := y1
    obtain ⟨v, ok, n1, n2⟩ := num_f (rdOf ByteArray.empty R 2) 2000000 (by omega)
    rw [hls, Option.bind_some, if_pos g0, x1', Option.bind_some, hla, Option.bind_some, if_pos g1, y1', Option.bind_some, if_pos g2, n1, Option.bind_some]
    obtain ⟨a, b, c, i1, i2, i3, i4⟩ := rs_l R L3 46 2000000 0 (-1) (-1) (-1) (by omega) (by omega) (by omega) (.inl ⟨rfl, fun n h => by omega⟩) (.inl ⟨rfl, fun n h => by omega⟩) (.inl ⟨rfl, fun n h => by omega⟩)
    have i1' : impl_ReadSetting.l0 2000000 R 0 (-1) (-1) (-1) = _ := i1
    rw [i1']
    have ra : -1 ≤ a ∧ a ≤ 45 := by rcases i2 with ⟨h, _⟩ | ⟨n, h, _, h', _⟩ <;> omega
    have rb : -1 ≤ b ∧ b ≤ 30 := by rcases i3 with ⟨h, _⟩ | ⟨n, h, _, h', _⟩ <;> omega
    have rc : -1 ≤ c ∧ c ≤ 21 := by rcases i4 with ⟨h, _⟩ | ⟨n, h, _, h', _⟩ <;> omega
    have ea : a = x := by
      rcases i2 with ⟨h, h'⟩ | ⟨n, h, _, h', h''⟩ <;> rcases x2 with ⟨q, q'⟩ | ⟨m, q, q', q''⟩
      · omega
      · exact absurd q'' (h' m (by omega) q')
      · exact absurd h'' (q' n h')
      · have := sh_one h' q' h'' q''; omega
    have eb : b = y := by
      rcases i3 with ⟨h, h'⟩ | ⟨n, h, _, h', h''⟩ <;> rcases y2 with ⟨q, q'⟩ | ⟨m, q, q', q''⟩
      · omega
      · exact absurd q'' (h' m (by omega) q')
      · exact absurd h'' (q' n h')
      · have := ap_one h' q' h'' q''; omega
    subst ea
    subst eb
    rw [ivalid_f (by omega) (by omega) (by omega), Option.bind_some]
    have nc : (0 ≤ c ↔ ok = true ∧ v ≤ 21) ∧ (0 ≤ c → c = v) := by
      rcases i4 with ⟨h, h'⟩ | ⟨n, h, _, h', h''⟩ <;> rcases n2 with ⟨m, q1, q2, q3, q4⟩ | ⟨q1, q2⟩
      · exact absurd q2 (h' m (by omega) q1)
      · exact ⟨⟨fun h => by omega, fun h => absurd h q2⟩, fun h => by omega⟩
      · have := dg_one h' q1 (h''.symm.trans q2)
        exact ⟨⟨fun _ => ⟨q3, by omega⟩, fun _ => by omega⟩, fun _ => by omega⟩
      · exact absurd h'' (q1 n h')
    by_cases ga : a < 0
    · rw [if_pos ga, show decide ((0 ≤ a ∧ a ≤ 45) ∧ (0 ≤ b ∧ b ≤ 30) ∧ (0 ≤ c ∧ c ≤ 21)) = false from decide_eq_false (by omega)]
      simp [laws_eqSetting.f]
    · rw [if_neg ga]
      by_cases gb : b < 0
      · rw [if_pos gb, show decide ((0 ≤ a ∧ a ≤ 45) ∧ (0 ≤ b ∧ b ≤ 30) ∧ (0 ≤ c ∧ c ≤ 21)) = false from decide_eq_false (by omega)]
        simp [laws_eqSetting.f]
      · rw [if_neg gb]
        by_cases gc : 0 ≤ c
        · obtain ⟨ok1, v21⟩ := nc.1.1 gc
          have cv := nc.2 gc
          rw [if_pos ok1, if_neg (by omega), show decide ((0 ≤ a ∧ a ≤ 45) ∧ (0 ≤ b ∧ b ≤ 30) ∧ (0 ≤ c ∧ c ≤ 21)) = true from decide_eq_true (by omega), i8w (x := a) (by omega) (by omega), i8w (x := b) (by omega) (by omega), i8w (x := v) (by omega) (by omega), ← cv]
          simp [laws_eqSetting.f]
        · rw [show decide ((0 ≤ a ∧ a ≤ 45) ∧ (0 ≤ b ∧ b ≤ 30) ∧ (0 ≤ c ∧ c ≤ 21)) = false from decide_eq_false (by omega)]
          by_cases o : ok = true
          · rw [if_pos o, if_pos (by
              have : ¬ v ≤ 21 := fun h => gc (nc.1.2 ⟨o, h⟩)
              omega)]
            simp [laws_eqSetting.f]
          · rw [if_neg o]
            simp [laws_eqSetting.f]
  · have n3 : ¬ (L.length : Int) = 3 := by omega
    have m3 : ¬ (R.length : Int) = 3 := by
      rw [rl]
      by_cases q : (spl 32 s.data.toList).length ≤ min 4 (s.size + 1) - 1 + 1
      · rw [k1 q]; omega
      · rw [k2 (by omega)]; omega
    rw [if_neg n3, if_neg m3]
    simp [laws_eqSetting.f]

end Go.Proofs.YtfhbjjkkhjijmaaDoor.Pure
