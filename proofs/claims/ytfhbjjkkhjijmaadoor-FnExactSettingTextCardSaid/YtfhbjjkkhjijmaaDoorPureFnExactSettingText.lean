/- Proves, in plain numbers and lists, that the law FnExactSettingText answers true at all inputs. No condition is added. -/
import Derived.Test.YtfhbjjkkhjijmaaDoorPFnExactSettingTextx0
import Derived.Test.YtfhbjjkkhjijmaaDoorPFnExactSettingTextx1
import Derived.Test.YtfhbjjkkhjijmaaDoorPFnExactSettingTextx2
import Derived.Test.YtfhbjjkkhjijmaaDoorPFnExactSettingTextx3
namespace Go.Proofs.YtfhbjjkkhjijmaaDoor.Pure
open Go.RowKit Go.Proofs.YtfhbjjkkhjijmaaDoor.PFnExactSettingText Go.Proofs.YtfhbjjkkhjijmaaDoorW.PrintWords Go.Proofs.YtfhbjjkkhjijmaaDoorW.PrintLast Go.Proofs.YtfhbjjkkhjijmaaDoorW.PrintMore
set_option linter.unusedVariables false
set_option linter.unusedSimpArgs false
theorem w64 {x : Int} (h : -9223372036854775808 ≤ x) (h' : x ≤ 9223372036854775807) : wrap64 x = x := by unfold wrap64; omega
theorem wf8 {x : Int} (h : (Lit.int .i8 x).wf = true) : -128 ≤ x ∧ x ≤ 127 := by
  have h2 : (decide ((-128 : Int) ≤ x) && decide (x ≤ 127)) = true := h
  simpa using h2
theorem wf16 {x : Int} (h : (Lit.int .i16 x).wf = true) : -32768 ≤ x ∧ x ≤ 32767 := by
  have h2 : (decide ((-32768 : Int) ≤ x) && decide (x ≤ 32767)) = true := h
  simpa using h2
theorem wf64 {x : Int} (h : (Lit.int .i64 x).wf = true) : -9223372036854775808 ≤ x ∧ x ≤ 9223372036854775807 := by
  have h2 : (decide ((-9223372036854775808 : Int) ≤ x) && decide (x ≤ 9223372036854775807)) = true := h
  simpa using h2
theorem wfu64 {x : Int} (h : (Lit.int .u64 x).wf = true) : 0 ≤ x ∧ x ≤ 18446744073709551615 := by
  have h2 : (decide ((0 : Int) ≤ x) && decide (x ≤ 18446744073709551615)) = true := h
  simpa using h2
theorem i8w {x : Int} (h : -128 ≤ x) (h' : x ≤ 127) : IntKind.i8.wrap x = x := by
  show (if (true && decide (x % 256 ≥ 128)) = true then x % 256 - 256 else x % 256) = x
  by_cases e : x % 256 ≥ 128
  · rw [if_pos (by simpa using e)]; omega
  · rw [if_neg (by simpa using e)]; omega
theorem i16w {x : Int} (h : -32768 ≤ x) (h' : x ≤ 32767) : IntKind.i16.wrap x = x := by
  show (if (true && decide (x % 65536 ≥ 32768)) = true then x % 65536 - 65536 else x % 65536) = x
  by_cases e : x % 65536 ≥ 32768
  · rw [if_pos (by simpa using e)]; omega
  · rw [if_neg (by simpa using e)]; omega
theorem u64w {x : Int} (h : 0 ≤ x) (h' : x ≤ 18446744073709551615) : IntKind.u64.wrap x = x := by
  show (if (false && decide (x % 18446744073709551616 ≥ 9223372036854775808)) = true then x % 18446744073709551616 - 18446744073709551616 else x % 18446744073709551616) = x
  rw [if_neg (by simp)]; omega
theorem name_of {s i : Option ByteArray} (h : (decide (s = i) && i.isSome) = true) : ∃ v, s = some v ∧ i = some v := by
  cases i with
  | none => simp at h
  | some v => exact ⟨v, by simpa using h, rfl⟩
theorem nm_of {s i : Option ByteArray} {n : Nat} (h : (decide (s = i) && (i.elim false fun v => decide (v.size ≤ n))) = true) : ∃ v, s = some v ∧ i = some v ∧ v.size ≤ n := by
  cases i with
  | none => simp at h
  | some v => simp only [Option.elim, Bool.and_eq_true, decide_eq_true_eq] at h; exact ⟨v, h.1, rfl, h.2⟩
theorem all_sh : (List.range 46).all (fun n => decide ((spec_l01Shutters.f.bind fun l => spec_l01Name.f 20 l (n : Int)) = impl_ShutterName.f (n : Int)) && ((impl_ShutterName.f (n : Int)).elim false fun v => decide (v.size ≤ 20))) = true := by kernel_rfl
theorem all_ap : (List.range 31).all (fun n => decide ((spec_l01Apertures.f.bind fun l => spec_l01Name.f 20 l (n : Int)) = impl_ApertureName.f (n : Int)) && ((impl_ApertureName.f (n : Int)).elim false fun v => decide (v.size ≤ 20))) = true := by kernel_rfl
theorem all_dc : (List.range 22).all (fun n => decide (spec_Decimal.f 20 (n : Int) = impl_decimal.f (n : Int)) && ((impl_decimal.f (n : Int)).elim false fun v => decide (v.size ≤ 20))) = true := by kernel_rfl
theorem sh_f (a : Int) (h : 0 ≤ a ∧ a ≤ 45) : ∃ v, (spec_l01Shutters.f.bind fun l => spec_l01Name.f 20 l a) = some v ∧ impl_ShutterName.f a = some v ∧ v.size ≤ 20 := by
  obtain ⟨n, rfl⟩ : ∃ n : Nat, a = n := ⟨a.toNat, by omega⟩
  exact nm_of (List.all_eq_true.1 all_sh n (List.mem_range.2 (by omega)))
theorem ap_f (a : Int) (h : 0 ≤ a ∧ a ≤ 30) : ∃ v, (spec_l01Apertures.f.bind fun l => spec_l01Name.f 20 l a) = some v ∧ impl_ApertureName.f a = some v ∧ v.size ≤ 20 := by
  obtain ⟨n, rfl⟩ : ∃ n : Nat, a = n := ⟨a.toNat, by omega⟩
  exact nm_of (List.all_eq_true.1 all_ap n (List.mem_range.2 (by omega)))
theorem dc_f (a : Int) (h : 0 ≤ a ∧ a ≤ 21) : ∃ v, spec_Decimal.f 20 a = some v ∧ impl_decimal.f a = some v ∧ v.size ≤ 20 := by
  obtain ⟨n, rfl⟩ : ∃ n : Nat, a = n := ⟨a.toNat, by omega⟩
  exact nm_of (List.all_eq_true.1 all_dc n (List.mem_range.2 (by omega)))
theorem in_f (a b c : Int) : spec_l00In.f a b c = some (decide (b ≤ a ∧ a ≤ c)) := by
  unfold spec_l00In.f
  by_cases h : b ≤ a <;> simp [h]
theorem within_f (a b c : Int) : impl_within.f a b c = some (decide (b ≤ a ∧ a ≤ c)) := by
  unfold impl_within.f
  by_cases h : b ≤ a <;> simp [h]
theorem ok_f {a b c : Int} (ha : -128 ≤ a ∧ a ≤ 127) (hb : -128 ≤ b ∧ b ≤ 127) (hc : -128 ≤ c ∧ c ≤ 127) : spec_l01Ok.f a b c = some (decide ((0 ≤ a ∧ a ≤ 45) ∧ (0 ≤ b ∧ b ≤ 30) ∧ (0 ≤ c ∧ c ≤ 21))) := by
  unfold spec_l01Ok.f
  rw [w64 (by omega) (by omega), w64 (by omega) (by omega), w64 (by omega) (by omega)]
  simp only [in_f, Option.bind_some]
  by_cases h1 : 0 ≤ a ∧ a ≤ 45 <;> by_cases h2 : 0 ≤ b ∧ b ≤ 30 <;> simp [h1, h2]
theorem valid_f {a b c : Int} (ha : -128 ≤ a ∧ a ≤ 127) (hb : -128 ≤ b ∧ b ≤ 127) (hc : -128 ≤ c ∧ c ≤ 127) : impl_ValidSetting.f a b c = some (decide ((0 ≤ a ∧ a ≤ 45) ∧ (0 ≤ b ∧ b ≤ 30) ∧ (0 ≤ c ∧ c ≤ 21))) := by
  unfold impl_ValidSetting.f impl_isShutter.f
  rw [w64 (by omega) (by omega), w64 (by omega) (by omega), w64 (by omega) (by omega)]
  simp only [within_f, Option.bind_some]
  by_cases h1 : 0 ≤ a ∧ a ≤ 45 <;> by_cases h2 : 0 ≤ b ∧ b ≤ 30 <;> simp [h1, h2]
theorem txt_f (a b c : Int) (ha : 0 ≤ a ∧ a ≤ 45) (hb : 0 ≤ b ∧ b ≤ 30) (hc : 0 ≤ c ∧ c ≤ 21) : ∃ v p q r, spec_l01Text.f 20 a b c = some v ∧ impl_SettingText.f a b c = some v ∧ v = p ++ (⟨#[32]⟩ : ByteArray) ++ q ++ (⟨#[32]⟩ : ByteArray) ++ r ∧ impl_ShutterName.f a = some p ∧ impl_ApertureName.f b = some q ∧ impl_decimal.f c = some r ∧ p.size ≤ 20 ∧ q.size ≤ 20 ∧ r.size ≤ 20 := by
  obtain ⟨p, p1, p2, p3⟩ := sh_f a ha
  obtain ⟨q, q1, q2, q3⟩ := ap_f b hb
  obtain ⟨r, r1, r2, r3⟩ := dc_f c hc
  obtain ⟨ls, hls⟩ : ∃ l, spec_l01Shutters.f = some l := ⟨_, rfl⟩
  obtain ⟨la, hla⟩ : ∃ l, spec_l01Apertures.f = some l := ⟨_, rfl⟩
  rw [hls, Option.bind_some] at p1
  rw [hla, Option.bind_some] at q1
  have one : (⟨#[32]⟩ : ByteArray).size = 1 := rfl
  have g1 : p.size + 1 ≤ 9223372036854775807 := by omega
  have g2 : (p ++ (⟨#[32]⟩ : ByteArray)).size + q.size ≤ 9223372036854775807 := by rw [ByteArray.size_append, one]; omega
  have g3 : ((p ++ (⟨#[32]⟩ : ByteArray)) ++ q).size + 1 ≤ 9223372036854775807 := by rw [ByteArray.size_append, ByteArray.size_append, one]; omega
  have g4 : (((p ++ (⟨#[32]⟩ : ByteArray)) ++ q) ++ (⟨#[32]⟩ : ByteArray)).size + r.size ≤ 9223372036854775807 := by rw [ByteArray.size_append, ByteArray.size_append, ByteArray.size_append, one]; omega
  refine ⟨_, p, q, r, ?_, ?_, rfl, p2, q2, r2, p3, q3, r3⟩
  · unfold spec_l01Text.f
    rw [hls, Option.bind_some, w64 (x := a) (by omega) (by omega), p1, Option.bind_some, if_pos g1, hla, Option.bind_some, w64 (x := b) (by omega) (by omega), q1, Option.bind_some, if_pos g2, if_pos g3, w64 (x := c) (by omega) (by omega), r1, Option.bind_some, if_pos g4]
  · unfold impl_SettingText.f
    have vv : impl_ValidSetting.f a b c = some true := by rw [valid_f (by omega) (by omega) (by omega)]; exact congrArg some (decide_eq_true ⟨ha, hb, hc⟩)
    rw [vv, Option.bind_some, if_pos rfl, w64 (x := a) (by omega) (by omega), p2, Option.bind_some, if_pos g1, w64 (x := b) (by omega) (by omega), q2, Option.bind_some, if_pos g2, if_pos g3, w64 (x := c) (by omega) (by omega), r2, Option.bind_some, if_pos g4]
theorem FnExactSettingText : laws_FnExactSettingText.Pure := by
  intro a b c ha hb hc
  refine ⟨20, ?_⟩
  unfold laws_FnExactSettingText.f laws_toSetting.f spec_SettingText.f
  simp only [Option.bind_some]
  rw [ok_f (wf8 ha) (wf8 hb) (wf8 hc), Option.bind_some]
  by_cases h : (0 ≤ a ∧ a ≤ 45) ∧ (0 ≤ b ∧ b ≤ 30) ∧ (0 ≤ c ∧ c ≤ 21)
  · obtain ⟨v, _, _, _, e1, e2, _⟩ := txt_f a b c h.1 h.2.1 h.2.2
    rw [show decide ((0 ≤ a ∧ a ≤ 45) ∧ (0 ≤ b ∧ b ≤ 30) ∧ (0 ≤ c ∧ c ≤ 21)) = true from decide_eq_true h, if_pos rfl, e1, e2]
    simp only [Option.bind_some, if_true]
  · unfold impl_SettingText.f
    rw [valid_f (wf8 ha) (wf8 hb) (wf8 hc), show decide ((0 ≤ a ∧ a ≤ 45) ∧ (0 ≤ b ∧ b ≤ 30) ∧ (0 ≤ c ∧ c ≤ 21)) = false from decide_eq_false h]
    simp only [Option.bind_some, Bool.false_eq_true, if_false, if_true]

end Go.Proofs.YtfhbjjkkhjijmaaDoor.Pure
