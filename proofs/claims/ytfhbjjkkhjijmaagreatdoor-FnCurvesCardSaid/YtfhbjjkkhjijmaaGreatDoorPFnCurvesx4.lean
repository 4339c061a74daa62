/- Proves what functions that a law reaches come to, one contract each; no conditions beyond those that each names. Printed by a program of this session (xprint) out of the translation. -/
import Derived.Test.YtfhbjjkkhjijmaaGreatDoorPFnCurvesx0
import Derived.Test.YtfhbjjkkhjijmaaGreatDoorPFnCurvesx3
namespace Go.Proofs.YtfhbjjkkhjijmaaGreatDoor.PFnCurves
open Go.RowKit Go.Proofs.YtfhbjjkkhjijmaaGreatDoorW.PrintWords Go.Proofs.YtfhbjjkkhjijmaaGreatDoorW.PrintLast Go.Proofs.YtfhbjjkkhjijmaaGreatDoorW.PrintMore
attribute [local go_sem] max2_int min2_int max_two min_two max_three min_three max_four min_four   -- for this text's walks alone
set_option linter.unusedVariables false
set_option linter.unusedSimpArgs false

/-! ### impl_ValidCurve: function 11 -/
def impl_ValidCurve.f (k : Nat) (l0 : List (S40)) : Option (Bool) := (impl_isCurve.f k l0).bind fun t149 => (if t149 = true then (some (decide ((l0.length : Int) ≤ 12))) else (some false))
theorem impl_ValidCurve.mono : ∀ a0 k, LeO (impl_ValidCurve.f k a0) (impl_ValidCurve.f (k + 1) a0) := by
 intro a0 k
 unfold impl_ValidCurve.f
 repeat' first | (with_reducible first | exact impl_isCurve.mono _ _ | exact LeO.refl _ | exact LeO.none _ | refine LeO.ite ?_ ?_ | refine LeO.bind ?_ (fun _ => ?_)) | exact impl_isCurve.mono _ _ | exact LeO.none _ | refine LeO.ite ?_ ?_ | refine LeO.bind ?_ (fun _ => ?_)
set_option maxHeartbeats 8000000 in
set_option maxRecDepth 100000 in
theorem impl_ValidCurve.calls (k : Nat) (A0 : Option Addr) (c0 : Nat) (l0 : List (S40)) (r : Bool) (w : World) (hr0 : Kd.C k40 w A0 l0.length l0) (hc0 : l0.length ≤ c0) (h : impl_ValidCurve.f k l0 = some r) :
 Calls Tryz.prog 11 #[.slice A0 l0.length c0] w fun e w' => e = .returned (.bool r) ∧ Below w.heap.size w w' := by
 have HR0 := Aside0.mk hr0
 have HC0 := Aside0.mk hc0
 clear hr0 hc0
 have HB := Aside0.mk (Below.refl w.heap.size w)
 have H : ((impl_isCurve.f k l0).bind fun t149 => (if t149 = true then (some (decide ((l0.length : Int) ≤ 12))) else (some false))) = some r := h
 clear h
 replace H := qob.mp H
 obtain ⟨t149, A20, H⟩ := H
 replace H : (if t149 = true then (some (decide ((l0.length : Int) ≤ 12))) else (some false)) = some r := H
 have A2 := Aside0.mk A20
 clear A20
 by_cases c3 : t149 = true
 · subst c3
   (have H1 : (some (decide ((l0.length : Int) ≤ 12))) = some r := by rw [if_pos rfl] at H; exact H); clear H; have H := H1; clear H1; obtain rfl := Option.some.inj H; go_enter Tryz.func11, Tryz.ntmps11; go_wp2_with (first | ((with_reducible refine gate_callee (f := 30) rfl ?_); refine goesL_ (some 4) rfl rfl Tryz.func30 (by kernel_rfl) rfl #[.slice A0 l0.length c0] rfl (by (try simp only [sqa, sqb, sqc]); first | done | rfl | (simp only [sqd, sqt]; rfl)) ?_; (with_reducible refine (impl_isCurve.calls k _ _ l0 true _ ?side1 ?side2 A2.out).mono ?_); (case side1 => repeat (first | exact HR0.out | (with_reducible refine qca ?_ _) | (with_reducible refine qcn ?_ _) | (with_reducible refine qco ?_))); (case side2 => exact HC0.out); rintro e w4 ⟨rfl, hb⟩; refine ⟨_, rfl, ?_⟩; have n0_ := Aside0.mk (qs (by repeat (first | (with_reducible first | exact HB.out | apply qa | apply qn | apply qd) | exact HB.out)) hb); clear HB; have HB := n0_; clear n0_; (try clear hb); (try clear hb2); (try clear hk); (try clear hi))); go_ret; exact ⟨by first | rfl | (simp [errW_none, errW_some] <;> rfl) | (simp [*, errW_none, errW_some] <;> rfl), by repeat (first | (with_reducible first | exact HB.out | apply qa | apply qn | apply qd) | exact HB.out)⟩
 · replace c3 := Bool.eq_false_iff.mpr c3
   subst c3; (have H1 : (some false) = some r := by rw [if_neg (show ¬ (false = true) by decide)] at H; exact H); clear H; have H := H1; clear H1; obtain rfl := Option.some.inj H; go_enter Tryz.func11, Tryz.ntmps11; go_wp2_with (first | ((with_reducible refine gate_callee (f := 30) rfl ?_); refine goesL_ (some 4) rfl rfl Tryz.func30 (by kernel_rfl) rfl #[.slice A0 l0.length c0] rfl (by (try simp only [sqa, sqb, sqc]); first | done | rfl | (simp only [sqd, sqt]; rfl)) ?_; (with_reducible refine (impl_isCurve.calls k _ _ l0 false _ ?side1 ?side2 A2.out).mono ?_); (case side1 => repeat (first | exact HR0.out | (with_reducible refine qca ?_ _) | (with_reducible refine qcn ?_ _) | (with_reducible refine qco ?_))); (case side2 => exact HC0.out); rintro e w5 ⟨rfl, hb⟩; refine ⟨_, rfl, ?_⟩; have n0_ := Aside0.mk (qs (by repeat (first | (with_reducible first | exact HB.out | apply qa | apply qn | apply qd) | exact HB.out)) hb); clear HB; have HB := n0_; clear n0_; (try clear hb); (try clear hb2); (try clear hk); (try clear hi))); go_ret; exact ⟨by first | rfl | (simp [errW_none, errW_some] <;> rfl) | (simp [*, errW_none, errW_some] <;> rfl), by repeat (first | (with_reducible first | exact HB.out | apply qa | apply qn | apply qd) | exact HB.out)⟩


/-! ### strings_SplitN: function 24 -/
def GlobW (w : World) : Prop := (∃ m : Int, w.cell? ⟨0, 0, none⟩ = some (.int .i64 m)) ∧ Lib.TabIs Tryz.prog w "internal/strconv.uint64pow10" .u64 Lib.pow10Tab ∧ (∃ ev : Value, w.cell? ⟨1, 0, none⟩ = some ev ∧ (ev = .nilIface ∨ ∃ te pe, ev = .iface te pe)) ∧ (∃ ev : Value, w.cell? ⟨2, 0, none⟩ = some ev ∧ (ev = .nilIface ∨ ∃ te pe, ev = .iface te pe))
theorem tab_at {w w' : World} (h : Lib.TabIs Tryz.prog w "internal/strconv.uint64pow10" .u64 Lib.pow10Tab) (hb : Below w.heap.size w w') : Lib.TabIs Tryz.prog w' "internal/strconv.uint64pow10" .u64 Lib.pow10Tab := by
 have hg : Tryz.prog.globalNamed "internal/strconv.uint64pow10" = some 5 := by kernel_rfl
 unfold Lib.TabIs at h ⊢
 unfold World.var? at h ⊢
 rw [hg] at h ⊢
 simp only [Option.bind_some] at h ⊢
 by_cases c : 5 < w.heap.size
 · rw [hb.block 5 c]; exact h
 · rw [Array.getElem?_eq_none (by omega)] at h
   cases h
theorem grow_below_ (w : World) (k : Nat) (os : Array Obj) : Below w.heap.size w (Sort.grow (w.drewN k) os) :=
 Go.Lib.below_grow w.heap.size w (Nat.le_refl _) k os
theorem GlobW.at_ {w w' : World} (h : GlobW w) (hb : Below w.heap.size w w') : GlobW w' := by
 exact ⟨(fun ⟨m, hm⟩ => ⟨m, (hb.cell (qwb w _ hm)).trans hm⟩) h.1, (fun q => tab_at q hb) h.2.1, (fun ⟨m, hm, hq⟩ => ⟨m, (hb.cell (qwb w _ hm)).trans hm, hq⟩) h.2.2.1, (fun ⟨m, hm, hq⟩ => ⟨m, (hb.cell (qwb w _ hm)).trans hm, hq⟩) h.2.2.2⟩
def strings_SplitN.f (a0 a1 : ByteArray) (a2 : Int) : Option (List ByteArray) := if a0.size < 4294967281 then (if 1 ≤ a1.size then (if 1 ≤ a2 ∧ a2 ≤ 9223372036854775807 then some (Lib.splitB a1 0 (min a2.toNat (a0.size + 1) - 1) a0) else none) else none) else none
theorem strings_SplitN.calls (a0 : ByteArray) (a1 : ByteArray) (a2 : Int) (r : List ByteArray) (w : World) (h : strings_SplitN.f a0 a1 a2 = some r) (hg_ : GlobW w) :
 Calls Tryz.prog 24 #[.string a0, .string a1, .int .i64 a2] w fun e w' => ∃ v0_ : Value, e = .returned (v0_) ∧ Kd.R Kd.string 9 w' w.heap.size (fun _ => True) v0_ r ∧ Below w.heap.size w w' := by
 unfold strings_SplitN.f at h
 by_cases c : a0.size < 4294967281
 · rw [if_pos c] at h
   by_cases c1 : 1 ≤ a1.size
   · rw [if_pos c1] at h
     by_cases c2 : 1 ≤ a2 ∧ a2 ≤ 9223372036854775807
     · rw [if_pos c2] at h
       obtain rfl := Option.some.inj h; obtain ⟨m, hm⟩ := hg_.1; obtain ⟨n, rfl⟩ : ∃ n : Nat, a2 = n := ⟨a2.toNat, by omega⟩; rw [Int.toNat_natCast]; refine (Tryz.strings_SplitN a0 a1 n m w c hm c1 (by omega) (by omega)).mono ?_; rintro e w' ⟨rfl, rfl⟩; obtain ⟨N, hN⟩ : ∃ N, min n (a0.size + 1) = N := ⟨_, rfl⟩; rw [hN]; have hl := Lib.splitB_length_le a1 0 (N - 1) a0; (have hl2 : (Lib.splitB a1 0 (N - 1) a0).length ≤ N := by omega); refine ⟨_, rfl, ?_, (Below.refl _ w).alloc (Nat.le_refl _) _⟩
       have ho : (w.alloc (.cells (Lib.cellsOf (Lib.splitB a1 0 (N - 1) a0) N) 9)).ownsRow w.heap.size 9 1 (.slice (some ⟨w.heap.size, 0, none⟩) (Lib.splitB a1 0 (N - 1) a0).length N) (Lib.splitB a1 0 (N - 1) a0).length (encs Value.string (Lib.splitB a1 0 (N - 1) a0)) := by
        refine ⟨by simp [encs], .inr ⟨w.heap.size, N, Lib.cellsOf (Lib.splitB a1 0 (N - 1) a0) N, rfl, Nat.le_refl _, heap_alloc_new w _, hl2, by unfold maxLen; omega, by rw [Lib.cellsOf_size hl2, Nat.mul_one], ?_⟩⟩; rw [Nat.mul_one]; show List.take _ (List.map Value.string (Lib.splitB a1 0 (N - 1) a0) ++ _) = _; rw [List.take_append_of_le_length (by simp)]; exact List.take_of_length_le (by simp)
       exact Kd.R_of_own (enc := Value.string) (h1 := fun _ => rfl) ho (fun _ _ => trivial)
     · rw [if_neg c2] at h
       cases h
   · rw [if_neg c1] at h
     cases h
 · rw [if_neg c] at h
   cases h


/-! ### strings_Cut: function 25 -/
def strings_Cut.f (a0 a1 : ByteArray) : Option (ByteArray × ByteArray × Bool) := if a0.size < 4294967281 then some (⟨(Lib.cut a0.data.toList a1.data.toList).1.toArray⟩, ⟨(Lib.cut a0.data.toList a1.data.toList).2.1.toArray⟩, (Lib.cut a0.data.toList a1.data.toList).2.2) else none
theorem strings_Cut.calls (a0 a1 : ByteArray) (r1 r2 : ByteArray) (r3 : Bool) (w : World) (h : strings_Cut.f a0 a1 = some (r1, r2, r3)) (hg_ : GlobW w) :
 Calls Tryz.prog 25 #[.string a0, .string a1] w fun e w' => e = .returned (.tuple #[.string r1, .string r2, .bool r3]) ∧ Below w.heap.size w w' := by
 unfold strings_Cut.f at h
 by_cases c : a0.size < 4294967281
 · rw [if_pos c] at h
   simp only [Option.some.injEq, Prod.mk.injEq] at h; obtain ⟨rfl, rfl, rfl⟩ := h; obtain ⟨m, hm⟩ := hg_.1; refine (Tryz.strings_Cut a0 a1 m w c hm).mono ?_; rintro e w' ⟨rfl, n, rfl⟩; exact ⟨rfl, qn (Below.refl _ w) n⟩
 · rw [if_neg c] at h
   cases h


/-! ### strconv_ParseInt: function 26 -/
def ErrIs : Bool → Value → Prop
 | false, ev => ev = .nilIface
 | true, ev => ∃ N : Nat, ev = .iface 75 (.pointer (some ⟨N, 0, none⟩))
def strconv_ParseInt.v (l : List UInt8) : Int := match Lib.parseIntB 16 l with
 | .ok v => v
 | .range => Lib.intSat 16 l
 | _ => 0
def strconv_ParseInt.b (l : List UInt8) : Bool := match Lib.parseIntB 16 l with
 | .ok _ => false
 | _ => true
def strconv_ParseInt.f (a0 : ByteArray) (a1 a2 : Int) : Option (Int × Bool) := if a1 = 10 ∧ a2 = 16 ∧ a0.size ≤ 281474976710656 then some (strconv_ParseInt.v a0.data.toList, strconv_ParseInt.b a0.data.toList) else none
theorem strconv_ParseInt.calls (a0 : ByteArray) (a1 a2 : Int) (r1 : Int) (r2 : Bool) (w : World) (h : strconv_ParseInt.f a0 a1 a2 = some (r1, r2)) (hg_ : GlobW w) :
 Calls Tryz.prog 26 #[.string a0, .int .i64 a1, .int .i64 a2] w fun e w' => ∃ ev : Value, e = .returned (.tuple #[.int .i64 r1, ev]) ∧ ErrIs r2 ev ∧ Below w.heap.size w w' := by
 unfold strconv_ParseInt.f at h
 by_cases c : a1 = 10 ∧ a2 = 16 ∧ a0.size ≤ 281474976710656
 · rw [if_pos c] at h
   simp only [Option.some.injEq, Prod.mk.injEq] at h; obtain ⟨rfl, rfl⟩ := h; obtain ⟨rfl, rfl, hs⟩ := c; obtain ⟨ev, hv, hev⟩ := hg_.2.2.1; obtain ⟨ew, hw, hew⟩ := hg_.2.2.2; unfold strconv_ParseInt.v strconv_ParseInt.b
   cases q : Lib.parseIntB 16 a0.data.toList with
   | ok v =>
    refine (Tryz.strconv_ParseInt_10_at16_ok a0 (by omega) v q w).mono ?_; rintro e w' ⟨rfl, rfl | ⟨t, rfl⟩⟩
    · exact ⟨_, rfl, rfl, Below.refl _ _⟩
    · exact ⟨_, rfl, rfl, Go.Lib.bytesWorld_below w 5 t⟩
   | range =>
    refine (Tryz.strconv_ParseInt_10_at16_range a0 hs q ew w hw hew).mono ?_; rintro e w' ⟨N, rfl, _, _, hb⟩; exact ⟨_, rfl, ⟨N, rfl⟩, hb⟩
   | _ =>
    refine (Go.Proofs.Any.strconv_ParseInt_10_at16_syntax Tryz.laysC174 a0 hs q ev w hv hev).mono ?_; rintro e w' ⟨N, rfl, _, _, hb⟩; exact ⟨_, rfl, ⟨N, rfl⟩, hb⟩
 · rw [if_neg c] at h
   cases h

-- NOT PRINTED: function 66 (strconv_FormatInt)


/-! ### impl_decimal: function 48 -/
def impl_decimal.f (a0 : Int) : Option (ByteArray) := if -9223372036854775808 ≤ a0 ∧ a0 ≤ 9223372036854775807 then some ⟨(Lib.itoa a0).toArray⟩ else none
set_option maxHeartbeats 8000000 in
set_option maxRecDepth 100000 in
theorem impl_decimal.calls (a0 : Int) (r : ByteArray) (w : World) (h : impl_decimal.f a0 = some r) (hg_ : GlobW w) :
 Calls Tryz.prog 48 #[.int .i64 a0] w fun e w' => e = .returned (.string r) ∧ Below w.heap.size w w' := by
 unfold impl_decimal.f at h
 by_cases c : -9223372036854775808 ≤ a0 ∧ a0 ≤ 9223372036854775807
 · rw [if_pos c] at h
   obtain rfl := Option.some.inj h; have HB := Aside0.mk (Below.refl w.heap.size w); have HT := Aside0.mk hg_.2.1; have hc := Aside0.mk c; clear h c hg_; go_enter Tryz.func48, Tryz.ntmps48; go_wp2_with (first | (go_at_call 66; (refine (Tryz.strconv_FormatInt_10 a0 hc.out.1 hc.out.2 _ HT.out).mono ?_); rintro e w' ⟨rfl, kd, od, rfl⟩)); go_ret; exact ⟨rfl, grow_below_ w kd od⟩
 · rw [if_neg c] at h
   cases h


/-! ### strings_Join: function 49 -/
def strings_Join.f (l0 : List ByteArray) (a1 : ByteArray) : Option (ByteArray) := if l0.length ≤ 140737488355328 then (if (Lib.join (l0.map (·.data.toList)) a1.data.toList).length ≤ 140737488355328 then some (if l0.length = 0 then ⟨#[]⟩ else ⟨(Lib.join (l0.map (·.data.toList)) a1.data.toList).toArray⟩) else none) else none
theorem strings_Join.calls (A0 : Option Addr) (c0 : Nat) (l0 : List ByteArray) (a1 : ByteArray) (r : ByteArray) (w : World) (hr0 : Kd.C Kd.string w A0 l0.length l0) (hc0 : l0.length ≤ c0) (h : strings_Join.f l0 a1 = some r) :
 Calls Tryz.prog 49 #[.slice A0 l0.length c0, .string a1] w fun e w' => e = .returned (.string r) ∧ Below w.heap.size w w' := by
 unfold strings_Join.f at h
 by_cases c : l0.length ≤ 140737488355328
 · rw [if_pos c] at h
   by_cases c1 : (Lib.join (l0.map (·.data.toList)) a1.data.toList).length ≤ 140737488355328
   · rw [if_pos c1] at h
     obtain rfl := Option.some.inj h
     by_cases z : l0.length = 0
     · rw [if_pos z, z]
       refine (Tryz.strings_Join_none A0 c0 a1 w).mono ?_; rintro e w' ⟨rfl, rfl⟩; exact ⟨rfl, Below.refl _ _⟩
     · rw [if_neg z]
       obtain ⟨ad, rfl, hcell⟩ := hr0.2.2 (by omega)
       have hcells : ∀ (j : Nat) x, l0[j]? = some x → w.cell? (ad.add j) = some (.string x) := by
        intro j x hj; obtain ⟨cs, hl, hk, hu⟩ := hcell j x hj; have e : cs = [.string x] := hk; subst e; have := hu 0 _ rfl
        rwa [show j * Kd.string.sz + 0 = j by show j * 1 + 0 = j; omega] at this
       obtain ⟨bk, o, sp⟩ := ad; (have first := hcells 0 _ (List.getElem?_eq_getElem (show 0 < l0.length by omega)))
       have hsp : sp = none := by
        cases sp with
        | none => rfl
        | some q =>
         simp only [Addr.add, if_true, World.cell?] at first
         split at first <;> simp at first
       subst hsp; (refine (Tryz.strings_Join bk o c0 l0 a1 w (fun j x hj => ?_) ?_ c hc0 c1).mono fun e w' q => q)
       · have := hcells j x hj
         rwa [Addr.add_lit] at this
       · exact qwb w _ first
   · rw [if_neg c1] at h
     cases h
 · rw [if_neg c] at h
   cases h

/-! ### impl_curveText: function 27 -/
def impl_curveText.l0 : Nat → List ByteArray → List (S40) → Int → Int → Option (ByteArray)
 | 0, _, _, _, _ => none
 | k + 1, x3, x7, x8, x9 => if x9 < x8 then (if 0 ≤ x9 then (if x9 < (x7.length : Int) then ((impl_decimal.f (wrap64 ((rd_T40 x7 x9).f0))).bind fun t155 => (if t155.size + 1 ≤ 9223372036854775807 then ((impl_decimal.f (wrap64 ((rd_T40 x7 x9).f1))).bind fun t156 => (if (t155 ++ (⟨#[58]⟩ : ByteArray)).size + t156.size ≤ 9223372036854775807 then (if x3.length < 8796093022208 then (impl_curveText.l0 k (x3 ++ [(t155 ++ (⟨#[58]⟩ : ByteArray)) ++ t156]) x7 x8 (wrap64 (x9 + 1))) else (none)) else (none))) else (none))) else (none)) else (none)) else ((strings_Join.f x3 (⟨#[32]⟩ : ByteArray)).bind fun t160 => (some t160))
def impl_curveText.f (k : Nat) (l0 : List (S40)) : Option (ByteArray) := impl_curveText.l0 k (([] : List ByteArray)) l0 (l0.length : Int) 0
theorem impl_curveText.mono_l : ∀ k, (∀ y0 y1 y2 y3, LeO (impl_curveText.l0 k y0 y1 y2 y3) (impl_curveText.l0 (k + 1) y0 y1 y2 y3))
 | 0 => fun _ _ _ _ r h => by simp [impl_curveText.l0] at h
 | k + 1 => by
  have ih0 := impl_curveText.mono_l k
  · intro y0 y1 y2 y3
    unfold impl_curveText.l0
    repeat' first | (with_reducible first | exact ih0 _ _ _ _ | exact LeO.refl _ | exact LeO.none _ | refine LeO.ite ?_ ?_ | refine LeO.bind ?_ (fun _ => ?_)) | exact ih0 _ _ _ _ | exact LeO.none _ | refine LeO.ite ?_ ?_ | refine LeO.bind ?_ (fun _ => ?_)
theorem impl_curveText.mono : ∀ a0 k, LeO (impl_curveText.f k a0) (impl_curveText.f (k + 1) a0) := by
 intro a0 k
 have ih0 := impl_curveText.mono_l k
 unfold impl_curveText.f
 repeat' first | (with_reducible first | exact ih0 _ _ _ _ | exact LeO.refl _ | exact LeO.none _ | refine LeO.ite ?_ ?_ | refine LeO.bind ?_ (fun _ => ?_)) | exact ih0 _ _ _ _ | exact LeO.none _ | refine LeO.ite ?_ ?_ | refine LeO.bind ?_ (fun _ => ?_)
def impl_curveText.T5 : Bool × List (List Nat × List Nat) := (true, [([], []), ([], []), ([1], [1]), ([2], [2]), ([3], [3]), ([4], [4]), ([], []), ([6], [6]), ([7], [7]), ([8, 4], [8]), ([5, 9], [5, 9]), ([10], [10]), ([0, 11, 9], [0, 11]), ([12, 12, 0, 1, 2, 3, 4, 5, 6, 7, 8, 9, 10, 11, 12], [0, 12])])
def impl_curveText.B5 : List Nat := [0, 0, 2, 6, 14, 30, 0, 64, 192, 478, 1022, 2046, 4095, 8191]
theorem impl_curveText.tab5 : rtab .any (opsOf Tryz.f27 5) = impl_curveText.T5 := by kernel_rfl
theorem impl_curveText.bits5 : waitsOk impl_curveText.T5.2 impl_curveText.B5 = true := by kernel_rfl
set_option maxHeartbeats 8000000 in
set_option maxRecDepth 100000 in
theorem impl_curveText.calls (k : Nat) (A0 : Option Addr) (c0 : Nat) (l0 : List (S40)) (r : ByteArray) (w : World) (hr0 : Kd.C k40 w A0 l0.length l0) (hc0 : l0.length ≤ c0) (h : impl_curveText.f k l0 = some r) (hg_ : GlobW w) :
 Calls Tryz.prog 27 #[.slice A0 l0.length c0] w fun e w' => e = .returned (.string r) ∧ Below w.heap.size w w' := by
 have HG := Aside0.mk hg_
 clear hg_
 have hu40 := Tryz.underlying40
 have HR0 := Aside0.mk hr0
 have HC0 := Aside0.mk hc0
 clear hr0 hc0
 have HB := Aside0.mk (Below.refl w.heap.size w)
 have H : (impl_curveText.l0 k (([] : List ByteArray)) l0 (l0.length : Int) 0) = some r := h
 clear h
 obtain ⟨y150, hy150⟩ : ∃ y_ : List ByteArray, y_ = (([] : List ByteArray)) := ⟨_, rfl⟩
 replace H : (impl_curveText.l0 k y150 l0 (l0.length : Int) 0) = some r := by first | (rw [hy150]; with_reducible exact H) | (have H2_ := (Option.bind_some _ _).symm.trans H; rw [hy150]; with_reducible exact H2_) | (have H2_ := (Option.bind_some _ _).symm.trans H; with_reducible exact H2_) | with_reducible exact H | (rw [hy150]; exact H) | exact H
 have Ny150 := Aside0.mk hy150
 clear hy150
 have H' := Aside0.mk H
 clear H
 go_enter Tryz.func27, Tryz.ntmps27
 go_wp2_with (first | ((with_reducible refine gate_dst (N := 6) rfl ?_); refine Kd.R_lit Kd.string _ 9 ?hg (N := 6) ?hd (xs := ([] : List ByteArray)) (inner := []) (ok := fun _ => True) (okp := fun _ => True) ?hr ?hp (fun _ hk => hk) trivial (Below.refl _ _) (Nat.le_refl _) (by simp) ?_; (case hd => rfl); (case hg => rfl); (case hr => first | (go_simp; done) | (go_simp; rfl)); (case hp => exact (Reps.none _ _)); intro v151 w2 ho3 hb hg_ hnew_; clear hg_ hnew_; (first | rw [← Ny150.out] at ho3 | (simp only [Int.reduceToNat] at ho3; rw [← Ny150.out] at ho3)); have n0_ := Aside0.mk (Kd.R_lower ho3 (qz (by repeat (first | (with_reducible first | exact HB.out | apply qa | apply qn | apply qd) | exact HB.out)))); have n1_ := Aside0.mk (qs (by repeat (first | (with_reducible first | exact HB.out | apply qa | apply qn | apply qd) | exact HB.out)) hb); clear HB; have HO152 := n0_; have HB := n1_; clear n0_ n1_; clear hb ho3))
 go_loopg [3, 9] k (fun kq v3 v9 w' => ∃ (x3_1 : List ByteArray) (x9_1 : Int), v9 = .int .i64 x9_1 ∧ Aside0 (impl_curveText.l0 kq x3_1 l0 (l0.length : Int) x9_1 = some r) ∧ Aside0 (kq ≤ k) ∧ Aside0 (Kd.R Kd.string 9 w' w.heap.size (fun _ => True) v3 x3_1) ∧ Aside0 (Below w.heap.size w w'))
 case atStart => exact ⟨(y150), (0), (by first | rfl | (simp; done) | (simp [*]; done)), H', ⟨Nat.le_refl _⟩, ⟨by (with_reducible repeat (first | apply qra | apply qrn | apply qro)); exact HO152.out⟩, ⟨by repeat (first | (with_reducible first | exact HB.out | apply qa | apply qn | apply qd) | exact HB.out)⟩⟩
 case round =>
  clear H'
  try clear c2
  try clear p2
  obtain ⟨x3_1, x9_1, rfl, HA, HK1, HO_3, HB⟩ := hrel
  cases gk with
  | zero => exact absurd HA.out (by simp [impl_curveText.l0])
  | succ k1 =>
   have H := HA.out; clear HA; simp only [impl_curveText.l0] at H
   by_cases c4 : x9_1 < (l0.length : Int)
   · rw [if_pos c4] at H
     have c4b0 : decide (x9_1 < (l0.length : Int)) = true := decide_eq_true c4; clear c4
     by_cases c5 : 0 ≤ x9_1
     · rw [if_pos c5] at H
       have c5b0 : decide (0 ≤ x9_1) = true := decide_eq_true c5; clear c5
       by_cases c6 : x9_1 < (l0.length : Int)
       · rw [if_pos c6] at H
         have c6b0 : decide (x9_1 < (l0.length : Int)) = true := decide_eq_true c6; clear c6; replace H := qob.mp H; obtain ⟨t155, A70, H⟩ := H; replace H : (if t155.size + 1 ≤ 9223372036854775807 then ((impl_decimal.f (wrap64 ((rd_T40 l0 x9_1).f1))).bind fun t156 => (if (t155 ++ (⟨#[58]⟩ : ByteArray)).size + t156.size ≤ 9223372036854775807 then (if x3_1.length < 8796093022208 then (impl_curveText.l0 k1 (x3_1 ++ [(t155 ++ (⟨#[58]⟩ : ByteArray)) ++ t156]) l0 (l0.length : Int) (wrap64 (x9_1 + 1))) else (none)) else (none))) else (none)) = some r := H; have A7 := Aside0.mk A70; clear A70
         by_cases c8 : t155.size + 1 ≤ 9223372036854775807
         · rw [if_pos c8] at H
           have c8b0 := eq_true c8; have c8b1 : decide (t155.size + 1 ≤ 9223372036854775807) = true := decide_eq_true c8; (try have c8b2 : (9223372036854775807 < t155.size + 1) = False := eq_false (Nat.not_lt.2 c8)); replace H := qob.mp H; obtain ⟨t156, A90, H⟩ := H; replace H : (if (t155 ++ (⟨#[58]⟩ : ByteArray)).size + t156.size ≤ 9223372036854775807 then (if x3_1.length < 8796093022208 then (impl_curveText.l0 k1 (x3_1 ++ [(t155 ++ (⟨#[58]⟩ : ByteArray)) ++ t156]) l0 (l0.length : Int) (wrap64 (x9_1 + 1))) else (none)) else (none)) = some r := H; have A9 := Aside0.mk A90; clear A90
           by_cases c10 : (t155 ++ (⟨#[58]⟩ : ByteArray)).size + t156.size ≤ 9223372036854775807
           · rw [if_pos c10] at H
             have c10b0 := eq_true c10; have c10b1 : decide ((t155 ++ (⟨#[58]⟩ : ByteArray)).size + t156.size ≤ 9223372036854775807) = true := decide_eq_true c10; (try have c10b2 : (9223372036854775807 < (t155 ++ (⟨#[58]⟩ : ByteArray)).size + t156.size) = False := eq_false (Nat.not_lt.2 c10)); have c10n0 : (t155.size + 1 + t156.size ≤ 9223372036854775807) = True := eq_true (by have h_ := c10; simp only [ByteArray.size_append] at h_; have q0_ : (⟨#[58]⟩ : ByteArray).size = 1 := rfl; first | omega | (simp at h_ ⊢; omega)); have c10n2 : (9223372036854775807 < t155.size + 1 + t156.size) = False := eq_false (by have h_ := c10; simp only [ByteArray.size_append] at h_; have q0_ : (⟨#[58]⟩ : ByteArray).size = 1 := rfl; first | omega | (simp at h_ ⊢; omega))
             by_cases c11 : x3_1.length < 8796093022208
             · rw [if_pos c11] at H
               have LMc11 := Aside0.mk c11; clear c11; obtain ⟨y157, hy157⟩ : ∃ y_ : List ByteArray, y_ = (x3_1 ++ [(t155 ++ (⟨#[58]⟩ : ByteArray)) ++ t156]) := ⟨_, rfl⟩; (replace H : (impl_curveText.l0 k1 y157 l0 (l0.length : Int) (wrap64 (x9_1 + 1))) = some r := by first | (rw [hy157]; with_reducible exact H) | (have H2_ := (Option.bind_some _ _).symm.trans H; rw [hy157]; with_reducible exact H2_) | (have H2_ := (Option.bind_some _ _).symm.trans H; with_reducible exact H2_) | with_reducible exact H | (rw [hy157]; exact H) | exact H); have Ny157 := Aside0.mk hy157; clear hy157; have H' := Aside0.mk H; clear H; have p153 : 0 ≤ (x9_1 : Int) := of_decide_eq_true (by first | (with_reducible assumption) | assumption); have q153 : x9_1 < (l0.length : Int) := of_decide_eq_true (by first | (with_reducible assumption) | assumption); obtain ⟨ad153, e153, hx153_0, hx153_1⟩ := at_T40 HR0.out x9_1 p153 q153
               cases e153
               replace hx153_0 := (HB.out.cell (qwb w _ hx153_0)).trans hx153_0; replace hx153_1 := (HB.out.cell (qwb w _ hx153_1)).trans hx153_1; replace p153 := eq_true p153; replace q153 := eq_true q153; (try go_wp2_with (first | ((with_reducible refine gate_dst (N := 5) rfl ?_); refine box_event ?hg (N := 5) ?hd (cs := #[.int .i16 0, .int .i16 0]) (t := 40) ?hr ?_; (case hd => rfl); (case hg => rfl); (case hr => first | (go_simp; done) | (go_simp; rfl)); intro gb154 hg w12 hbox hb; have n0_ := Aside0.mk (Kd.R_below (by (with_reducible repeat (first | apply qra | apply qrn | apply qro)); exact HO_3.out) hb); have n1_ := Aside0.mk (qs (by repeat (first | (with_reducible first | exact HB.out | apply qa | apply qn | apply qd) | exact HB.out)) hb); have n2_ := Aside0.mk (hbox); have n3_ := Aside0.mk ((by rw [hg]; exact (qz (by repeat (first | (with_reducible first | exact HB.out | apply qa | apply qn | apply qd) | exact HB.out))) : w.heap.size ≤ gb154)); have n4_ := Aside0.mk ((by rw [hg]; exact (qz (by repeat (first | (with_reducible first | exact HB.out | apply qa | apply qn | apply qd) | exact HB.out))) : w.heap.size ≤ gb154)); clear HO_3; clear HB; have HO_3 := n0_; have HB := n1_; have BK154 := n2_; have GW154 := n3_; have GE154 := n4_; clear n0_ n1_ n2_ n3_ n4_; clear hb hbox hg; have hcz13_0 : w12.cell? ⟨gb154, 0, none⟩ = some (.int .i16 0) := (blk_cell BK154.out 0).trans rfl; have hcz13_1 : w12.cell? ⟨gb154, 1, none⟩ = some (.int .i16 0) := (blk_cell BK154.out 1).trans rfl; have hfz13_0 := blk_frozen BK154.out 0; have hfz13_1 := blk_frozen BK154.out 1))); have n0_ : Aside0 (Kd.R Kd.string 9 ((w12.setCell ⟨gb154, 0, none⟩ (.int .i16 ((rd_T40 l0 x9_1).f0))).setCell ⟨gb154, 1, none⟩ (.int .i16 ((rd_T40 l0 x9_1).f1))) w.heap.size (fun _ => True) u3 x3_1) := ⟨by (with_reducible repeat (first | apply qra | apply qrn | apply qro)); exact Kd.R_mono (Kd.R_far (p := ⟨gb154, 1, none⟩) (Kd.R_far (p := ⟨gb154, 0, none⟩) (Kd.R_types HO_3.out BK154.out (by decide)) (fun _ hk => hk.2) (.int .i16 ((rd_T40 l0 x9_1).f0))) (fun _ hk => hk.2) (.int .i16 ((rd_T40 l0 x9_1).f1))) (fun _ hk => trivial)⟩; have n1_ : Aside0 (((w12.setCell ⟨gb154, 0, none⟩ (.int .i16 ((rd_T40 l0 x9_1).f0))).setCell ⟨gb154, 1, none⟩ (.int .i16 ((rd_T40 l0 x9_1).f1))).heap[gb154]? = some (.cells #[.int .i16 ((rd_T40 l0 x9_1).f0), .int .i16 ((rd_T40 l0 x9_1).f1)] 40 (0, 0))) := ⟨by (with_reducible repeat (first | refine blk_drewN ?_ _ | refine blk_drew ?_ | refine blk_alloc ?_ _)); refine blk_put (cs := #[.int .i16 ((rd_T40 l0 x9_1).f0), .int .i16 0]) ?_ 1 _ rfl; (with_reducible repeat (first | refine blk_drewN ?_ _ | refine blk_drew ?_ | refine blk_alloc ?_ _)); refine blk_put (cs := #[.int .i16 0, .int .i16 0]) ?_ 0 _ rfl; (with_reducible repeat (first | refine blk_drewN ?_ _ | refine blk_drew ?_ | refine blk_alloc ?_ _)); exact BK154.out⟩; have n2_ : Aside0 (Below w.heap.size w ((w12.setCell ⟨gb154, 0, none⟩ (.int .i16 ((rd_T40 l0 x9_1).f0))).setCell ⟨gb154, 1, none⟩ (.int .i16 ((rd_T40 l0 x9_1).f1)))) := ⟨by repeat (first | (with_reducible first | exact HB.out | apply qa | apply qn | apply qd | refine below_set ?_ GE154.out) | exact HB.out)⟩; (try clear HO_3); (try clear BK154); (try clear HB)
               generalize ((w12.setCell ⟨gb154, 0, none⟩ (.int .i16 ((rd_T40 l0 x9_1).f0))).setCell ⟨gb154, 1, none⟩ (.int .i16 ((rd_T40 l0 x9_1).f1))) = w14 at n0_ n1_ n2_ ⊢
               have HO_3 := n0_; have BK154 := n1_; have HB := n2_; clear n0_ n1_ n2_; have n0_ := Aside0.mk (qro HO_3.out); have n1_ := Aside0.mk (blk_drew BK154.out); have n2_ := Aside0.mk (qd HB.out); clear HO_3; clear BK154; clear HB; have HO_3 := n0_; have BK154 := n1_; have HB := n2_; clear n0_ n1_ n2_; refine start_ (n := 14) (S := fun w' => w'.cell? ⟨gb154, 0, none⟩ = some (.int .i16 ((rd_T40 l0 x9_1).f0)) ∧ w'.cell? ⟨gb154, 1, none⟩ = some (.int .i16 ((rd_T40 l0 x9_1).f1))) (ds := []) (bs 0 14) (by kernel_rfl) rfl rfl ⟨(blk_cell BK154.out 0).trans rfl, (blk_cell BK154.out 1).trans rfl⟩ (fun hHeld => ?_); refine with_tabW impl_curveText.tab5 impl_curveText.bits5 (fun HT_ HW_ => ?_)
               generalize w14.drew = w15 at HO_3 BK154 HB hHeld ⊢
               refine pu 0 (some 13) ?_ (bs 1 13) rfl rfl (any_of HT_.out (by kernel_rfl)) (Or.inl ⟨by rfl, ?_⟩) ?_ ?_ ?_; (rotate_left; · intro w'; go_simp; with_reducible rfl); (rotate_left; · simp only [Act.put, sqA, sqZ, sqS, i64_w, i32_w]; rfl); refine pu 1 (some 14) ?_ (bs 2 12) rfl rfl (any_of HT_.out (by kernel_rfl)) (Or.inl ⟨by rfl, ?_⟩) ?_ ?_ ?_; (rotate_left; · intro w'; go_simp; with_reducible rfl); (rotate_left; · simp only [Act.put, sqA, sqZ, sqS, i64_w, i32_w]; rfl); refine pu 6 (some 19) ?_ #[true, true, false, false, false, false, true, false, false, false, false, false, false, false] rfl rfl (any_of HT_.out (by kernel_rfl)) (Or.inl ⟨by rfl, ?_⟩) ?_ ?_ ?_; (rotate_left; · intro w'; go_simp; with_reducible rfl); (rotate_left; · simp only [Act.put, sqA, sqZ, sqS, i64_w, i32_w]; rfl); refine take_ (i := 2) (N := some 15) (v := ?_) (a' := ?_) #[true, true, true, false, false, false, true, false, false, false, false, false, false, false] rfl rfl (take_ofW HT_.out HW_.out (by kernel_rfl)) (fun _ _ _ h => h) (Or.inl ⟨by rfl, ?_⟩) hHeld ?_ ?_; rotate_left
               · rintro w' ⟨s0, s1⟩
                 go_simp; (with_reducible rfl)
               (rotate_left; · simp only [Act.put, sqA, sqZ, sqS, i64_w, i32_w]; rfl); refine pu 3 (some 16) ?_ #[true, true, true, true, false, false, true, false, false, false, false, false, false, false] rfl rfl (any_of HT_.out (by kernel_rfl)) (Or.inl ⟨by rfl, ?_⟩) ?_ ?_ ?_; (rotate_left; · intro w'; go_simp; with_reducible rfl); (rotate_left; · simp only [Act.put, sqA, sqZ, sqS, i64_w, i32_w]; rfl); refine take_ (i := 7) (N := some 20) (v := ?_) (a' := ?_) #[true, true, true, true, false, false, true, true, false, false, false, false, false, false] rfl rfl (take_ofW HT_.out HW_.out (by kernel_rfl)) (fun _ _ _ h => h) (Or.inl ⟨by rfl, ?_⟩) hHeld ?_ ?_; rotate_left
               · rintro w' ⟨s0, s1⟩
                 go_simp; (with_reducible rfl)
               (rotate_left; · simp only [Act.put, sqA, sqZ, sqS, i64_w, i32_w]; rfl); refine pu 8 (some 21) ?_ #[true, true, true, true, false, false, true, true, true, false, false, false, false, false] rfl rfl (any_of HT_.out (by kernel_rfl)) (Or.inl ⟨by rfl, ?_⟩) ?_ ?_ ?_; (rotate_left; · intro w'; go_simp; with_reducible rfl); (rotate_left; · simp only [Act.put, sqA, sqZ, sqS, i64_w, i32_w]; rfl); refine one_ (i := 4) (N := some 17) #[true, true, true, true, true, false, true, true, true, false, false, false, false, false] rfl rfl (one_of HT_.out (by kernel_rfl)) (by decide) (fun K hK => ?_); refine goes_ Tryz.func48 (by kernel_rfl) rfl #[.int .i64 (wrap64 ((rd_T40 l0 x9_1).f0))] (by rfl) rfl rfl (by (try simp only [sqa, sqb, sqc]); first | done | rfl | (simp only [sqd, sqt]; rfl)) ?_; (with_reducible refine (impl_decimal.calls (wrap64 ((rd_T40 l0 x9_1).f0)) t155 _ A7.out ?gl_).mono ?_)
               case gl_ => exact GlobW.at_ HG.out (by repeat (first | (with_reducible first | exact HB.out | apply qa | apply qn | apply qd | refine below_set ?_ (Aside0.out (by assumption))) | exact HB.out))
               rintro e w16 ⟨rfl, hb⟩; refine ⟨_, rfl, ?_⟩; have n0_ := Aside0.mk (Kd.R_below (by (with_reducible repeat (first | apply qra | apply qrn | apply qro)); exact HO_3.out) hb); have n1_ := Aside0.mk (blk_below (g := gb154) (o := .cells #[.int .i16 ((rd_T40 l0 x9_1).f0), .int .i16 ((rd_T40 l0 x9_1).f1)] 40 (0, 0)) (by (with_reducible repeat (first | refine blk_drewN ?_ _ | refine blk_drew ?_ | refine blk_alloc ?_ _)); exact BK154.out) hb); have n2_ := Aside0.mk (qs (by repeat (first | (with_reducible first | exact HB.out | apply qa | apply qn | apply qd | refine below_set ?_ GE154.out) | exact HB.out)) hb); clear HO_3; clear BK154; clear HB; have HO_3 := n0_; have BK154 := n1_; have HB := n2_; clear n0_ n1_ n2_; (try clear hb); (try clear hb2); (try clear hk); (try clear hi); refine hK.out _ _ ⟨(blk_cell BK154.out 0).trans rfl, (blk_cell BK154.out 1).trans rfl⟩ (fun hHeld => ?_); clear hK K; refine norm_ (a' := ?_) ?_ ?_; rotate_left
               · show Act.put _ (some 17) _ = _
                 simp only [Act.put, sqA, sqZ, sqS, i64_w, i32_w]; rfl
               refine pu 5 (some 18) ?_ (bs 9 5) rfl rfl (any_of HT_.out (by kernel_rfl)) (Or.inl ⟨by rfl, ?_⟩) ?_ ?_ ?_; (rotate_left; · intro w'; go_simp; with_reducible rfl); (rotate_left; · simp only [Act.put, sqA, sqZ, sqS, i64_w, i32_w]; rfl); refine one_ (i := 9) (N := some 22) (bs 10 4) rfl rfl (one_of HT_.out (by kernel_rfl)) (by decide) (fun K hK => ?_); refine goes_ Tryz.func48 (by kernel_rfl) rfl #[.int .i64 (wrap64 ((rd_T40 l0 x9_1).f1))] (by rfl) rfl rfl (by (try simp only [sqa, sqb, sqc]); first | done | rfl | (simp only [sqd, sqt]; rfl)) ?_; (with_reducible refine (impl_decimal.calls (wrap64 ((rd_T40 l0 x9_1).f1)) t156 _ A9.out ?gl_).mono ?_)
               case gl_ => exact GlobW.at_ HG.out (by repeat (first | (with_reducible first | exact HB.out | apply qa | apply qn | apply qd | refine below_set ?_ (Aside0.out (by assumption))) | exact HB.out))
               rintro e w17 ⟨rfl, hb⟩; refine ⟨_, rfl, ?_⟩; have n0_ := Aside0.mk (Kd.R_below (by (with_reducible repeat (first | apply qra | apply qrn | apply qro)); exact HO_3.out) hb); have n1_ := Aside0.mk (blk_below (g := gb154) (o := .cells #[.int .i16 ((rd_T40 l0 x9_1).f0), .int .i16 ((rd_T40 l0 x9_1).f1)] 40 (0, 0)) (by (with_reducible repeat (first | refine blk_drewN ?_ _ | refine blk_drew ?_ | refine blk_alloc ?_ _)); exact BK154.out) hb); have n2_ := Aside0.mk (qs (by repeat (first | (with_reducible first | exact HB.out | apply qa | apply qn | apply qd | refine below_set ?_ GE154.out) | exact HB.out)) hb); clear HO_3; clear BK154; clear HB; have HO_3 := n0_; have BK154 := n1_; have HB := n2_; clear n0_ n1_ n2_; (try clear hb); (try clear hb2); (try clear hk); (try clear hi); refine hK.out _ _ ⟨(blk_cell BK154.out 0).trans rfl, (blk_cell BK154.out 1).trans rfl⟩ (fun hHeld => ?_); clear hK K; refine norm_ (a' := ?_) ?_ ?_; rotate_left
               · show Act.put _ (some 22) _ = _
                 simp only [Act.put, sqA, sqZ, sqS, i64_w, i32_w]; rfl
               refine pu 10 (some 23) ?_ (bs 11 3) rfl rfl (any_of HT_.out (by kernel_rfl)) (Or.inl ⟨by rfl, ?_⟩) ?_ ?_ ?_; (rotate_left; · intro w'; go_simp; with_reducible rfl); (rotate_left; · simp only [Act.put, sqA, sqZ, sqS, i64_w, i32_w]; rfl); refine one_ (i := 11) (N := some 24) (bs 12 2) rfl rfl (one_of HT_.out (by kernel_rfl)) (by decide) (fun K hK => ?_); refine value_ (w1 := ?_) (v := ?_) (by rfl) rfl ?_ ?_; rotate_left 2
               · go_simp
                 constructor
                 · rfl
                 · rfl
               refine hK.out _ _ ⟨(blk_cell (blk_alloc BK154.out _) 0).trans rfl, (blk_cell (blk_alloc BK154.out _) 1).trans rfl⟩ (fun hHeld => ?_); clear hK K; refine norm_ (a' := ?_) ?_ ?_; rotate_left
               · show Act.put _ (some 24) _ = _
                 simp only [Act.put, sqA, sqZ, sqS, i64_w, i32_w]; rfl
               refine one_ (i := 12) (N := some 25) (bs 13 1) rfl rfl (one_of HT_.out (by kernel_rfl)) (by decide) (fun K hK => ?_); refine Kd.R_append_step Kd.string (w0 := w) w.heap.size (by rfl) (.tmp 13) (.tmp 24) 46 9 (.string ⟨#[]⟩) 16 rfl Tryz.underlying46 info9 rfl (by decide) (by omega) u3 x3_1 ((t155 ++ (⟨#[58]⟩ : ByteArray)) ++ t156) [.string ((t155 ++ (⟨#[58]⟩ : ByteArray)) ++ t156)] (fun _ => True) (fun _ => False) rfl rfl ?aP (fun _ hk => hk.elim) ?aF ?aO ?aB ?aS ?aL ?_; (case aP => exact rfl); (case aB => exact (by repeat (first | (with_reducible first | exact HB.out | apply qa | apply qn | apply qd | refine below_set ?_ GE154.out) | exact HB.out))); (case aF => exact (fun _ _ => trivial)); (case aO => exact (by (with_reducible repeat (first | apply qra | apply qrn | apply qro)); exact HO_3.out)); (case aS => exact (qz (by repeat (first | (with_reducible first | exact HB.out | apply qa | apply qn | apply qd | refine below_set ?_ GE154.out) | exact HB.out)))); (case aL => have := LMc11.out; omega); intro v158 w18 ho hb hg hat; rw [← Ny157.out] at ho; have n0_ := Aside0.mk (blk_grown (g := gb154) (o := .cells #[.int .i16 ((rd_T40 l0 x9_1).f0), .int .i16 ((rd_T40 l0 x9_1).f1)] 40 (0, 0)) (by (with_reducible repeat (first | refine blk_drewN ?_ _ | refine blk_drew ?_ | refine blk_alloc ?_ _)); exact BK154.out) hg (Kd.R_ne HO_3.out BK154.out (by decide))); have n1_ := Aside0.mk (hb); have n2_ := Aside0.mk (ho); clear BK154; clear HB; clear HO_3; have BK154 := n0_; have HB := n1_; have HO159 := n2_; clear n0_ n1_ n2_; clear ho hb hg hat; refine hK.out _ _ ⟨(blk_cell BK154.out 0).trans rfl, (blk_cell BK154.out 1).trans rfl⟩ (fun hHeld => ?_); clear hK K; refine norm_ (a' := ?_) ?_ ?_; rotate_left
               · show Act.put _ (some 25) _ = _
                 simp only [Act.put, sqA, sqZ, sqS, i64_w, i32_w]; rfl
               refine pu 13 (some 3) ?_ (bs 14 0) rfl rfl (any_of HT_.out (by kernel_rfl)) (Or.inl ⟨by rfl, ?_⟩) ?_ ?_ ?_; (rotate_left; · intro w'; go_simp; with_reducible rfl); (rotate_left; · simp only [Act.put, sqA, sqZ, sqS, i64_w, i32_w]; rfl); refine done_ (done_of HT_.out (by kernel_rfl)) ?_; (try go_wp2); go_roundg k1
               case measure => have := HK1.out; omega
               case rel => exact ⟨(y157), (wrap64 (x9_1 + 1)), (by first | rfl | (simp; done) | (simp [*]; done)), H', ⟨by have := HK1.out; omega⟩, ⟨by (with_reducible repeat (first | apply qra | apply qrn | apply qro)); exact HO159.out⟩, ⟨by repeat (first | (with_reducible first | exact HB.out | apply qa | apply qn | apply qd | refine below_set ?_ GE154.out) | exact HB.out)⟩⟩
             · rw [if_neg c11] at H
               exact absurd H (by simp)
           · rw [if_neg c10] at H
             exact absurd H (by simp)
         · rw [if_neg c8] at H
           exact absurd H (by simp)
       · rw [if_neg c6] at H
         exact absurd H (by simp)
     · rw [if_neg c5] at H
       exact absurd H (by simp)
   · rw [if_neg c4] at H
     have c4b0 : decide (x9_1 < (l0.length : Int)) = false := decide_eq_false c4; clear c4; replace H := qob.mp H; obtain ⟨t160, A190, H⟩ := H; replace H : (some t160) = some r := H; have A19 := Aside0.mk A190; clear A190; obtain rfl := Option.some.inj H; obtain ⟨Ao20, co20, eo20⟩ := Kd.R_slice HO_3.out; subst eo20; go_wp2_with (first | ((with_reducible refine gate_callee (f := 49) rfl ?_); refine goesL_ (some 28) rfl rfl Tryz.func49 (by kernel_rfl) rfl #[.slice Ao20 x3_1.length co20, .string (⟨#[32]⟩ : ByteArray)] rfl (by (try simp only [sqa, sqb, sqc]); first | done | rfl | (simp only [sqd, sqt]; rfl)) ?_; (with_reducible refine (strings_Join.calls _ _ x3_1 (⟨#[32]⟩ : ByteArray) t160 _ ?side1 ?side2 A19.out).mono ?_); (case side1 => repeat (first | exact (Kd.R_reads' HO_3.out).2.2 | (with_reducible refine qca ?_ _) | (with_reducible refine qcn ?_ _) | (with_reducible refine qco ?_))); (case side2 => exact (Kd.R_reads' HO_3.out).2.1); rintro e w21 ⟨rfl, hb⟩; refine ⟨_, rfl, ?_⟩; have n0_ := Aside0.mk (Kd.R_below (by (with_reducible repeat (first | apply qra | apply qrn | apply qro)); exact HO_3.out) hb); have n1_ := Aside0.mk (qs (by repeat (first | (with_reducible first | exact HB.out | apply qa | apply qn | apply qd) | exact HB.out)) hb); clear HO_3; clear HB; have HO_3 := n0_; have HB := n1_; clear n0_ n1_; (try clear hb); (try clear hb2); (try clear hk); (try clear hi))); go_ret; exact ⟨by first | rfl | (simp [errW_none, errW_some] <;> rfl) | (simp [*, errW_none, errW_some] <;> rfl), by repeat (first | (with_reducible first | exact HB.out | apply qa | apply qn | apply qd) | exact HB.out)⟩

/-! ### impl_ReadCurve: function 6 -/
def impl_ReadCurve.l0 : Nat → ByteArray → List (S40) → List ByteArray → Int → Int → Option ((List (S40)) × Int)
 | 0, _, _, _, _, _ => none
 | k + 1, x0, x4, x16, x17, x18 => if x18 < x17 then (if 0 ≤ x18 then (if x18 < (x16.length : Int) then ((strings_Cut.f (rdOf ByteArray.empty x16 x18) (⟨#[58]⟩ : ByteArray)).bind fun bt168 => ((strconv_ParseInt.f bt168.1 10 16).bind fun bt171 => ((strconv_ParseInt.f bt168.2.1 10 16).bind fun bt173 => (if bt171.2 = true then (some (([] : List (S40)), 5)) else (if bt173.2 = true then (some (([] : List (S40)), 5)) else (if x4.length < 35184372088832 then (impl_ReadCurve.l0 k x0 (x4 ++ [(⟨IntKind.i16.wrap (bt171.1), IntKind.i16.wrap (bt173.1)⟩ : S40)]) x16 x17 (wrap64 (x18 + 1))) else (none))))))) else (none)) else (none)) else ((impl_ValidCurve.f k x4).bind fun t178 => (if t178 = true then ((impl_curveText.f k x4).bind fun t179 => (if t179.toList = x0.toList then (some (x4, 0)) else (some (([] : List (S40)), 5)))) else (some (([] : List (S40)), 5))))
def impl_ReadCurve.f (k : Nat) (a0 : ByteArray) : Option ((List (S40)) × Int) := (strings_SplitN.f a0 (⟨#[32]⟩ : ByteArray) 13).bind fun t164 => (impl_ReadCurve.l0 k a0 (([] : List (S40))) t164 (t164.length : Int) 0)
theorem impl_ReadCurve.mono_l : ∀ k, (∀ y0 y1 y2 y3 y4, LeO (impl_ReadCurve.l0 k y0 y1 y2 y3 y4) (impl_ReadCurve.l0 (k + 1) y0 y1 y2 y3 y4))
 | 0 => fun _ _ _ _ _ r h => by simp [impl_ReadCurve.l0] at h
 | k + 1 => by
  have ih0 := impl_ReadCurve.mono_l k
  · intro y0 y1 y2 y3 y4
    unfold impl_ReadCurve.l0
    repeat' first | (with_reducible first | exact ih0 _ _ _ _ _ | exact impl_ValidCurve.mono _ _ | exact impl_curveText.mono _ _ | exact LeO.refl _ | exact LeO.none _ | refine LeO.ite ?_ ?_ | refine LeO.bind ?_ (fun _ => ?_)) | exact ih0 _ _ _ _ _ | exact impl_ValidCurve.mono _ _ | exact impl_curveText.mono _ _ | exact LeO.none _ | refine LeO.ite ?_ ?_ | refine LeO.bind ?_ (fun _ => ?_)
theorem impl_ReadCurve.mono : ∀ a0 k, LeO (impl_ReadCurve.f k a0) (impl_ReadCurve.f (k + 1) a0) := by
 intro a0 k
 have ih0 := impl_ReadCurve.mono_l k
 unfold impl_ReadCurve.f
 repeat' first | (with_reducible first | exact ih0 _ _ _ _ _ | exact impl_ValidCurve.mono _ _ | exact impl_curveText.mono _ _ | exact LeO.refl _ | exact LeO.none _ | refine LeO.ite ?_ ?_ | refine LeO.bind ?_ (fun _ => ?_)) | exact ih0 _ _ _ _ _ | exact impl_ValidCurve.mono _ _ | exact impl_curveText.mono _ _ | exact LeO.none _ | refine LeO.ite ?_ ?_ | refine LeO.bind ?_ (fun _ => ?_)
set_option maxHeartbeats 8000000 in
set_option maxRecDepth 100000 in
theorem impl_ReadCurve.calls (k : Nat) (a0 : ByteArray) (r1 : List (S40)) (r2 : Int) (w : World) (h : impl_ReadCurve.f k a0 = some (r1, r2)) (hg_ : GlobW w) :
 Calls Tryz.prog 6 #[.string a0] w fun e w' => ∃ v0_ : Value, e = .returned (.tuple #[v0_, .int .i64 r2]) ∧ Kd.R k40 40 w' w.heap.size (fun _ => True) v0_ r1 ∧ Below w.heap.size w w' := by
 have HG := Aside0.mk hg_
 clear hg_
 have hu40 := Tryz.underlying40
 have hu51 := Tryz.underlying51
 have HB := Aside0.mk (Below.refl w.heap.size w)
 have H : ((strings_SplitN.f a0 (⟨#[32]⟩ : ByteArray) 13).bind fun t164 => (impl_ReadCurve.l0 k a0 (([] : List (S40))) t164 (t164.length : Int) 0)) = some (r1, r2) := h
 clear h
 obtain ⟨y161, hy161⟩ : ∃ y_ : List (S40), y_ = (([] : List (S40))) := ⟨_, rfl⟩
 replace H : ((strings_SplitN.f a0 (⟨#[32]⟩ : ByteArray) 13).bind fun t164 => (impl_ReadCurve.l0 k a0 y161 t164 (t164.length : Int) 0)) = some (r1, r2) := by first | (rw [hy161]; with_reducible exact H) | (have H2_ := (Option.bind_some _ _).symm.trans H; rw [hy161]; with_reducible exact H2_) | (have H2_ := (Option.bind_some _ _).symm.trans H; with_reducible exact H2_) | with_reducible exact H | (rw [hy161]; exact H) | exact H
 have Ny161 := Aside0.mk hy161
 clear hy161
 replace H := qob.mp H
 obtain ⟨t164, A20, H⟩ := H
 replace H : (impl_ReadCurve.l0 k a0 y161 t164 (t164.length : Int) 0) = some (r1, r2) := H
 have A2 := Aside0.mk A20
 clear A20
 have H' := Aside0.mk H
 clear H
 go_enter Tryz.func6, Tryz.ntmps6
 go_wp2_with (first | ((with_reducible refine gate_dst (N := 14) rfl ?_); refine Kd.R_lit k40 _ 40 ?hg (N := 14) ?hd (xs := ([] : List (S40))) (inner := []) (ok := fun _ => True) (okp := fun _ => True) ?hr ?hp (fun _ hk => hk) trivial (Below.refl _ _) (Nat.le_refl _) (by simp) ?_; (case hd => rfl); (case hg => rfl); (case hr => first | (go_simp; done) | (go_simp; rfl)); (case hp => exact (Reps.none _ _)); intro v162 w3 ho4 hb hg_ hnew_; clear hg_ hnew_; (first | rw [← Ny161.out] at ho4 | (simp only [Int.reduceToNat] at ho4; rw [← Ny161.out] at ho4)); have n0_ := Aside0.mk (Kd.R_lower ho4 (qz (by repeat (first | (with_reducible first | exact HB.out | apply qa | apply qn | apply qd) | exact HB.out)))); have n1_ := Aside0.mk (qs (by repeat (first | (with_reducible first | exact HB.out | apply qa | apply qn | apply qd) | exact HB.out)) hb); clear HB; have HO163 := n0_; have HB := n1_; clear n0_ n1_; clear hb ho4) | ((with_reducible refine gate_callee (f := 24) rfl ?_); refine goesL_ (some 16) rfl rfl Tryz.func24 (by kernel_rfl) rfl #[.string a0, .string (⟨#[32]⟩ : ByteArray), .int .i64 13] rfl (by (try simp only [sqa, sqb, sqc]); first | done | rfl | (simp only [sqd, sqt]; rfl)) ?_; (with_reducible refine (strings_SplitN.calls a0 (⟨#[32]⟩ : ByteArray) 13 t164 _ A2.out ?gl_).mono ?_); (case gl_ => exact GlobW.at_ HG.out (by repeat (first | (with_reducible first | exact HB.out | apply qa | apply qn | apply qd | refine below_set ?_ (Aside0.out (by assumption))) | exact HB.out))); rintro e w5 ⟨v165, rfl, ho0, hb⟩; refine ⟨_, rfl, ?_⟩; have n0_ := Aside0.mk (Kd.R_below (by (with_reducible repeat (first | apply qra | apply qrn | apply qro)); exact HO163.out) hb); have n1_ := Aside0.mk (Kd.R_lower ho0 (qz (by repeat (first | (with_reducible first | exact HB.out | apply qa | apply qn | apply qd) | exact HB.out)))); have n2_ := Aside0.mk (qs (by repeat (first | (with_reducible first | exact HB.out | apply qa | apply qn | apply qd) | exact HB.out)) hb); clear HO163; clear HB; have HO163 := n0_; have HO166 := n1_; have HB := n2_; clear n0_ n1_ n2_; (try clear hb); (try clear hb2); (try clear hk); (try clear hi); (try clear ho0); obtain ⟨Ao6, co6, eo6⟩ := Kd.R_slice HO166.out; subst eo6))
 go_loopg [4, 18] k (fun kq v4 v18 w' => ∃ (x4_1 : List (S40)) (x18_1 : Int), v18 = .int .i64 x18_1 ∧ Aside0 (impl_ReadCurve.l0 kq a0 x4_1 t164 (t164.length : Int) x18_1 = some (r1, r2)) ∧ Aside0 (kq ≤ k) ∧ Aside0 (Kd.R k40 40 w' w.heap.size (fun _ => True) v4 x4_1) ∧ Aside0 (Kd.R Kd.string 9 w' w.heap.size (fun _ => True) (.slice Ao6 t164.length co6) t164) ∧ Aside0 (Below w.heap.size w w'))
 case atStart => exact ⟨(y161), (0), (by first | rfl | (simp; done) | (simp [*]; done)), H', ⟨Nat.le_refl _⟩, ⟨by (with_reducible repeat (first | apply qra | apply qrn | apply qro)); exact HO163.out⟩, ⟨by (with_reducible repeat (first | apply qra | apply qrn | apply qro)); exact HO166.out⟩, ⟨by repeat (first | (with_reducible first | exact HB.out | apply qa | apply qn | apply qd) | exact HB.out)⟩⟩
 case round =>
  clear H'
  try clear c2
  try clear p2
  try clear c6
  obtain ⟨x4_1, x18_1, rfl, HA, HK1, HO_4, HO_16, HB⟩ := hrel
  cases gk with
  | zero => exact absurd HA.out (by simp [impl_ReadCurve.l0])
  | succ k1 =>
   have H := HA.out; clear HA; simp only [impl_ReadCurve.l0] at H
   by_cases c7 : x18_1 < (t164.length : Int)
   · rw [if_pos c7] at H
     have c7b0 : decide (x18_1 < (t164.length : Int)) = true := decide_eq_true c7; clear c7
     by_cases c8 : 0 ≤ x18_1
     · rw [if_pos c8] at H
       have c8b0 : decide (0 ≤ x18_1) = true := decide_eq_true c8; clear c8
       by_cases c9 : x18_1 < (t164.length : Int)
       · rw [if_pos c9] at H
         have c9b0 : decide (x18_1 < (t164.length : Int)) = true := decide_eq_true c9; clear c9; replace H := qob.mp H; obtain ⟨⟨t168, t169, t170⟩, A100, H⟩ := H; replace H : ((strconv_ParseInt.f t168 10 16).bind fun bt171 => ((strconv_ParseInt.f t169 10 16).bind fun bt173 => (if bt171.2 = true then (some (([] : List (S40)), 5)) else (if bt173.2 = true then (some (([] : List (S40)), 5)) else (if x4_1.length < 35184372088832 then (impl_ReadCurve.l0 k1 a0 (x4_1 ++ [(⟨IntKind.i16.wrap (bt171.1), IntKind.i16.wrap (bt173.1)⟩ : S40)]) t164 (t164.length : Int) (wrap64 (x18_1 + 1))) else (none)))))) = some (r1, r2) := H; have A10 := Aside0.mk A100; clear A100; replace H := qob.mp H; obtain ⟨⟨t171, t172⟩, A110, H⟩ := H; replace H : ((strconv_ParseInt.f t169 10 16).bind fun bt173 => (if t172 = true then (some (([] : List (S40)), 5)) else (if bt173.2 = true then (some (([] : List (S40)), 5)) else (if x4_1.length < 35184372088832 then (impl_ReadCurve.l0 k1 a0 (x4_1 ++ [(⟨IntKind.i16.wrap (t171), IntKind.i16.wrap (bt173.1)⟩ : S40)]) t164 (t164.length : Int) (wrap64 (x18_1 + 1))) else (none))))) = some (r1, r2) := H; have A11 := Aside0.mk A110; clear A110; replace H := qob.mp H; obtain ⟨⟨t173, t174⟩, A120, H⟩ := H; replace H : (if t172 = true then (some (([] : List (S40)), 5)) else (if t174 = true then (some (([] : List (S40)), 5)) else (if x4_1.length < 35184372088832 then (impl_ReadCurve.l0 k1 a0 (x4_1 ++ [(⟨IntKind.i16.wrap (t171), IntKind.i16.wrap (t173)⟩ : S40)]) t164 (t164.length : Int) (wrap64 (x18_1 + 1))) else (none)))) = some (r1, r2) := H; have A12 := Aside0.mk A120; clear A120
         by_cases c13 : t172 = true
         · subst c13
           (have H1 : (some (([] : List (S40)), 5)) = some (r1, r2) := by rw [if_pos rfl] at H; exact H); clear H; have H := H1; clear H1; simp only [Option.some.injEq, Prod.mk.injEq] at H; obtain ⟨rfl, rfl⟩ := H; have p167 : 0 ≤ (x18_1 : Int) := of_decide_eq_true (by first | (with_reducible assumption) | assumption); have q167 : x18_1 < (t164.length : Int) := of_decide_eq_true (by first | (with_reducible assumption) | assumption); obtain ⟨ad167, e167, hx167_0⟩ := Kd.at_string (Kd.R_reads' HO_16.out).2.2 x18_1 p167 q167
           cases e167
           replace p167 := eq_true p167; replace q167 := eq_true q167; go_wp2_with (first | ((with_reducible refine gate_callee (f := 25) rfl ?_); refine goesL_ (some 24) rfl rfl Tryz.func25 (by kernel_rfl) rfl #[.string (rdOf ByteArray.empty t164 x18_1), .string (⟨#[58]⟩ : ByteArray)] rfl (by (try simp only [sqa, sqb, sqc]); first | done | rfl | (simp only [sqd, sqt]; rfl)) ?_; (with_reducible refine (strings_Cut.calls (rdOf ByteArray.empty t164 x18_1) (⟨#[58]⟩ : ByteArray) t168 t169 t170 _ A10.out ?gl_).mono ?_); (case gl_ => exact GlobW.at_ HG.out (by repeat (first | (with_reducible first | exact HB.out | apply qa | apply qn | apply qd | refine below_set ?_ (Aside0.out (by assumption))) | exact HB.out))); rintro e w14 ⟨rfl, hb⟩; refine ⟨_, rfl, ?_⟩; have n0_ := Aside0.mk (Kd.R_below (by (with_reducible repeat (first | apply qra | apply qrn | apply qro)); exact HO_4.out) hb); have n1_ := Aside0.mk (Kd.R_below (by (with_reducible repeat (first | apply qra | apply qrn | apply qro)); exact HO_16.out) hb); have n2_ := Aside0.mk (qs (by repeat (first | (with_reducible first | exact HB.out | apply qa | apply qn | apply qd) | exact HB.out)) hb); clear HO_4; clear HO_16; clear HB; have HO_4 := n0_; have HO_16 := n1_; have HB := n2_; clear n0_ n1_ n2_; (try clear hb); (try clear hb2); (try clear hk); (try clear hi)) | ((with_reducible refine gate_callee (f := 26) rfl ?_); refine goesL_ (some 30) rfl rfl Tryz.func26 (by kernel_rfl) rfl #[.string t168, .int .i64 10, .int .i64 16] rfl (by (try simp only [sqa, sqb, sqc]); first | done | rfl | (simp only [sqd, sqt]; rfl)) ?_; (with_reducible refine (strconv_ParseInt.calls t168 10 16 t171 true _ A11.out ?gl_).mono ?_); (case gl_ => exact GlobW.at_ HG.out (by repeat (first | (with_reducible first | exact HB.out | apply qa | apply qn | apply qd | refine below_set ?_ (Aside0.out (by assumption))) | exact HB.out))); rintro e w15 ⟨ev_, rfl, hev_, hb⟩; (first | (have e_ : ev_ = .nilIface := hev_; subst e_; clear hev_) | (obtain ⟨N_, e_⟩ : ∃ N : Nat, ev_ = .iface 75 (.pointer (some ⟨N, 0, none⟩)) := hev_; subst e_) | skip); refine ⟨_, rfl, ?_⟩; have n0_ := Aside0.mk (Kd.R_below (by (with_reducible repeat (first | apply qra | apply qrn | apply qro)); exact HO_4.out) hb); have n1_ := Aside0.mk (Kd.R_below (by (with_reducible repeat (first | apply qra | apply qrn | apply qro)); exact HO_16.out) hb); have n2_ := Aside0.mk (qs (by repeat (first | (with_reducible first | exact HB.out | apply qa | apply qn | apply qd) | exact HB.out)) hb); clear HO_4; clear HO_16; clear HB; have HO_4 := n0_; have HO_16 := n1_; have HB := n2_; clear n0_ n1_ n2_; (try clear hb); (try clear hb2); (try clear hk); (try clear hi)) | ((with_reducible refine gate_callee (f := 26) rfl ?_); refine goesL_ (some 35) rfl rfl Tryz.func26 (by kernel_rfl) rfl #[.string t169, .int .i64 10, .int .i64 16] rfl (by (try simp only [sqa, sqb, sqc]); first | done | rfl | (simp only [sqd, sqt]; rfl)) ?_; (with_reducible refine (strconv_ParseInt.calls t169 10 16 t173 t174 _ A12.out ?gl_).mono ?_); (case gl_ => exact GlobW.at_ HG.out (by repeat (first | (with_reducible first | exact HB.out | apply qa | apply qn | apply qd | refine below_set ?_ (Aside0.out (by assumption))) | exact HB.out))); rintro e w16 ⟨ev_, rfl, hev_, hb⟩; (first | (have e_ : ev_ = .nilIface := hev_; subst e_; clear hev_) | (obtain ⟨N_, e_⟩ : ∃ N : Nat, ev_ = .iface 75 (.pointer (some ⟨N, 0, none⟩)) := hev_; subst e_) | skip); refine ⟨_, rfl, ?_⟩; have n0_ := Aside0.mk (Kd.R_below (by (with_reducible repeat (first | apply qra | apply qrn | apply qro)); exact HO_4.out) hb); have n1_ := Aside0.mk (Kd.R_below (by (with_reducible repeat (first | apply qra | apply qrn | apply qro)); exact HO_16.out) hb); have n2_ := Aside0.mk (qs (by repeat (first | (with_reducible first | exact HB.out | apply qa | apply qn | apply qd) | exact HB.out)) hb); clear HO_4; clear HO_16; clear HB; have HO_4 := n0_; have HO_16 := n1_; have HB := n2_; clear n0_ n1_ n2_; (try clear hb); (try clear hb2); (try clear hk); (try clear hi))); go_ret2; exact ⟨_, by first | rfl | (simp [errW_none, errW_some] <;> rfl) | (simp [*, errW_none, errW_some] <;> rfl), by first | exact Kd.R_nil _ _ _ _ _ | exact Kd.N_nil _ _ _ _ _ | exact Kd.V_nil _ _ _ _ _ | exact Kd.Q_nil _ _ _ _ _ | exact Kd.S_nil _ _ _ _ _, by repeat (first | (with_reducible first | exact HB.out | apply qa | apply qn | apply qd) | exact HB.out)⟩
         · replace c13 := Bool.eq_false_iff.mpr c13
           subst c13; (have H1 : (if t174 = true then (some (([] : List (S40)), 5)) else (if x4_1.length < 35184372088832 then (impl_ReadCurve.l0 k1 a0 (x4_1 ++ [(⟨IntKind.i16.wrap (t171), IntKind.i16.wrap (t173)⟩ : S40)]) t164 (t164.length : Int) (wrap64 (x18_1 + 1))) else (none))) = some (r1, r2) := by rw [if_neg (show ¬ (false = true) by decide)] at H; exact H); clear H; have H := H1; clear H1
           by_cases c17 : t174 = true
           · subst c17
             (have H1 : (some (([] : List (S40)), 5)) = some (r1, r2) := by rw [if_pos rfl] at H; exact H); clear H; have H := H1; clear H1; simp only [Option.some.injEq, Prod.mk.injEq] at H; obtain ⟨rfl, rfl⟩ := H; have p167 : 0 ≤ (x18_1 : Int) := of_decide_eq_true (by first | (with_reducible assumption) | assumption); have q167 : x18_1 < (t164.length : Int) := of_decide_eq_true (by first | (with_reducible assumption) | assumption); obtain ⟨ad167, e167, hx167_0⟩ := Kd.at_string (Kd.R_reads' HO_16.out).2.2 x18_1 p167 q167
             cases e167
             replace p167 := eq_true p167; replace q167 := eq_true q167; go_wp2_with (first | ((with_reducible refine gate_callee (f := 25) rfl ?_); refine goesL_ (some 24) rfl rfl Tryz.func25 (by kernel_rfl) rfl #[.string (rdOf ByteArray.empty t164 x18_1), .string (⟨#[58]⟩ : ByteArray)] rfl (by (try simp only [sqa, sqb, sqc]); first | done | rfl | (simp only [sqd, sqt]; rfl)) ?_; (with_reducible refine (strings_Cut.calls (rdOf ByteArray.empty t164 x18_1) (⟨#[58]⟩ : ByteArray) t168 t169 t170 _ A10.out ?gl_).mono ?_); (case gl_ => exact GlobW.at_ HG.out (by repeat (first | (with_reducible first | exact HB.out | apply qa | apply qn | apply qd | refine below_set ?_ (Aside0.out (by assumption))) | exact HB.out))); rintro e w18 ⟨rfl, hb⟩; refine ⟨_, rfl, ?_⟩; have n0_ := Aside0.mk (Kd.R_below (by (with_reducible repeat (first | apply qra | apply qrn | apply qro)); exact HO_4.out) hb); have n1_ := Aside0.mk (Kd.R_below (by (with_reducible repeat (first | apply qra | apply qrn | apply qro)); exact HO_16.out) hb); have n2_ := Aside0.mk (qs (by repeat (first | (with_reducible first | exact HB.out | apply qa | apply qn | apply qd) | exact HB.out)) hb); clear HO_4; clear HO_16; clear HB; have HO_4 := n0_; have HO_16 := n1_; have HB := n2_; clear n0_ n1_ n2_; (try clear hb); (try clear hb2); (try clear hk); (try clear hi)) | ((with_reducible refine gate_callee (f := 26) rfl ?_); refine goesL_ (some 30) rfl rfl Tryz.func26 (by kernel_rfl) rfl #[.string t168, .int .i64 10, .int .i64 16] rfl (by (try simp only [sqa, sqb, sqc]); first | done | rfl | (simp only [sqd, sqt]; rfl)) ?_; (with_reducible refine (strconv_ParseInt.calls t168 10 16 t171 false _ A11.out ?gl_).mono ?_); (case gl_ => exact GlobW.at_ HG.out (by repeat (first | (with_reducible first | exact HB.out | apply qa | apply qn | apply qd | refine below_set ?_ (Aside0.out (by assumption))) | exact HB.out))); rintro e w19 ⟨ev_, rfl, hev_, hb⟩; (first | (have e_ : ev_ = .nilIface := hev_; subst e_; clear hev_) | (obtain ⟨N_, e_⟩ : ∃ N : Nat, ev_ = .iface 75 (.pointer (some ⟨N, 0, none⟩)) := hev_; subst e_) | skip); refine ⟨_, rfl, ?_⟩; have n0_ := Aside0.mk (Kd.R_below (by (with_reducible repeat (first | apply qra | apply qrn | apply qro)); exact HO_4.out) hb); have n1_ := Aside0.mk (Kd.R_below (by (with_reducible repeat (first | apply qra | apply qrn | apply qro)); exact HO_16.out) hb); have n2_ := Aside0.mk (qs (by repeat (first | (with_reducible first | exact HB.out | apply qa | apply qn | apply qd) | exact HB.out)) hb); clear HO_4; clear HO_16; clear HB; have HO_4 := n0_; have HO_16 := n1_; have HB := n2_; clear n0_ n1_ n2_; (try clear hb); (try clear hb2); (try clear hk); (try clear hi)) | ((with_reducible refine gate_callee (f := 26) rfl ?_); refine goesL_ (some 35) rfl rfl Tryz.func26 (by kernel_rfl) rfl #[.string t169, .int .i64 10, .int .i64 16] rfl (by (try simp only [sqa, sqb, sqc]); first | done | rfl | (simp only [sqd, sqt]; rfl)) ?_; (with_reducible refine (strconv_ParseInt.calls t169 10 16 t173 true _ A12.out ?gl_).mono ?_); (case gl_ => exact GlobW.at_ HG.out (by repeat (first | (with_reducible first | exact HB.out | apply qa | apply qn | apply qd | refine below_set ?_ (Aside0.out (by assumption))) | exact HB.out))); rintro e w20 ⟨ev_, rfl, hev_, hb⟩; (first | (have e_ : ev_ = .nilIface := hev_; subst e_; clear hev_) | (obtain ⟨N_, e_⟩ : ∃ N : Nat, ev_ = .iface 75 (.pointer (some ⟨N, 0, none⟩)) := hev_; subst e_) | skip); refine ⟨_, rfl, ?_⟩; have n0_ := Aside0.mk (Kd.R_below (by (with_reducible repeat (first | apply qra | apply qrn | apply qro)); exact HO_4.out) hb); have n1_ := Aside0.mk (Kd.R_below (by (with_reducible repeat (first | apply qra | apply qrn | apply qro)); exact HO_16.out) hb); have n2_ := Aside0.mk (qs (by repeat (first | (with_reducible first | exact HB.out | apply qa | apply qn | apply qd) | exact HB.out)) hb); clear HO_4; clear HO_16; clear HB; have HO_4 := n0_; have HO_16 := n1_; have HB := n2_; clear n0_ n1_ n2_; (try clear hb); (try clear hb2); (try clear hk); (try clear hi))); go_ret2; exact ⟨_, by first | rfl | (simp [errW_none, errW_some] <;> rfl) | (simp [*, errW_none, errW_some] <;> rfl), by first | exact Kd.R_nil _ _ _ _ _ | exact Kd.N_nil _ _ _ _ _ | exact Kd.V_nil _ _ _ _ _ | exact Kd.Q_nil _ _ _ _ _ | exact Kd.S_nil _ _ _ _ _, by repeat (first | (with_reducible first | exact HB.out | apply qa | apply qn | apply qd) | exact HB.out)⟩
           · replace c17 := Bool.eq_false_iff.mpr c17
             subst c17; (have H1 : (if x4_1.length < 35184372088832 then (impl_ReadCurve.l0 k1 a0 (x4_1 ++ [(⟨IntKind.i16.wrap (t171), IntKind.i16.wrap (t173)⟩ : S40)]) t164 (t164.length : Int) (wrap64 (x18_1 + 1))) else (none)) = some (r1, r2) := by rw [if_neg (show ¬ (false = true) by decide)] at H; exact H); clear H; have H := H1; clear H1
             by_cases c21 : x4_1.length < 35184372088832
             · rw [if_pos c21] at H
               have LMc21 := Aside0.mk c21; clear c21; obtain ⟨y175, hy175⟩ : ∃ y_ : List (S40), y_ = (x4_1 ++ [(⟨IntKind.i16.wrap (t171), IntKind.i16.wrap (t173)⟩ : S40)]) := ⟨_, rfl⟩; (replace H : (impl_ReadCurve.l0 k1 a0 y175 t164 (t164.length : Int) (wrap64 (x18_1 + 1))) = some (r1, r2) := by first | (rw [hy175]; with_reducible exact H) | (have H2_ := (Option.bind_some _ _).symm.trans H; rw [hy175]; with_reducible exact H2_) | (have H2_ := (Option.bind_some _ _).symm.trans H; with_reducible exact H2_) | with_reducible exact H | (rw [hy175]; exact H) | exact H); have Ny175 := Aside0.mk hy175; clear hy175; have H' := Aside0.mk H; clear H; have p167 : 0 ≤ (x18_1 : Int) := of_decide_eq_true (by first | (with_reducible assumption) | assumption); have q167 : x18_1 < (t164.length : Int) := of_decide_eq_true (by first | (with_reducible assumption) | assumption); obtain ⟨ad167, e167, hx167_0⟩ := Kd.at_string (Kd.R_reads' HO_16.out).2.2 x18_1 p167 q167
               cases e167
               replace p167 := eq_true p167; replace q167 := eq_true q167; go_wp2_with (first | ((with_reducible refine gate_callee (f := 25) rfl ?_); refine goesL_ (some 24) rfl rfl Tryz.func25 (by kernel_rfl) rfl #[.string (rdOf ByteArray.empty t164 x18_1), .string (⟨#[58]⟩ : ByteArray)] rfl (by (try simp only [sqa, sqb, sqc]); first | done | rfl | (simp only [sqd, sqt]; rfl)) ?_; (with_reducible refine (strings_Cut.calls (rdOf ByteArray.empty t164 x18_1) (⟨#[58]⟩ : ByteArray) t168 t169 t170 _ A10.out ?gl_).mono ?_); (case gl_ => exact GlobW.at_ HG.out (by repeat (first | (with_reducible first | exact HB.out | apply qa | apply qn | apply qd | refine below_set ?_ (Aside0.out (by assumption))) | exact HB.out))); rintro e w22 ⟨rfl, hb⟩; refine ⟨_, rfl, ?_⟩; have n0_ := Aside0.mk (Kd.R_below (by (with_reducible repeat (first | apply qra | apply qrn | apply qro)); exact HO_4.out) hb); have n1_ := Aside0.mk (Kd.R_below (by (with_reducible repeat (first | apply qra | apply qrn | apply qro)); exact HO_16.out) hb); have n2_ := Aside0.mk (qs (by repeat (first | (with_reducible first | exact HB.out | apply qa | apply qn | apply qd) | exact HB.out)) hb); clear HO_4; clear HO_16; clear HB; have HO_4 := n0_; have HO_16 := n1_; have HB := n2_; clear n0_ n1_ n2_; (try clear hb); (try clear hb2); (try clear hk); (try clear hi)) | ((with_reducible refine gate_callee (f := 26) rfl ?_); refine goesL_ (some 30) rfl rfl Tryz.func26 (by kernel_rfl) rfl #[.string t168, .int .i64 10, .int .i64 16] rfl (by (try simp only [sqa, sqb, sqc]); first | done | rfl | (simp only [sqd, sqt]; rfl)) ?_; (with_reducible refine (strconv_ParseInt.calls t168 10 16 t171 false _ A11.out ?gl_).mono ?_); (case gl_ => exact GlobW.at_ HG.out (by repeat (first | (with_reducible first | exact HB.out | apply qa | apply qn | apply qd | refine below_set ?_ (Aside0.out (by assumption))) | exact HB.out))); rintro e w23 ⟨ev_, rfl, hev_, hb⟩; (first | (have e_ : ev_ = .nilIface := hev_; subst e_; clear hev_) | (obtain ⟨N_, e_⟩ : ∃ N : Nat, ev_ = .iface 75 (.pointer (some ⟨N, 0, none⟩)) := hev_; subst e_) | skip); refine ⟨_, rfl, ?_⟩; have n0_ := Aside0.mk (Kd.R_below (by (with_reducible repeat (first | apply qra | apply qrn | apply qro)); exact HO_4.out) hb); have n1_ := Aside0.mk (Kd.R_below (by (with_reducible repeat (first | apply qra | apply qrn | apply qro)); exact HO_16.out) hb); have n2_ := Aside0.mk (qs (by repeat (first | (with_reducible first | exact HB.out | apply qa | apply qn | apply qd) | exact HB.out)) hb); clear HO_4; clear HO_16; clear HB; have HO_4 := n0_; have HO_16 := n1_; have HB := n2_; clear n0_ n1_ n2_; (try clear hb); (try clear hb2); (try clear hk); (try clear hi)) | ((with_reducible refine gate_callee (f := 26) rfl ?_); refine goesL_ (some 35) rfl rfl Tryz.func26 (by kernel_rfl) rfl #[.string t169, .int .i64 10, .int .i64 16] rfl (by (try simp only [sqa, sqb, sqc]); first | done | rfl | (simp only [sqd, sqt]; rfl)) ?_; (with_reducible refine (strconv_ParseInt.calls t169 10 16 t173 false _ A12.out ?gl_).mono ?_); (case gl_ => exact GlobW.at_ HG.out (by repeat (first | (with_reducible first | exact HB.out | apply qa | apply qn | apply qd | refine below_set ?_ (Aside0.out (by assumption))) | exact HB.out))); rintro e w24 ⟨ev_, rfl, hev_, hb⟩; (first | (have e_ : ev_ = .nilIface := hev_; subst e_; clear hev_) | (obtain ⟨N_, e_⟩ : ∃ N : Nat, ev_ = .iface 75 (.pointer (some ⟨N, 0, none⟩)) := hev_; subst e_) | skip); refine ⟨_, rfl, ?_⟩; have n0_ := Aside0.mk (Kd.R_below (by (with_reducible repeat (first | apply qra | apply qrn | apply qro)); exact HO_4.out) hb); have n1_ := Aside0.mk (Kd.R_below (by (with_reducible repeat (first | apply qra | apply qrn | apply qro)); exact HO_16.out) hb); have n2_ := Aside0.mk (qs (by repeat (first | (with_reducible first | exact HB.out | apply qa | apply qn | apply qd) | exact HB.out)) hb); clear HO_4; clear HO_16; clear HB; have HO_4 := n0_; have HO_16 := n1_; have HB := n2_; clear n0_ n1_ n2_; (try clear hb); (try clear hb2); (try clear hk); (try clear hi)) | ((with_reducible refine gate_builtin (b := .append) (xs := #[.tmp 44, .tmp 50]) rfl ?_); at_builtin; refine Kd.R_append k40 (w0 := w) w.heap.size rfl (.tmp 44) (.tmp 50) 25 40 (.agg #[(.int .i16 0), (.int .i16 0)]) 4 rfl Tryz.underlying25 info40 rfl (by decide) (by omega) u4 x4_1 (⟨IntKind.i16.wrap (t171), IntKind.i16.wrap (t173)⟩ : S40) [.int .i16 (IntKind.i16.wrap (t171)), .int .i16 (IntKind.i16.wrap (t173))] (fun _ => True) (fun _ => False) rfl rfl ?aP (fun _ hk => hk.elim) ?aF ?aO ?aB ?aS ?aL ?_; (case aP => exact k40_mkM _ _ _ (⟨IntKind.i16.wrap (t171), IntKind.i16.wrap (t173)⟩ : S40)); (case aB => exact (by repeat (first | (with_reducible first | exact HB.out | apply qa | apply qn | apply qd) | exact HB.out))); (case aF => exact (fun _ _ => trivial)); (case aO => exact (by (with_reducible repeat (first | apply qra | apply qrn | apply qro)); exact HO_4.out)); (case aS => exact (qz (by repeat (first | (with_reducible first | exact HB.out | apply qa | apply qn | apply qd) | exact HB.out)))); (case aL => have := LMc21.out; omega); intro v176 w25 ho hb hg hat; rw [← Ny175.out] at ho; have n0_ := Aside0.mk (Kd.R_over' (by (with_reducible repeat (first | apply qra | apply qrn | apply qro)); exact HO_16.out) (Kd.R_typed (by (with_reducible repeat (first | apply qra | apply qrn | apply qro)); exact HO_4.out)) (by decide) hg); have n1_ := Aside0.mk (hb); have n2_ := Aside0.mk (ho); clear HO_16; clear HB; clear HO_4; have HO_16 := n0_; have HB := n1_; have HO177 := n2_; clear n0_ n1_ n2_; clear ho hb hg hat)); go_roundg k1
               case measure => have := HK1.out; omega
               case rel => exact ⟨(y175), (wrap64 (x18_1 + 1)), (by first | rfl | (simp; done) | (simp [*]; done)), H', ⟨by have := HK1.out; omega⟩, ⟨by (with_reducible repeat (first | apply qra | apply qrn | apply qro)); exact HO177.out⟩, ⟨by (with_reducible repeat (first | apply qra | apply qrn | apply qro)); exact HO_16.out⟩, ⟨by repeat (first | (with_reducible first | exact HB.out | apply qa | apply qn | apply qd) | exact HB.out)⟩⟩
             · rw [if_neg c21] at H
               exact absurd H (by simp)
       · rw [if_neg c9] at H
         exact absurd H (by simp)
     · rw [if_neg c8] at H
       exact absurd H (by simp)
   · rw [if_neg c7] at H
     have c7b0 : decide (x18_1 < (t164.length : Int)) = false := decide_eq_false c7; clear c7; replace H := qob.mp H; obtain ⟨t178, A260, H⟩ := H; replace H : (if t178 = true then ((impl_curveText.f k1 x4_1).bind fun t179 => (if t179.toList = a0.toList then (some (x4_1, 0)) else (some (([] : List (S40)), 5)))) else (some (([] : List (S40)), 5))) = some (r1, r2) := H; have A26 := Aside0.mk A260; clear A260
     by_cases c27 : t178 = true
     · subst c27
       (have H1 : ((impl_curveText.f k1 x4_1).bind fun t179 => (if t179.toList = a0.toList then (some (x4_1, 0)) else (some (([] : List (S40)), 5)))) = some (r1, r2) := by rw [if_pos rfl] at H; exact H); clear H; have H := H1; clear H1; replace H := qob.mp H; obtain ⟨t179, A280, H⟩ := H; replace H : (if t179.toList = a0.toList then (some (x4_1, 0)) else (some (([] : List (S40)), 5))) = some (r1, r2) := H; have A28 := Aside0.mk A280; clear A280
       by_cases c29 : t179.toList = a0.toList
       · rw [if_pos c29] at H
         have c29b0 : (t179.toList == a0.toList) = true := beq_iff_eq.mpr c29; have c29b1 : (t179.toList != a0.toList) = false := bne_eq_false_iff_eq.mpr c29; clear c29; simp only [Option.some.injEq, Prod.mk.injEq] at H; obtain ⟨rfl, rfl⟩ := H; obtain ⟨Ao30, co30, eo30⟩ := Kd.R_slice HO_4.out; subst eo30; go_wp2_with (first | ((with_reducible refine gate_callee (f := 11) rfl ?_); refine goesL_ (some 54) rfl rfl Tryz.func11 (by kernel_rfl) rfl #[.slice Ao30 x4_1.length co30] rfl (by (try simp only [sqa, sqb, sqc]); first | done | rfl | (simp only [sqd, sqt]; rfl)) ?_; (with_reducible refine (impl_ValidCurve.calls k1 _ _ x4_1 true _ ?side1 ?side2 A26.out).mono ?_); (case side1 => repeat (first | exact (Kd.R_reads' HO_4.out).2.2 | (with_reducible refine qca ?_ _) | (with_reducible refine qcn ?_ _) | (with_reducible refine qco ?_))); (case side2 => exact (Kd.R_reads' HO_4.out).2.1); rintro e w31 ⟨rfl, hb⟩; refine ⟨_, rfl, ?_⟩; have n0_ := Aside0.mk (Kd.R_below (by (with_reducible repeat (first | apply qra | apply qrn | apply qro)); exact HO_4.out) hb); have n1_ := Aside0.mk (Kd.R_below (by (with_reducible repeat (first | apply qra | apply qrn | apply qro)); exact HO_16.out) hb); have n2_ := Aside0.mk (qs (by repeat (first | (with_reducible first | exact HB.out | apply qa | apply qn | apply qd) | exact HB.out)) hb); clear HO_4; clear HO_16; clear HB; have HO_4 := n0_; have HO_16 := n1_; have HB := n2_; clear n0_ n1_ n2_; (try clear hb); (try clear hb2); (try clear hk); (try clear hi)) | (go_at_call 27; (with_reducible refine (impl_curveText.calls k1 _ _ x4_1 t179 _ ?side1 ?side2 A28.out ?gl_).mono ?_); (case gl_ => exact GlobW.at_ HG.out (by repeat (first | (with_reducible first | exact HB.out | apply qa | apply qn | apply qd | refine below_set ?_ (Aside0.out (by assumption))) | exact HB.out))); (case side1 => repeat (first | exact (Kd.R_reads' HO_4.out).2.2 | (with_reducible refine qca ?_ _) | (with_reducible refine qcn ?_ _) | (with_reducible refine qco ?_))); (case side2 => exact (Kd.R_reads' HO_4.out).2.1); rintro e w32 ⟨rfl, hb⟩; have n0_ := Aside0.mk (Kd.R_below (by (with_reducible repeat (first | apply qra | apply qrn | apply qro)); exact HO_4.out) hb); have n1_ := Aside0.mk (Kd.R_below (by (with_reducible repeat (first | apply qra | apply qrn | apply qro)); exact HO_16.out) hb); have n2_ := Aside0.mk (qs (by repeat (first | (with_reducible first | exact HB.out | apply qa | apply qn | apply qd) | exact HB.out)) hb); clear HO_4; clear HO_16; clear HB; have HO_4 := n0_; have HO_16 := n1_; have HB := n2_; clear n0_ n1_ n2_; (try clear hb); (try clear hb2); (try clear hk); (try clear hi))); go_ret2; exact ⟨_, by first | rfl | (simp [errW_none, errW_some] <;> rfl) | (simp [*, errW_none, errW_some] <;> rfl), by (with_reducible repeat (first | apply qra | apply qrn | apply qro)); exact HO_4.out, by repeat (first | (with_reducible first | exact HB.out | apply qa | apply qn | apply qd) | exact HB.out)⟩
       · rw [if_neg c29] at H
         have c29b0 : (t179.toList == a0.toList) = false := beq_eq_false_iff_ne.mpr c29; have c29b1 : (t179.toList != a0.toList) = true := bne_iff_ne.mpr c29; simp only [Option.some.injEq, Prod.mk.injEq] at H; obtain ⟨rfl, rfl⟩ := H; obtain ⟨Ao33, co33, eo33⟩ := Kd.R_slice HO_4.out; subst eo33; go_wp2_with (first | ((with_reducible refine gate_callee (f := 11) rfl ?_); refine goesL_ (some 54) rfl rfl Tryz.func11 (by kernel_rfl) rfl #[.slice Ao33 x4_1.length co33] rfl (by (try simp only [sqa, sqb, sqc]); first | done | rfl | (simp only [sqd, sqt]; rfl)) ?_; (with_reducible refine (impl_ValidCurve.calls k1 _ _ x4_1 true _ ?side1 ?side2 A26.out).mono ?_); (case side1 => repeat (first | exact (Kd.R_reads' HO_4.out).2.2 | (with_reducible refine qca ?_ _) | (with_reducible refine qcn ?_ _) | (with_reducible refine qco ?_))); (case side2 => exact (Kd.R_reads' HO_4.out).2.1); rintro e w34 ⟨rfl, hb⟩; refine ⟨_, rfl, ?_⟩; have n0_ := Aside0.mk (Kd.R_below (by (with_reducible repeat (first | apply qra | apply qrn | apply qro)); exact HO_4.out) hb); have n1_ := Aside0.mk (Kd.R_below (by (with_reducible repeat (first | apply qra | apply qrn | apply qro)); exact HO_16.out) hb); have n2_ := Aside0.mk (qs (by repeat (first | (with_reducible first | exact HB.out | apply qa | apply qn | apply qd) | exact HB.out)) hb); clear HO_4; clear HO_16; clear HB; have HO_4 := n0_; have HO_16 := n1_; have HB := n2_; clear n0_ n1_ n2_; (try clear hb); (try clear hb2); (try clear hk); (try clear hi)) | (go_at_call 27; (with_reducible refine (impl_curveText.calls k1 _ _ x4_1 t179 _ ?side1 ?side2 A28.out ?gl_).mono ?_); (case gl_ => exact GlobW.at_ HG.out (by repeat (first | (with_reducible first | exact HB.out | apply qa | apply qn | apply qd | refine below_set ?_ (Aside0.out (by assumption))) | exact HB.out))); (case side1 => repeat (first | exact (Kd.R_reads' HO_4.out).2.2 | (with_reducible refine qca ?_ _) | (with_reducible refine qcn ?_ _) | (with_reducible refine qco ?_))); (case side2 => exact (Kd.R_reads' HO_4.out).2.1); rintro e w35 ⟨rfl, hb⟩; have n0_ := Aside0.mk (Kd.R_below (by (with_reducible repeat (first | apply qra | apply qrn | apply qro)); exact HO_4.out) hb); have n1_ := Aside0.mk (Kd.R_below (by (with_reducible repeat (first | apply qra | apply qrn | apply qro)); exact HO_16.out) hb); have n2_ := Aside0.mk (qs (by repeat (first | (with_reducible first | exact HB.out | apply qa | apply qn | apply qd) | exact HB.out)) hb); clear HO_4; clear HO_16; clear HB; have HO_4 := n0_; have HO_16 := n1_; have HB := n2_; clear n0_ n1_ n2_; (try clear hb); (try clear hb2); (try clear hk); (try clear hi))); go_ret2; exact ⟨_, by first | rfl | (simp [errW_none, errW_some] <;> rfl) | (simp [*, errW_none, errW_some] <;> rfl), by first | exact Kd.R_nil _ _ _ _ _ | exact Kd.N_nil _ _ _ _ _ | exact Kd.V_nil _ _ _ _ _ | exact Kd.Q_nil _ _ _ _ _ | exact Kd.S_nil _ _ _ _ _, by repeat (first | (with_reducible first | exact HB.out | apply qa | apply qn | apply qd) | exact HB.out)⟩
     · replace c27 := Bool.eq_false_iff.mpr c27
       subst c27; (have H1 : (some (([] : List (S40)), 5)) = some (r1, r2) := by rw [if_neg (show ¬ (false = true) by decide)] at H; exact H); clear H; have H := H1; clear H1; simp only [Option.some.injEq, Prod.mk.injEq] at H; obtain ⟨rfl, rfl⟩ := H; obtain ⟨Ao36, co36, eo36⟩ := Kd.R_slice HO_4.out; subst eo36; go_wp2_with (first | ((with_reducible refine gate_callee (f := 11) rfl ?_); refine goesL_ (some 54) rfl rfl Tryz.func11 (by kernel_rfl) rfl #[.slice Ao36 x4_1.length co36] rfl (by (try simp only [sqa, sqb, sqc]); first | done | rfl | (simp only [sqd, sqt]; rfl)) ?_; (with_reducible refine (impl_ValidCurve.calls k1 _ _ x4_1 false _ ?side1 ?side2 A26.out).mono ?_); (case side1 => repeat (first | exact (Kd.R_reads' HO_4.out).2.2 | (with_reducible refine qca ?_ _) | (with_reducible refine qcn ?_ _) | (with_reducible refine qco ?_))); (case side2 => exact (Kd.R_reads' HO_4.out).2.1); rintro e w37 ⟨rfl, hb⟩; refine ⟨_, rfl, ?_⟩; have n0_ := Aside0.mk (Kd.R_below (by (with_reducible repeat (first | apply qra | apply qrn | apply qro)); exact HO_4.out) hb); have n1_ := Aside0.mk (Kd.R_below (by (with_reducible repeat (first | apply qra | apply qrn | apply qro)); exact HO_16.out) hb); have n2_ := Aside0.mk (qs (by repeat (first | (with_reducible first | exact HB.out | apply qa | apply qn | apply qd) | exact HB.out)) hb); clear HO_4; clear HO_16; clear HB; have HO_4 := n0_; have HO_16 := n1_; have HB := n2_; clear n0_ n1_ n2_; (try clear hb); (try clear hb2); (try clear hk); (try clear hi))); go_ret2; exact ⟨_, by first | rfl | (simp [errW_none, errW_some] <;> rfl) | (simp [*, errW_none, errW_some] <;> rfl), by first | exact Kd.R_nil _ _ _ _ _ | exact Kd.N_nil _ _ _ _ _ | exact Kd.V_nil _ _ _ _ _ | exact Kd.Q_nil _ _ _ _ _ | exact Kd.S_nil _ _ _ _ _, by repeat (first | (with_reducible first | exact HB.out | apply qa | apply qn | apply qd) | exact HB.out)⟩

/-! ### impl_CurveText: function 7 -/
def impl_CurveText.f (k : Nat) (l0 : List (S40)) : Option (ByteArray) := (impl_ValidCurve.f k l0).bind fun t180 => (if t180 = true then ((impl_curveText.f k l0).bind fun t181 => (some t181)) else (some (⟨#[]⟩ : ByteArray)))
theorem impl_CurveText.mono : ∀ a0 k, LeO (impl_CurveText.f k a0) (impl_CurveText.f (k + 1) a0) := by
 intro a0 k
 unfold impl_CurveText.f
 repeat' first | (with_reducible first | exact impl_ValidCurve.mono _ _ | exact impl_curveText.mono _ _ | exact LeO.refl _ | exact LeO.none _ | refine LeO.ite ?_ ?_ | refine LeO.bind ?_ (fun _ => ?_)) | exact impl_ValidCurve.mono _ _ | exact impl_curveText.mono _ _ | exact LeO.none _ | refine LeO.ite ?_ ?_ | refine LeO.bind ?_ (fun _ => ?_)
set_option maxHeartbeats 8000000 in
set_option maxRecDepth 100000 in
theorem impl_CurveText.calls (k : Nat) (A0 : Option Addr) (c0 : Nat) (l0 : List (S40)) (r : ByteArray) (w : World) (hr0 : Kd.C k40 w A0 l0.length l0) (hc0 : l0.length ≤ c0) (h : impl_CurveText.f k l0 = some r) (hg_ : GlobW w) :
 Calls Tryz.prog 7 #[.slice A0 l0.length c0] w fun e w' => e = .returned (.string r) ∧ Below w.heap.size w w' := by
 have HG := Aside0.mk hg_
 clear hg_
 have HR0 := Aside0.mk hr0
 have HC0 := Aside0.mk hc0
 clear hr0 hc0
 have HB := Aside0.mk (Below.refl w.heap.size w)
 have H : ((impl_ValidCurve.f k l0).bind fun t180 => (if t180 = true then ((impl_curveText.f k l0).bind fun t181 => (some t181)) else (some (⟨#[]⟩ : ByteArray)))) = some r := h
 clear h
 replace H := qob.mp H
 obtain ⟨t180, A20, H⟩ := H
 replace H : (if t180 = true then ((impl_curveText.f k l0).bind fun t181 => (some t181)) else (some (⟨#[]⟩ : ByteArray))) = some r := H
 have A2 := Aside0.mk A20
 clear A20
 by_cases c3 : t180 = true
 · subst c3
   (have H1 : ((impl_curveText.f k l0).bind fun t181 => (some t181)) = some r := by rw [if_pos rfl] at H; exact H); clear H; have H := H1; clear H1; replace H := qob.mp H; obtain ⟨t181, A40, H⟩ := H; replace H : (some t181) = some r := H; have A4 := Aside0.mk A40; clear A40; obtain rfl := Option.some.inj H; go_enter Tryz.func7, Tryz.ntmps7; go_wp2_with (first | ((with_reducible refine gate_callee (f := 11) rfl ?_); refine goesL_ (some 4) rfl rfl Tryz.func11 (by kernel_rfl) rfl #[.slice A0 l0.length c0] rfl (by (try simp only [sqa, sqb, sqc]); first | done | rfl | (simp only [sqd, sqt]; rfl)) ?_; (with_reducible refine (impl_ValidCurve.calls k _ _ l0 true _ ?side1 ?side2 A2.out).mono ?_); (case side1 => repeat (first | exact HR0.out | (with_reducible refine qca ?_ _) | (with_reducible refine qcn ?_ _) | (with_reducible refine qco ?_))); (case side2 => exact HC0.out); rintro e w5 ⟨rfl, hb⟩; refine ⟨_, rfl, ?_⟩; have n0_ := Aside0.mk (qs (by repeat (first | (with_reducible first | exact HB.out | apply qa | apply qn | apply qd) | exact HB.out)) hb); clear HB; have HB := n0_; clear n0_; (try clear hb); (try clear hb2); (try clear hk); (try clear hi)) | ((with_reducible refine gate_callee (f := 27) rfl ?_); refine goesL_ (some 7) rfl rfl Tryz.func27 (by kernel_rfl) rfl #[.slice A0 l0.length c0] rfl (by (try simp only [sqa, sqb, sqc]); first | done | rfl | (simp only [sqd, sqt]; rfl)) ?_; (with_reducible refine (impl_curveText.calls k _ _ l0 t181 _ ?side1 ?side2 A4.out ?gl_).mono ?_); (case gl_ => exact GlobW.at_ HG.out (by repeat (first | (with_reducible first | exact HB.out | apply qa | apply qn | apply qd | refine below_set ?_ (Aside0.out (by assumption))) | exact HB.out))); (case side1 => repeat (first | exact (Kd.C_below HR0.out HB.out) | (with_reducible refine qca ?_ _) | (with_reducible refine qcn ?_ _) | (with_reducible refine qco ?_))); (case side2 => exact HC0.out); rintro e w6 ⟨rfl, hb⟩; refine ⟨_, rfl, ?_⟩; have n0_ := Aside0.mk (qs (by repeat (first | (with_reducible first | exact HB.out | apply qa | apply qn | apply qd) | exact HB.out)) hb); clear HB; have HB := n0_; clear n0_; (try clear hb); (try clear hb2); (try clear hk); (try clear hi))); go_ret; exact ⟨by first | rfl | (simp [errW_none, errW_some] <;> rfl) | (simp [*, errW_none, errW_some] <;> rfl), by repeat (first | (with_reducible first | exact HB.out | apply qa | apply qn | apply qd) | exact HB.out)⟩
 · replace c3 := Bool.eq_false_iff.mpr c3
   subst c3; (have H1 : (some (⟨#[]⟩ : ByteArray)) = some r := by rw [if_neg (show ¬ (false = true) by decide)] at H; exact H); clear H; have H := H1; clear H1; obtain rfl := Option.some.inj H; go_enter Tryz.func7, Tryz.ntmps7; go_wp2_with (first | ((with_reducible refine gate_callee (f := 11) rfl ?_); refine goesL_ (some 4) rfl rfl Tryz.func11 (by kernel_rfl) rfl #[.slice A0 l0.length c0] rfl (by (try simp only [sqa, sqb, sqc]); first | done | rfl | (simp only [sqd, sqt]; rfl)) ?_; (with_reducible refine (impl_ValidCurve.calls k _ _ l0 false _ ?side1 ?side2 A2.out).mono ?_); (case side1 => repeat (first | exact HR0.out | (with_reducible refine qca ?_ _) | (with_reducible refine qcn ?_ _) | (with_reducible refine qco ?_))); (case side2 => exact HC0.out); rintro e w7 ⟨rfl, hb⟩; refine ⟨_, rfl, ?_⟩; have n0_ := Aside0.mk (qs (by repeat (first | (with_reducible first | exact HB.out | apply qa | apply qn | apply qd) | exact HB.out)) hb); clear HB; have HB := n0_; clear n0_; (try clear hb); (try clear hb2); (try clear hk); (try clear hi))); go_ret; exact ⟨by first | rfl | (simp [errW_none, errW_some] <;> rfl) | (simp [*, errW_none, errW_some] <;> rfl), by repeat (first | (with_reducible first | exact HB.out | apply qa | apply qn | apply qd) | exact HB.out)⟩

end Go.Proofs.YtfhbjjkkhjijmaaGreatDoor.PFnCurves
