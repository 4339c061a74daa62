/- Proves the row of one law whose arguments are arrays of whole numbers by value. Conditions: none. -/
import Derived.Test.YtpdgfmiknegmoaaRows
import Derived.Test.YtpdgfmiknegmoaaArrFnExactGreatestDifference
import Derived.WalkKit
import Derived.ProofKit
import Derived.OpenShut
import Derived.ShutString
import Derived.ChangeOld
import Derived.Below
import Derived.SizedLaws
import Derived.Lib.SmallJoins
import Derived.Carry
import Derived.ChangeArms
namespace Go.Proofs.Ytpdgfmiknegmoaa.fnExactGreatestDifference
open Go.ChangeShapes Go.WideShapes Go.ChangeAt Go.RowKit
open Go.ChangeMaps (open_string shut_string)
set_option linter.unusedVariables false
theorem own : ownKnob Try.prog.godebug = none := by kernel_rfl
theorem laidOut : laidOutB Try.prog = true := by kernel_rfl
theorem cells : Try.prog.cellsOf 27 = 64 := by kernel_rfl
theorem cell1 : Try.prog.cellsOf 26 = 1 := by kernel_rfl
def toInt : Value → Int
  | .int _ n => n
  | _ => 0
theorem open_arr {H : Type} {enc : TypeId × Value → H} {W : World} {base : Nat} {spare : Nat → Bool} {held : Bool} {cs : Array Value} {d : DataW H} {ps : List MemPlace} (hsz : cs.size = 64)
    (h : DataW.Trod enc Try.prog W base spare held 27 (.agg cs) d ps) : ∃ l : List Int, cs = PFnExactGreatestDifference.enc16 l ∧ l.length = 64 ∧ ∀ i : Nat, i < 64 → -32768 ≤ l.getD i 0 ∧ l.getD i 0 ≤ 32767 := by
  obtain ⟨fuel, hf⟩ := h
  obtain ⟨xs, m, _, _, hl, hx, each⟩ := DataW.trod_array Try.underlying27 hf
  rw [cell1] at each
  have e : ∀ i (hi : i < cs.size), ∃ n, cs[i] = .int .i16 n ∧ (Lit.int .i16 n).wf = true := by
    intro i hi
    have h1 := each i (by omega)
    have h2 : ((Value.cells (.agg cs)).toList.drop (i * 1)).take 1 = [cs[i]] := by
      simp only [Value.cells, Nat.mul_one]
      rw [List.drop_eq_getElem_cons (by simpa using hi)]
      simp
    rw [h2] at h1
    have h3 : i < xs.length := by omega
    rw [List.getElem?_eq_getElem h3] at h1
    obtain ⟨n, e0, _, w0⟩ := DataW.trod_int Try.underlying26 h1
    simp only [List.cons.injEq, and_true] at e0
    exact ⟨n, e0, w0⟩
  refine ⟨cs.toList.map toInt, ?_, by simp [hsz], fun i hi => ?_⟩
  · apply Array.ext
    · simp [PFnExactGreatestDifference.enc16]
    · intro i h1 h2
      obtain ⟨n, e0, _⟩ := e i h1
      simp [PFnExactGreatestDifference.enc16, e0, toInt]
  · obtain ⟨n, e0, w0⟩ := e i (by omega)
    have g : (cs.toList.map toInt).getD i 0 = n := by
      simp [List.getD_eq_getElem?_getD, hsz, hi, e0, toInt]
    rw [g]
    have h2 : (decide ((-32768 : Int) ≤ n) && decide (n ≤ 32767)) = true := w0
    simpa using h2
set_option maxRecDepth 100000 in
theorem lifted (os : Os) (started : os.Started) (H : Type) (enc : TypeId × Value → H) :
    ReturnsInHanded {} Try.checked os 9 .any (Rows.fnExactGreatestDifferenceSpec.pre6 enc Try.prog Try.f9 Rows.fnExactGreatestDifferenceRow.domain false) (Rows.fnExactGreatestDifferenceSpec.post enc Try.prog Try.f9 false true false false) := by
  refine returnsInHanded_of_change_sized (C := Try.checked) own started (by kernel_rfl) Try.func9
    (ChangeSpec.witness6 (enc := enc) (C := Try.checked) false ⟨#[], #[.agg #[.int .i16 0, .int .i16 0, .int .i16 0, .int .i16 0, .int .i16 0, .int .i16 0, .int .i16 0, .int .i16 0, .int .i16 0, .int .i16 0, .int .i16 0, .int .i16 0, .int .i16 0, .int .i16 0, .int .i16 0, .int .i16 0, .int .i16 0, .int .i16 0, .int .i16 0, .int .i16 0, .int .i16 0, .int .i16 0, .int .i16 0, .int .i16 0, .int .i16 0, .int .i16 0, .int .i16 0, .int .i16 0, .int .i16 0, .int .i16 0, .int .i16 0, .int .i16 0, .int .i16 0, .int .i16 0, .int .i16 0, .int .i16 0, .int .i16 0, .int .i16 0, .int .i16 0, .int .i16 0, .int .i16 0, .int .i16 0, .int .i16 0, .int .i16 0, .int .i16 0, .int .i16 0, .int .i16 0, .int .i16 0, .int .i16 0, .int .i16 0, .int .i16 0, .int .i16 0, .int .i16 0, .int .i16 0, .int .i16 0, .int .i16 0, .int .i16 0, .int .i16 0, .int .i16 0, .int .i16 0, .int .i16 0, .int .i16 0, .int .i16 0, .int .i16 0], .agg #[.int .i16 0, .int .i16 0, .int .i16 0, .int .i16 0, .int .i16 0, .int .i16 0, .int .i16 0, .int .i16 0, .int .i16 0, .int .i16 0, .int .i16 0, .int .i16 0, .int .i16 0, .int .i16 0, .int .i16 0, .int .i16 0, .int .i16 0, .int .i16 0, .int .i16 0, .int .i16 0, .int .i16 0, .int .i16 0, .int .i16 0, .int .i16 0, .int .i16 0, .int .i16 0, .int .i16 0, .int .i16 0, .int .i16 0, .int .i16 0, .int .i16 0, .int .i16 0, .int .i16 0, .int .i16 0, .int .i16 0, .int .i16 0, .int .i16 0, .int .i16 0, .int .i16 0, .int .i16 0, .int .i16 0, .int .i16 0, .int .i16 0, .int .i16 0, .int .i16 0, .int .i16 0, .int .i16 0, .int .i16 0, .int .i16 0, .int .i16 0, .int .i16 0, .int .i16 0, .int .i16 0, .int .i16 0, .int .i16 0, .int .i16 0, .int .i16 0, .int .i16 0, .int .i16 0, .int .i16 0, .int .i16 0, .int .i16 0, .int .i16 0, .int .i16 0]], []⟩ 80 (by kernel_rfl) (by kernel_rfl) (by kernel_rfl) (by kernel_rfl)) ?_
  intro W base args ds gs before hval0 hW hcnd hsz0 _
  have hval : ∀ (j : Nat) t v, Try.f9.params[j]? = some t → args[j]? = some v → Value.okWide Try.prog W .any base t v := hval0
  have hW' := hW
  obtain ⟨p, q, hA0, hV, rfl, hfz, hnd⟩ := hW
  have hA : DataW.TrodAll enc Try.prog W 0 (fun _ => true) true Try.f9.params.toList args.toList ds p := hA0
  rw [Try.params9] at hA hval
  obtain ⟨v0, vs0, d0, ds0, p0, q0, hargs, rfl, rfl, h0, r0⟩ := trodAll_cons hA
  obtain ⟨v1, vs1, d1, ds1, p1, q1, rfl, rfl, rfl, h1, r1⟩ := trodAll_cons r0
  obtain ⟨rfl, rfl, rfl⟩ := trodAll_nil r1
  obtain rfl : args = #[v0, v1] := by cases args; simp_all
  obtain ⟨rfl, rfl⟩ := trodVars_none hV
  have k0 := h0
  have lt0 : ∀ x ∈ p0, x.block < W.heap.size := by obtain ⟨m, hm⟩ := k0; exact DataW.trod_lt m _ _ _ hm
  obtain ⟨c0, rfl, z0, _⟩ : ∃ cs, v0 = .agg cs ∧ cs.size = Try.prog.cellsOf 27 ∧ Row.okWide Try.prog W .any base 27 cs := by
    have := hval 0 27 v0 rfl rfl
    simpa [Value.okWide, Try.underlying27] using this
  rw [cells] at z0
  obtain ⟨l0, rfl, hl0, hw0⟩ := open_arr z0 h0
  have k1 := h1
  have lt1 : ∀ x ∈ p1, x.block < W.heap.size := by obtain ⟨m, hm⟩ := k1; exact DataW.trod_lt m _ _ _ hm
  obtain ⟨c1, rfl, z1, _⟩ : ∃ cs, v1 = .agg cs ∧ cs.size = Try.prog.cellsOf 27 ∧ Row.okWide Try.prog W .any base 27 cs := by
    have := hval 1 27 v1 rfl rfl
    simpa [Value.okWide, Try.underlying27] using this
  rw [cells] at z1
  obtain ⟨l1, rfl, hl1, hw1⟩ := open_arr z1 h1
  clear hA0 hval0 hsz0
  refine (PFnExactGreatestDifference.law_calls l0 hl0 hw0 l1 hl1 hw1 W).mono fun e W' ⟨he, bel⟩ => ?_
  subst he
  exact ⟨_, rfl, _, _, _, [], _, [], hW', trodAll_mk1 (shut_bool Try.underlying4 _), (trodAll_cons_mk (Below.trod laidOut (by kernel_rfl) (of_decide_eq_true (by kernel_rfl)) k0 bel lt0) (trodAll_cons_mk (Below.trod laidOut (by kernel_rfl) (of_decide_eq_true (by kernel_rfl)) k1 bel lt1) trodAll_mk0)), rfl, bel.frame _, fun h => by cases h⟩
theorem over : Rows.fnExactGreatestDifferenceRow.holds Try.pinned (OpenSpec.ofChange Rows.fnExactGreatestDifferenceSpec) :=
  OpenClaim.holds_of_wide 9 Try.f9 rfl rfl rfl rfl rfl rfl rfl ⟨rfl, rfl, rfl, rfl, rfl⟩ rfl rfl rfl rfl rfl (by kernel_rfl) Try.func9 (by kernel_rfl)
    (of_decide_eq_true (by kernel_rfl)) (by unfold Func.isWrapper; first | (rw [if_pos (by decide +kernel)]; kernel_rfl) | (rw [if_neg (by decide +kernel)]; exact ⟨rfl, rfl⟩))
    (fun os started H enc _ => lifted os started H enc)
theorem proved : Rows.FnExactGreatestDifferenceSaid := over
end Go.Proofs.Ytpdgfmiknegmoaa.fnExactGreatestDifference
namespace Go.Proofs.Ytpdgfmiknegmoaa
/-- The row, under a short name, for the claim. -/
theorem fnExactGreatestDifference_holds : Rows.FnExactGreatestDifferenceSaid := fnExactGreatestDifference.proved
end Go.Proofs.Ytpdgfmiknegmoaa
