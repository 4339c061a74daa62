/- Proves what functions that a law reaches come to, one contract each; no conditions beyond those that each names. Printed by a program of this session (xprint) out of the translation. -/
import Derived.Test.YtclneihcbnbmbaaRows
import Derived.Test.YtclneihcbnbmbaaPFnExactCorrectedForx5
import Derived.Test.YtclneihcbnbmbaaPureFnExactCorrectedFor
import Derived.WalkKit
import Derived.ProofKit
import Derived.OpenShut
import Derived.ShutString
import Derived.ChangeOld
import Derived.Below
import Derived.SizedLaws
import Derived.Test.YtclneihcbnbmbaaWSized
import Derived.Test.YtclneihcbnbmbaaXRow
import Derived.Lib.SmallJoins
import Derived.Carry
import Derived.ChangeArms
namespace Go.Proofs.Ytclneihcbnbmbaa.fnExactCorrectedFor
open Go.ChangeShapes Go.WideShapes Go.ChangeAt Go.RowKit
open Go.ChangeMaps (open_string shut_string)
set_option linter.unusedVariables false
theorem own : ownKnob Try.prog.godebug = none := by kernel_rfl
theorem laidOut : laidOutB Try.prog = true := by kernel_rfl
def IsRow (k : IntKind) (w : World) (a : Option Addr) (len cap : Nat) (zs : List Int) : Prop :=
  (a = none ∧ len = 0 ∧ cap = 0 ∧ zs = []) ∨
  ∃ x, a = some x ∧ len ≤ cap ∧ cap ≤ maxLen ∧ zs.length = cap ∧ (∀ i, i < zs.length → w.cell? (x.add i) = some (.int k (zs.getD i 0))) ∧ ∀ n ∈ zs, (Lit.int k n).wf = true
set_option maxRecDepth 100000 in
theorem lifted (os : Os) (started : os.Started) (H : Type) (enc : TypeId × Value → H) :
    ReturnsInHanded {} Try.checked os 7 .any (Rows.fnExactCorrectedForSpec.pre6 enc Try.prog Try.f7 Rows.fnExactCorrectedForRow.domain false) (Rows.fnExactCorrectedForSpec.post enc Try.prog Try.f7 false true false false) := by
  refine returnsInHanded_of_change_sized (C := Try.checked) own started (by kernel_rfl) Try.func7
    (ChangeSpec.witness6 (enc := enc) (C := Try.checked) false ⟨#[], #[.slice none 0 0, .agg #[.int .i8 0, .int .i8 0, .int .i8 0]], []⟩ 8 (by kernel_rfl) (by kernel_rfl) (by kernel_rfl) (by kernel_rfl)) ?_
  intro W base args ds gs before hval0 hW hcnd hsz0 _
  have hsz : (DataW.weightsEach Try.prog (Try.f7.params.toList ++ Rows.fnExactCorrectedForSpec.plain.varTypes Try.prog) (ds ++ gs)).all (· ≤ reachBytes) = true := hsz0
  have hval : ∀ (j : Nat) t v, Try.f7.params[j]? = some t → args[j]? = some v → Value.okWide Try.prog W .any base t v := hval0
  have hW' := hW
  obtain ⟨p, q, hA0, hV, rfl, hfz, hnd⟩ := hW
  have hA : DataW.TrodAll enc Try.prog W 0 (fun _ => true) true Try.f7.params.toList args.toList ds p := hA0
  rw [Try.params7] at hA hval hsz
  obtain ⟨v0, vs0, d0, ds0, p0, q0, hargs, rfl, rfl, h0, r0⟩ := trodAll_cons hA
  obtain ⟨v1, vs1, d1, ds1, p1, q1, rfl, rfl, rfl, h1, r1⟩ := trodAll_cons r0
  obtain ⟨rfl, rfl, rfl⟩ := trodAll_nil r1
  obtain rfl : args = #[v0, v1] := by cases args; simp_all
  obtain ⟨rfl, rfl⟩ := trodVars_none hV
  obtain ⟨a0, len0, cap0, rfl⟩ := okWide_slice Try.underlying22 (hval 0 22 v0 rfl rfl)
  have k0 := h0
  have lt0 : ∀ x ∈ p0, x.block < W.heap.size := by obtain ⟨m, hm⟩ := k0; exact DataW.trod_lt m _ _ _ hm
  have yy0 : len0 * 2 ≤ 140737488351232 := Go.Proofs.YtclneihcbnbmbaaW.PrintWords.x_sized hsz (j := 0) (t := 22) rfl rfl Try.underlying22 (by kernel_rfl) h0
  obtain ⟨l0, e0, g0, hw0, q0⟩ := Go.Proofs.YtclneihcbnbmbaaW.PrintWords.x_pairs_row (fun a b => (⟨a, b⟩ : PFnExactCorrectedFor.S70)) (fun x : PFnExactCorrectedFor.S70 => (x.f0, x.f1)) (fun _ _ => rfl) Try.underlying22 Try.underlying70 (by kernel_rfl) rfl rfl (by kernel_rfl) (by kernel_rfl) Try.underlying38 Try.underlying38 h0
  subst e0
  have k1 := h1
  have lt1 : ∀ x ∈ p1, x.block < W.heap.size := by obtain ⟨m, hm⟩ := k1; exact DataW.trod_lt m _ _ _ hm
  obtain ⟨e1_0, e1_1, e1_2, x1_0, x1_1, x1_2, n1, rfl, rfl, rfl, t1_0, t1_1, t1_2⟩ := Go.Joins.open_agg3 Try.underlying40 (by kernel_rfl) (by kernel_rfl) (hval 1 40 v1 rfl rfl) h1
  obtain ⟨a1_0, z1_0, _, w1_0⟩ := DataW.trod_int Try.underlying38 t1_0
  simp only [List.cons.injEq, and_true] at z1_0
  subst z1_0
  obtain ⟨a1_1, z1_1, _, w1_1⟩ := DataW.trod_int Try.underlying38 t1_1
  simp only [List.cons.injEq, and_true] at z1_1
  subst z1_1
  obtain ⟨a1_2, z1_2, _, w1_2⟩ := DataW.trod_int Try.underlying38 t1_2
  simp only [List.cons.injEq, and_true] at z1_2
  subst z1_2
  clear hA0 hval0 hsz0 hsz
  refine (PFnExactCorrectedFor.laws_FnExactCorrectedFor.walk Pure.FnExactCorrectedFor a0 cap0 l0 a1_0 a1_1 a1_2 W g0 q0 yy0 hw0 w1_0 w1_1 w1_2).mono fun e W' ⟨he, bel⟩ => ?_
  subst he
  exact ⟨_, rfl, _, _, _, [], _, [], hW', trodAll_mk1 (shut_bool Try.underlying4 _), (trodAll_cons_mk (Below.trod laidOut (by kernel_rfl) (of_decide_eq_true (by kernel_rfl)) k0 bel lt0) (trodAll_cons_mk (Below.trod laidOut (by kernel_rfl) (of_decide_eq_true (by kernel_rfl)) k1 bel lt1) trodAll_mk0)), rfl, bel.frame _, fun h => by cases h⟩
theorem over : Rows.fnExactCorrectedForRow.holds Try.pinned (OpenSpec.ofChange Rows.fnExactCorrectedForSpec) :=
  OpenClaim.holds_of_wide 7 Try.f7 rfl rfl rfl rfl rfl rfl rfl ⟨rfl, rfl, rfl, rfl, rfl⟩ rfl rfl rfl rfl rfl (by kernel_rfl) Try.func7 (by kernel_rfl)
    (of_decide_eq_true (by kernel_rfl)) (by unfold Func.isWrapper; first | (rw [if_pos (by decide +kernel)]; kernel_rfl) | (rw [if_neg (by decide +kernel)]; exact ⟨rfl, rfl⟩))
    (fun os started H enc _ => lifted os started H enc)
theorem proved : Rows.FnExactCorrectedForSaid := over
end Go.Proofs.Ytclneihcbnbmbaa.fnExactCorrectedFor
namespace Go.Proofs.Ytclneihcbnbmbaa
/-- The row, under a short name, for the claim. -/
theorem fnExactCorrectedFor_holds : Rows.FnExactCorrectedForSaid := fnExactCorrectedFor.proved
end Go.Proofs.Ytclneihcbnbmbaa
