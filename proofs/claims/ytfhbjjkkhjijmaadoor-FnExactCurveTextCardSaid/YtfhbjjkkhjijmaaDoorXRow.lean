/- Proves how a law's argument that is a slice of structs of two whole numbers reads as a plain list, and how long that list may be. Conditions: none beyond what each statement names. -/
import Derived.Test.YtfhbjjkkhjijmaaDoorWWords
import Derived.SizedLaws
import Derived.ChangeSlices
import Derived.Deep.SlicePairs
import Derived.ChangeArms
namespace Go.Proofs.YtfhbjjkkhjijmaaDoorW.PrintWords
open Go.ChangeShapes Go.WideShapes Go.Deep
section
variable {H : Type} {enc : TypeId × Value → H} {P : Program} {W : World} {base : Nat} {spare : Nat → Bool} {held : Bool}
/-- A slice of structs of two whole numbers reads as a list. -/
theorem x_pairs_row {t e : TypeId} {f0 f1 : Field} {k0 k1 : IntKind} {S : Type} (mk : Int → Int → S) (pr : S → Int × Int) (hpr : ∀ a b, pr (mk a b) = (a, b)) {a : Option Addr} {len cap : Nat} {d : DataW H} {ps : List MemPlace}
    (ht : P.underlying t = some (.slice e)) (he : P.underlying e = some (.struct #[f0, f1])) (ce : P.cellsOf e = 2) (o0 : f0.offset = 0) (o1 : f1.offset = 1) (c0 : P.cellsOf f0.type = 1) (c1 : P.cellsOf f1.type = 1)
    (u0 : P.underlying f0.type = some (.int k0)) (u1 : P.underlying f1.type = some (.int k1))
    (h : DataW.Trod enc P W base spare held t (.slice a len cap) d ps) :
    ∃ xs : List S, xs.length = len ∧ (Kd.iso (Kd.pair (Kd.int k0) (Kd.int k1)) pr).C W a xs.length xs ∧ (∀ x ∈ xs, (Lit.int k0 (pr x).1).wf = true ∧ (Lit.int k1 (pr x).2).wf = true) ∧ xs.length ≤ cap := by
  obtain ⟨fuel, hf⟩ := h
  rcases open_slice_pairs ht he ce o0 o1 c0 c1 hf with ⟨hcs, _⟩ | ⟨x, l, c, m, n, V0, V1, D0, D1, P0, P1, hcs, _, hl, hm, hmm, _, hall⟩
  · simp [Value.cells] at hcs
    obtain ⟨rfl, rfl, rfl⟩ := hcs
    exact ⟨[], rfl, ⟨rfl, by simp, fun h => absurd h (by simp)⟩, fun x hx => by simp at hx, by simp⟩
  · simp [Value.cells] at hcs
    obtain ⟨rfl, rfl, rfl⟩ := hcs
    have hlm : len ≤ m := by rw [hmm]; split <;> omega
    have each : ∀ i, i < len → ∃ q : Int × Int, W.cell? (x.add (i * 2)) = some (.int k0 q.1) ∧ W.cell? (x.add (i * 2 + 1)) = some (.int k1 q.2) ∧ (Lit.int k0 q.1).wf = true ∧ (Lit.int k1 q.2).wf = true := by
      intro i hi
      obtain ⟨g0, g1, t0, t1⟩ := hall i (by omega)
      obtain ⟨n0, e0, _, w0⟩ := DataW.trod_int u0 t0
      obtain ⟨n1, e1, _, w1⟩ := DataW.trod_int u1 t1
      simp only [List.cons.injEq, and_true] at e0 e1
      exact ⟨(n0, n1), by rw [g0, e0], by rw [g1, e1], w0, w1⟩
    obtain ⟨q, hq⟩ := choose_lt each
    refine ⟨(List.range len).map (fun i => mk (q i).1 (q i).2), by simp, ⟨rfl, ?_, fun _ => ⟨x, rfl, ?_⟩⟩, ?_, by simpa using hl⟩
    · simp only [List.length_map, List.length_range]
      have : cap ≤ maxLen := hm
      unfold maxLen at this
      omega
    · intro j p hp
      obtain ⟨hj, hp⟩ := List.getElem?_eq_some_iff.1 hp
      have hj' : j < len := by simpa using hj
      have ep : p = mk (q j).1 (q j).2 := by rw [← hp]; simp
      obtain ⟨a0, a1, _, _⟩ := hq j hj'
      refine ⟨[.int k0 (q j).1, .int k1 (q j).2], rfl, ⟨[.int k0 (q j).1], [.int k1 (q j).2], rfl, ?_, ?_⟩, ?_⟩
      · rw [ep, hpr]; rfl
      · rw [ep, hpr]; rfl
      · intro i u hu
        match i, hu with
        | 0, hu =>
          simp only [List.getElem?_cons_zero, Option.some.injEq] at hu
          rw [← hu]
          exact a0
        | 1, hu =>
          simp only [List.getElem?_cons_succ, List.getElem?_cons_zero, Option.some.injEq] at hu
          rw [← hu]
          exact a1
        | i + 2, hu => simp at hu
    · intro y hy
      obtain ⟨i, hi, rfl⟩ := List.mem_map.1 hy
      obtain ⟨_, _, w0, w1⟩ := hq i (List.mem_range.1 hi)
      rw [hpr]
      exact ⟨w0, w1⟩
/-- A row's slice is no longer than its weight allows. -/
theorem x_sized {t e : TypeId} {a : Option Addr} {len cap : Nat} {d : DataW H} {ps : List MemPlace} {ts : List TypeId} {ds : List (DataW H)} {j : Nat}
    (hsz : (DataW.weightsEach P ts ds).all (· ≤ reachBytes) = true) (ht : ts[j]? = some t) (hd : ds[j]? = some d) (hu : P.underlying t = some (.slice e)) {B : Nat} (hB : P.bytesOf e = B)
    (h : DataW.Trod enc P W base spare held t (.slice a len cap) d ps) : len * B ≤ 140737488351232 := by
  obtain ⟨fuel, hf⟩ := h
  rcases open_slice hu hf with ⟨hcs, _⟩ | ⟨x, l, c, m, n, D, Pl, hcs, _, hl, hm, hmm, hx, _⟩
  · simp [Value.cells] at hcs
    obtain ⟨rfl, rfl, rfl⟩ := hcs
    simp
  · simp [Value.cells] at hcs
    obtain ⟨rfl, rfl, rfl⟩ := hcs
    obtain ⟨hx, _⟩ := Prod.mk.inj hx
    subst hx
    have z := sized_slice hsz ht hd hu
    rw [hB] at z
    have h1 : len ≤ ((List.range len).map D).length + ((List.range (m - len)).map fun j => D (len + j)).length := by
      simp
    exact Nat.le_trans (Nat.mul_le_mul_right _ h1) z
end
end Go.Proofs.YtfhbjjkkhjijmaaDoorW.PrintWords
