/- Proves, in plain numbers and lists, that the law FnExactCurveThrough answers true at all inputs. No condition is added. -/
import Derived.Test.YtcgahnmdaelngaaPFnExactCurveThroughx0
import Derived.Test.YtcgahnmdaelngaaPFnExactCurveThroughx1
import Derived.Test.YtcgahnmdaelngaaPFnExactCurveThroughx2
import Derived.Test.YtcgahnmdaelngaaPFnExactCurveThroughx3
import Derived.Test.YtcgahnmdaelngaaPFnExactCurveThroughx4
namespace Go.Proofs.Ytcgahnmdaelngaa.Pure
open Go.RowKit Go.Proofs.Ytcgahnmdaelngaa.PFnExactCurveThrough Go.Proofs.YtcgahnmdaelngaaW.PrintWords Go.Proofs.YtcgahnmdaelngaaW.PrintLast Go.Proofs.YtcgahnmdaelngaaW.PrintMore
set_option linter.unusedVariables false
set_option linter.unusedSimpArgs false
theorem w64 {x : Int} (h : -9223372036854775808 ≤ x) (h' : x ≤ 9223372036854775807) : wrap64 x = x := by unfold wrap64; omega
theorem wf8 {x : Int} (h : (Lit.int .i8 x).wf = true) : -128 ≤ x ∧ x ≤ 127 := by
  have h2 : (decide ((-128 : Int) ≤ x) && decide (x ≤ 127)) = true := h
  simpa using h2
theorem wf16 {x : Int} (h : (Lit.int .i16 x).wf = true) : -32768 ≤ x ∧ x ≤ 32767 := by
  have h2 : (decide ((-32768 : Int) ≤ x) && decide (x ≤ 32767)) = true := h
  simpa using h2
theorem wf64 {x : Int} (h : (Lit.int .i64 x).wf = true) : -9223372036854775808 ≤ x ∧ x ≤ 9223372036854775807 := by
  have h2 : (decide ((-9223372036854775808 : Int) ≤ x) && decide (x ≤ 9223372036854775807)) = true := h
  simpa using h2
theorem wfu64 {x : Int} (h : (Lit.int .u64 x).wf = true) : 0 ≤ x ∧ x ≤ 18446744073709551615 := by
  have h2 : (decide ((0 : Int) ≤ x) && decide (x ≤ 18446744073709551615)) = true := h
  simpa using h2
theorem i8w {x : Int} (h : -128 ≤ x) (h' : x ≤ 127) : IntKind.i8.wrap x = x := by
  show (if (true && decide (x % 256 ≥ 128)) = true then x % 256 - 256 else x % 256) = x
  by_cases e : x % 256 ≥ 128
  · rw [if_pos (by simpa using e)]; omega
  · rw [if_neg (by simpa using e)]; omega
theorem i16w {x : Int} (h : -32768 ≤ x) (h' : x ≤ 32767) : IntKind.i16.wrap x = x := by
  show (if (true && decide (x % 65536 ≥ 32768)) = true then x % 65536 - 65536 else x % 65536) = x
  by_cases e : x % 65536 ≥ 32768
  · rw [if_pos (by simpa using e)]; omega
  · rw [if_neg (by simpa using e)]; omega
theorem u64w {x : Int} (h : 0 ≤ x) (h' : x ≤ 18446744073709551615) : IntKind.u64.wrap x = x := by
  show (if (false && decide (x % 18446744073709551616 ≥ 9223372036854775808)) = true then x % 18446744073709551616 - 18446744073709551616 else x % 18446744073709551616) = x
  rw [if_neg (by simp)]; omega
theorem szPointS_f (l : List S79) (hl : l.length ≤ 9223372036854775807) : laws_szPointS.f l 1048576 = some (if l.length ≤ 1048576 then 1048576 - (l.length : Int) else -1) := by
  unfold laws_szPointS.f
  rw [w64 (by omega) (by omega)]
  by_cases c : l.length ≤ 1048576
  · rw [if_neg (by omega), if_pos c]
  · rw [if_pos (by omega), if_neg c]
theorem szPointS_g (l : List S79) (a : Int) (ha : 0 ≤ a ∧ a ≤ 1048576) (hl : l.length ≤ 9223372036854775807) : laws_szPointS.f l a = some (if (l.length : Int) ≤ a then a - (l.length : Int) else -1) := by
  unfold laws_szPointS.f
  rw [w64 (by omega) (by omega)]
  by_cases c : (l.length : Int) ≤ a
  · rw [if_neg (by omega), if_pos c]
  · rw [if_pos (by omega), if_neg c]
theorem set_nextg {α β : Type} (f : α → β) (z : β) (d : α) (l : List α) (i : Nat) (h : i < l.length) : ((l.take i).map f ++ List.replicate (l.length - i) z).set i (f (l.getD i d)) = (l.take (i + 1)).map f ++ List.replicate (l.length - (i + 1)) z := by
  apply List.ext_getElem
  · simp; omega
  · intro j h1 h2
    simp only [List.getElem_set, List.getElem_append, List.length_map, List.length_take, List.getElem_map, List.getElem_take, List.getElem_replicate]
    by_cases e : i = j
    · subst e
      rw [if_pos rfl, dif_pos (by omega)]
      simp [h]
    · rw [if_neg e]
      by_cases c : j < i
      · rw [dif_pos (by omega), dif_pos (by omega)]
      · rw [dif_neg (by omega), dif_neg (by omega)]
theorem getD_mem {α : Type} (l : List α) (i : Nat) (d : α) (h : i < l.length) : l.getD i d ∈ l := by
  rw [List.getD_eq_getElem?_getD, List.getElem?_eq_getElem h]
  exact List.getElem_mem h
theorem getD_set_ne {α : Type} (l : List α) (i j : Nat) (x d : α) (h : i ≠ j) : (l.set i x).getD j d = l.getD j d := by
  simp [List.getD_eq_getElem?_getD, List.getElem?_set_ne h]
theorem getD_set_eq {α : Type} (l : List α) (i : Nat) (x d : α) (h : i < l.length) : (l.set i x).getD i d = x := by
  simp [List.getD_eq_getElem?_getD, List.getElem?_set_self h]
def cvPointS (x : S79) : S37 := ⟨x.f0, x.f1⟩
theorem toPointS_l (l : List S79) (hl : l.length ≤ 1048576) (d : Nat) : ∀ (k : Nat) (i : Nat), i ≤ l.length → l.length - i = d → d < k → laws_toPointS.l0 k l ((l.take i).map cvPointS ++ List.replicate (l.length - i) z37) i = some (l.map cvPointS) := by
  induction d with
  | zero =>
    intro k i h0 hd hk
    obtain ⟨k, rfl⟩ : ∃ n, k = n + 1 := ⟨k - 1, by omega⟩
    have e : i = l.length := by omega
    subst e
    simp only [laws_toPointS.l0]
    rw [if_neg (by omega)]
    simp
  | succ d ih =>
    intro k i h0 hd hk
    obtain ⟨k, rfl⟩ : ∃ n, k = n + 1 := ⟨k - 1, by omega⟩
    simp only [laws_toPointS.l0, laws_toPoint.f, Option.bind_some]
    rw [if_pos (by omega), if_pos (by omega), if_pos (by simp; omega), w64 (by omega) (by omega)]
    have e := ih k (i + 1) (by omega) (by omega) (by omega)
    rw [← set_nextg cvPointS z37 z79 l i (by omega)] at e
    simpa [rd_T79, cvPointS] using e
theorem toPointS_f (l : List S79) (hl : l.length ≤ 1048576) (k : Nat) (hk : l.length < k) : laws_toPointS.f k l = some (l.map cvPointS) := by
  have e := toPointS_l l hl l.length k 0 (by omega) (by omega) hk
  unfold laws_toPointS.f
  rw [if_pos (by omega), if_pos (by omega)]
  simpa using e
theorem eqCurve_l (l : List S37) (hl : l.length ≤ 1048576) (d : Nat) : ∀ (k : Nat) (i : Nat), i ≤ l.length → l.length - i = d → d < k → laws_eqCurve.l0 k l l i = some true := by
  induction d with
  | zero =>
    intro k i h0 hd hk
    obtain ⟨k, rfl⟩ : ∃ n, k = n + 1 := ⟨k - 1, by omega⟩
    simp only [laws_eqCurve.l0]
    rw [if_neg (by omega)]
  | succ d ih =>
    intro k i h0 hd hk
    obtain ⟨k, rfl⟩ : ∃ n, k = n + 1 := ⟨k - 1, by omega⟩
    simp only [laws_eqCurve.l0, laws_eqPoint.f, if_true, Option.bind_some]
    rw [if_pos (by omega), if_pos (by omega), if_pos (by omega), w64 (by omega) (by omega)]
    exact ih k (i + 1) (by omega) (by omega) (by omega)
theorem eqCurve_f (l : List S37) (hl : l.length ≤ 1048576) (k : Nat) (hk : l.length < k) : laws_eqCurve.f k l l = some true := by
  unfold laws_eqCurve.f
  rw [if_pos rfl]
  exact eqCurve_l l hl l.length k 0 (by omega) (by omega) hk
theorem eqPointS_l (l : List S37) (hl : l.length ≤ 1048576) (d : Nat) : ∀ (k : Nat) (i : Nat), i ≤ l.length → l.length - i = d → d < k → laws_eqPointS.l0 k l l i = some true := by
  induction d with
  | zero =>
    intro k i h0 hd hk
    obtain ⟨k, rfl⟩ : ∃ n, k = n + 1 := ⟨k - 1, by omega⟩
    simp only [laws_eqPointS.l0]
    rw [if_neg (by omega)]
  | succ d ih =>
    intro k i h0 hd hk
    obtain ⟨k, rfl⟩ : ∃ n, k = n + 1 := ⟨k - 1, by omega⟩
    simp only [laws_eqPointS.l0, laws_eqPoint.f, if_true, Option.bind_some]
    rw [if_pos (by omega), if_pos (by omega), if_pos (by omega), w64 (by omega) (by omega)]
    exact ih k (i + 1) (by omega) (by omega) (by omega)
theorem eqPointS_f (l : List S37) (hl : l.length ≤ 1048576) (k : Nat) (hk : l.length < k) : laws_eqPointS.f k l l = some true := by
  unfold laws_eqPointS.f
  rw [if_pos rfl]
  exact eqPointS_l l hl l.length k 0 (by omega) (by omega) hk
theorem in_f (a b c : Int) : spec_l00In.f a b c = some (decide (b ≤ a ∧ a ≤ c)) := by
  unfold spec_l00In.f
  by_cases h : b ≤ a <;> simp [h]
theorem within_f (a b c : Int) : impl_within.f a b c = some (decide (b ≤ a ∧ a ≤ c)) := by
  unfold impl_within.f
  by_cases h : b ≤ a <;> simp [h]
def SmP (m : List S37) : Prop := ∀ x ∈ m, (-32768 ≤ x.f0 ∧ x.f0 ≤ 32767) ∧ (-32768 ≤ x.f1 ∧ x.f1 ≤ 32767)
theorem smp_rd {m : List S37} (h : SmP m) (i : Nat) (hi : i < m.length) : (-32768 ≤ (rd_T37 m i).f0 ∧ (rd_T37 m i).f0 ≤ 32767) ∧ (-32768 ≤ (rd_T37 m i).f1 ∧ (rd_T37 m i).f1 ≤ 32767) := by
  have := h _ (getD_mem m i z37 hi)
  simpa [rd_T37] using this
/-- a point as it may be -/
def Pt (p : S37) : Prop := (-200 ≤ p.f0 ∧ p.f0 ≤ 200) ∧ (0 ≤ p.f1 ∧ p.f1 ≤ 400)
theorem spt_f {p : S37} (h : -32768 ≤ p.f0 ∧ p.f0 ≤ 32767) (h' : -32768 ≤ p.f1 ∧ p.f1 ≤ 32767) : spec_l02Point.f p.f0 p.f1 = some (decide ((-200 ≤ p.f0 ∧ p.f0 ≤ 200) ∧ (0 ≤ p.f1 ∧ p.f1 ≤ 400))) := by
  unfold spec_l02Point.f spec_l02Place.f spec_l02Density.f
  rw [w64 (x := p.f0) (by omega) (by omega), w64 (x := p.f1) (by omega) (by omega)]
  simp only [in_f, Option.bind_some]
  by_cases c : -200 ≤ p.f0 ∧ p.f0 ≤ 200 <;> simp [c]
theorem ipt_f {p : S37} (h : -32768 ≤ p.f0 ∧ p.f0 ≤ 32767) (h' : -32768 ≤ p.f1 ∧ p.f1 ≤ 32767) : impl_isPoint.f p.f0 p.f1 = some (decide ((-200 ≤ p.f0 ∧ p.f0 ≤ 200) ∧ (0 ≤ p.f1 ∧ p.f1 ≤ 400))) := by
  unfold impl_isPoint.f impl_isPlace.f impl_isDensity.f
  rw [w64 (x := p.f0) (by omega) (by omega), w64 (x := p.f1) (by omega) (by omega)]
  simp only [within_f, Option.bind_some]
  by_cases c : -200 ≤ p.f0 ∧ p.f0 ≤ 200 <;> simp [c]
theorem smp_map {l : List S79} (hw : ∀ x ∈ l, (Lit.int .i16 x.f0).wf = true ∧ (Lit.int .i16 x.f1).wf = true) : SmP (l.map cvPointS) := by
  intro x hx
  obtain ⟨y, hy, rfl⟩ := List.mem_map.1 hx
  exact ⟨wf16 (hw y hy).1, wf16 (hw y hy).2⟩
def smT (x : Int) : List S37 → Int
  | [] => 0
  | p :: r => (if p.f0 = x then p.f1 else 0) + smT x r
def cnT (x : Int) : List S37 → Int
  | [] => 0
  | p :: r => (if p.f0 = x then 1 else 0) + cnT x r
def AllPt (l : List S37) : Prop := ∀ p ∈ l, Pt p
theorem allpt_rd {l : List S37} (h : AllPt l) (i : Nat) (hi : i < l.length) : Pt (rd_T37 l i) := by
  have := h _ (getD_mem l i z37 hi)
  simpa [rd_T37] using this
theorem smT_b (x : Int) (l : List S37) (h : AllPt l) : 0 ≤ smT x l ∧ smT x l ≤ 400 * l.length ∧ 0 ≤ cnT x l ∧ cnT x l ≤ l.length := by
  induction l with
  | nil => simp [smT, cnT]
  | cons p r ih =>
    have i := ih (fun q hq => h q (List.mem_cons_of_mem _ hq))
    have a := (h p List.mem_cons_self).2
    simp only [smT, cnT, List.length_cons]
    by_cases e : p.f0 = x
    · rw [if_pos e, if_pos e]; omega
    · rw [if_neg e, if_neg e]; omega
theorem rd_drop (l : List S37) (i : Nat) (h : i < l.length) : l.drop i = rd_T37 l i :: l.drop (i + 1) := by
  rw [List.drop_eq_getElem_cons h]
  simp [rd_T37, List.getD_eq_getElem?_getD, h]
/-- the spec's inner loop -/
def thrG (m : Nat) (l out : List S37) (last x s n : Int) : Option (List S37 × Int) :=
  if n > 0 then (if n = 0 then none else ((spec_l00Max.f last (wrap64 (Int.tdiv s n))).bind fun t => (if out.length < 35184372088832 then (spec_CurveThrough.l1 m l (out ++ [(⟨IntKind.i16.wrap (x), IntKind.i16.wrap (t)⟩ : S37)]) t (wrap64 (x + 1))) else (none)))) else (spec_CurveThrough.l1 m l out last (wrap64 (x + 1)))
theorem thr_in (l out : List S37) (h : AllPt l) (hl : l.length ≤ 100) (last x : Int) (m : Nat) (d : Nat) : ∀ (i : Nat) (s n : Int), i ≤ l.length → l.length - i = d → (0 ≤ s ∧ s ≤ 400 * i) → (0 ≤ n ∧ n ≤ i) →
    spec_CurveThrough.l2 (m + d + 1) l out last x s n i = thrG m l out last x (s + smT x (l.drop i)) (n + cnT x (l.drop i)) := by
  induction d with
  | zero =>
    intro i s n h0 hd hs hn
    have e : i = l.length := by omega
    rw [List.drop_of_length_le (by omega)]
    simp only [spec_CurveThrough.l2, smT, cnT, Int.add_zero]
    rw [if_neg (by omega)]
    rfl
  | succ d ih =>
    intro i s n h0 hd hs hn
    have a := allpt_rd h i (by omega)
    unfold Pt at a
    obtain ⟨K, hK⟩ : ∃ K, m + d + 1 = K := ⟨_, rfl⟩
    rw [show m + (d + 1) + 1 = K + 1 by omega]
    simp only [spec_CurveThrough.l2]
    rw [if_pos (by omega), if_pos (by omega), w64 (x := (rd_T37 l i).f0) (by omega) (by omega), w64 (x := (rd_T37 l i).f1) (by omega) (by omega), w64 (x := (i : Int) + 1) (by omega) (by omega), w64 (x := s + _) (by omega) (by omega), w64 (x := n + 1) (by omega) (by omega)]
    rw [rd_drop l i (by omega)]
    simp only [smT, cnT]
    by_cases e : (rd_T37 l i).f0 = x
    · rw [if_pos e, if_pos e, if_pos e]
      have := ih (i + 1) (s + (rd_T37 l i).f1) (n + 1) (by omega) (by omega) (by omega) (by omega)
      rw [hK] at this
      rw [show ((i : Int) + 1) = ((i + 1 : Nat) : Int) by omega, this, Int.add_assoc, Int.add_assoc]
    · rw [if_neg e, if_neg e, if_neg e]
      have := ih (i + 1) s n (by omega) (by omega) (by omega) (by omega)
      rw [hK] at this
      rw [show ((i : Int) + 1) = ((i + 1 : Nat) : Int) by omega, this, Int.zero_add, Int.zero_add]
theorem smax_f (a b : Int) : spec_l00Max.f a b = some (mx a b) := by
  unfold spec_l00Max.f mx
  by_cases c : a > b
  · rw [if_pos c, if_neg (by omega)]
  · rw [if_neg c]
    by_cases e : a < b
    · rw [if_pos e]
    · rw [if_neg e]; congr 1; omega
theorem thr_out (l : List S37) (h : AllPt l) (hl : l.length ≤ 100) (S M : List Int) (hS : ∀ i : Nat, i < 401 → S.getD i 0 = smT ((i : Int) - 200) l ∧ M.getD i 0 = cnT ((i : Int) - 200) l) (m : Nat) (d : Nat) : ∀ (i : Nat) (out : List S37) (last : Int), i ≤ 401 → 401 - i = d → out.length ≤ i →
    spec_CurveThrough.l1 (d * (l.length + 2) + 1 + m) l out last ((i : Int) - 200) = some (impl_CurveThrough.fin (impl_CurveThrough.l2 S M d i out last)) := by
  induction d with
  | zero =>
    intro i out last h0 hd ho
    rw [show 0 * (l.length + 2) + 1 + m = m + 1 by omega]
    simp only [spec_CurveThrough.l1, impl_CurveThrough.l2]
    rw [if_neg (by omega)]
    unfold impl_CurveThrough.fin
    by_cases c : (out.length : Int) > 12
    · rw [if_pos c, if_pos c]
    · rw [if_neg c, if_neg c]
  | succ d ih =>
    intro i out last h0 hd ho
    obtain ⟨e1, e2⟩ := hS i (by omega)
    have b := smT_b ((i : Int) - 200) l h
    obtain ⟨W, hW⟩ : ∃ W, d * (l.length + 2) + 1 + m = W := ⟨_, rfl⟩
    obtain ⟨K, hK⟩ : ∃ K, W + l.length + 1 = K := ⟨_, rfl⟩
    rw [Nat.succ_mul, show d * (l.length + 2) + (l.length + 2) + 1 + m = K + 1 by omega]
    simp only [spec_CurveThrough.l1]
    rw [if_pos (by omega)]
    have q := thr_in l out h hl last ((i : Int) - 200) W l.length 0 0 0 (by omega) (by omega) (by omega) (by omega)
    rw [List.drop_zero, Int.zero_add, Int.zero_add, hK] at q
    have q' : spec_CurveThrough.l2 K l out last ((i : Int) - 200) 0 0 0 = thrG W l out last ((i : Int) - 200) (smT ((i : Int) - 200) l) (cnT ((i : Int) - 200) l) := q
    rw [q']
    rw [hW] at ih
    unfold thrG
    simp only [impl_CurveThrough.l2, e1, e2]
    rw [w64 (x := (i : Int) - 200 + 1) (by omega) (by omega), show (i : Int) - 200 + 1 = ((i + 1 : Nat) : Int) - 200 by omega, i16w (x := (i : Int) - 200) (by omega) (by omega)]
    by_cases c : cnT ((i : Int) - 200) l > 0
    · rw [if_pos c, if_pos c, if_neg (by omega), smax_f, Option.bind_some, if_pos (by omega)]
      exact ih (i + 1) _ _ (by omega) (by omega) (by simp; omega)
    · rw [if_neg c, if_neg c]
      exact ih (i + 1) _ _ (by omega) (by omega) (by omega)
theorem getD_set (l : List Int) (i j : Nat) (v : Int) (hi : i < l.length) : (l.set i v).getD j 0 = if i = j then v else l.getD j 0 := by
  simp only [List.getD_eq_getElem?_getD, List.getElem?_set]
  by_cases e : i = j
  · subst e
    simp [hi]
  · simp [e]
theorem thr_l1 (l : List S37) (h : AllPt l) : ∀ (c : Nat) (S0 M0 : List Int), S0.length = 401 → M0.length = 401 → c + l.length ≤ 100 → (∀ i : Nat, (0 ≤ S0.getD i 0 ∧ S0.getD i 0 ≤ 400 * c) ∧ (0 ≤ M0.getD i 0 ∧ M0.getD i 0 ≤ c)) →
    ∃ S M, impl_CurveThrough.l1 l S0 M0 = some (S, M) ∧ ∀ i : Nat, i < 401 → S.getD i 0 = S0.getD i 0 + smT ((i : Int) - 200) l ∧ M.getD i 0 = M0.getD i 0 + cnT ((i : Int) - 200) l := by
  induction l with
  | nil =>
    intro c S0 M0 _ _ _ _
    exact ⟨S0, M0, rfl, fun i _ => by simp [smT, cnT]⟩
  | cons p r ih =>
    intro c S0 M0 s1 m1 hc hb
    have a := h p List.mem_cons_self
    unfold Pt at a
    simp only [List.length_cons] at hc
    obtain ⟨n, hn⟩ : ∃ n : Nat, (n : Int) = p.f0 + 200 := ⟨(p.f0 + 200).toNat, by omega⟩
    have hn2 : (p.f0 + 200).toNat = n := by omega
    have b0 := hb n
    simp only [impl_CurveThrough.l1]
    rw [if_pos a.1, hn2, w64 (x := p.f1) (by omega) (by omega), w64 (x := S0.getD n 0 + p.f1) (by omega) (by omega), w64 (x := M0.getD n 0 + 1) (by omega) (by omega)]
    obtain ⟨S, M, e, g⟩ := ih (fun q hq => h q (List.mem_cons_of_mem _ hq)) (c + 1) (S0.set n (S0.getD n 0 + p.f1)) (M0.set n (M0.getD n 0 + 1)) (by simp [s1]) (by simp [m1]) (by omega) (fun i => by
      rw [getD_set _ _ _ _ (by omega), getD_set _ _ _ _ (by omega)]
      have b1 := hb i
      by_cases e : n = i
      · rw [if_pos e, if_pos e]; omega
      · rw [if_neg e, if_neg e]; omega)
    refine ⟨S, M, e, fun i hi => ?_⟩
    have gi := g i hi
    rw [getD_set _ _ _ _ (by omega), getD_set _ _ _ _ (by omega)] at gi
    simp only [smT, cnT]
    by_cases e : n = i
    · have e' : p.f0 = (i : Int) - 200 := by omega
      subst e
      rw [if_pos rfl, if_pos rfl] at gi
      rw [if_pos e', if_pos e']
      omega
    · have e' : ¬ p.f0 = (i : Int) - 200 := by omega
      rw [if_neg e, if_neg e] at gi
      rw [if_neg e', if_neg e']
      omega
theorem thr_lit {p : S37} (h : -32768 ≤ p.f0 ∧ p.f0 ≤ 32767) (h' : -32768 ≤ p.f1 ∧ p.f1 ≤ 32767) : impl_CurveThrough_1.f p.f0 p.f1 = some (!decide ((-200 ≤ p.f0 ∧ p.f0 ≤ 200) ∧ (0 ≤ p.f1 ∧ p.f1 ≤ 400))) := by
  unfold impl_CurveThrough_1.f
  rw [ipt_f h h']
  rfl
theorem thr_idx (l : List S37) (hm : SmP l) (hl : l.length ≤ 100) (d : Nat) : ∀ (k i : Nat), i ≤ l.length → l.length - i = d → d < k →
    ∃ r, impl_Point_91.l0 k l impl_CurveThrough_1.f (l.length : Int) i = some r ∧ ((∀ j : Nat, i ≤ j → j < l.length → Pt (rd_T37 l j)) → r < 0) ∧ ((∃ j : Nat, i ≤ j ∧ j < l.length ∧ ¬ Pt (rd_T37 l j)) → 0 ≤ r) := by
  induction d with
  | zero =>
    intro k i h0 hd hk
    obtain ⟨k, rfl⟩ : ∃ n, k = n + 1 := ⟨k - 1, by omega⟩
    simp only [impl_Point_91.l0]
    rw [if_neg (by omega)]
    exact ⟨_, rfl, fun _ => by omega, fun ⟨j, j0, j1, _⟩ => by omega⟩
  | succ d ih =>
    intro k i h0 hd hk
    obtain ⟨k, rfl⟩ : ∃ n, k = n + 1 := ⟨k - 1, by omega⟩
    obtain ⟨s1, s2⟩ := smp_rd hm i (by omega)
    obtain ⟨r, e, z1, z2⟩ := ih k (i + 1) (by omega) (by omega) (by omega)
    simp only [impl_Point_91.l0, thr_lit s1 s2, Option.bind_some]
    rw [if_pos (by omega), if_pos (by omega), if_pos (by omega), w64 (x := (i : Int) + 1) (by omega) (by omega)]
    by_cases p : Pt (rd_T37 l i)
    · have p' := p
      unfold Pt at p'
      simp only [p', and_self, decide_true, Bool.not_true, Bool.false_eq_true, if_false]
      refine ⟨r, e, fun h => z1 fun j j0 j1 => h j (by omega) j1, fun ⟨j, j0, j1, j2⟩ => ?_⟩
      by_cases ej : j = i
      · subst ej; exact absurd p j2
      · exact z2 ⟨j, by omega, j1, j2⟩
    · have p' : ¬ ((-200 ≤ (rd_T37 l i).f0 ∧ (rd_T37 l i).f0 ≤ 200) ∧ (0 ≤ (rd_T37 l i).f1 ∧ (rd_T37 l i).f1 ≤ 400)) := p
      simp only [p', decide_false, Bool.not_false, if_true]
      exact ⟨_, rfl, fun h => absurd (h i (by omega) (by omega)) p, fun _ => by omega⟩
theorem thr_ok (l : List S37) (hm : SmP l) (hl : l.length ≤ 100) (h : ∀ j : Nat, j < l.length → Pt (rd_T37 l j)) (m : Nat) (d : Nat) : ∀ (i : Nat), i ≤ l.length → l.length - i = d →
    spec_CurveThrough.l0 (m + d + 1) l true i = spec_CurveThrough.j1 m l true := by
  induction d with
  | zero =>
    intro i h0 hd
    simp only [spec_CurveThrough.l0]
    rw [if_neg (by omega)]
  | succ d ih =>
    intro i h0 hd
    obtain ⟨s1, s2⟩ := smp_rd hm i (by omega)
    have p := h i (by omega)
    unfold Pt at p
    obtain ⟨K, hK⟩ : ∃ K, m + d + 1 = K := ⟨_, rfl⟩
    rw [show m + (d + 1) + 1 = K + 1 by omega]
    rw [hK] at ih
    simp only [spec_CurveThrough.l0, spt_f s1 s2, Option.bind_some, if_true, p, and_self, decide_true]
    rw [if_pos (by omega), if_pos (by omega), w64 (x := (i : Int) + 1) (by omega) (by omega)]
    exact ih (i + 1) (by omega) (by omega)
theorem thr_bad0 (l : List S37) (k : Nat) (i : Nat) (hk : 2 ≤ k) : spec_CurveThrough.l0 k l false i = some ([], 2) := by
  obtain ⟨k, rfl⟩ : ∃ n, k = n + 1 + 1 := ⟨k - 2, by omega⟩
  simp only [spec_CurveThrough.l0, Bool.false_eq_true, if_false, spec_CurveThrough.j1, ite_self]
theorem thr_bad (l : List S37) (hm : SmP l) (hl : l.length ≤ 100) (d : Nat) : ∀ (k i : Nat), i ≤ l.length → l.length - i = d → d + 3 < k → (∃ j : Nat, i ≤ j ∧ j < l.length ∧ ¬ Pt (rd_T37 l j)) →
    spec_CurveThrough.l0 k l true i = some ([], 2) := by
  induction d with
  | zero =>
    intro k i h0 hd hk ⟨j, j0, j1, _⟩
    omega
  | succ d ih =>
    intro k i h0 hd hk ⟨j, j0, j1, j2⟩
    obtain ⟨k, rfl⟩ : ∃ n, k = n + 1 := ⟨k - 1, by omega⟩
    obtain ⟨s1, s2⟩ := smp_rd hm i (by omega)
    simp only [spec_CurveThrough.l0, spt_f s1 s2, Option.bind_some, if_true]
    rw [if_pos (by omega), if_pos (by omega), w64 (x := (i : Int) + 1) (by omega) (by omega), show ((i : Int) + 1) = ((i + 1 : Nat) : Int) by omega]
    by_cases p : Pt (rd_T37 l i)
    · have p' := p
      unfold Pt at p'
      simp only [p', and_self, decide_true]
      refine ih k (i + 1) (by omega) (by omega) (by omega) ⟨j, ?_, j1, j2⟩
      by_cases ej : j = i
      · subst ej; exact absurd p j2
      · omega
    · have p' : ¬ ((-200 ≤ (rd_T37 l i).f0 ∧ (rd_T37 l i).f0 ≤ 200) ∧ (0 ≤ (rd_T37 l i).f1 ∧ (rd_T37 l i).f1 ≤ 400)) := p
      simp only [p', decide_false]
      exact thr_bad0 l k (i + 1) (by omega)
theorem thr_len (S M : List Int) (d : Nat) : ∀ (i : Nat) (out : List S37) (last : Int), (impl_CurveThrough.l2 S M d i out last).length ≤ out.length + d := by
  induction d with
  | zero => intro i out last; simp [impl_CurveThrough.l2]
  | succ d ih =>
    intro i out last
    simp only [impl_CurveThrough.l2]
    by_cases c : 0 < M.getD i 0
    · rw [if_pos c]
      have := ih (i + 1) (out ++ [(⟨(i : Int) - 200, IntKind.i16.wrap (mx last (wrap64 (Int.tdiv (S.getD i 0) (M.getD i 0))))⟩ : S37)]) (mx last (wrap64 (Int.tdiv (S.getD i 0) (M.getD i 0))))
      rw [List.length_append, List.length_singleton] at this
      omega
    · rw [if_neg c]
      have := ih (i + 1) out last
      omega
theorem zlenT : impl_CurveThrough.Z.length = 401 := by unfold impl_CurveThrough.Z; exact List.length_replicate
theorem allpt_of (l : List S37) (h : ∀ j : Nat, j < l.length → Pt (rd_T37 l j)) : AllPt l := by
  intro p hp
  obtain ⟨j, hj, e⟩ := List.getElem_of_mem hp
  have r : rd_T37 l j = p := by simp [rd_T37, List.getD_eq_getElem?_getD, hj, e]
  rw [← r]
  exact h j hj
/-- both, of a list that has from 1 to 100 points as they may be -/
theorem thr_good (l : List S37) (hm : SmP l) (hl : l.length ≤ 100) (h1 : 1 ≤ l.length) (h : ∀ j : Nat, j < l.length → Pt (rd_T37 l j)) (k : Nat) (hk : 60000 < k) :
    ∃ S M, (∀ i : Nat, i < 401 → S.getD i 0 = smT ((i : Int) - 200) l ∧ M.getD i 0 = cnT ((i : Int) - 200) l) ∧ spec_CurveThrough.f k l = some (impl_CurveThrough.fin (impl_CurveThrough.l2 S M 401 0 [] 0)) ∧ impl_CurveThrough.f k l = some (impl_CurveThrough.fin (impl_CurveThrough.l2 S M 401 0 [] 0)) := by
  have ha := allpt_of l h
  obtain ⟨S, M, e1, e2⟩ := thr_l1 l ha 0 impl_CurveThrough.Z impl_CurveThrough.Z zlenT zlenT (by omega) (fun i => by
    have z : impl_CurveThrough.Z.getD i 0 = 0 := by
      simp only [impl_CurveThrough.Z, List.getD_eq_getElem?_getD, List.getElem?_replicate]
      by_cases c : i < 401 <;> simp [c]
    rw [z]
    omega)
  have hS : ∀ i : Nat, i < 401 → S.getD i 0 = smT ((i : Int) - 200) l ∧ M.getD i 0 = cnT ((i : Int) - 200) l := fun i hi => by
    have := e2 i hi
    have z : impl_CurveThrough.Z.getD i 0 = 0 := by
      simp only [impl_CurveThrough.Z, List.getD_eq_getElem?_getD, List.getElem?_replicate]
      by_cases c : i < 401 <;> simp [c]
    rw [z] at this
    omega
  refine ⟨S, M, hS, ?_, ?_⟩
  · unfold spec_CurveThrough.f
    rw [in_f, Option.bind_some]
    have g : decide ((1 : Int) ≤ (l.length : Int) ∧ (l.length : Int) ≤ 100) = true := decide_eq_true (by omega)
    rw [g]
    obtain ⟨W, m, hW, hk'⟩ : ∃ W m, 401 * (l.length + 2) + 1 + m = W ∧ k = (W + 1) + l.length + 1 := ⟨_, k - 401 * (l.length + 2) - l.length - 3, rfl, by omega⟩
    have := thr_ok l hm hl h (W + 1) l.length 0 (by omega) (by omega)
    rw [hk']
    have q : spec_CurveThrough.l0 (W + 1 + l.length + 1) l true 0 = spec_CurveThrough.j1 (W + 1) l true := this
    rw [q]
    simp only [spec_CurveThrough.j1, if_true]
    have e := thr_out l ha hl S M hS m 401 0 [] 0 (by omega) (by omega) (by simp)
    rw [hW] at e
    exact e
  · unfold impl_CurveThrough.f impl_Point_65.f impl_Point_91.f
    rw [within_f, Option.bind_some]
    have g : decide ((1 : Int) ≤ (l.length : Int) ∧ (l.length : Int) ≤ 100) = true := decide_eq_true (by omega)
    obtain ⟨r, f1, f2, _⟩ := thr_idx l hm hl l.length k 0 (by omega) (by omega) (by omega)
    have f1' : impl_Point_91.l0 k l impl_CurveThrough_1.f (l.length : Int) 0 = some r := f1
    have f3 := f2 (fun j _ j1 => h j j1)
    have g2 : decide (r ≥ 0) = false := decide_eq_false (by omega)
    simp only [g, if_true, f1', Option.bind_some, g2, Bool.false_eq_true, if_false, e1]
theorem thr_no (l : List S37) (hm : SmP l) (hl : ¬ (1 ≤ l.length ∧ l.length ≤ 100) ∨ (1 ≤ l.length ∧ l.length ≤ 100) ∧ ∃ j : Nat, j < l.length ∧ ¬ Pt (rd_T37 l j)) (k : Nat) (hk : 60000 < k) : spec_CurveThrough.f k l = some ([], 2) ∧ impl_CurveThrough.f k l = some ([], 2) := by
  unfold spec_CurveThrough.f impl_CurveThrough.f impl_Point_65.f impl_Point_91.f
  rw [in_f, within_f, Option.bind_some, Option.bind_some]
  rcases hl with hl | ⟨hl, j, j1, j2⟩
  · have g : decide ((1 : Int) ≤ (l.length : Int) ∧ (l.length : Int) ≤ 100) = false := decide_eq_false (by omega)
    simp only [g, Bool.false_eq_true, if_false]
    exact ⟨thr_bad0 l k 0 (by omega), trivial⟩
  · have g : decide ((1 : Int) ≤ (l.length : Int) ∧ (l.length : Int) ≤ 100) = true := decide_eq_true (by omega)
    obtain ⟨r, f1, _, f2⟩ := thr_idx l hm (by omega) l.length k 0 (by omega) (by omega) (by omega)
    have f1' : impl_Point_91.l0 k l impl_CurveThrough_1.f (l.length : Int) 0 = some r := f1
    have f3 := f2 ⟨j, by omega, j1, j2⟩
    have g2 : decide (r ≥ 0) = true := decide_eq_true f3
    simp only [g, if_true, f1', Option.bind_some, g2]
    exact ⟨thr_bad l hm (by omega) l.length k 0 (by omega) (by omega) (by omega) ⟨j, by omega, j1, j2⟩, trivial⟩
theorem thr_f (l : List S37) (hm : SmP l) (k : Nat) (hk : 60000 < k) : ∃ z, spec_CurveThrough.f k l = some z ∧ impl_CurveThrough.f k l = some z ∧ z.1.length ≤ 1000 := by
  by_cases c : 1 ≤ l.length ∧ l.length ≤ 100
  · by_cases h : ∀ j : Nat, j < l.length → Pt (rd_T37 l j)
    · obtain ⟨S, M, _, e1, e2⟩ := thr_good l hm c.2 c.1 h k hk
      refine ⟨_, e1, e2, ?_⟩
      have := thr_len S M 401 0 [] 0
      unfold impl_CurveThrough.fin
      by_cases q : ((impl_CurveThrough.l2 S M 401 0 [] 0).length : Int) > 12
      · rw [if_pos q]; show 0 ≤ 1000; omega
      · rw [if_neg q]; show (impl_CurveThrough.l2 S M 401 0 [] 0).length ≤ 1000; omega
    · obtain ⟨j, hj⟩ := Classical.not_forall.1 h
      obtain ⟨j1, hj⟩ := Classical.not_imp.1 hj
      obtain ⟨e1, e2⟩ := thr_no l hm (.inr ⟨c, j, j1, hj⟩) k hk
      exact ⟨_, e1, e2, by show 0 ≤ 1000; omega⟩
  · obtain ⟨e1, e2⟩ := thr_no l hm (.inl c) k hk
    exact ⟨_, e1, e2, by show 0 ≤ 1000; omega⟩
def mkCurve (s : Int) : S37 := ⟨IntKind.i16.wrap s, IntKind.i16.wrap (s + 1)⟩
theorem markCurve_l (n : Nat) (hn : n ≤ 1048576) (d : Nat) : ∀ (k : Nat) (l : List S37) (s : Int) (i : Nat), l.length = n → i ≤ n → n - i = d → d < k → 0 ≤ s → s + 2 * d ≤ 100000000000 →
    ∃ l', laws_markCurve.l0 k l s i = some (s + 2 * d, l') ∧ l'.length = n ∧ (∀ j, j < i → l'.getD j z37 = l.getD j z37) ∧ (∀ j : Nat, i ≤ j → j < n → l'.getD j z37 = mkCurve (s + 2 * ((j : Int) - i))) := by
  induction d with
  | zero =>
    intro k l s i hl h0 hd hk hs hb
    obtain ⟨k, rfl⟩ : ∃ n, k = n + 1 := ⟨k - 1, by omega⟩
    simp only [laws_markCurve.l0]
    rw [if_neg (by omega)]
    exact ⟨l, by simp, hl, fun j hj => rfl, fun j j0 j1 => by omega⟩
  | succ d ih =>
    intro k l s i hl h0 hd hk hs hb
    obtain ⟨k, rfl⟩ : ∃ n, k = n + 1 := ⟨k - 1, by omega⟩
    simp only [laws_markCurve.l0]
    rw [if_pos (by omega), if_pos (by omega), Option.bind_some, w64 (x := s + 1) (by omega) (by omega), w64 (x := s + 1 + 1) (by omega) (by omega), w64 (x := (i : Int) + 1) (by omega) (by omega)]
    have hset : ∀ x : S37, (l.set i x).getD i z37 = x := fun x => getD_set_eq _ _ _ _ (by omega)
    simp only [rd_T37, Int.toNat_natCast, List.set_set, hset]
    obtain ⟨l', e1, e2, e3, e4⟩ := ih k (l.set i (mkCurve s)) (s + 1 + 1) (i + 1) (by simpa using hl) (by omega) (by omega) (by omega) (by omega) (by omega)
    refine ⟨l', ?_, e2, fun j hj => ?_, fun j j0 j1 => ?_⟩
    · rw [show s + 2 * ((d + 1 : Nat) : Int) = s + 1 + 1 + 2 * (d : Int) by omega]
      exact e1
    · rw [e3 j (by omega), getD_set_ne _ _ _ _ _ (by omega)]
    · by_cases c : j = i
      · subst c
        rw [e3 j (by omega), getD_set_eq _ _ _ _ (by omega)]
        congr 1
        omega
      · rw [e4 j (by omega) j1]
        congr 1
        omega
theorem markCurve_r (l : List S37) (hl : l.length ≤ 1048576) (k : Nat) (hk : l.length < k) : ∃ l', laws_markCurve.f k l 1 = some (1 + 2 * (l.length : Int), l') := by
  obtain ⟨l', e1, e2, _, e4⟩ := markCurve_l l.length hl l.length k l 1 0 rfl (by omega) (by omega) hk (by omega) (by omega)
  exact ⟨l', e1⟩
theorem markCurve_s (l : List S37) (s : Int) (hs : 0 ≤ s ∧ s ≤ 10000000) (hl : l.length ≤ 1048576) (k : Nat) (hk : l.length < k) : ∃ l', laws_markCurve.f k l s = some (s + 2 * (l.length : Int), l') := by
  obtain ⟨l', e1, e2, _, e4⟩ := markCurve_l l.length hl l.length k l s 0 rfl (by omega) (by omega) hk (by omega) (by omega)
  exact ⟨l', e1⟩
theorem heldCurve_l (n : Nat) (hn : n ≤ 1048576) (l : List S37) (hl : l.length = n) (d : Nat) : ∀ (k : Nat) (s : Int) (i : Nat), i ≤ n → n - i = d → d < k → 0 ≤ s → s + 2 * d ≤ 100000000000 → (∀ j : Nat, i ≤ j → j < n → l.getD j z37 = mkCurve (s + 2 * ((j : Int) - i))) →
    laws_heldCurve.l0 k l s i = some (s + 2 * d) := by
  induction d with
  | zero =>
    intro k s i h0 hd hk hs hb hj
    obtain ⟨k, rfl⟩ : ∃ n, k = n + 1 := ⟨k - 1, by omega⟩
    simp only [laws_heldCurve.l0]
    rw [if_neg (by omega)]
    simp
  | succ d ih =>
    intro k s i h0 hd hk hs hb hj
    obtain ⟨k, rfl⟩ : ∃ n, k = n + 1 := ⟨k - 1, by omega⟩
    have e := hj i (by omega) (by omega)
    rw [show s + 2 * ((i : Int) - i) = s by omega] at e
    have e' : rd_T37 l i = mkCurve s := by rw [rd_T37, Int.toNat_natCast]; exact e
    have c1 : (i : Int) < (l.length : Int) := by omega
    have c2 : 0 ≤ (i : Int) := by omega
    simp only [laws_heldCurve.l0, e', mkCurve, w64 (x := s + 1) (by omega) (by omega), w64 (x := s + 1 + 1) (by omega) (by omega), w64 (x := (i : Int) + 1) (by omega) (by omega), c1, c2, if_true]
    rw [show s + 2 * ((d + 1 : Nat) : Int) = s + 1 + 1 + 2 * (d : Int) by omega]
    refine ih k (s + 1 + 1) (i + 1) (by omega) (by omega) (by omega) (by omega) (by omega) (fun j j0 j1 => ?_)
    rw [hj j (by omega) j1]
    congr 1
    omega
theorem markCurve_f (l : List S37) (hl : l.length ≤ 1048576) (k : Nat) (hk : l.length < k) : ∃ l', laws_markCurve.f k l 1 = some (1 + 2 * (l.length : Int), l') ∧ l'.length = l.length ∧ ∀ k', l.length < k' → laws_heldCurve.f k' l' 1 = some (1 + 2 * (l.length : Int)) := by
  obtain ⟨l', e1, e2, _, e4⟩ := markCurve_l l.length hl l.length k l 1 0 rfl (by omega) (by omega) hk (by omega) (by omega)
  exact ⟨l', e1, e2, fun k' hk' => heldCurve_l l.length hl l' e2 l.length k' 1 0 (by omega) (by omega) hk' (by omega) (by omega) e4⟩
def mkPointS (s : Int) : S37 := ⟨IntKind.i16.wrap s, IntKind.i16.wrap (s + 1)⟩
theorem markPointS_l (n : Nat) (hn : n ≤ 1048576) (d : Nat) : ∀ (k : Nat) (l : List S37) (s : Int) (i : Nat), l.length = n → i ≤ n → n - i = d → d < k → 0 ≤ s → s + 2 * d ≤ 100000000000 →
    ∃ l', laws_markPointS.l0 k l s i = some (s + 2 * d, l') ∧ l'.length = n ∧ (∀ j, j < i → l'.getD j z37 = l.getD j z37) ∧ (∀ j : Nat, i ≤ j → j < n → l'.getD j z37 = mkPointS (s + 2 * ((j : Int) - i))) := by
  induction d with
  | zero =>
    intro k l s i hl h0 hd hk hs hb
    obtain ⟨k, rfl⟩ : ∃ n, k = n + 1 := ⟨k - 1, by omega⟩
    simp only [laws_markPointS.l0]
    rw [if_neg (by omega)]
    exact ⟨l, by simp, hl, fun j hj => rfl, fun j j0 j1 => by omega⟩
  | succ d ih =>
    intro k l s i hl h0 hd hk hs hb
    obtain ⟨k, rfl⟩ : ∃ n, k = n + 1 := ⟨k - 1, by omega⟩
    simp only [laws_markPointS.l0]
    rw [if_pos (by omega), if_pos (by omega), Option.bind_some, w64 (x := s + 1) (by omega) (by omega), w64 (x := s + 1 + 1) (by omega) (by omega), w64 (x := (i : Int) + 1) (by omega) (by omega)]
    have hset : ∀ x : S37, (l.set i x).getD i z37 = x := fun x => getD_set_eq _ _ _ _ (by omega)
    simp only [rd_T37, Int.toNat_natCast, List.set_set, hset]
    obtain ⟨l', e1, e2, e3, e4⟩ := ih k (l.set i (mkPointS s)) (s + 1 + 1) (i + 1) (by simpa using hl) (by omega) (by omega) (by omega) (by omega) (by omega)
    refine ⟨l', ?_, e2, fun j hj => ?_, fun j j0 j1 => ?_⟩
    · rw [show s + 2 * ((d + 1 : Nat) : Int) = s + 1 + 1 + 2 * (d : Int) by omega]
      exact e1
    · rw [e3 j (by omega), getD_set_ne _ _ _ _ _ (by omega)]
    · by_cases c : j = i
      · subst c
        rw [e3 j (by omega), getD_set_eq _ _ _ _ (by omega)]
        congr 1
        omega
      · rw [e4 j (by omega) j1]
        congr 1
        omega
theorem markPointS_r (l : List S37) (hl : l.length ≤ 1048576) (k : Nat) (hk : l.length < k) : ∃ l', laws_markPointS.f k l 1 = some (1 + 2 * (l.length : Int), l') := by
  obtain ⟨l', e1, e2, _, e4⟩ := markPointS_l l.length hl l.length k l 1 0 rfl (by omega) (by omega) hk (by omega) (by omega)
  exact ⟨l', e1⟩
theorem markPointS_s (l : List S37) (s : Int) (hs : 0 ≤ s ∧ s ≤ 10000000) (hl : l.length ≤ 1048576) (k : Nat) (hk : l.length < k) : ∃ l', laws_markPointS.f k l s = some (s + 2 * (l.length : Int), l') := by
  obtain ⟨l', e1, e2, _, e4⟩ := markPointS_l l.length hl l.length k l s 0 rfl (by omega) (by omega) hk (by omega) (by omega)
  exact ⟨l', e1⟩
theorem up {α : Type} {g : Nat → Option α} (h : ∀ k, LeO (g k) (g (k + 1))) {r q : α} (i j : Nat) (hr : g i = some r) (hq : g j = some q) : g j = some r := by
  have a := at_rounds h (Nat.le_max_left i j) hr
  have b := at_rounds h (Nat.le_max_right i j) hq
  rw [a] at b
  rw [hq, Option.some.inj b]
theorem FnExactCurveThrough : laws_FnExactCurveThrough.Pure := by
  intro l h0 h0w
  refine ⟨2000000, ?_⟩
  unfold laws_FnExactCurveThrough.f
  rw [szPointS_g l 1048576 (by omega) (by omega), Option.bind_some]
  by_cases c : (l.length : Int) ≤ 1048576
  · rw [if_pos c, if_neg (by omega), toPointS_f l (by omega) _ (by omega)]
    have hl : (l.map cvPointS).length ≤ 1048576 := by rw [List.length_map]; omega
    obtain ⟨z, z1, z2, z3⟩ := thr_f _ (smp_map h0w) 2000000 (by omega)
    obtain ⟨y, y1, y2, y3⟩ := thr_f _ (smp_map h0w) 1999998 (by omega)
    have hz : impl_CurveThrough.f 1999998 (l.map cvPointS) = some z := up (impl_CurveThrough.mono (l.map cvPointS)) 2000000 1999998 z2 y2
    obtain ⟨l1, m1⟩ := markPointS_s _ 1 (by omega) hl 1999999 (by omega)
    obtain ⟨l3, n1, n2, n3⟩ := markCurve_f z.1 (by omega) 1999998 (by omega)
    have q0 : ∀ k, 1999990 ≤ k → laws_eqCurve.f k z.1 z.1 = some true := fun k hk => eqCurve_f _ (by omega) k (by omega)
    simp only [Option.bind_some, z1, z2, q0 2000000 (by omega), if_true, bne_self_eq_false]
    simp only [laws_FnExactCurveThrough.j0, Bool.false_eq_true, if_false, toPointS_f l (show l.length ≤ 1048576 by omega) 1999999 (by omega), Option.bind_some, eqPointS_f _ hl 1999999 (by omega), if_true, m1, q0 1999999 (by omega), bne_self_eq_false]
    rw [if_neg (by omega)]
    simp only [laws_FnExactCurveThrough.j1, Bool.false_eq_true, if_false, n1, Option.bind_some, n3 1999998 (by omega), if_true, toPointS_f l (show l.length ≤ 1048576 by omega) 1999998 (by omega), hz, q0 1999998 (by omega), bne_self_eq_false]
    rw [if_neg (by omega)]
    simp only [laws_FnExactCurveThrough.j2, Bool.false_eq_true, if_false, n3 1999997 (by omega), Option.bind_some, if_true]
    rw [if_neg (by omega)]
  · rw [if_neg c, if_pos (by omega)]

end Go.Proofs.Ytcgahnmdaelngaa.Pure
