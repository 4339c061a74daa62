/- Proves what functions that a law reaches come to, one contract each; no conditions beyond those that each names. Printed by a program of this session (xprint) out of the translation. -/
import Derived.Test.YtedheepkalbcfaaPFnMovedCurvesx0
import Derived.Test.YtedheepkalbcfaaPFnMovedCurvesx2
import Derived.Test.YtedheepkalbcfaaPFnMovedCurvesx8
namespace Go.Proofs.Ytedheepkalbcfaa.PFnMovedCurves
open Go.RowKit Go.Proofs.YtedheepkalbcfaaW.PrintWords Go.Proofs.YtedheepkalbcfaaW.PrintLast Go.Proofs.YtedheepkalbcfaaW.PrintMore
attribute [local go_sem] max2_int min2_int max_two min_two max_three min_three max_four min_four
set_option maxHeartbeats 8000000
set_option maxRecDepth 100000
set_option linter.unusedVariables false
set_option linter.unusedSimpArgs false

/-! ### impl_CurveThrough_1: function 43 -/
def impl_CurveThrough_1.f (a0_0 : Int) (a0_1 : Int) : Option (Bool) := (impl_isPoint.f a0_0 a0_1).bind fun t248 => (some (!t248))
theorem impl_CurveThrough_1.calls (a0_0 : Int) (a0_1 : Int) (r : Bool) (w : World) (h : impl_CurveThrough_1.f a0_0 a0_1 = some r) :
 Calls Try.prog 43 #[.agg #[.int .i16 a0_0, .int .i16 a0_1]] w fun e w' => e = .returned (.bool r) ∧ Below w.heap.size w w' := by
 have hu37 := Try.underlying37
 have HB := am (Below.refl w.heap.size w)
 have H : ((impl_isPoint.f a0_0 a0_1).bind fun t248 => (some (!t248))) = some r := h
 clear h
 replace H := qob.mp H
 obtain ⟨t248, A20, H⟩ := H
 replace H : (some (!t248)) = some r := H
 have A2 := am A20
 clear A20
 obtain rfl := Option.some.inj H
 go_enter Try.func43, Try.ntmps43
 go_wp2_with (first | ((with_reducible refine gate_dst (N := 1) rfl ?_); refine box_event ?hg (N := 1) ?hd (cs := #[.int .i16 a0_0, .int .i16 a0_1]) (t := 37) ?hr ?_; (case hd => rfl); (case hg => rfl); (case hr => first | (go_simp; done) | (go_simp; rfl)); intro gb247 hg w3 hbox hb; have n0_ := am (qS hb); have n1_ := am (hbox); have n2_ := am ((by rw [hg]; exact qZ : w.heap.size ≤ gb247)); have n3_ := am ((by rw [hg]; exact qZ : w.heap.size ≤ gb247)); clear HB; have HB := n0_; have BK247 := n1_; have GW247 := n2_; have GE247 := n3_; clear n0_ n1_ n2_ n3_; clear hb hbox hg; have hcz4_0 : w3.cell? ⟨gb247, 0, none⟩ = some (.int .i16 a0_0) := (blk_cell BK247.out 0).trans rfl; have hcz4_1 : w3.cell? ⟨gb247, 1, none⟩ = some (.int .i16 a0_1) := (blk_cell BK247.out 1).trans rfl; have hfz4_0 := blk_frozen BK247.out 0; have hfz4_1 := blk_frozen BK247.out 1) | ((with_reducible refine gate_callee (f := 44) rfl ?_); refine gl (some 4) rfl rfl Try.func44 #[.agg #[.int .i16 a0_0, .int .i16 a0_1]] rfl ?_; (with_reducible refine (impl_isPoint.calls a0_0 a0_1 t248 _ A2.out).mono ?_); rintro e w5 ⟨rfl, hb⟩; refine ⟨_, rfl, ?_⟩; have n0_ := am (blk_below (g := gb247) (o := .cells #[.int .i16 a0_0, .int .i16 a0_1] 37 (0, 0)) (by (with_reducible repeat (first | refine blk_drewN ?_ _ | refine blk_drew ?_ | refine blk_alloc ?_ _)); exact BK247.out) hb); have n1_ := am (qs (by repeat (first | (with_reducible first | exact HB.out | apply qa | apply qn | apply qd | refine below_set ?_ GE247.out) | exact HB.out)) hb); clear BK247; clear HB; have BK247 := n0_; have HB := n1_; clear n0_ n1_; (try clear hb)))
 go_ret
 exact ⟨te, by repeat (first | (with_reducible first | exact HB.out | apply qa | apply qn | apply qd | refine below_set ?_ GE247.out) | exact HB.out)⟩


/-! ### impl_CurveThrough: function 15 -/
def impl_CurveThrough.Z : List Int := List.replicate 401 0
def impl_CurveThrough.l1 : List S37 → List Int → List Int → Option (List Int × List Int)
 | [], S, M => some (S, M)
 | p :: r, S, M => if -200 ≤ p.f0 ∧ p.f0 ≤ 200 then impl_CurveThrough.l1 r (S.set (p.f0 + 200).toNat (wrap64 (S.getD (p.f0 + 200).toNat 0 + wrap64 p.f1))) (M.set (p.f0 + 200).toNat (wrap64 (M.getD (p.f0 + 200).toNat 0 + 1))) else none
def impl_CurveThrough.l2 (S M : List Int) : Nat → Nat → List S37 → Int → List S37
 | 0, _, out, _ => out
 | d + 1, i, out, last => if 0 < M.getD i 0 then impl_CurveThrough.l2 S M d (i + 1) (out ++ [(⟨(i : Int) - 200, IntKind.i16.wrap (mx last (wrap64 (Int.tdiv (S.getD i 0) (M.getD i 0))))⟩ : S37)]) (mx last (wrap64 (Int.tdiv (S.getD i 0) (M.getD i 0)))) else impl_CurveThrough.l2 S M d (i + 1) out last
def impl_CurveThrough.fin (out : List S37) : List S37 × Int := if (out.length : Int) > 12 then ([], 3) else (out, 0)
def impl_CurveThrough.f (k : Nat) (l0 : List S37) : Option (List S37 × Int) := (impl_within.f (l0.length : Int) 1 100).bind fun t => if t = true then (impl_Point_42.f k l0 impl_CurveThrough_1.f).bind fun b => if b = true then some ([], 2) else (impl_CurveThrough.l1 l0 impl_CurveThrough.Z impl_CurveThrough.Z).bind fun s => some (impl_CurveThrough.fin (impl_CurveThrough.l2 s.1 s.2 401 0 [] 0)) else some ([], 2)
theorem impl_CurveThrough.mono : ∀ l0 k, LeO (impl_CurveThrough.f k l0) (impl_CurveThrough.f (k + 1) l0) := by
 intro l0 k
 unfold impl_CurveThrough.f
 refine LeO.bind (LeO.refl _) fun t => LeO.ite ?_ (LeO.refl _)
 exact LeO.bind (impl_Point_42.mono _ _ _) fun b => LeO.refl _
theorem ct_i16w {x : Int} (h : -32768 ≤ x) (h' : x ≤ 32767) : IntKind.i16.wrap x = x := by
 show (if (true && decide (x % 65536 ≥ 32768)) = true then x % 65536 - 65536 else x % 65536) = x
 by_cases e : x % 65536 ≥ 32768
 · rw [if_pos (by simpa using e)]; omega
 · rw [if_neg (by simpa using e)]; omega
def enc64 (l : List Int) : Array Value := (l.map (Value.int .i64)).toArray
theorem enc_size (l : List Int) : (enc64 l).size = l.length := by simp [enc64]
theorem enc_get (l : List Int) (i : Nat) (h : i < l.length) : (enc64 l)[i]? = some (.int .i64 (l.getD i 0)) := by simp [enc64, h]
theorem enc_one (l : List Int) : (enc64 l).all (·.oneCell') = true := by
 simp [enc64, Value.oneCell']
theorem enc_set (l : List Int) (i : Nat) (x : Int) : (enc64 l).setIfInBounds i (.int .i64 x) = enc64 (l.set i x) := by
 simp [enc64, List.map_set]
theorem idx_run {t : TypeId} (hu : Try.prog.underlying t = some (.array 401 2)) (l : List Int) (hl : l.length = 401) (i : Nat) (hi : i < 401) (w : World) :
 (Instr.index t (.agg (enc64 l)) (.int .i64 (i : Int))).run Try.prog w = .ok (.int .i64 (l.getD i 0)) w := by
 have g := enc_get l i (by omega)
 have s1 : ∀ w, Sem.run Try.prog (sizeOf 2) w = .ok 1 w := fun w => by kernel_rfl
 have s2 : ∀ w, Sem.run Try.prog (isAgg 2) w = .ok false w := fun w => by kernel_rfl
 simp [Instr.index, run_underlying hu, asIntOf, hi, s1, s2, go_sem]
 rw [g]
 simp
theorem sz59 : (Try.prog.info? 59).map (·.size) = some 401 := by kernel_rfl
def zc59 : Array Value := Array.replicate 401 (.int .i64 0)
theorem zc59_run (w : World) : Sem.run Try.prog (zeroValue 59) w = .ok (.agg zc59) w := by kernel_rfl
theorem zc59_ne : zc59 ≠ #[] := by
 intro e
 have h : zc59.size = 401 := by kernel_rfl
 rw [e] at h
 cases h
attribute [local go_sem] zc59_run zc59_ne
theorem zs : zc59.size = 401 := by kernel_rfl
theorem z1 : zc59.all (·.oneCell') = true := by kernel_rfl
theorem zenc : zc59 = enc64 impl_CurveThrough.Z := by kernel_rfl
theorem lt_of_obj {w : World} {k : Nat} {o : Obj} (h : w.heap[k]? = some o) : k < w.heap.size := (Array.getElem?_eq_some_iff.1 h).1
theorem below_setRow {B : Nat} {a w : World} (h : Below B a w) {g : Nat} (hg : B ≤ g) (cs : Array Value) : Below B a (w.setRow g cs) :=
 ⟨h.os, h.tape, h.output, by rw [size_setRow]; exact h.size, fun k hk => (setRow_other w g k cs (by omega)).trans (h.block k hk)⟩
theorem rows2 (w : World) (Z : Array Value) (Y : Array Value) (T : TypeId) : ((((w.alloc (.cells Z T)).alloc (.cells Z T)).setRow w.heap.size Y).setRow (w.heap.size + 1) Y).heap[w.heap.size]? = some (.cells Y T (0, 0)) ∧ ((((w.alloc (.cells Z T)).alloc (.cells Z T)).setRow w.heap.size Y).setRow (w.heap.size + 1) Y).heap[w.heap.size + 1]? = some (.cells Y T (0, 0)) := by
 constructor
 · rw [setRow_other _ _ _ _ (by omega)]
   exact setRow_heap _ _ Z Y T (0, 0) (heap_alloc2_old _ _ _)
 · exact setRow_heap _ _ Z Y T (0, 0) ((setRow_other _ _ _ _ (by omega)).trans (heap_alloc2_new _ _ _))
theorem ct_up (wr : World) (bS bM n : Nat) (hne : bS ≠ bM) (S1 M1 : List Int) (x y : Int) (o : Obj) (HS : wr.heap[bS]? = some (.cells (enc64 S1) 59 (0, 0))) (HM : wr.heap[bM]? = some (.cells (enc64 M1) 59 (0, 0))) :
 ((((wr.setCell ⟨bS, n, none⟩ (.int .i64 x)).setCell ⟨bM, n, none⟩ (.int .i64 y)).alloc o).drew).heap[bS]? = some (.cells (enc64 (S1.set n x)) 59 (0, 0)) ∧ ((((wr.setCell ⟨bS, n, none⟩ (.int .i64 x)).setCell ⟨bM, n, none⟩ (.int .i64 y)).alloc o).drew).heap[bM]? = some (.cells (enc64 (M1.set n y)) 59 (0, 0)) := by
 have a1 := heap_setCell_same wr bS n _ _ (.int .i64 x) HS
 have a2 := (heap_setCell_other (wr.setCell ⟨bS, n, none⟩ (.int .i64 x)) ⟨bM, n, none⟩ bS (.int .i64 y) hne).trans a1
 have b1 := (heap_setCell_other wr ⟨bS, n, none⟩ bM (.int .i64 x) (Ne.symm hne)).trans HM
 have b2 := heap_setCell_same (wr.setCell ⟨bS, n, none⟩ (.int .i64 x)) bM n _ _ (.int .i64 y) b1
 rw [enc_set] at a2 b2
 exact ⟨(_root_.Go.heap_alloc_old _ o (lt_of_obj a2)).trans a2, (_root_.Go.heap_alloc_old _ o (lt_of_obj b2)).trans b2⟩
theorem impl_CurveThrough.main (k : Nat) (A0 : Option Addr) (c0 : Nat) (l0 : List S37) (S M : List Int) (w : World) (hr0 : Kd.C k37 w A0 l0.length l0) (hc0 : l0.length ≤ c0)
 (hl : l0.length ≤ 100) (h1 : impl_within.f (l0.length : Int) 1 100 = some true) (h2 : impl_Point_42.f k l0 impl_CurveThrough_1.f = some false) (h3 : impl_CurveThrough.l1 l0 impl_CurveThrough.Z impl_CurveThrough.Z = some (S, M)) :
 Calls Try.prog 15 #[.slice A0 l0.length c0] w fun e w' => ∃ v0_ : Value, e = .returned (.tuple #[v0_, .int .i64 (impl_CurveThrough.fin (impl_CurveThrough.l2 S M 401 0 [] 0)).2]) ∧ Kd.R k37 37 w' w.heap.size (fun _ => True) v0_ (impl_CurveThrough.fin (impl_CurveThrough.l2 S M 401 0 [] 0)).1 ∧ Below w.heap.size w w' := by
 have HB := am (Below.refl w.heap.size w)
 have HR0 := am hr0
 have HC0 := am hc0
 clear hr0 hc0
 have hu37 := Try.underlying37
 have H3 := am h3
 clear h3
 go_enter Try.func15, Try.ntmps15
 have H1 := am h1
 have H2 := am h2
 clear h1 h2
 go_upto_region 3 with (first | (go_at_call 41; (refine (impl_Point_41.calls A0 c0 l0 _ _ ?s1 ?s2 rfl).mono ?_); (case s1 => repeat (first | exact (Kd.C_below HR0.out HB.out) | exact HR0.out | (with_reducible first | refine qca ?_ _ | refine qcn ?_ _ | refine qco ?_))); (case s2 => exact HC0.out); rintro e w' ⟨rfl, ⟨nd, rfl⟩⟩) | (go_at_call 40; (refine (impl_within.calls _ _ _ true _ H1.out).mono ?_); rintro e w' ⟨rfl, ⟨nd, rfl⟩⟩) | (go_at_call 42; go_loud (refine (impl_Point_42.calls43 k A0 c0 l0 impl_CurveThrough_1.f false _ ?s3 ?s4 (fun x y s w' hb h => impl_CurveThrough_1.calls x y s w' h) H2.out).mono ?_); (case s3 => repeat (first | exact (Kd.C_below HR0.out HB.out) | exact HR0.out | (with_reducible first | refine qca ?_ _ | refine qcn ?_ _ | refine qco ?_))); (case s4 => exact HC0.out); rintro e w7 ⟨rfl, hb⟩; have n0_ := am (qS hb); clear HB; have HB := n0_; clear n0_ hb))
 go_cut [4, 5] (fun v4 v5 wc => ∃ bS bM : Nat, v4 = .pointer (some ⟨bS, 0, none⟩) ∧ v5 = .pointer (some ⟨bM, 0, none⟩) ∧ bS ≠ bM ∧ w.heap.size ≤ bS ∧ w.heap.size ≤ bM ∧ Aside0 (wc.heap[bS]? = some (.cells (enc64 impl_CurveThrough.Z) 59 (0, 0))) ∧ Aside0 (wc.heap[bM]? = some (.cells (enc64 impl_CurveThrough.Z) 59 (0, 0))) ∧ Aside0 (Below w.heap.size w wc))
 case first =>
  go_wp2_with (first | (refine wpList_store_row rfl 59 (.tmp 4) (.tmp 20) rfl w7.heap.size zc59 rfl rfl 59 zc59 (heap_alloc2_old _ _ _) (by rw [zs]; exact sz59) rfl z1 ?_) | (refine wpList_store_row rfl 59 (.tmp 5) (.tmp 21) rfl (w7.heap.size + 1) zc59 rfl rfl 59 zc59 ((setRow_other _ _ _ _ (by omega)).trans (heap_alloc2_new _ _ _)) (by rw [zs]; exact sz59) rfl z1 ?_)); go_meet
  case rel => exact ⟨w7.heap.size, w7.heap.size + 1, rfl, rfl, by omega, HB.out.size, by have := HB.out.size; omega, ⟨zenc ▸ (rows2 _ _ _ _).1⟩, ⟨zenc ▸ (rows2 _ _ _ _).2⟩, ⟨below_setRow (below_setRow hB HB.out.size _) (by have := HB.out.size; omega) _⟩⟩
 case rest => as_aux_lemma =>
  clear HB; obtain ⟨bS, bM, rfl, rfl, hne, gS, gM, HS, HM, HB⟩ := hcut; go_wp2; go_loopg [24] (l0.length + 1) (fun kq v24 w' => ∃ (i : Nat) (S1 M1 : List Int), v24 = .int .i64 (i : Int) ∧ i ≤ l0.length ∧ kq + i = l0.length + 1 ∧ S1.length = 401 ∧ M1.length = 401 ∧ Aside0 (impl_CurveThrough.l1 (l0.drop i) S1 M1 = some (S, M)) ∧ Aside0 (w'.heap[bS]? = some (.cells (enc64 S1) 59 (0, 0))) ∧ Aside0 (w'.heap[bM]? = some (.cells (enc64 M1) 59 (0, 0))) ∧ Aside0 (Below w.heap.size w w'))
  case atStart => exact ⟨0, _, _, rfl, by omega, by omega, by simp [impl_CurveThrough.Z], by simp [impl_CurveThrough.Z], ⟨H3.out⟩, HS, HM, ⟨hB⟩⟩
  case round =>
   clear HS HM HB; obtain ⟨i, S1, M1, rfl, hi, hk, s1, m1, H4, HS, HM, HB⟩ := hrel
   cases gk with
   | zero => omega
   | succ k1 =>
    by_cases c : i < l0.length
    · have c0 : decide ((i : Int) < (l0.length : Int)) = true := decide_eq_true (by omega)
      obtain ⟨x, hx⟩ : ∃ x, rd_T37 l0 (i : Int) = x := ⟨_, rfl⟩
      have dr : l0.drop i = x :: l0.drop (i + 1) := by
       rw [List.drop_eq_getElem_cons c, ← hx]; simp [rd_T37, List.getD_eq_getElem?_getD, c]
      have h4 := H4.out; rw [dr] at h4; simp only [impl_CurveThrough.l1] at h4
      by_cases cx : -200 ≤ x.f0 ∧ x.f0 ≤ 200
      · rw [if_pos cx] at h4
        obtain ⟨n, hn⟩ : ∃ n : Nat, (n : Int) = x.f0 + 200 := ⟨(x.f0 + 200).toNat, by omega⟩; (have hn1 : n < 401 := by omega); (have hn2 : (x.f0 + 200).toNat = n := by omega); rw [hn2] at h4; (have wn : IntKind.i16.wrap (x.f0 + 200) = (n : Int) := by rw [← hn]; exact ct_i16w (by omega) (by omega)); obtain ⟨sv, hsv⟩ : ∃ sv, S1.getD n 0 = sv := ⟨_, rfl⟩; obtain ⟨mv, hmv⟩ : ∃ mv, M1.getD n 0 = mv := ⟨_, rfl⟩; have gs := enc_get S1 n (by omega); have gm := enc_get M1 n (by omega); rw [hsv, hmv] at h4; rw [hsv] at gs; rw [hmv] at gm; have H4' := am h4; clear h4 H4 dr hsv hmv; obtain ⟨ad, ead, hx0, hx1⟩ := at_T37 HR0.out (i : Int) (by omega) (by omega); rw [hx] at hx0 hx1; rw [Int.toNat_natCast] at hx0 hx1
        cases ead
        replace hx0 := (HB.out.cell (qwb w _ hx0)).trans hx0; replace hx1 := (HB.out.cell (qwb w _ hx1)).trans hx1; have p178 := eq_true (show 0 ≤ (i : Int) by omega); have ls := lt_of_obj HS.out; have lm := lt_of_obj HM.out; (have xs0 : ∀ o, (wr.alloc o).cell? ⟨bS, n, none⟩ = some (.int .i64 sv) := fun o => (cell_of_row _ _ n _ _ _ ((_root_.Go.heap_alloc_old wr o ls).trans HS.out)).trans gs); (have xm0 : ∀ v o, ((wr.setCell ⟨bS, n, none⟩ v).alloc o).cell? ⟨bM, n, none⟩ = some (.int .i64 mv) := fun v o => (cell_of_row _ _ n _ _ _ ((_root_.Go.heap_alloc_old _ o (lt_of_obj ((heap_setCell_other wr ⟨bS, n, none⟩ bM v (Ne.symm hne)).trans HM.out))).trans ((heap_setCell_other wr ⟨bS, n, none⟩ bM v (Ne.symm hne)).trans HM.out))).trans gm); (have fs0 : ∀ o, (wr.alloc o).frozen? ⟨bS, n, none⟩ = false := fun o => frozen_of_row _ _ n _ _ ((_root_.Go.heap_alloc_old wr o ls).trans HS.out)); (have fm0 : ∀ v o, ((wr.setCell ⟨bS, n, none⟩ v).alloc o).frozen? ⟨bM, n, none⟩ = false := fun v o => frozen_of_row _ _ n _ _ ((_root_.Go.heap_alloc_old _ o (lt_of_obj ((heap_setCell_other wr ⟨bS, n, none⟩ bM v (Ne.symm hne)).trans HM.out))).trans ((heap_setCell_other wr ⟨bS, n, none⟩ bM v (Ne.symm hne)).trans HM.out))); go_wp2; go_region; clear xs0 fs0 hx0 hx1 gs gm; go_wp2; go_roundg k1
        case measure => omega
        case rel =>
         refine ⟨i + 1, _, _, by simp, by omega, by omega, ?_, ?_, H4', ?_, ?_, ?_⟩
         · simp [s1]
         · simp [m1]
         · exact ⟨(ct_up _ _ _ _ hne _ _ _ _ _ HS.out HM.out).1⟩
         · exact ⟨(ct_up _ _ _ _ hne _ _ _ _ _ HS.out HM.out).2⟩
         · exact ⟨qd (qa (Below.setCell (Below.setCell HB.out gS _) gM _) _)⟩
      · rw [if_neg cx] at h4
        cases h4
    · have c0 : decide ((i : Int) < (l0.length : Int)) = false := decide_eq_false (by omega)
      have h4 := H4.out; rw [List.drop_of_length_le (by omega)] at h4; obtain ⟨rfl, rfl⟩ := Prod.mk.inj (Option.some.inj h4); clear H4 h4; go_upto_region 11 with (first | ((with_reducible refine gate_dst (N := 46) rfl ?_); refine Kd.R_lit k37 _ 37 ?hg (N := 46) ?hd (xs := ([] : List (S37))) (inner := []) (ok := fun k_ => k_ ≠ bS) (okp := fun k_ => k_ ≠ bS) ?hr ?hp (fun _ hk => hk) (fun e => by have := lt_of_obj HS.out; omega) (Below.refl _ _) (Nat.le_refl _) (by simp) ?_; (case hd => rfl); (case hg => rfl); (case hr => first | (go_simp; done) | (go_simp; rfl)); (case hp => exact (Reps.none _ _)); intro v176 w14 ho15 hb hg_ hnew_; clear hg_ hnew_; have n0_ := am (Kd.R_lower ho15 qZ); have n1_ := am (qS hb); have HS1 := am ((hb.block _ (lt_of_obj HS.out)).trans HS.out); have HM1 := am ((hb.block _ (lt_of_obj HM.out)).trans HM.out); clear HB HS HM; have HO := n0_; have HB := n1_; have HS := HS1; have HM := HM1; clear n0_ n1_ HS1 HM1; clear hb ho15)); have ls := lt_of_obj HS.out; go_wp2_with (first | ((with_reducible refine gate_dst (N := 47) rfl ?_); refine wpList_load_row rfl 59 (.tmp 5) rfl bM rfl 59 (enc64 M1) (0, 0) _ HM.out Try.underlying59 rfl (by rw [enc_size, m1]; exact sz59) ?_)); clear HM H3 H1 H2 c c0 ls; go_loopg [8, 9, 48] 402 (fun kq v8 v9 v48 w' => ∃ (j : Nat) (out : List S37) (last : Int), v9 = .int .i64 last ∧ v48 = .int .i64 (j : Int) ∧ j ≤ 401 ∧ kq + j = 402 ∧ out.length ≤ j ∧ Aside0 (impl_CurveThrough.l2 S1 M1 (401 - j) j out last = impl_CurveThrough.l2 S1 M1 401 0 [] 0) ∧ Aside0 (Kd.R k37 37 w' w.heap.size (fun k_ => k_ ≠ bS) v8 out) ∧ Aside0 (w'.heap[bS]? = some (.cells (enc64 S1) 59 (0, 0))) ∧ Aside0 (Below w.heap.size w w'))
      case atStart => exact ⟨0, [], 0, rfl, rfl, by omega, by omega, by simp, ⟨rfl⟩, ⟨by (with_reducible repeat (first | apply qra | apply qrn | apply qro)); exact HO.out⟩, HS, ⟨hB⟩⟩
      case round =>
       clear HO HS HB; obtain ⟨j, out, last, rfl, rfl, hj, hq, ho, H5, HO, HS, HB⟩ := hrel
       cases gk with
       | zero => omega
       | succ k2 =>
        generalize hLL : impl_CurveThrough.l2 S1 M1 401 0 [] 0 = LL at H5
        have HL := am hLL; clear hLL
        by_cases c : j < 401
        · have c0 : decide ((j : Int) < 401) = true := decide_eq_true (by omega)
          (have ix := fun w => idx_run Try.underlying59 M1 m1 j c w); have h5 := H5.out; rw [show 401 - j = (401 - (j + 1)) + 1 by omega] at h5; simp only [impl_CurveThrough.l2] at h5; obtain ⟨mv, hmv⟩ : ∃ mv, M1.getD j 0 = mv := ⟨_, rfl⟩; obtain ⟨sv, hsv⟩ : ∃ sv, S1.getD j 0 = sv := ⟨_, rfl⟩; have xs0 : wr.cell? ⟨bS, j, none⟩ = some (.int .i64 sv) := hsv ▸ (cell_of_row wr _ j _ _ _ HS.out).trans (enc_get S1 j (by omega)); rw [hmv, hsv] at h5; rw [hmv] at ix; clear hmv hsv H5
          by_cases p : 0 < mv
          · rw [if_pos p] at h5
            have p0 : decide (0 < mv) = true := decide_eq_true p; have p1 : (mv == 0) = false := beq_eq_false_iff_ne.mpr (by omega); (have p2 : mv ≠ 0 := by omega); obtain ⟨ji, hji⟩ : ∃ ji, mx last (wrap64 (Int.tdiv sv mv)) = ji := ⟨_, rfl⟩; rw [hji] at h5; have hji_ : (if last < (wrap64 (Int.tdiv sv mv)) then (wrap64 (Int.tdiv sv mv)) else last) = ji := hji; clear hji; have H5 := am h5; have HO1 := am (show out.length ≤ 401 by omega); clear h5; go_wp2_with (first | ((with_reducible refine gate_builtin (b := .append) (xs := #[.tmp 61, .tmp 68]) rfl ?_); at_builtin; refine Kd.R_append k37 (w0 := w) w.heap.size rfl (.tmp 61) (.tmp 68) 25 37 (.agg #[(.int .i16 0), (.int .i16 0)]) 4 rfl Try.underlying25 info37 rfl (by decide) (by omega) _ out (⟨(j : Int) - 200, IntKind.i16.wrap (ji)⟩ : S37) [.int .i16 ((j : Int) - 200), .int .i16 (IntKind.i16.wrap (ji))] (fun k_ => k_ ≠ bS) (fun _ => False) rfl rfl ?aP (fun _ hk => hk.elim) ?aF ?aO ?aB ?aS ?aL ?_; (case aP => exact k37_mkM _ _ _ (⟨(j : Int) - 200, IntKind.i16.wrap (ji)⟩ : S37)); (case aB => exact hB); (case aF => exact (fun k_ hk e_ => by subst e_; exact absurd (lt_of_obj HS.out) (Nat.not_lt_of_le hk))); (case aO => exact (by (with_reducible repeat (first | apply qra | apply qrn | apply qro)); exact HO.out)); (case aS => exact qZ); (case aL => have := HO1.out; omega); intro v134 w20 ho_ hb hg hat; have n0_ := am (hb); have n1_ := am (ho_); have n2_ := am ((hg.block bS (lt_of_obj HS.out) (fun e_ => HO.out.1 _ e_.symm rfl)).trans HS.out); clear HB HO HS; have HB := n0_; have HO := n1_; have HS := n2_; clear n0_ n1_ n2_; clear ho_ hb hg hat)); go_roundg k2
            case measure => omega
            case rel => exact ⟨j + 1, _, ji, rfl, by simp, by omega, by omega, by simp; omega, HL.out ▸ H5, HO, HS, ⟨hB⟩⟩
          · rw [if_neg p] at h5
            have p0 : decide (0 < mv) = false := decide_eq_false p; have H5 := am h5; clear h5; go_wp2; go_roundg k2
            case measure => omega
            case rel => exact ⟨j + 1, out, last, rfl, by simp, by omega, by omega, by omega, HL.out ▸ H5, HO, HS, HB⟩
        · have c0 : decide ((j : Int) < 401) = false := decide_eq_false (by omega)
          have h5 := H5.out; rw [show 401 - j = 0 by omega] at h5; simp only [impl_CurveThrough.l2] at h5; subst h5; clear H5
          by_cases q : (out.length : Int) > 12
          · have q0 : decide (12 < (out.length : Int)) = true := decide_eq_true q
            have q1 : decide (12 < out.length) = true := decide_eq_true (by omega); obtain ⟨Ao22, co22, eo22⟩ := Kd.R_slice HO.out; subst eo22; have en : impl_CurveThrough.fin out = ([], 3) := if_pos q; go_wp2; go_ret2; rw [HL.out, en]; exact ⟨_, by first | rfl | (simp; done), Kd.R_nil _ _ _ _ _, hB⟩
          · have q0 : decide (12 < (out.length : Int)) = false := decide_eq_false q
            have q1 : decide (12 < out.length) = false := decide_eq_false (by omega); obtain ⟨Ao22, co22, eo22⟩ := Kd.R_slice HO.out; subst eo22; have en : impl_CurveThrough.fin out = (out, 0) := if_neg q; go_wp2; go_ret2; rw [HL.out, en]; exact ⟨_, by first | rfl | (simp; done), Kd.R_mono HO.out (fun _ _ => trivial), hB⟩
theorem impl_CurveThrough.calls (k : Nat) (A0 : Option Addr) (c0 : Nat) (l0 : List S37) (r1 : List S37) (r2 : Int) (w : World) (hr0 : Kd.C k37 w A0 l0.length l0) (hc0 : l0.length ≤ c0) (h : impl_CurveThrough.f k l0 = some (r1, r2)) :
 Calls Try.prog 15 #[.slice A0 l0.length c0] w fun e w' => ∃ v0_ : Value, e = .returned (.tuple #[v0_, .int .i64 r2]) ∧ Kd.R k37 37 w' w.heap.size (fun _ => True) v0_ r1 ∧ Below w.heap.size w w' := by
 unfold impl_CurveThrough.f at h
 obtain ⟨t, h1, h⟩ := qob.mp h
 cases t with
 | true =>
  rw [if_pos rfl] at h; obtain ⟨b, h2, h⟩ := qob.mp h
  have hl : l0.length ≤ 100 := by
   unfold impl_within.f at h1
   by_cases q : (l0.length : Int) ≥ 1
   · rw [if_pos q] at h1
     have := of_decide_eq_true (Option.some.inj h1); omega
   · omega
  cases b with
  | false =>
   rw [if_neg (by decide)] at h; obtain ⟨⟨S, M⟩, h3, h⟩ := qob.mp h; have e := Option.some.inj h; refine (impl_CurveThrough.main k A0 c0 l0 S M w hr0 hc0 hl h1 h2 h3).mono ?_; simp only at e; rw [e]; (exact fun e w' h => h)
  | true =>
   rw [if_pos rfl] at h; simp only [Option.some.injEq, Prod.mk.injEq] at h; obtain ⟨rfl, rfl⟩ := h; have HB := am (Below.refl w.heap.size w); have HR0 := am hr0; have HC0 := am hc0; clear hr0 hc0; have H1 := am h1; have H2 := am h2; clear h1 h2; go_enter Try.func15, Try.ntmps15; go_wp2_with (first | (go_at_call 41; (refine (impl_Point_41.calls A0 c0 l0 _ _ ?s1 ?s2 rfl).mono ?_); (case s1 => repeat (first | exact (Kd.C_below HR0.out HB.out) | exact HR0.out | (with_reducible first | refine qca ?_ _ | refine qcn ?_ _ | refine qco ?_))); (case s2 => exact HC0.out); rintro e w' ⟨rfl, ⟨nd, rfl⟩⟩) | (go_at_call 40; (refine (impl_within.calls _ _ _ true _ H1.out).mono ?_); rintro e w' ⟨rfl, ⟨nd, rfl⟩⟩) | (go_at_call 42; go_loud (refine (impl_Point_42.calls43 k A0 c0 l0 impl_CurveThrough_1.f true _ ?s3 ?s4 (fun x y s w' hb h => impl_CurveThrough_1.calls x y s w' h) H2.out).mono ?_); (case s3 => repeat (first | exact (Kd.C_below HR0.out HB.out) | exact HR0.out | (with_reducible first | refine qca ?_ _ | refine qcn ?_ _ | refine qco ?_))); (case s4 => exact HC0.out); rintro e w7 ⟨rfl, hb⟩; have n0_ := am (qS hb); clear HB; have HB := n0_; clear n0_ hb)); go_ret2; exact ⟨_, by first | rfl | (simp; done), Kd.R_nil _ _ _ _ _, hB⟩
 | false =>
  rw [if_neg (by decide)] at h; simp only [Option.some.injEq, Prod.mk.injEq] at h; obtain ⟨rfl, rfl⟩ := h; have HB := am (Below.refl w.heap.size w); have HR0 := am hr0; have HC0 := am hc0; clear hr0 hc0; have H1 := am h1; clear h1; go_enter Try.func15, Try.ntmps15; go_wp2_with (first | (go_at_call 41; (refine (impl_Point_41.calls A0 c0 l0 _ _ ?s1 ?s2 rfl).mono ?_); (case s1 => repeat (first | exact (Kd.C_below HR0.out HB.out) | exact HR0.out | (with_reducible first | refine qca ?_ _ | refine qcn ?_ _ | refine qco ?_))); (case s2 => exact HC0.out); rintro e w' ⟨rfl, ⟨nd, rfl⟩⟩) | (go_at_call 40; (refine (impl_within.calls _ _ _ false _ H1.out).mono ?_); rintro e w' ⟨rfl, ⟨nd, rfl⟩⟩)); go_ret2; exact ⟨_, by first | rfl | (simp; done), Kd.R_nil _ _ _ _ _, hB⟩

/-! ### spec_A2Points: function 16 -/
def spec_A2Points.l0 : Nat → List (S37) → Int → List Int → Int → Int → Option ((List (S37)))
 | 0, _, _, _, _, _ => none
 | k + 1, x4, x5, x253000, x253001, x253002 => if x5 > 0 then ((spec_l00Src_pick.f x253000 x253001 x253002 8).bind fun bt259 => ((spec_l00Src_pick.f x253000 bt259.2.1 bt259.2.2 90).bind fun bt262 => (if x4.length < 35184372088832 then (spec_A2Points.l0 k (x4 ++ [(⟨IntKind.i16.wrap (wrap64 (bt259.1 - 3)), IntKind.i16.wrap (bt262.1)⟩ : S37)]) (wrap64 (x5 - 1)) x253000 bt262.2.1 bt262.2.2) else (none)))) else (some x4)
def spec_A2Points.f (k : Nat) (l0 : List Int) : Option ((List (S37))) := (spec_l00From.f l0).bind fun bt249 => ((spec_l00Src_pick.f bt249.1 bt249.2.1 bt249.2.2 8).bind fun bt256 => (spec_A2Points.l0 k (([] : List (S37))) (wrap64 (1 + bt256.1)) bt249.1 bt256.2.1 bt256.2.2))
theorem spec_A2Points.mono_l : ∀ k, (∀ y0 y1 y2 y3 y4, LeO (spec_A2Points.l0 k y0 y1 y2 y3 y4) (spec_A2Points.l0 (k + 1) y0 y1 y2 y3 y4))
 | 0 => fun _ _ _ _ _ r h => by simp [spec_A2Points.l0] at h
 | k + 1 => by
  have ih0 := spec_A2Points.mono_l k
  · intro y0 y1 y2 y3 y4
    unfold spec_A2Points.l0
    repeat' first | (with_reducible first | exact ih0 _ _ _ _ _ | exact LeO.refl _ | exact LeO.none _ | refine LeO.ite ?_ ?_ | refine LeO.bind ?_ (fun _ => ?_)) | exact ih0 _ _ _ _ _ | exact LeO.none _ | refine LeO.ite ?_ ?_ | refine LeO.bind ?_ (fun _ => ?_)
theorem spec_A2Points.mono : ∀ a0 k, LeO (spec_A2Points.f k a0) (spec_A2Points.f (k + 1) a0) := by
 intro a0 k
 have ih0 := spec_A2Points.mono_l k
 unfold spec_A2Points.f
 repeat' first | (with_reducible first | exact ih0 _ _ _ _ _ | exact LeO.refl _ | exact LeO.none _ | refine LeO.ite ?_ ?_ | refine LeO.bind ?_ (fun _ => ?_)) | exact ih0 _ _ _ _ _ | exact LeO.none _ | refine LeO.ite ?_ ?_ | refine LeO.bind ?_ (fun _ => ?_)
theorem spec_A2Points.calls (k : Nat) (A0 : Option Addr) (c0 : Nat) (l0 : List Int) (r : List (S37)) (w : World) (hr0 : Kd.C (Kd.int .u8) w A0 l0.length l0) (hc0 : l0.length ≤ c0) (h : spec_A2Points.f k l0 = some r) :
 Calls Try.prog 16 #[.slice A0 l0.length c0] w fun e w' => ∃ v0_ : Value, e = .returned (v0_) ∧ Kd.R k37 37 w' w.heap.size (fun _ => True) v0_ r ∧ Below w.heap.size w w' := by
 have hu37 := Try.underlying37
 have HR0 := am hr0
 have HC0 := am hc0
 clear hr0 hc0
 have HB := am (Below.refl w.heap.size w)
 have H : ((spec_l00From.f l0).bind fun bt249 => ((spec_l00Src_pick.f bt249.1 bt249.2.1 bt249.2.2 8).bind fun bt256 => (spec_A2Points.l0 k (([] : List (S37))) (wrap64 (1 + bt256.1)) bt249.1 bt256.2.1 bt256.2.2))) = some r := h
 clear h
 replace H := qob.mp H
 obtain ⟨⟨t249, t250, t251⟩, A20, H⟩ := H
 replace H : ((spec_l00Src_pick.f t249 t250 t251 8).bind fun bt256 => (spec_A2Points.l0 k (([] : List (S37))) (wrap64 (1 + bt256.1)) t249 bt256.2.1 bt256.2.2)) = some r := H
 have A2 := am A20
 clear A20
 obtain ⟨y253, hy253⟩ : ∃ y_ : List (S37), y_ = (([] : List (S37))) := ⟨_, rfl⟩
 replace H : ((spec_l00Src_pick.f t249 t250 t251 8).bind fun bt256 => (spec_A2Points.l0 k y253 (wrap64 (1 + bt256.1)) t249 bt256.2.1 bt256.2.2)) = some r := by first | (rw [hy253]; with_reducible exact H) | (have H2_ := (Option.bind_some _ _).symm.trans H; rw [hy253]; with_reducible exact H2_) | (have H2_ := (Option.bind_some _ _).symm.trans H; with_reducible exact H2_) | with_reducible exact H | (rw [hy253]; exact H) | exact H
 have Ny253 := am hy253
 clear hy253
 replace H := qob.mp H
 obtain ⟨⟨t256, t257, t258⟩, A30, H⟩ := H
 replace H : (spec_A2Points.l0 k y253 (wrap64 (1 + t256)) t249 t257 t258) = some r := H
 have A3 := am A30
 clear A30
 have H' := am H
 clear H
 go_enter Try.func16, Try.ntmps16
 go_wp2_with (first | ((with_reducible refine gate_callee (f := 27) rfl ?_); refine gl (some 8) rfl rfl Try.func27 #[.slice A0 l0.length c0] rfl ?_; (with_reducible refine (spec_l00From.calls _ _ l0 t249 t250 t251 w _ ?side1 ?side2 ?side3 A2.out).mono ?_); (case side1 => repeat (first | (with_reducible first | exact HB.out | apply qa | apply qn | apply qd) | exact HB.out)); (case side2 => exact HR0.out); (case side3 => exact HC0.out); rintro e w4 ⟨g252, rfl, hi, hb, hb2⟩; refine ⟨_, rfl, ?_⟩; have n0_ := am (hb); have n1_ := am (hi); clear HB; have HB := n0_; have HI252 := n1_; clear n0_ n1_; (try clear hb); (try clear hb2); (try clear hi)) | ((with_reducible refine gate_dst (N := 9) rfl ?_); refine Kd.R_lit k37 _ 37 ?hg (N := 9) ?hd (xs := ([] : List (S37))) (inner := []) (ok := fun _ => True) (okp := fun _ => True) ?hr ?hp (fun _ hk => hk) trivial (Below.refl _ _) (Nat.le_refl _) (by simp) ?_; (case hd => rfl); (case hg => rfl); (case hr => first | (go_simp; done) | (go_simp; rfl)); (case hp => exact (Reps.none _ _)); intro v254 w5 ho6 hb hg_ hnew_; clear hg_ hnew_; (first | rw [← Ny253.out] at ho6 | (simp only [Int.reduceToNat] at ho6; rw [← Ny253.out] at ho6)); have n0_ := am (Kd.R_lower ho6 (qz (by repeat (first | (with_reducible first | exact HB.out | apply qa | apply qn | apply qd | refine below_set ?_ (IsS66.ge HI252.out)) | exact HB.out)))); have n1_ := am (IsS66.below (by repeat (first | (with_reducible first | exact HI252.out | apply IsS66.alloc | apply IsS66.drewN | apply IsS66.drew | apply IsS66.set_1 | apply IsS66.set_2) | exact HI252.out)) hb); have n2_ := am (qs (by repeat (first | (with_reducible first | exact HB.out | apply qa | apply qn | apply qd | refine below_set ?_ (IsS66.ge HI252.out)) | exact HB.out)) hb); clear HI252; clear HB; have HO255 := n0_; have HI252 := n1_; have HB := n2_; clear n0_ n1_ n2_; clear hb ho6) | ((with_reducible refine gate_callee (f := 45) rfl ?_); refine gl (some 11) rfl rfl Try.func45 #[.pointer (some ⟨g252, 0, none⟩), .int .i64 8] rfl ?_; (with_reducible refine (spec_l00Src_pick.calls g252 t249 t250 t251 8 t256 t257 t258 w _ ?side1 ?side2 A3.out).mono ?_); (case side1 => repeat (first | (with_reducible first | exact HI252.out | apply IsS66.alloc | apply IsS66.drewN | apply IsS66.drew | apply IsS66.set_1 | apply IsS66.set_2) | exact HI252.out)); (case side2 => repeat (first | (with_reducible first | exact HB.out | apply qa | apply qn | apply qd | refine below_set ?_ (IsS66.ge HI252.out)) | exact HB.out)); rintro e w7 ⟨rfl, hi, hb, hk⟩; refine ⟨_, rfl, ?_⟩; have n0_ := am (Kd.R_mono (Kd.R_keep (IsS66.apart (show IsS66 w _ g252 t249 t250 t251 from by repeat (first | (with_reducible first | exact HI252.out | apply IsS66.alloc | apply IsS66.drewN | apply IsS66.drew | apply IsS66.set_1 | apply IsS66.set_2) | exact HI252.out)) (by (with_reducible repeat (first | apply qra | apply qrn | apply qro)); exact HO255.out) (by decide)) hk (fun _ h => h.2)) (fun _ h => h.1)); have n1_ := am (hb); have n2_ := am (hi); clear HO255; clear HB; clear HI252; have HO255 := n0_; have HB := n1_; have HI252 := n2_; clear n0_ n1_ n2_; (try clear hb); (try clear hk); (try clear hi)))
 go_loopg [4, 5] k (fun kq v4 v5 w' => ∃ (x4_1 : List (S37)) (x5_1 : Int) (x253001_1 : Int) (x253002_1 : Int), v5 = .int .i64 x5_1 ∧ Aside0 (spec_A2Points.l0 kq x4_1 x5_1 t249 x253001_1 x253002_1 = some r) ∧ Aside0 (kq ≤ k) ∧ Aside0 (Kd.R k37 37 w' w.heap.size (fun _ => True) v4 x4_1) ∧ Aside0 (IsS66 w w' g252 t249 x253001_1 x253002_1) ∧ Aside0 (Below w.heap.size w w'))
 case atStart => exact ⟨(y253), (wrap64 (1 + t256)), (t257), (t258), tr, H', ⟨Nat.le_refl _⟩, ⟨by (with_reducible repeat (first | apply qra | apply qrn | apply qro)); exact HO255.out⟩, ⟨by repeat (first | (with_reducible first | exact HI252.out | apply IsS66.alloc | apply IsS66.drewN | apply IsS66.drew | apply IsS66.set_1 | apply IsS66.set_2) | exact HI252.out)⟩, ⟨by repeat (first | (with_reducible first | exact HB.out | apply qa | apply qn | apply qd | refine below_set ?_ (IsS66.ge HI252.out)) | exact HB.out)⟩⟩
 case round =>
  clear H'
  try clear c1
  try clear c2
  try clear p2
  try clear c4
  try clear p6
  obtain ⟨x4_1, x5_1, x253001_1, x253002_1, rfl, HA, HK1, HO_4, HI252, HB⟩ := hrel
  cases gk with
  | zero => exact absurd HA.out (by simp [spec_A2Points.l0])
  | succ k1 =>
   have H := HA.out; clear HA; simp only [spec_A2Points.l0] at H
   by_cases c8 : x5_1 > 0
   · rw [if_pos c8] at H
     have c8b0 : decide (0 < x5_1) = true := decide_eq_true c8; clear c8; replace H := qob.mp H; obtain ⟨⟨t259, t260, t261⟩, A90, H⟩ := H; replace H : ((spec_l00Src_pick.f t249 t260 t261 90).bind fun bt262 => (if x4_1.length < 35184372088832 then (spec_A2Points.l0 k1 (x4_1 ++ [(⟨IntKind.i16.wrap (wrap64 (t259 - 3)), IntKind.i16.wrap (bt262.1)⟩ : S37)]) (wrap64 (x5_1 - 1)) t249 bt262.2.1 bt262.2.2) else (none))) = some r := H; have A9 := am A90; clear A90; replace H := qob.mp H; obtain ⟨⟨t262, t263, t264⟩, A100, H⟩ := H; replace H : (if x4_1.length < 35184372088832 then (spec_A2Points.l0 k1 (x4_1 ++ [(⟨IntKind.i16.wrap (wrap64 (t259 - 3)), IntKind.i16.wrap (t262)⟩ : S37)]) (wrap64 (x5_1 - 1)) t249 t263 t264) else (none)) = some r := H; have A10 := am A100; clear A100
     by_cases c11 : x4_1.length < 35184372088832
     · rw [if_pos c11] at H
       have LMc11 := am c11; clear c11; obtain ⟨y266, hy266⟩ : ∃ y_ : List (S37), y_ = (x4_1 ++ [(⟨IntKind.i16.wrap (wrap64 (t259 - 3)), IntKind.i16.wrap (t262)⟩ : S37)]) := ⟨_, rfl⟩; (replace H : (spec_A2Points.l0 k1 y266 (wrap64 (x5_1 - 1)) t249 t263 t264) = some r := by first | (rw [hy266]; with_reducible exact H) | (have H2_ := (Option.bind_some _ _).symm.trans H; rw [hy266]; with_reducible exact H2_) | (have H2_ := (Option.bind_some _ _).symm.trans H; with_reducible exact H2_) | with_reducible exact H | (rw [hy266]; exact H) | exact H); have Ny266 := am hy266; clear hy266; have H' := am H; clear H; go_wp2_with (first | ((with_reducible refine gate_callee (f := 45) rfl ?_); refine gl (some 18) rfl rfl Try.func45 #[.pointer (some ⟨g252, 0, none⟩), .int .i64 8] rfl ?_; (with_reducible refine (spec_l00Src_pick.calls g252 t249 x253001_1 x253002_1 8 t259 t260 t261 w _ ?side1 ?side2 A9.out).mono ?_); (case side1 => repeat (first | (with_reducible first | exact HI252.out | apply IsS66.alloc | apply IsS66.drewN | apply IsS66.drew | apply IsS66.set_1 | apply IsS66.set_2) | exact HI252.out)); (case side2 => repeat (first | (with_reducible first | exact HB.out | apply qa | apply qn | apply qd | refine below_set ?_ (IsS66.ge HI252.out)) | exact HB.out)); rintro e w12 ⟨rfl, hi, hb, hk⟩; refine ⟨_, rfl, ?_⟩; have n0_ := am (Kd.R_mono (Kd.R_keep (IsS66.apart (show IsS66 w _ g252 t249 x253001_1 x253002_1 from by repeat (first | (with_reducible first | exact HI252.out | apply IsS66.alloc | apply IsS66.drewN | apply IsS66.drew | apply IsS66.set_1 | apply IsS66.set_2) | exact HI252.out)) (by (with_reducible repeat (first | apply qra | apply qrn | apply qro)); exact HO_4.out) (by decide)) hk (fun _ h => h.2)) (fun _ h => h.1)); have n1_ := am (hb); have n2_ := am (hi); clear HO_4; clear HB; clear HI252; have HO_4 := n0_; have HB := n1_; have HI252 := n2_; clear n0_ n1_ n2_; (try clear hb); (try clear hk); (try clear hi)) | ((with_reducible refine gate_callee (f := 45) rfl ?_); refine gl (some 22) rfl rfl Try.func45 #[.pointer (some ⟨g252, 0, none⟩), .int .i64 90] rfl ?_; (with_reducible refine (spec_l00Src_pick.calls g252 t249 t260 t261 90 t262 t263 t264 w _ ?side1 ?side2 A10.out).mono ?_); (case side1 => repeat (first | (with_reducible first | exact HI252.out | apply IsS66.alloc | apply IsS66.drewN | apply IsS66.drew | apply IsS66.set_1 | apply IsS66.set_2) | exact HI252.out)); (case side2 => repeat (first | (with_reducible first | exact HB.out | apply qa | apply qn | apply qd | refine below_set ?_ (IsS66.ge HI252.out)) | exact HB.out)); rintro e w13 ⟨rfl, hi, hb, hk⟩; refine ⟨_, rfl, ?_⟩; have n0_ := am (Kd.R_mono (Kd.R_keep (IsS66.apart (show IsS66 w _ g252 t249 t260 t261 from by repeat (first | (with_reducible first | exact HI252.out | apply IsS66.alloc | apply IsS66.drewN | apply IsS66.drew | apply IsS66.set_1 | apply IsS66.set_2) | exact HI252.out)) (by (with_reducible repeat (first | apply qra | apply qrn | apply qro)); exact HO_4.out) (by decide)) hk (fun _ h => h.2)) (fun _ h => h.1)); have n1_ := am (hb); have n2_ := am (hi); clear HO_4; clear HB; clear HI252; have HO_4 := n0_; have HB := n1_; have HI252 := n2_; clear n0_ n1_ n2_; (try clear hb); (try clear hk); (try clear hi)) | ((with_reducible refine gate_dst (N := 6) rfl ?_); refine box_event ?hg (N := 6) ?hd (cs := #[.int .i16 0, .int .i16 0]) (t := 37) ?hr ?_; (case hd => rfl); (case hg => rfl); (case hr => first | (go_simp; done) | (go_simp; rfl)); intro gb265 hg w14 hbox hb; have n0_ := am (Kd.R_below (Kd.R_elderB (by (with_reducible repeat (first | apply qra | apply qrn | apply qro)); exact HO_4.out) gb265 (Nat.le_of_eq hg.symm)) hb); have n1_ := am (IsS66.below (by repeat (first | (with_reducible first | exact HI252.out | apply IsS66.alloc | apply IsS66.drewN | apply IsS66.drew | apply IsS66.set_1 | apply IsS66.set_2) | exact HI252.out)) hb); have n2_ := am (qs (by repeat (first | (with_reducible first | exact HB.out | apply qa | apply qn | apply qd | refine below_set ?_ (IsS66.ge HI252.out)) | exact HB.out)) hb); have n3_ := am (hbox); have n4_ := am ((by rw [hg]; exact (qz (by repeat (first | (with_reducible first | exact HB.out | apply qa | apply qn | apply qd | refine below_set ?_ (IsS66.ge HI252.out)) | exact HB.out))) : w.heap.size ≤ gb265)); have n5_ := am ((by rw [hg]; exact (qz (by repeat (first | (with_reducible first | exact HB.out | apply qa | apply qn | apply qd | refine below_set ?_ (IsS66.ge HI252.out)) | exact HB.out))) : w.heap.size ≤ gb265)); have n6_ := am ((by rw [hg]; exact Nat.ne_of_lt (IsS66.lt (show IsS66 w _ g252 t249 t263 t264 from by repeat (first | (with_reducible first | exact HI252.out | apply IsS66.alloc | apply IsS66.drewN | apply IsS66.drew | apply IsS66.set_1 | apply IsS66.set_2) | exact HI252.out))) : g252 ≠ gb265)); have n7_ := am ((by rw [hg]; exact Nat.ne_of_gt (IsS66.lt (show IsS66 w _ g252 t249 t263 t264 from by repeat (first | (with_reducible first | exact HI252.out | apply IsS66.alloc | apply IsS66.drewN | apply IsS66.drew | apply IsS66.set_1 | apply IsS66.set_2) | exact HI252.out))) : gb265 ≠ g252)); clear HO_4; clear HI252; clear HB; have HO_4 := n0_; have HI252 := n1_; have HB := n2_; have BK265 := n3_; have GW265 := n4_; have GE265 := n5_; have NB252_265 := n6_; have NB265_252 := n7_; clear n0_ n1_ n2_ n3_ n4_ n5_ n6_ n7_; clear hb hbox hg; have hnb15 := NB265_252.out; have hnc15 := NB252_265.out; have hcz16_0 : w14.cell? ⟨gb265, 0, none⟩ = some (.int .i16 0) := (blk_cell BK265.out 0).trans rfl; have hcz16_1 : w14.cell? ⟨gb265, 1, none⟩ = some (.int .i16 0) := (blk_cell BK265.out 1).trans rfl; have hfz16_0 := blk_frozen BK265.out 0; have hfz16_1 := blk_frozen BK265.out 1) | ((with_reducible refine gate_builtin (b := .append) (xs := #[.tmp 25, .tmp 27]) rfl ?_); at_builtin; refine Kd.R_append k37 (w0 := w) w.heap.size rfl (.tmp 25) (.tmp 27) 24 37 (.agg #[(.int .i16 0), (.int .i16 0)]) 4 rfl Try.underlying24 info37 rfl (by decide) (by omega) u4 x4_1 (⟨IntKind.i16.wrap (wrap64 (t259 - 3)), IntKind.i16.wrap (t262)⟩ : S37) [.int .i16 (IntKind.i16.wrap (wrap64 (t259 - 3))), .int .i16 (IntKind.i16.wrap (t262))] (fun k_ => k_ ≠ gb265) (fun _ => False) rfl (by first | (go_simp; done) | (go_simp; rfl)) ?aP (fun _ hk => hk.elim) ?aF ?aO ?aB ?aS ?aL ?_; (case aP => exact k37_mkM _ _ _ (⟨IntKind.i16.wrap (wrap64 (t259 - 3)), IntKind.i16.wrap (t262)⟩ : S37)); (case aB => exact (by repeat (first | (with_reducible first | exact HB.out | apply qa | apply qn | apply qd | refine below_set ?_ (IsS66.ge HI252.out) | refine below_set ?_ GE265.out) | exact HB.out))); (case aF => exact (fun k_ hk => Kd.freshB (g := gb265) (o := .cells #[.int .i16 (IntKind.i16.wrap (wrap64 (t259 - 3))), .int .i16 (IntKind.i16.wrap (t262))] 37 (0, 0)) (by (with_reducible repeat (first | refine blk_drewN ?_ _ | refine blk_drew ?_ | refine blk_alloc ?_ _)); refine blk_put (cs := #[.int .i16 (IntKind.i16.wrap (wrap64 (t259 - 3))), .int .i16 0]) ?_ 1 _ rfl; (with_reducible repeat (first | refine blk_drewN ?_ _ | refine blk_drew ?_ | refine blk_alloc ?_ _)); refine blk_put (cs := #[.int .i16 0, .int .i16 0]) ?_ 0 _ rfl; (with_reducible repeat (first | refine blk_drewN ?_ _ | refine blk_drew ?_ | refine blk_alloc ?_ _)); exact BK265.out) k_ hk)); (case aO => exact (by (with_reducible repeat (first | apply qra | apply qrn | apply qro)); exact Kd.R_mono (Kd.R_far (p := ⟨gb265, 1, none⟩) (Kd.R_far (p := ⟨gb265, 0, none⟩) (Kd.R_mono HO_4.out (fun k_ hk => (⟨hk, hk.2⟩ : _ ∧ k_ ≠ gb265))) (fun _ hk => hk.2) (.int .i16 (IntKind.i16.wrap (wrap64 (t259 - 3))))) (fun _ hk => hk.2) (.int .i16 (IntKind.i16.wrap (t262)))) (fun _ hk => hk.1.2))); (case aS => exact (qz (by repeat (first | (with_reducible first | exact HB.out | apply qa | apply qn | apply qd | refine below_set ?_ (IsS66.ge HI252.out) | refine below_set ?_ GE265.out) | exact HB.out)))); (case aL => have := LMc11.out; omega); intro v267 w17 ho hb hg hat; rw [← Ny266.out] at ho; have n0_ := am (IsS66.grown (show IsS66 w _ g252 t249 t263 t264 from by repeat (first | (with_reducible first | exact HI252.out | apply IsS66.alloc | apply IsS66.drewN | apply IsS66.drew | apply IsS66.set_1 | apply IsS66.set_2 | refine IsS66.far ?_ NB252_265.out _) | exact HI252.out)) hg (IsS66.own_ne HI252.out HO_4.out (by decide))); have n1_ := am (blk_grown (g := gb265) (o := .cells #[.int .i16 (IntKind.i16.wrap (wrap64 (t259 - 3))), .int .i16 (IntKind.i16.wrap (t262))] 37 (0, 0)) (by (with_reducible repeat (first | refine blk_drewN ?_ _ | refine blk_drew ?_ | refine blk_alloc ?_ _)); refine blk_put (cs := #[.int .i16 (IntKind.i16.wrap (wrap64 (t259 - 3))), .int .i16 0]) ?_ 1 _ rfl; (with_reducible repeat (first | refine blk_drewN ?_ _ | refine blk_drew ?_ | refine blk_alloc ?_ _)); refine blk_put (cs := #[.int .i16 0, .int .i16 0]) ?_ 0 _ rfl; (with_reducible repeat (first | refine blk_drewN ?_ _ | refine blk_drew ?_ | refine blk_alloc ?_ _)); exact BK265.out) hg (Kd.R_away HO_4.out (fun _ hk => hk.2))); have n2_ := am (hb); have n3_ := am (ho); clear HI252; clear BK265; clear HB; clear HO_4; have HI252 := n0_; have BK265 := n1_; have HB := n2_; have HO268 := n3_; clear n0_ n1_ n2_ n3_; clear ho hb hg hat)); go_roundg k1
       case measure => have := HK1.out; omega
       case rel => exact ⟨(y266), (wrap64 (x5_1 - 1)), (t263), (t264), tr, H', ⟨by have := HK1.out; omega⟩, ⟨by (with_reducible repeat (first | apply qra | apply qrn | apply qro)); exact Kd.R_mono HO268.out (fun _ hk => trivial)⟩, ⟨by repeat (first | (with_reducible first | exact HI252.out | apply IsS66.alloc | apply IsS66.drewN | apply IsS66.drew | apply IsS66.set_1 | apply IsS66.set_2 | refine IsS66.far ?_ NB252_265.out _) | exact HI252.out)⟩, ⟨by repeat (first | (with_reducible first | exact HB.out | apply qa | apply qn | apply qd | refine below_set ?_ (IsS66.ge HI252.out) | refine below_set ?_ GE265.out) | exact HB.out)⟩⟩
     · rw [if_neg c11] at H
       exact absurd H (by simp)
   · rw [if_neg c8] at H
     have c8b0 : decide (0 < x5_1) = false := decide_eq_false c8; clear c8; obtain rfl := Option.some.inj H; go_wp2; go_ret; exact ⟨_, te, by (with_reducible repeat (first | apply qra | apply qrn | apply qro)); exact HO_4.out, by repeat (first | (with_reducible first | exact HB.out | apply qa | apply qn | apply qd | refine below_set ?_ (IsS66.ge HI252.out)) | exact HB.out)⟩

/-! ### spec_l00Max: function 48 -/
def spec_l00Max.f (a0 : Int) (a1 : Int) : Option (Int) := if a0 > a1 then (some a0) else (some a1)
theorem spec_l00Max.calls (a0 : Int) (a1 : Int) (r : Int) (w : World) (h : spec_l00Max.f a0 a1 = some r) :
 Calls Try.prog 48 #[.int .i64 a0, .int .i64 a1] w fun e w' => e = .returned (.int .i64 r) ∧ Drawn0 w w' := by
 have H : (if a0 > a1 then (some a0) else (some a1)) = some r := h
 clear h
 by_cases c3 : a0 > a1
 · rw [if_pos c3] at H
   have c3b0 : decide (a1 < a0) = true := decide_eq_true c3; clear c3; obtain rfl := Option.some.inj H; go_enter Try.func48, Try.ntmps48; go_wp2; go_ret; exact ⟨tr, dr⟩
 · rw [if_neg c3] at H
   have c3b0 : decide (a1 < a0) = false := decide_eq_false c3; clear c3; obtain rfl := Option.some.inj H; go_enter Try.func48, Try.ntmps48; go_wp2; go_ret; exact ⟨tr, dr⟩

end Go.Proofs.Ytedheepkalbcfaa.PFnMovedCurves
