/-
  Walks: IsFiltered, the reference's.
  Conditions: each theorem's own.
-/
import Derived.Test.YtjjjgllbocgkbaaF3
import Derived.Test.YtjjjgllbocgkbaaP14c
set_option linter.unusedVariables false
set_option linter.unusedSimpArgs false
namespace Go.Proofs.Ytjjjgllbocgkbaa
open Go
/-- What stands at an entry within the whole. -/
theorem up_at {X : Fl} (h : upK X X.c.maps X.c.maps.length = true) {k i j : Nat} (hk : k < X.c.maps.length) (hi : i < (X.c.maps.getD k default).length) (hj : j < ((X.c.maps.getD k default).getD i default).length) : goodP X k i j (((X.c.maps.getD k default).getD i default).getD j 0) = true :=
  all_range_t.1 (all_range_t.1 (all_range_t.1 h k hk) i hi) j hj
theorem up_all {X : Fl} (h : ∀ k i j, k < X.c.maps.length → i < (X.c.maps.getD k default).length → j < ((X.c.maps.getD k default).getD i default).length → goodP X k i j (((X.c.maps.getD k default).getD i default).getD j 0) = true) : upK X X.c.maps X.c.maps.length = true :=
  all_range_t.2 fun k hk => all_range_t.2 fun i hi => all_range_t.2 fun j hj => h k i j hk hi hj
theorem mapP_q {X : Cx} (hC : IsC X) {n : Nat} (h1 : 1 ≤ n) (h2 : n < X.dims.length) : mapP X (n : Int) = X.maps.getD (n - 1) default := by
  have hm := hC.ml
  rw [mapP, if_pos (in3_iff.2 ⟨by omega, by omega⟩), show ((n : Int) - 1).toNat = n - 1 by omega]
/-- Entry j of row i of the map of degree n is no fault. -/
def gdN (X : Fl) (n i j : Nat) : Prop := ((mapP X.c (n : Int)).getD i default).getD j 0 = 0 ∨ lvP X ((n : Int) - 1) (j : Int) ≤ lvP X (n : Int) (i : Int)
theorem gdN_good {X : Fl} (hC : IsC X.c) {k i j : Nat} (h : k + 1 < X.c.dims.length) (g : gdN X (k + 1) i j) : goodP X k i j (((X.c.maps.getD k default).getD i default).getD j 0) = true := by
  unfold gdN at g
  rw [mapP_q hC (by omega) h, show ((k + 1 : Nat) : Int) - 1 = (k : Int) by omega, show k + 1 - 1 = k by omega, show ((k + 1 : Nat) : Int) = (k : Int) + 1 by omega] at g
  unfold goodP
  rw [Bool.or_eq_true, beq_iff_eq, decide_eq_true_eq]
  exact g
theorem isF_sp {X : Fl} (h : IsC X.c) (h1 : X.lv.length = X.c.dims.length) (h2 : ∀ n, n < X.lv.length → ((X.lv.getD n default).length : Int) = X.c.dims.getD n 0 ∧ (X.lv.getD n default).all (fun q => in3 q 0 5) = true) (h3 : ∀ n : Nat, 1 ≤ n → n < X.lv.length → ∀ i, i < (mapP X.c (n : Int)).length → ∀ j, j < ((mapP X.c (n : Int)).getD i default).length → gdN X n i j) : IsF X :=
  ⟨h, h1, fun n hn => (h2 n hn).1, fun n hn => (h2 n hn).2, up_all fun k i j hk hi hj => by
    have hm := h.ml
    have e := mapP_q h (n := k + 1) (by omega) (by omega)
    rw [show k + 1 - 1 = k by omega] at e
    exact gdN_good h (by omega) (h3 (k + 1) (by omega) (by omega) i (by rw [e]; exact hi) j (by rw [e]; exact hj))⟩
theorem isF_gd {X : Fl} (h : IsF X) {n i j : Nat} (h1 : 1 ≤ n) (h2 : n < X.lv.length) (hi : i < (mapP X.c (n : Int)).length) (hj : j < ((mapP X.c (n : Int)).getD i default).length) : gdN X n i j := by
  have hm := h.c.ml
  have hl := h.ln
  have e := mapP_q h.c (n := n) (by omega) (by omega)
  rw [e] at hi hj
  have g := up_at h.up (k := n - 1) (i := i) (j := j) (by omega) hi hj
  unfold gdN
  unfold goodP at g
  rw [Bool.or_eq_true, beq_iff_eq, decide_eq_true_eq, show ((n - 1 : Nat) : Int) = (n : Int) - 1 by omega, show (n : Int) - 1 + 1 = n by omega] at g
  rw [e]
  exact g

set_option maxRecDepth 100000 in
theorem sLev_ok (vX : Value) (X : Fl) (n : Int) (i : Int) (h : Heap) (rX : RF h vX X) (hn : 0 ≤ n ∧ n < X.lv.length) (hi : 0 ≤ i ∧ i < (X.lv.getD n.toNat default).length) : CallA Try.prog 79 #[vX, .int .i64 n, .int .i64 i] h fun v' h' => v' = .int .i64 (lvP X n i) ∧ Ext h h' := by
  obtain ⟨vdX, vmX, vvX, rfl, hdX, hmX, hvX⟩ := rX
  have hledX := RdS.le hdX
  have hlemX := RdS.le hmX
  have hlevX := RdS.le hvX
  refine callA_intro TTok (args := [_, _, _]) Try.func79 (by kernel_rfl) rfl 15 rfl (by simp) [.tmp 6] rfl ?_
  simp only [idxs, Nat.reduceAdd]
  refine den_seq ?_
  refine den_region TTok ?_
  intro K hK
  simp -implicitDefEqProofs (disch := first | decide | assumption | omega) only [go_sem, RdS.len hdX sl22, RdS.idx hdX sl22, R1.intB hdX (HPres.refl _), RdS.cells hdX, RdS.len hmX sl23, RdS.idx hmX sl23, RdS.cellB hmX (HPres.refl _), RdS.cells hmX, RdS.len hvX sl26, RdS.idx hvX sl26, RdS.cellB hvX (HPres.refl _), RdS.cells hvX, wrap_id]
  refine op_box (cs := #[.int .i64 (X.c.p), vdX, vmX, vvX]) rfl ?_
  intro h0_0 e0_0 hb0_0 z0_0
  have := Ext.size e0_0
  have eB := e0_0
  have hfhb0_0 : Fresh h.size [h.size] := Fresh.one _
  have hlhb0_0 := one_lt (show h.size < h0_0.size by omega)
  try simp -implicitDefEqProofs (disch := first | decide | assumption | omega) only [go_sem, RdS.len hdX sl22, RdS.idx hdX sl22, R1.intB hdX (Ext.pres eB), RdS.cells hdX, RdS.len hmX sl23, RdS.idx hmX sl23, RdS.cellB hmX (Ext.pres eB), RdS.cells hmX, RdS.len hvX sl26, RdS.idx hvX sl26, RdS.cellB hvX (Ext.pres eB), RdS.cells hvX, BoxAt.cell hb0_0, wrap_id]
  refine hK _ _ ?_
  clear hK K
  refine den_seq ?_
  refine den_region TTok ?_
  intro K hK
  have hr1 := RdS.rowN hvX (n).toNat (by omega)
  have hlhr1 := RdS.le hr1
  simp -implicitDefEqProofs (disch := first | decide | assumption | omega) only [go_sem, fa33_1, ld26, ld22, ld2, RdS.len hdX sl22, RdS.idx hdX sl22, R1.intB hdX (Ext.pres eB), RdS.cells hdX, RdS.len hmX sl23, RdS.idx hmX sl23, RdS.cellB hmX (Ext.pres eB), RdS.cells hmX, RdS.len hvX sl26, RdS.idx hvX sl26, RdS.cellB hvX (Ext.pres eB), RdS.cells hvX, RdS.len hr1 sl22, RdS.idx hr1 sl22, R1.intB hr1 (Ext.pres eB), RdS.cells hr1, BoxAt.cell hb0_0, wrap_id]
  refine hK _ _ ?_
  clear hK K
  refine den_ret ?_
  simp (disch := decide) only [resP_1, puts_same, puts_ne]
  exact ⟨by first | rfl | trivial, eB⟩

set_option maxRecDepth 100000 in
set_option maxHeartbeats 4000000 in
theorem sIsF_ok (vX : Value) (X : Fl) (h : Heap) (rX : RF h vX X)  : CallA Try.prog 68 #[vX] h fun v' h' => v' = .bool (isF X) ∧ Ext h h' := by
  obtain ⟨vdX, vmX, vvX, rfl, hdX, hmX, hvX⟩ := rX
  have hledX := RdS.le hdX
  have hlemX := RdS.le hmX
  have hlevX := RdS.le hvX
  refine callA_intro TTok (args := [_]) Try.func68 (by kernel_rfl) rfl 109 rfl (by simp) [.tmp 2] rfl ?_
  simp only [idxs, Nat.reduceAdd]
  refine den_seq ?_
  refine den_region TTok ?_
  intro K hK
  simp -implicitDefEqProofs (disch := first | decide | assumption | omega) only [go_sem, RdS.len hdX sl22, RdS.idx hdX sl22, R1.intB hdX (HPres.refl _), RdS.cells hdX, RdS.len hmX sl23, RdS.idx hmX sl23, RdS.cellB hmX (HPres.refl _), RdS.cells hmX, RdS.len hvX sl26, RdS.idx hvX sl26, RdS.cellB hvX (HPres.refl _), RdS.cells hvX, wrap_id]
  refine op_box (cs := #[.int .i64 (X.c.p), vdX, vmX, vvX]) rfl ?_
  intro h0_0 e0_0 hb0_0 z0_0
  have := Ext.size e0_0
  have eB := e0_0
  have hfhb0_0 : Fresh h.size [h.size] := Fresh.one _
  have hlhb0_0 := one_lt (show h.size < h0_0.size by omega)
  try simp -implicitDefEqProofs (disch := first | decide | assumption | omega) only [go_sem, RdS.len hdX sl22, RdS.idx hdX sl22, R1.intB hdX (Ext.pres eB), RdS.cells hdX, RdS.len hmX sl23, RdS.idx hmX sl23, RdS.cellB hmX (Ext.pres eB), RdS.cells hmX, RdS.len hvX sl26, RdS.idx hvX sl26, RdS.cellB hvX (Ext.pres eB), RdS.cells hvX, BoxAt.cell hb0_0, wrap_id]
  refine hK _ _ ?_
  clear hK K
  refine den_seq ?_
  refine den_seq ?_
  refine den_merge [(22, .bool (((!((isC X.c))) || (((X.lv).length : Int) != ((X.c.dims).length : Int)))))] [1] (fun H => Ext h0_0 H) ?_ ?_
    -- a way
  · refine den_region TTok ?_
    intro K hK
    simp -implicitDefEqProofs (disch := first | decide | assumption | (simp (disch := decide) only [slotOf_zero, slotOf_succ, Option.map_some, puts_same, puts_ne, gv_bool, gv_undef, tt, tf, ft, ff, eq_self, if_true, if_false, Bool.false_eq_true, Bool.not_true, Bool.not_false]; done) | omega) only [go_sem, fa33_0, ld31, RdS.len hdX sl22, RdS.idx hdX sl22, R1.intB hdX (Ext.pres eB), RdS.cells hdX, RdS.len hmX sl23, RdS.idx hmX sl23, RdS.cellB hmX (Ext.pres eB), RdS.cells hmX, RdS.len hvX sl26, RdS.idx hvX sl26, RdS.cellB hvX (Ext.pres eB), RdS.cells hvX, BoxAt.cell hb0_0, wrap_id]
    try simp -implicitDefEqProofs (disch := first | decide | assumption | omega) only [go_sem, RdS.len hdX sl22, RdS.idx hdX sl22, R1.intB hdX (Ext.pres eB), RdS.cells hdX, RdS.len hmX sl23, RdS.idx hmX sl23, RdS.cellB hmX (Ext.pres eB), RdS.cells hmX, RdS.len hvX sl26, RdS.idx hvX sl26, RdS.cellB hvX (Ext.pres eB), RdS.cells hvX, BoxAt.cell hb0_0, wrap_id]
    refine CallA.mono (sIs_ok _ X.c _ ⟨_, _, rfl, (RdS.pres hdX (Ext.pres eB)), (RdS.pres hmX (Ext.pres eB))⟩) ?_
    intro v_ h1_2
    rintro ⟨rfl, e1_2⟩
    replace hb0_0 := BoxAt.ext hb0_0 e1_2
    have := Ext.size e1_2
    replace eB := Ext.trans eB e1_2
    try simp -implicitDefEqProofs (disch := first | decide | assumption | (simp (disch := decide) only [slotOf_zero, slotOf_succ, Option.map_some, puts_same, puts_ne, gv_bool, gv_undef, tt, tf, ft, ff, eq_self, if_true, if_false, Bool.false_eq_true, Bool.not_true, Bool.not_false]; done) | omega) only [go_sem, RdS.len hdX sl22, RdS.idx hdX sl22, R1.intB hdX (Ext.pres eB), RdS.cells hdX, RdS.len hmX sl23, RdS.idx hmX sl23, RdS.cellB hmX (Ext.pres eB), RdS.cells hmX, RdS.len hvX sl26, RdS.idx hvX sl26, RdS.cellB hvX (Ext.pres eB), RdS.cells hvX, BoxAt.cell hb0_0, wrap_id]
    refine opsP_F (by simp (disch := decide) only [slotOf_zero, slotOf_succ, Option.map_some, puts_same, puts_ne, gv_bool, gv_undef, tt, tf, ft, ff, eq_self, if_true, if_false, Bool.false_eq_true, Bool.not_true, Bool.not_false]; rfl) (fun g1 => ?_) (fun g1 => ?_)
    · try simp -implicitDefEqProofs (disch := first | decide | assumption | (simp (disch := decide) only [slotOf_zero, slotOf_succ, Option.map_some, puts_same, puts_ne, gv_bool, gv_undef, tt, tf, ft, ff, eq_self, if_true, if_false, Bool.false_eq_true, Bool.not_true, Bool.not_false, g1]; done) | omega) only [go_sem, fa31_1, fa33_0, fa33_1, ld26, ld22, RdS.len hdX sl22, RdS.idx hdX sl22, R1.intB hdX (Ext.pres eB), RdS.cells hdX, RdS.len hmX sl23, RdS.idx hmX sl23, RdS.cellB hmX (Ext.pres eB), RdS.cells hmX, RdS.len hvX sl26, RdS.idx hvX sl26, RdS.cellB hvX (Ext.pres eB), RdS.cells hvX, BoxAt.cell hb0_0, wrap_id, g1, eq_self, if_true, if_false, Bool.false_eq_true]
      refine hK _ _ ?_
      clear hK K
      refine den_stop ?_
      refine ⟨?_, e1_2⟩
      first | (simp (disch := decide) only [go_sem, g1, eq_self, Bool.true_and, Bool.and_true, Bool.false_and, Bool.and_false, Bool.true_or, Bool.or_true, Bool.false_or, Bool.or_false, if_true, if_false, Bool.false_eq_true]; done) | simp [HasL, sel, puts_at, g1]
    · try simp -implicitDefEqProofs (disch := first | decide | assumption | (simp (disch := decide) only [slotOf_zero, slotOf_succ, Option.map_some, puts_same, puts_ne, gv_bool, gv_undef, tt, tf, ft, ff, eq_self, if_true, if_false, Bool.false_eq_true, Bool.not_true, Bool.not_false, g1]; done) | omega) only [go_sem, RdS.len hdX sl22, RdS.idx hdX sl22, R1.intB hdX (Ext.pres eB), RdS.cells hdX, RdS.len hmX sl23, RdS.idx hmX sl23, RdS.cellB hmX (Ext.pres eB), RdS.cells hmX, RdS.len hvX sl26, RdS.idx hvX sl26, RdS.cellB hvX (Ext.pres eB), RdS.cells hvX, BoxAt.cell hb0_0, wrap_id, g1, eq_self, if_true, if_false, Bool.false_eq_true]
      refine hK _ _ ?_
      clear hK K
      refine den_stop ?_
      refine ⟨?_, e1_2⟩
      first | (simp (disch := decide) only [go_sem, g1, eq_self, Bool.true_and, Bool.and_true, Bool.false_and, Bool.and_false, Bool.true_or, Bool.or_true, Bool.false_or, Bool.or_false, if_true, if_false, Bool.false_eq_true]; done) | simp [HasL, sel, puts_at, g1]
  intro en2 h3 e4
  replace hb0_0 := BoxAt.ext hb0_0 e4
  have := Ext.size e4
  replace eB := Ext.trans eB e4
  simp (disch := decide) only [go_sem]
  refine den_cond rfl (fun c0 => ?_) (fun c0 => ?_)
  · try simp only [decide_eq_true_eq, decide_eq_false_iff_not, beq_iff_eq, beq_eq_false_iff_ne, bne_iff_ne, ne_eq, Bool.not_eq_true', Bool.not_eq_false', Bool.and_eq_true, Bool.or_eq_true, bne_eq_false_iff_eq, Bool.or_eq_false_iff, Bool.and_eq_false_iff] at c0
    refine den_seq ?_
    refine den_region TTok ?_
    intro K hK
    simp -implicitDefEqProofs (disch := first | decide | assumption | omega) only [go_sem, RdS.len hdX sl22, RdS.idx hdX sl22, R1.intB hdX (Ext.pres eB), RdS.cells hdX, RdS.len hmX sl23, RdS.idx hmX sl23, RdS.cellB hmX (Ext.pres eB), RdS.cells hmX, RdS.len hvX sl26, RdS.idx hvX sl26, RdS.cellB hvX (Ext.pres eB), RdS.cells hvX, wrap_id]
    refine hK _ _ ?_
    clear hK K
    refine den_ret ?_
    simp (disch := decide) only [resP_1, puts_same, puts_ne]
    exact ⟨vbool (isF_no (fun q => by simp [isC_t.2 q.c, q.ln] at c0)), eB⟩
  · try simp only [decide_eq_true_eq, decide_eq_false_iff_not, beq_iff_eq, beq_eq_false_iff_ne, bne_iff_ne, ne_eq, Bool.not_eq_true', Bool.not_eq_false', Bool.and_eq_true, Bool.or_eq_true, bne_eq_false_iff_eq, Bool.or_eq_false_iff, Bool.and_eq_false_iff] at c0
    have hC := isC_t.1 c0.1
    have hlC := hC.len
    have hml := hC.ml
    refine den_skip ?_
    refine den_seq ?_
    refine den_seq ?_
    refine den_region TTok ?_
    intro K hK
    simp -implicitDefEqProofs (disch := first | decide | assumption | omega) only [go_sem, RdS.len hdX sl22, RdS.idx hdX sl22, R1.intB hdX (Ext.pres eB), RdS.cells hdX, RdS.len hmX sl23, RdS.idx hmX sl23, RdS.cellB hmX (Ext.pres eB), RdS.cells hmX, RdS.len hvX sl26, RdS.idx hvX sl26, RdS.cellB hvX (Ext.pres eB), RdS.cells hvX, BoxAt.cell hb0_0, wrap_id]
    refine hK _ _ ?_
    clear hK K
    refine den_block ?_
    refine den_sel [3, 1] ?_
    intro env_5
    simp only [go_sem]
    refine den_loopS (σ := Nat) (fun st_ => [(3, .int .i64 (st_ : Int))]) (fun st_ H => (st_ ≤ X.lv.length) ∧ (∀ q, q < st_ → ((X.lv.getD q default).length : Int) = X.c.dims.getD q 0 ∧ (X.lv.getD q default).all (fun z => in3 z 0 5) = true) ∧ (Ext h3 H)) (fun st_ => X.lv.length - st_) 0 ?_ ?_
    · exact ⟨by first | (simp; done) | (dsimp only; omega) | (simp; omega), by first | (simp; done) | (dsimp only; omega) | (simp; omega), Ext.refl _⟩
    · rintro n h8 ee7 ⟨hi0, hrow, cL6⟩
      replace hb0_0 := BoxAt.ext hb0_0 cL6
      have := Ext.size cL6
      replace eB := Ext.trans eB cL6
      simp only [List.cons_append, List.nil_append]
      refine den_seq ?_
      refine den_seq ?_
      refine den_region TTok ?_
      intro K hK
      simp -implicitDefEqProofs (disch := first | decide | assumption | omega) only [go_sem, fa33_1, ld26, RdS.len hdX sl22, RdS.idx hdX sl22, R1.intB hdX (Ext.pres eB), RdS.cells hdX, RdS.len hmX sl23, RdS.idx hmX sl23, RdS.cellB hmX (Ext.pres eB), RdS.cells hmX, RdS.len hvX sl26, RdS.idx hvX sl26, RdS.cellB hvX (Ext.pres eB), RdS.cells hvX, BoxAt.cell hb0_0, wrap_id]
      refine hK _ _ ?_
      clear hK K
      refine den_cond rfl (fun c1 => ?_) (fun c1 => ?_)
      · try simp only [decide_eq_true_eq, decide_eq_false_iff_not, beq_iff_eq, beq_eq_false_iff_ne, bne_iff_ne, ne_eq, Bool.not_eq_true', Bool.not_eq_false', Bool.and_eq_true, Bool.or_eq_true, bne_eq_false_iff_eq, Bool.or_eq_false_iff, Bool.and_eq_false_iff] at c1
        refine den_skip ?_
        refine den_seq ?_
        refine den_block ?_
        refine den_seq ?_
        refine den_seq ?_
        refine den_draw TTok mixed [] [(0, true), (1, true), (2, true), (3, true), (4, true), (5, true), (6, true), (7, true), (8, true), (9, true), (10, true), (11, true), (12, true)] (by kernel_rfl) ?_
        intro K hK
        have hr9 := RdS.rowN hvX n (by omega)
        have hlhr9 := RdS.le hr9
        simp -implicitDefEqProofs (disch := first | decide | assumption | omega) only [go_sem, fa31_1, fa33_0, fa33_1, ld26, ld22, ld2, RdS.len hdX sl22, RdS.idx hdX sl22, R1.intB hdX (Ext.pres eB), RdS.cells hdX, RdS.len hmX sl23, RdS.idx hmX sl23, RdS.cellB hmX (Ext.pres eB), RdS.cells hmX, RdS.len hvX sl26, RdS.idx hvX sl26, RdS.cellB hvX (Ext.pres eB), RdS.cells hvX, RdS.len hr9 sl22, RdS.idx hr9 sl22, R1.intB hr9 (Ext.pres eB), RdS.cells hr9, BoxAt.cell hb0_0, wrap_id]
        refine hK _ _ ?_
        clear hK K
        refine den_cond rfl (fun c2 => ?_) (fun c2 => ?_)
        · try simp only [decide_eq_true_eq, decide_eq_false_iff_not, beq_iff_eq, beq_eq_false_iff_ne, bne_iff_ne, ne_eq, Bool.not_eq_true', Bool.not_eq_false', Bool.and_eq_true, Bool.or_eq_true, bne_eq_false_iff_eq, Bool.or_eq_false_iff, Bool.and_eq_false_iff] at c2
          refine den_seq ?_
          refine den_region TTok ?_
          intro K hK
          simp -implicitDefEqProofs (disch := first | decide | assumption | omega) only [go_sem, RdS.len hdX sl22, RdS.idx hdX sl22, R1.intB hdX (Ext.pres eB), RdS.cells hdX, RdS.len hmX sl23, RdS.idx hmX sl23, RdS.cellB hmX (Ext.pres eB), RdS.cells hmX, RdS.len hvX sl26, RdS.idx hvX sl26, RdS.cellB hvX (Ext.pres eB), RdS.cells hvX, RdS.len hr9 sl22, RdS.idx hr9 sl22, R1.intB hr9 (Ext.pres eB), RdS.cells hr9, wrap_id]
          refine hK _ _ ?_
          clear hK K
          refine den_ret ?_
          simp (disch := decide) only [resP_1, puts_same, puts_ne]
          exact ⟨vbool (isF_no (fun q => c2 (q.rl n (by omega)))), eB⟩
        · try simp only [decide_eq_true_eq, decide_eq_false_iff_not, beq_iff_eq, beq_eq_false_iff_ne, bne_iff_ne, ne_eq, Bool.not_eq_true', Bool.not_eq_false', Bool.and_eq_true, Bool.or_eq_true, bne_eq_false_iff_eq, Bool.or_eq_false_iff, Bool.and_eq_false_iff] at c2
          refine den_skip ?_
          refine den_seq ?_
          refine den_region TTok ?_
          intro K hK
          simp -implicitDefEqProofs (disch := first | decide | assumption | omega) only [go_sem, RdS.len hdX sl22, RdS.idx hdX sl22, R1.intB hdX (Ext.pres eB), RdS.cells hdX, RdS.len hmX sl23, RdS.idx hmX sl23, RdS.cellB hmX (Ext.pres eB), RdS.cells hmX, RdS.len hvX sl26, RdS.idx hvX sl26, RdS.cellB hvX (Ext.pres eB), RdS.cells hvX, RdS.len hr9 sl22, RdS.idx hr9 sl22, R1.intB hr9 (Ext.pres eB), RdS.cells hr9, BoxAt.cell hb0_0, wrap_id]
          refine hK _ _ ?_
          clear hK K
          refine den_block ?_
          refine den_sel [4, 1, 3] ?_
          intro env_10
          simp only [go_sem]
          refine den_loopS (σ := Nat) (fun st_ => [(4, .int .i64 (st_ : Int))]) (fun st_ H => (st_ ≤ (X.lv.getD n default).length) ∧ (((X.lv.getD n default).take st_).all (fun q => in3 q 0 5) = true) ∧ (Ext h8 H)) (fun st_ => (X.lv.getD n default).length - st_) 0 ?_ ?_
          · exact ⟨by first | (simp; done) | (dsimp only; omega) | (simp; omega), by first | (simp; done) | (dsimp only; omega) | (simp; omega), Ext.refl _⟩
          · rintro i h13 ee12 ⟨hi1, hal, cL11⟩
            replace hb0_0 := BoxAt.ext hb0_0 cL11
            have := Ext.size cL11
            replace eB := Ext.trans eB cL11
            replace cL6 := Ext.trans cL6 cL11
            simp only [List.cons_append, List.nil_append]
            refine den_seq ?_
            refine den_seq ?_
            refine den_region TTok ?_
            intro K hK
            have hr14 := RdS.rowN hvX n (by omega)
            have hlhr14 := RdS.le hr14
            simp -implicitDefEqProofs (disch := first | decide | assumption | omega) only [go_sem, fa33_1, ld26, ld22, RdS.len hdX sl22, RdS.idx hdX sl22, R1.intB hdX (Ext.pres eB), RdS.cells hdX, RdS.len hmX sl23, RdS.idx hmX sl23, RdS.cellB hmX (Ext.pres eB), RdS.cells hmX, RdS.len hvX sl26, RdS.idx hvX sl26, RdS.cellB hvX (Ext.pres eB), RdS.cells hvX, RdS.len hr9 sl22, RdS.idx hr9 sl22, R1.intB hr9 (Ext.pres eB), RdS.cells hr9, RdS.len hr14 sl22, RdS.idx hr14 sl22, R1.intB hr14 (Ext.pres eB), RdS.cells hr14, BoxAt.cell hb0_0, wrap_id]
            refine hK _ _ ?_
            clear hK K
            refine den_cond rfl (fun c3 => ?_) (fun c3 => ?_)
            · try simp only [decide_eq_true_eq, decide_eq_false_iff_not, beq_iff_eq, beq_eq_false_iff_ne, bne_iff_ne, ne_eq, Bool.not_eq_true', Bool.not_eq_false', Bool.and_eq_true, Bool.or_eq_true, bne_eq_false_iff_eq, Bool.or_eq_false_iff, Bool.and_eq_false_iff] at c3
              refine den_skip ?_
              refine den_seq ?_
              refine den_block ?_
              refine den_seq ?_
              refine den_region TTok ?_
              intro K hK
              have hr15 := RdS.rowN hvX n (by omega)
              have hlhr15 := RdS.le hr15
              simp -implicitDefEqProofs (disch := first | decide | assumption | omega) only [go_sem, fa33_1, ld26, ld22, ld2, RdS.len hdX sl22, RdS.idx hdX sl22, R1.intB hdX (Ext.pres eB), RdS.cells hdX, RdS.len hmX sl23, RdS.idx hmX sl23, RdS.cellB hmX (Ext.pres eB), RdS.cells hmX, RdS.len hvX sl26, RdS.idx hvX sl26, RdS.cellB hvX (Ext.pres eB), RdS.cells hvX, RdS.len hr9 sl22, RdS.idx hr9 sl22, R1.intB hr9 (Ext.pres eB), RdS.cells hr9, RdS.len hr14 sl22, RdS.idx hr14 sl22, R1.intB hr14 (Ext.pres eB), RdS.cells hr14, RdS.len hr15 sl22, RdS.idx hr15 sl22, R1.intB hr15 (Ext.pres eB), RdS.cells hr15, BoxAt.cell hb0_0, wrap_id]
              try simp -implicitDefEqProofs (disch := first | decide | assumption | omega) only [go_sem, RdS.len hdX sl22, RdS.idx hdX sl22, R1.intB hdX (Ext.pres eB), RdS.cells hdX, RdS.len hmX sl23, RdS.idx hmX sl23, RdS.cellB hmX (Ext.pres eB), RdS.cells hmX, RdS.len hvX sl26, RdS.idx hvX sl26, RdS.cellB hvX (Ext.pres eB), RdS.cells hvX, RdS.len hr9 sl22, RdS.idx hr9 sl22, R1.intB hr9 (Ext.pres eB), RdS.cells hr9, RdS.len hr14 sl22, RdS.idx hr14 sl22, R1.intB hr14 (Ext.pres eB), RdS.cells hr14, RdS.len hr15 sl22, RdS.idx hr15 sl22, R1.intB hr15 (Ext.pres eB), RdS.cells hr15, BoxAt.cell hb0_0, wrap_id]
              refine CallA.pure (sIn_ok _ _ _ _) ?_
              try simp -implicitDefEqProofs (disch := first | decide | assumption | omega) only [go_sem, RdS.len hdX sl22, RdS.idx hdX sl22, R1.intB hdX (Ext.pres eB), RdS.cells hdX, RdS.len hmX sl23, RdS.idx hmX sl23, RdS.cellB hmX (Ext.pres eB), RdS.cells hmX, RdS.len hvX sl26, RdS.idx hvX sl26, RdS.cellB hvX (Ext.pres eB), RdS.cells hvX, RdS.len hr9 sl22, RdS.idx hr9 sl22, R1.intB hr9 (Ext.pres eB), RdS.cells hr9, RdS.len hr14 sl22, RdS.idx hr14 sl22, R1.intB hr14 (Ext.pres eB), RdS.cells hr14, RdS.len hr15 sl22, RdS.idx hr15 sl22, R1.intB hr15 (Ext.pres eB), RdS.cells hr15, BoxAt.cell hb0_0, wrap_id]
              refine hK _ _ ?_
              clear hK K
              refine den_cond rfl (fun c4 => ?_) (fun c4 => ?_)
              · try simp only [decide_eq_true_eq, decide_eq_false_iff_not, beq_iff_eq, beq_eq_false_iff_ne, bne_iff_ne, ne_eq, Bool.not_eq_true', Bool.not_eq_false', Bool.and_eq_true, Bool.or_eq_true, bne_eq_false_iff_eq, Bool.or_eq_false_iff, Bool.and_eq_false_iff] at c4
                refine den_seq ?_
                refine den_region TTok ?_
                intro K hK
                simp -implicitDefEqProofs (disch := first | decide | assumption | omega) only [go_sem, RdS.len hdX sl22, RdS.idx hdX sl22, R1.intB hdX (Ext.pres eB), RdS.cells hdX, RdS.len hmX sl23, RdS.idx hmX sl23, RdS.cellB hmX (Ext.pres eB), RdS.cells hmX, RdS.len hvX sl26, RdS.idx hvX sl26, RdS.cellB hvX (Ext.pres eB), RdS.cells hvX, RdS.len hr9 sl22, RdS.idx hr9 sl22, R1.intB hr9 (Ext.pres eB), RdS.cells hr9, RdS.len hr14 sl22, RdS.idx hr14 sl22, R1.intB hr14 (Ext.pres eB), RdS.cells hr14, RdS.len hr15 sl22, RdS.idx hr15 sl22, R1.intB hr15 (Ext.pres eB), RdS.cells hr15, wrap_id]
                refine hK _ _ ?_
                clear hK K
                refine den_ret ?_
                simp (disch := decide) only [resP_1, puts_same, puts_ne]
                exact ⟨vbool (isF_no (fun q => by have := all_at (d := 0) (q.rr n (by omega)) (k := i) (by omega); rw [this] at c4; cases c4)), eB⟩
              · try simp only [decide_eq_true_eq, decide_eq_false_iff_not, beq_iff_eq, beq_eq_false_iff_ne, bne_iff_ne, ne_eq, Bool.not_eq_true', Bool.not_eq_false', Bool.and_eq_true, Bool.or_eq_true, bne_eq_false_iff_eq, Bool.or_eq_false_iff, Bool.and_eq_false_iff] at c4
                refine den_skip ?_
                refine den_blk ?_
                refine den_region TTok ?_
                intro K hK
                simp -implicitDefEqProofs (disch := first | decide | assumption | omega) only [go_sem, RdS.len hdX sl22, RdS.idx hdX sl22, R1.intB hdX (Ext.pres eB), RdS.cells hdX, RdS.len hmX sl23, RdS.idx hmX sl23, RdS.cellB hmX (Ext.pres eB), RdS.cells hmX, RdS.len hvX sl26, RdS.idx hvX sl26, RdS.cellB hvX (Ext.pres eB), RdS.cells hvX, RdS.len hr9 sl22, RdS.idx hr9 sl22, R1.intB hr9 (Ext.pres eB), RdS.cells hr9, RdS.len hr14 sl22, RdS.idx hr14 sl22, R1.intB hr14 (Ext.pres eB), RdS.cells hr14, RdS.len hr15 sl22, RdS.idx hr15 sl22, R1.intB hr15 (Ext.pres eB), RdS.cells hr15, BoxAt.cell hb0_0, wrap_id]
                refine hK _ _ ?_
                clear hK K
                refine den_stop ?_
                exact ⟨i + 1, by simp [HasL, puts_at], ⟨by first | omega | (dsimp only; omega), all_step (d := 0) (by omega) hal c4, cL11⟩, by first | omega | (dsimp only; omega)⟩
            · try simp only [decide_eq_true_eq, decide_eq_false_iff_not, beq_iff_eq, beq_eq_false_iff_ne, bne_iff_ne, ne_eq, Bool.not_eq_true', Bool.not_eq_false', Bool.and_eq_true, Bool.or_eq_true, bne_eq_false_iff_eq, Bool.or_eq_false_iff, Bool.and_eq_false_iff] at c3
              refine den_exit ?_
              refine denX_code ?_
              refine denX_stop ?_
              refine denX_hit ?_
              refine den_blk ?_
              refine den_region TTok ?_
              intro K hK
              simp -implicitDefEqProofs (disch := first | decide | assumption | omega) only [go_sem, RdS.len hdX sl22, RdS.idx hdX sl22, R1.intB hdX (Ext.pres eB), RdS.cells hdX, RdS.len hmX sl23, RdS.idx hmX sl23, RdS.cellB hmX (Ext.pres eB), RdS.cells hmX, RdS.len hvX sl26, RdS.idx hvX sl26, RdS.cellB hvX (Ext.pres eB), RdS.cells hvX, RdS.len hr9 sl22, RdS.idx hr9 sl22, R1.intB hr9 (Ext.pres eB), RdS.cells hr9, RdS.len hr14 sl22, RdS.idx hr14 sl22, R1.intB hr14 (Ext.pres eB), RdS.cells hr14, BoxAt.cell hb0_0, wrap_id]
              refine hK _ _ ?_
              clear hK K
              refine den_stop ?_
              exact ⟨n + 1, by simp [HasL, puts_at], ⟨by first | omega | (dsimp only; omega), fun q hq => by
  by_cases hqn : q < n
  · exact hrow q hqn
  · rw [show q = n by omega]; exact ⟨by omega, all_end (by omega) hal⟩, cL6⟩, by first | omega | (dsimp only; omega)⟩
      · try simp only [decide_eq_true_eq, decide_eq_false_iff_not, beq_iff_eq, beq_eq_false_iff_ne, bne_iff_ne, ne_eq, Bool.not_eq_true', Bool.not_eq_false', Bool.and_eq_true, Bool.or_eq_true, bne_eq_false_iff_eq, Bool.or_eq_false_iff, Bool.and_eq_false_iff] at c1
        refine den_exit ?_
        refine denX_code ?_
        refine denX_stop ?_
        refine denX_hit ?_
        refine den_seq ?_
        refine den_seq ?_
        refine den_region TTok ?_
        intro K hK
        simp -implicitDefEqProofs (disch := first | decide | assumption | omega) only [go_sem, RdS.len hdX sl22, RdS.idx hdX sl22, R1.intB hdX (Ext.pres eB), RdS.cells hdX, RdS.len hmX sl23, RdS.idx hmX sl23, RdS.cellB hmX (Ext.pres eB), RdS.cells hmX, RdS.len hvX sl26, RdS.idx hvX sl26, RdS.cellB hvX (Ext.pres eB), RdS.cells hvX, BoxAt.cell hb0_0, wrap_id]
        refine hK _ _ ?_
        clear hK K
        refine den_block ?_
        refine den_sel [5, 1] ?_
        intro env_16
        simp only [go_sem]
        refine den_loopS (σ := Nat) (fun st_ => [(5, .int .i64 (st_ : Int))]) (fun st_ H => (1 ≤ st_ ∧ (st_ ≤ X.lv.length ∨ st_ = 1)) ∧ (∀ m, 1 ≤ m → m < st_ → ∀ a, a < (mapP X.c (m : Int)).length → ∀ b, b < ((mapP X.c (m : Int)).getD a default).length → gdN X m a b) ∧ (Ext h8 H)) (fun st_ => X.lv.length - st_) 1 ?_ ?_
        · exact ⟨by omega, fun m h1 h2 => by omega, Ext.refl _⟩
        · rintro n h19 ee18 ⟨hi2, hR1, cL17⟩
          replace hb0_0 := BoxAt.ext hb0_0 cL17
          have := Ext.size cL17
          replace eB := Ext.trans eB cL17
          simp only [List.cons_append, List.nil_append]
          refine den_seq ?_
          refine den_seq ?_
          refine den_region TTok ?_
          intro K hK
          simp -implicitDefEqProofs (disch := first | decide | assumption | omega) only [go_sem, fa33_1, ld26, RdS.len hdX sl22, RdS.idx hdX sl22, R1.intB hdX (Ext.pres eB), RdS.cells hdX, RdS.len hmX sl23, RdS.idx hmX sl23, RdS.cellB hmX (Ext.pres eB), RdS.cells hmX, RdS.len hvX sl26, RdS.idx hvX sl26, RdS.cellB hvX (Ext.pres eB), RdS.cells hvX, BoxAt.cell hb0_0, wrap_id]
          refine hK _ _ ?_
          clear hK K
          refine den_cond rfl (fun c5 => ?_) (fun c5 => ?_)
          · try simp only [decide_eq_true_eq, decide_eq_false_iff_not, beq_iff_eq, beq_eq_false_iff_ne, bne_iff_ne, ne_eq, Bool.not_eq_true', Bool.not_eq_false', Bool.and_eq_true, Bool.or_eq_true, bne_eq_false_iff_eq, Bool.or_eq_false_iff, Bool.and_eq_false_iff] at c5
            refine den_skip ?_
            refine den_seq ?_
            refine den_block ?_
            refine den_seq ?_
            have hmo := mapP_ok hC (n := (n : Int)) (by omega) (by omega)
            have hdn := dm_at hC.dm (k := n) (by omega)
            rw [Int.toNat_natCast] at hmo
            have hdw := dimP_bnd hC ((n : Int) - 1)
            have hrn := (hrow n (by omega)).1
            have hrm := (hrow (n - 1) (by omega)).1
            have hdm : dimP X.c ((n : Int) - 1) = X.c.dims.getD (n - 1) 0 := by rw [dimP, if_pos (in3_iff.2 ⟨by omega, by omega⟩), show ((n : Int) - 1).toNat = n - 1 by omega]
            refine den_region TTok ?_
            intro K hK
            simp -implicitDefEqProofs (disch := first | decide | assumption | omega) only [go_sem, fa33_0, ld31, RdS.len hdX sl22, RdS.idx hdX sl22, R1.intB hdX (Ext.pres eB), RdS.cells hdX, RdS.len hmX sl23, RdS.idx hmX sl23, RdS.cellB hmX (Ext.pres eB), RdS.cells hmX, RdS.len hvX sl26, RdS.idx hvX sl26, RdS.cellB hvX (Ext.pres eB), RdS.cells hvX, BoxAt.cell hb0_0, wrap_id]
            try simp -implicitDefEqProofs (disch := first | decide | assumption | omega) only [go_sem, RdS.len hdX sl22, RdS.idx hdX sl22, R1.intB hdX (Ext.pres eB), RdS.cells hdX, RdS.len hmX sl23, RdS.idx hmX sl23, RdS.cellB hmX (Ext.pres eB), RdS.cells hmX, RdS.len hvX sl26, RdS.idx hvX sl26, RdS.cellB hvX (Ext.pres eB), RdS.cells hvX, BoxAt.cell hb0_0, wrap_id]
            refine CallA.mono (sMap_ok _ X.c (n : Int) _ ⟨_, _, rfl, (RdS.pres hdX (Ext.pres eB)), (RdS.pres hmX (Ext.pres eB))⟩ hC) ?_
            intro vw16_3_0 h16_3
            rintro ⟨zvw16_3_0, rfl, hrw16_3_0, e16_3⟩
            replace hb0_0 := BoxAt.ext hb0_0 e16_3
            have := Ext.size e16_3
            replace eB := Ext.trans eB e16_3
            replace cL17 := Ext.trans cL17 e16_3
            have xrw16_3_0 := Ext.refl h16_3
            have hlrw16_3_0 := RdS.le hrw16_3_0
            try simp -implicitDefEqProofs (disch := first | decide | assumption | omega) only [go_sem, RdS.len hdX sl22, RdS.idx hdX sl22, R1.intB hdX (Ext.pres eB), RdS.cells hdX, RdS.len hmX sl23, RdS.idx hmX sl23, RdS.cellB hmX (Ext.pres eB), RdS.cells hmX, RdS.len hvX sl26, RdS.idx hvX sl26, RdS.cellB hvX (Ext.pres eB), RdS.cells hvX, BoxAt.cell hb0_0, RdS.len hrw16_3_0 sl26, RdS.idx hrw16_3_0 sl26, RdS.cellB hrw16_3_0 (Ext.pres xrw16_3_0), RdS.cells hrw16_3_0, wrap_id]
            refine hK _ _ ?_
            clear hK K
            refine den_seq ?_
            refine den_region TTok ?_
            intro K hK
            simp -implicitDefEqProofs (disch := first | decide | assumption | omega) only [go_sem, RdS.len hdX sl22, RdS.idx hdX sl22, R1.intB hdX (Ext.pres eB), RdS.cells hdX, RdS.len hmX sl23, RdS.idx hmX sl23, RdS.cellB hmX (Ext.pres eB), RdS.cells hmX, RdS.len hvX sl26, RdS.idx hvX sl26, RdS.cellB hvX (Ext.pres eB), RdS.cells hvX, BoxAt.cell hb0_0, RdS.len hrw16_3_0 sl26, RdS.idx hrw16_3_0 sl26, RdS.cellB hrw16_3_0 (Ext.pres xrw16_3_0), RdS.cells hrw16_3_0, wrap_id]
            refine hK _ _ ?_
            clear hK K
            refine den_block ?_
            refine den_sel [7, 1, 5, 6] ?_
            intro env_20
            simp only [go_sem]
            refine den_loopS (σ := Nat) (fun st_ => [(7, .int .i64 (st_ : Int))]) (fun st_ H => (st_ ≤ (mapP X.c (n : Int)).length) ∧ (∀ a, a < st_ → ∀ b, b < ((mapP X.c (n : Int)).getD a default).length → gdN X n a b) ∧ (Ext h16_3 H)) (fun st_ => (mapP X.c (n : Int)).length - st_) 0 ?_ ?_
            · exact ⟨by omega, fun a h => by omega, Ext.refl _⟩
            · rintro i h23 ee22 ⟨hi3, hR2, cL21⟩
              replace hb0_0 := BoxAt.ext hb0_0 cL21
              have := Ext.size cL21
              replace eB := Ext.trans eB cL21
              replace xrw16_3_0 := Ext.trans xrw16_3_0 cL21
              replace cL17 := Ext.trans cL17 cL21
              simp only [List.cons_append, List.nil_append]
              refine den_seq ?_
              refine den_seq ?_
              refine den_region TTok ?_
              intro K hK
              simp -implicitDefEqProofs (disch := first | decide | assumption | omega) only [go_sem, RdS.len hdX sl22, RdS.idx hdX sl22, R1.intB hdX (Ext.pres eB), RdS.cells hdX, RdS.len hmX sl23, RdS.idx hmX sl23, RdS.cellB hmX (Ext.pres eB), RdS.cells hmX, RdS.len hvX sl26, RdS.idx hvX sl26, RdS.cellB hvX (Ext.pres eB), RdS.cells hvX, BoxAt.cell hb0_0, RdS.len hrw16_3_0 sl26, RdS.idx hrw16_3_0 sl26, RdS.cellB hrw16_3_0 (Ext.pres xrw16_3_0), RdS.cells hrw16_3_0, wrap_id]
              refine hK _ _ ?_
              clear hK K
              refine den_cond rfl (fun c6 => ?_) (fun c6 => ?_)
              · try simp only [decide_eq_true_eq, decide_eq_false_iff_not, beq_iff_eq, beq_eq_false_iff_ne, bne_iff_ne, ne_eq, Bool.not_eq_true', Bool.not_eq_false', Bool.and_eq_true, Bool.or_eq_true, bne_eq_false_iff_eq, Bool.or_eq_false_iff, Bool.and_eq_false_iff] at c6
                refine den_skip ?_
                refine den_seq ?_
                refine den_block ?_
                refine den_seq ?_
                have hmi := hmo.2.at (k := i) (by omega)
                refine den_region TTok ?_
                intro K hK
                simp -implicitDefEqProofs (disch := first | decide | assumption | omega) only [go_sem, RdS.len hdX sl22, RdS.idx hdX sl22, R1.intB hdX (Ext.pres eB), RdS.cells hdX, RdS.len hmX sl23, RdS.idx hmX sl23, RdS.cellB hmX (Ext.pres eB), RdS.cells hmX, RdS.len hvX sl26, RdS.idx hvX sl26, RdS.cellB hvX (Ext.pres eB), RdS.cells hvX, BoxAt.cell hb0_0, RdS.len hrw16_3_0 sl26, RdS.idx hrw16_3_0 sl26, RdS.cellB hrw16_3_0 (Ext.pres xrw16_3_0), RdS.cells hrw16_3_0, wrap_id]
                refine hK _ _ ?_
                clear hK K
                refine den_block ?_
                refine den_sel [8, 1, 5, 6, 7] ?_
                intro env_24
                simp only [go_sem]
                refine den_loopS (σ := Nat) (fun st_ => [(8, .int .i64 (st_ : Int))]) (fun st_ H => (st_ ≤ ((mapP X.c (n : Int)).getD i default).length) ∧ (∀ b, b < st_ → gdN X n i b) ∧ (Ext h23 H)) (fun st_ => ((mapP X.c (n : Int)).getD i default).length - st_) 0 ?_ ?_
                · exact ⟨by omega, fun b h => by omega, Ext.refl _⟩
                · rintro j h27 ee26 ⟨hi4, hR3, cL25⟩
                  replace hb0_0 := BoxAt.ext hb0_0 cL25
                  have := Ext.size cL25
                  replace eB := Ext.trans eB cL25
                  replace xrw16_3_0 := Ext.trans xrw16_3_0 cL25
                  replace cL17 := Ext.trans cL17 cL25
                  replace cL21 := Ext.trans cL21 cL25
                  simp only [List.cons_append, List.nil_append]
                  refine den_seq ?_
                  refine den_seq ?_
                  refine den_region TTok ?_
                  intro K hK
                  have hr28 := RdS.rowN hrw16_3_0 i (by omega)
                  have hlhr28 := RdS.le hr28
                  have xr29 := xrw16_3_0
                  simp -implicitDefEqProofs (disch := first | decide | assumption | omega) only [go_sem, ld22, RdS.len hdX sl22, RdS.idx hdX sl22, R1.intB hdX (Ext.pres eB), RdS.cells hdX, RdS.len hmX sl23, RdS.idx hmX sl23, RdS.cellB hmX (Ext.pres eB), RdS.cells hmX, RdS.len hvX sl26, RdS.idx hvX sl26, RdS.cellB hvX (Ext.pres eB), RdS.cells hvX, BoxAt.cell hb0_0, RdS.len hrw16_3_0 sl26, RdS.idx hrw16_3_0 sl26, RdS.cellB hrw16_3_0 (Ext.pres xrw16_3_0), RdS.cells hrw16_3_0, RdS.len hr28 sl22, RdS.idx hr28 sl22, R1.intB hr28 (Ext.pres xr29), RdS.cells hr28, wrap_id]
                  refine hK _ _ ?_
                  clear hK K
                  refine den_cond rfl (fun c7 => ?_) (fun c7 => ?_)
                  · try simp only [decide_eq_true_eq, decide_eq_false_iff_not, beq_iff_eq, beq_eq_false_iff_ne, bne_iff_ne, ne_eq, Bool.not_eq_true', Bool.not_eq_false', Bool.and_eq_true, Bool.or_eq_true, bne_eq_false_iff_eq, Bool.or_eq_false_iff, Bool.and_eq_false_iff] at c7
                    refine den_skip ?_
                    refine den_seq ?_
                    refine den_block ?_
                    refine den_seq ?_
                    have hlv0 : 0 ≤ (j : Int) ∧ (j : Int) < ((X.lv.getD ((n : Int) - 1).toNat default).length : Int) := by rw [show ((n : Int) - 1).toNat = n - 1 by omega]; omega
                    have hlv1 : 0 ≤ (i : Int) ∧ (i : Int) < ((X.lv.getD (n : Int).toNat default).length : Int) := by rw [Int.toNat_natCast]; omega
                    refine den_merge [(108, .bool ((((((mapP X.c (n : Int)).getD i default).getD j 0) != (0 : Int)) && (decide ((lvP X (n : Int) (i : Int)) < (lvP X ((n : Int) - (1 : Int)) (j : Int)))))))] [1, 5, 6, 7, 8] (fun H => Ext h27 H) ?_ ?_
                      -- a way
                    · refine den_draw TTok mixed [] [(0, true), (1, true), (2, true), (3, true), (4, true), (5, true), (6, true), (7, true), (8, true), (9, true), (10, true), (11, true), (12, true), (14, true), (15, true), (16, true), (13, false), (17, false), (18, true), (19, true)] (by kernel_rfl) ?_
                      intro K hK
                      have hr30 := RdS.rowN hrw16_3_0 i (by omega)
                      have hlhr30 := RdS.le hr30
                      have xr31 := xrw16_3_0
                      simp -implicitDefEqProofs (disch := first | decide | assumption | (simp (disch := decide) only [slotOf_zero, slotOf_succ, Option.map_some, puts_same, puts_ne, gv_bool, gv_undef, tt, tf, ft, ff, eq_self, if_true, if_false, Bool.false_eq_true, Bool.not_true, Bool.not_false]; done) | omega) only [go_sem, ld22, ld2, RdS.len hdX sl22, RdS.idx hdX sl22, R1.intB hdX (Ext.pres eB), RdS.cells hdX, RdS.len hmX sl23, RdS.idx hmX sl23, RdS.cellB hmX (Ext.pres eB), RdS.cells hmX, RdS.len hvX sl26, RdS.idx hvX sl26, RdS.cellB hvX (Ext.pres eB), RdS.cells hvX, BoxAt.cell hb0_0, RdS.len hrw16_3_0 sl26, RdS.idx hrw16_3_0 sl26, RdS.cellB hrw16_3_0 (Ext.pres xrw16_3_0), RdS.cells hrw16_3_0, RdS.len hr28 sl22, RdS.idx hr28 sl22, R1.intB hr28 (Ext.pres xr29), RdS.cells hr28, RdS.len hr30 sl22, RdS.idx hr30 sl22, R1.intB hr30 (Ext.pres xr31), RdS.cells hr30, wrap_id]
                      refine plG_T (by simp (disch := decide) only [slotOf_zero, slotOf_succ, Option.map_some, puts_same, puts_ne, gv_bool, gv_undef, tt, tf, ft, ff, eq_self, if_true, if_false, Bool.false_eq_true, Bool.not_true, Bool.not_false]; rfl) (fun g32 => ?_) (fun g32 => ?_)
                      · try simp -implicitDefEqProofs (disch := first | decide | assumption | (simp (disch := decide) only [slotOf_zero, slotOf_succ, Option.map_some, puts_same, puts_ne, gv_bool, gv_undef, tt, tf, ft, ff, eq_self, if_true, if_false, Bool.false_eq_true, Bool.not_true, Bool.not_false, g32]; done) | omega) only [go_sem, ld33, RdS.len hdX sl22, RdS.idx hdX sl22, R1.intB hdX (Ext.pres eB), RdS.cells hdX, RdS.len hmX sl23, RdS.idx hmX sl23, RdS.cellB hmX (Ext.pres eB), RdS.cells hmX, RdS.len hvX sl26, RdS.idx hvX sl26, RdS.cellB hvX (Ext.pres eB), RdS.cells hvX, BoxAt.cell hb0_0, RdS.len hrw16_3_0 sl26, RdS.idx hrw16_3_0 sl26, RdS.cellB hrw16_3_0 (Ext.pres xrw16_3_0), RdS.cells hrw16_3_0, RdS.len hr28 sl22, RdS.idx hr28 sl22, R1.intB hr28 (Ext.pres xr29), RdS.cells hr28, RdS.len hr30 sl22, RdS.idx hr30 sl22, R1.intB hr30 (Ext.pres xr31), RdS.cells hr30, wrap_id, g32, eq_self, if_true, if_false, Bool.false_eq_true]
                        try simp -implicitDefEqProofs (disch := first | decide | assumption | omega) only [go_sem, RdS.len hdX sl22, RdS.idx hdX sl22, R1.intB hdX (Ext.pres eB), RdS.cells hdX, RdS.len hmX sl23, RdS.idx hmX sl23, RdS.cellB hmX (Ext.pres eB), RdS.cells hmX, RdS.len hvX sl26, RdS.idx hvX sl26, RdS.cellB hvX (Ext.pres eB), RdS.cells hvX, BoxAt.cell hb0_0, RdS.len hrw16_3_0 sl26, RdS.idx hrw16_3_0 sl26, RdS.cellB hrw16_3_0 (Ext.pres xrw16_3_0), RdS.cells hrw16_3_0, RdS.len hr28 sl22, RdS.idx hr28 sl22, R1.intB hr28 (Ext.pres xr29), RdS.cells hr28, RdS.len hr30 sl22, RdS.idx hr30 sl22, R1.intB hr30 (Ext.pres xr31), RdS.cells hr30, wrap_id]
                        refine CallA.mono (sLev_ok _ X ((n : Int) - (1 : Int)) (j : Int) _ ⟨_, _, _, rfl, (RdS.pres hdX (Ext.pres eB)), (RdS.pres hmX (Ext.pres eB)), (RdS.pres hvX (Ext.pres eB))⟩ (by omega) hlv0) ?_
                        intro v_ h23_13
                        rintro ⟨rfl, e23_13⟩
                        replace hb0_0 := BoxAt.ext hb0_0 e23_13
                        have := Ext.size e23_13
                        replace eB := Ext.trans eB e23_13
                        replace xrw16_3_0 := Ext.trans xrw16_3_0 e23_13
                        replace xr29 := Ext.trans xr29 e23_13
                        replace xr31 := Ext.trans xr31 e23_13
                        replace cL17 := Ext.trans cL17 e23_13
                        replace cL21 := Ext.trans cL21 e23_13
                        replace cL25 := Ext.trans cL25 e23_13
                        try simp (disch := decide) only [outv_some, outv_none, put_puts]
                        refine plK_pres (Ext.pres e23_13) ?_
                        try simp -implicitDefEqProofs (disch := first | decide | assumption | (simp (disch := decide) only [slotOf_zero, slotOf_succ, Option.map_some, puts_same, puts_ne, gv_bool, gv_undef, tt, tf, ft, ff, eq_self, if_true, if_false, Bool.false_eq_true, Bool.not_true, Bool.not_false, g32]; done) | omega) only [go_sem, RdS.len hdX sl22, RdS.idx hdX sl22, R1.intB hdX (Ext.pres eB), RdS.cells hdX, RdS.len hmX sl23, RdS.idx hmX sl23, RdS.cellB hmX (Ext.pres eB), RdS.cells hmX, RdS.len hvX sl26, RdS.idx hvX sl26, RdS.cellB hvX (Ext.pres eB), RdS.cells hvX, BoxAt.cell hb0_0, RdS.len hrw16_3_0 sl26, RdS.idx hrw16_3_0 sl26, RdS.cellB hrw16_3_0 (Ext.pres xrw16_3_0), RdS.cells hrw16_3_0, RdS.len hr28 sl22, RdS.idx hr28 sl22, R1.intB hr28 (Ext.pres xr29), RdS.cells hr28, RdS.len hr30 sl22, RdS.idx hr30 sl22, R1.intB hr30 (Ext.pres xr31), RdS.cells hr30, wrap_id, g32, eq_self, if_true, if_false, Bool.false_eq_true]
                        try simp -implicitDefEqProofs (disch := first | decide | assumption | omega) only [go_sem, RdS.len hdX sl22, RdS.idx hdX sl22, R1.intB hdX (Ext.pres eB), RdS.cells hdX, RdS.len hmX sl23, RdS.idx hmX sl23, RdS.cellB hmX (Ext.pres eB), RdS.cells hmX, RdS.len hvX sl26, RdS.idx hvX sl26, RdS.cellB hvX (Ext.pres eB), RdS.cells hvX, BoxAt.cell hb0_0, RdS.len hrw16_3_0 sl26, RdS.idx hrw16_3_0 sl26, RdS.cellB hrw16_3_0 (Ext.pres xrw16_3_0), RdS.cells hrw16_3_0, RdS.len hr28 sl22, RdS.idx hr28 sl22, R1.intB hr28 (Ext.pres xr29), RdS.cells hr28, RdS.len hr30 sl22, RdS.idx hr30 sl22, R1.intB hr30 (Ext.pres xr31), RdS.cells hr30, wrap_id]
                        refine CallA.mono (sLev_ok _ X (n : Int) (i : Int) _ ⟨_, _, _, rfl, (RdS.pres hdX (Ext.pres eB)), (RdS.pres hmX (Ext.pres eB)), (RdS.pres hvX (Ext.pres eB))⟩ (by omega) hlv1) ?_
                        intro v_ h23_17
                        rintro ⟨rfl, e23_17⟩
                        replace hb0_0 := BoxAt.ext hb0_0 e23_17
                        have := Ext.size e23_17
                        replace eB := Ext.trans eB e23_17
                        replace xrw16_3_0 := Ext.trans xrw16_3_0 e23_17
                        replace xr29 := Ext.trans xr29 e23_17
                        replace xr31 := Ext.trans xr31 e23_17
                        replace cL17 := Ext.trans cL17 e23_17
                        replace cL21 := Ext.trans cL21 e23_17
                        replace cL25 := Ext.trans cL25 e23_17
                        try simp (disch := decide) only [outv_some, outv_none, put_puts]
                        refine plK_pres (Ext.pres e23_17) ?_
                        try simp -implicitDefEqProofs (disch := first | decide | assumption | (simp (disch := decide) only [slotOf_zero, slotOf_succ, Option.map_some, puts_same, puts_ne, gv_bool, gv_undef, tt, tf, ft, ff, eq_self, if_true, if_false, Bool.false_eq_true, Bool.not_true, Bool.not_false, g32]; done) | omega) only [go_sem, RdS.len hdX sl22, RdS.idx hdX sl22, R1.intB hdX (Ext.pres eB), RdS.cells hdX, RdS.len hmX sl23, RdS.idx hmX sl23, RdS.cellB hmX (Ext.pres eB), RdS.cells hmX, RdS.len hvX sl26, RdS.idx hvX sl26, RdS.cellB hvX (Ext.pres eB), RdS.cells hvX, BoxAt.cell hb0_0, RdS.len hrw16_3_0 sl26, RdS.idx hrw16_3_0 sl26, RdS.cellB hrw16_3_0 (Ext.pres xrw16_3_0), RdS.cells hrw16_3_0, RdS.len hr28 sl22, RdS.idx hr28 sl22, R1.intB hr28 (Ext.pres xr29), RdS.cells hr28, RdS.len hr30 sl22, RdS.idx hr30 sl22, R1.intB hr30 (Ext.pres xr31), RdS.cells hr30, wrap_id, g32, eq_self, if_true, if_false, Bool.false_eq_true]
                        refine hK _ _ ?_
                        clear hK K
                        refine den_stop ?_
                        refine ⟨?_, (Ext.trans e23_13 e23_17)⟩
                        first | (simp (disch := decide) only [go_sem, g32, eq_self, Bool.true_and, Bool.and_true, Bool.false_and, Bool.and_false, Bool.true_or, Bool.or_true, Bool.false_or, Bool.or_false, if_true, if_false, Bool.false_eq_true]; done) | simp [HasL, sel, puts_at, g32]
                      · try simp -implicitDefEqProofs (disch := first | decide | assumption | (simp (disch := decide) only [slotOf_zero, slotOf_succ, Option.map_some, puts_same, puts_ne, gv_bool, gv_undef, tt, tf, ft, ff, eq_self, if_true, if_false, Bool.false_eq_true, Bool.not_true, Bool.not_false, g32]; done) | omega) only [go_sem, RdS.len hdX sl22, RdS.idx hdX sl22, R1.intB hdX (Ext.pres eB), RdS.cells hdX, RdS.len hmX sl23, RdS.idx hmX sl23, RdS.cellB hmX (Ext.pres eB), RdS.cells hmX, RdS.len hvX sl26, RdS.idx hvX sl26, RdS.cellB hvX (Ext.pres eB), RdS.cells hvX, BoxAt.cell hb0_0, RdS.len hrw16_3_0 sl26, RdS.idx hrw16_3_0 sl26, RdS.cellB hrw16_3_0 (Ext.pres xrw16_3_0), RdS.cells hrw16_3_0, RdS.len hr28 sl22, RdS.idx hr28 sl22, R1.intB hr28 (Ext.pres xr29), RdS.cells hr28, RdS.len hr30 sl22, RdS.idx hr30 sl22, R1.intB hr30 (Ext.pres xr31), RdS.cells hr30, wrap_id, g32, eq_self, if_true, if_false, Bool.false_eq_true]
                        refine hK _ _ ?_
                        clear hK K
                        refine den_stop ?_
                        refine ⟨?_, Ext.refl _⟩
                        first | (simp (disch := decide) only [go_sem, g32, eq_self, Bool.true_and, Bool.and_true, Bool.false_and, Bool.and_false, Bool.true_or, Bool.or_true, Bool.false_or, Bool.or_false, if_true, if_false, Bool.false_eq_true]; done) | simp [HasL, sel, puts_at, g32]
                    intro en33 h34 e35
                    replace hb0_0 := BoxAt.ext hb0_0 e35
                    have := Ext.size e35
                    replace eB := Ext.trans eB e35
                    replace xrw16_3_0 := Ext.trans xrw16_3_0 e35
                    replace xr29 := Ext.trans xr29 e35
                    replace cL17 := Ext.trans cL17 e35
                    replace cL21 := Ext.trans cL21 e35
                    replace cL25 := Ext.trans cL25 e35
                    simp (disch := decide) only [go_sem]
                    refine den_cond rfl (fun c8 => ?_) (fun c8 => ?_)
                    · try simp only [decide_eq_true_eq, decide_eq_false_iff_not, beq_iff_eq, beq_eq_false_iff_ne, bne_iff_ne, ne_eq, Bool.not_eq_true', Bool.not_eq_false', Bool.and_eq_true, Bool.or_eq_true, bne_eq_false_iff_eq, Bool.or_eq_false_iff, Bool.and_eq_false_iff] at c8
                      refine den_seq ?_
                      refine den_region TTok ?_
                      intro K hK
                      simp -implicitDefEqProofs (disch := first | decide | assumption | omega) only [go_sem, RdS.len hdX sl22, RdS.idx hdX sl22, R1.intB hdX (Ext.pres eB), RdS.cells hdX, RdS.len hmX sl23, RdS.idx hmX sl23, RdS.cellB hmX (Ext.pres eB), RdS.cells hmX, RdS.len hvX sl26, RdS.idx hvX sl26, RdS.cellB hvX (Ext.pres eB), RdS.cells hvX, RdS.len hrw16_3_0 sl26, RdS.idx hrw16_3_0 sl26, RdS.cellB hrw16_3_0 (Ext.pres xrw16_3_0), RdS.cells hrw16_3_0, RdS.len hr28 sl22, RdS.idx hr28 sl22, R1.intB hr28 (Ext.pres xr29), RdS.cells hr28, wrap_id]
                      refine hK _ _ ?_
                      clear hK K
                      refine den_ret ?_
                      simp (disch := decide) only [resP_1, puts_same, puts_ne]
                      exact ⟨vbool (isF_no (fun q => (isF_gd q (n := n) (i := i) (j := j) (by omega) (by omega) (by omega) (by omega)).elim c8.1 (fun h => by have := c8.2; omega))), eB⟩
                    · try simp only [decide_eq_true_eq, decide_eq_false_iff_not, beq_iff_eq, beq_eq_false_iff_ne, bne_iff_ne, ne_eq, Bool.not_eq_true', Bool.not_eq_false', Bool.and_eq_true, Bool.or_eq_true, bne_eq_false_iff_eq, Bool.or_eq_false_iff, Bool.and_eq_false_iff] at c8
                      refine den_skip ?_
                      refine den_blk ?_
                      refine den_region TTok ?_
                      intro K hK
                      simp -implicitDefEqProofs (disch := first | decide | assumption | omega) only [go_sem, RdS.len hdX sl22, RdS.idx hdX sl22, R1.intB hdX (Ext.pres eB), RdS.cells hdX, RdS.len hmX sl23, RdS.idx hmX sl23, RdS.cellB hmX (Ext.pres eB), RdS.cells hmX, RdS.len hvX sl26, RdS.idx hvX sl26, RdS.cellB hvX (Ext.pres eB), RdS.cells hvX, BoxAt.cell hb0_0, RdS.len hrw16_3_0 sl26, RdS.idx hrw16_3_0 sl26, RdS.cellB hrw16_3_0 (Ext.pres xrw16_3_0), RdS.cells hrw16_3_0, RdS.len hr28 sl22, RdS.idx hr28 sl22, R1.intB hr28 (Ext.pres xr29), RdS.cells hr28, wrap_id]
                      refine hK _ _ ?_
                      clear hK K
                      refine den_stop ?_
                      exact ⟨j + 1, by simp [HasL, puts_at], ⟨by first | omega | (dsimp only; omega), fun b h1 => by
  by_cases hqn : b < j
  · exact hR3 b hqn
  · rw [show b = j by omega]; exact c8.imp id (fun h => by omega), cL25⟩, by first | omega | (dsimp only; omega)⟩
                  · try simp only [decide_eq_true_eq, decide_eq_false_iff_not, beq_iff_eq, beq_eq_false_iff_ne, bne_iff_ne, ne_eq, Bool.not_eq_true', Bool.not_eq_false', Bool.and_eq_true, Bool.or_eq_true, bne_eq_false_iff_eq, Bool.or_eq_false_iff, Bool.and_eq_false_iff] at c7
                    refine den_exit ?_
                    refine denX_code ?_
                    refine denX_stop ?_
                    refine denX_hit ?_
                    refine den_blk ?_
                    refine den_region TTok ?_
                    intro K hK
                    simp -implicitDefEqProofs (disch := first | decide | assumption | omega) only [go_sem, RdS.len hdX sl22, RdS.idx hdX sl22, R1.intB hdX (Ext.pres eB), RdS.cells hdX, RdS.len hmX sl23, RdS.idx hmX sl23, RdS.cellB hmX (Ext.pres eB), RdS.cells hmX, RdS.len hvX sl26, RdS.idx hvX sl26, RdS.cellB hvX (Ext.pres eB), RdS.cells hvX, BoxAt.cell hb0_0, RdS.len hrw16_3_0 sl26, RdS.idx hrw16_3_0 sl26, RdS.cellB hrw16_3_0 (Ext.pres xrw16_3_0), RdS.cells hrw16_3_0, RdS.len hr28 sl22, RdS.idx hr28 sl22, R1.intB hr28 (Ext.pres xr29), RdS.cells hr28, wrap_id]
                    refine hK _ _ ?_
                    clear hK K
                    refine den_stop ?_
                    exact ⟨i + 1, by simp [HasL, puts_at], ⟨by first | omega | (dsimp only; omega), fun a h1 => by
  by_cases hqn : a < i
  · exact hR2 a hqn
  · rw [show a = i by omega]; intro b hb; exact hR3 b (by omega), cL21⟩, by first | omega | (dsimp only; omega)⟩
              · try simp only [decide_eq_true_eq, decide_eq_false_iff_not, beq_iff_eq, beq_eq_false_iff_ne, bne_iff_ne, ne_eq, Bool.not_eq_true', Bool.not_eq_false', Bool.and_eq_true, Bool.or_eq_true, bne_eq_false_iff_eq, Bool.or_eq_false_iff, Bool.and_eq_false_iff] at c6
                refine den_exit ?_
                refine denX_code ?_
                refine denX_stop ?_
                refine denX_hit ?_
                refine den_blk ?_
                refine den_region TTok ?_
                intro K hK
                simp -implicitDefEqProofs (disch := first | decide | assumption | omega) only [go_sem, RdS.len hdX sl22, RdS.idx hdX sl22, R1.intB hdX (Ext.pres eB), RdS.cells hdX, RdS.len hmX sl23, RdS.idx hmX sl23, RdS.cellB hmX (Ext.pres eB), RdS.cells hmX, RdS.len hvX sl26, RdS.idx hvX sl26, RdS.cellB hvX (Ext.pres eB), RdS.cells hvX, BoxAt.cell hb0_0, RdS.len hrw16_3_0 sl26, RdS.idx hrw16_3_0 sl26, RdS.cellB hrw16_3_0 (Ext.pres xrw16_3_0), RdS.cells hrw16_3_0, wrap_id]
                refine hK _ _ ?_
                clear hK K
                refine den_stop ?_
                exact ⟨n + 1, by simp [HasL, puts_at], ⟨by first | omega | (dsimp only; omega), fun m h1 h2 => by
  by_cases hqn : m < n
  · exact hR1 m h1 hqn
  · rw [show m = n by omega]; intro i hi; exact hR2 i (by omega), cL17⟩, by first | omega | (dsimp only; omega)⟩
          · try simp only [decide_eq_true_eq, decide_eq_false_iff_not, beq_iff_eq, beq_eq_false_iff_ne, bne_iff_ne, ne_eq, Bool.not_eq_true', Bool.not_eq_false', Bool.and_eq_true, Bool.or_eq_true, bne_eq_false_iff_eq, Bool.or_eq_false_iff, Bool.and_eq_false_iff] at c5
            refine den_exit ?_
            refine denX_code ?_
            refine denX_stop ?_
            refine denX_hit ?_
            refine den_seq ?_
            refine den_region TTok ?_
            intro K hK
            simp -implicitDefEqProofs (disch := first | decide | assumption | omega) only [go_sem, RdS.len hdX sl22, RdS.idx hdX sl22, R1.intB hdX (Ext.pres eB), RdS.cells hdX, RdS.len hmX sl23, RdS.idx hmX sl23, RdS.cellB hmX (Ext.pres eB), RdS.cells hmX, RdS.len hvX sl26, RdS.idx hvX sl26, RdS.cellB hvX (Ext.pres eB), RdS.cells hvX, wrap_id]
            refine hK _ _ ?_
            clear hK K
            refine den_ret ?_
            simp (disch := decide) only [resP_1, puts_same, puts_ne]
            exact ⟨vbool (isF_yes (isF_sp hC (by omega) (fun n hn => hrow n (by omega)) (fun m h1 h2 => hR1 m h1 (by omega)))), eB⟩

set_option maxRecDepth 100000 in
theorem sIF_ok (vX : Value) (X : Fl) (h : Heap) (rX : RF h vX X)  : CallA Try.prog 16 #[vX] h fun v' h' => v' = .bool (isF X) ∧ Ext h h' := by
  obtain ⟨vdX, vmX, vvX, rfl, hdX, hmX, hvX⟩ := rX
  have hledX := RdS.le hdX
  have hlemX := RdS.le hmX
  have hlevX := RdS.le hvX
  refine callA_intro TTok (args := [_]) Try.func16 (by kernel_rfl) rfl 5 rfl (by simp) [.tmp 2] rfl ?_
  simp only [idxs, Nat.reduceAdd]
  refine den_seq ?_
  refine den_region TTok ?_
  intro K hK
  simp -implicitDefEqProofs (disch := first | decide | assumption | omega) only [go_sem, RdS.len hdX sl22, RdS.idx hdX sl22, R1.intB hdX (HPres.refl _), RdS.cells hdX, RdS.len hmX sl23, RdS.idx hmX sl23, RdS.cellB hmX (HPres.refl _), RdS.cells hmX, RdS.len hvX sl26, RdS.idx hvX sl26, RdS.cellB hvX (HPres.refl _), RdS.cells hvX, wrap_id]
  refine op_box (cs := #[.int .i64 (X.c.p), vdX, vmX, vvX]) rfl ?_
  intro h0_0 e0_0 hb0_0 z0_0
  have := Ext.size e0_0
  have eB := e0_0
  have hfhb0_0 : Fresh h.size [h.size] := Fresh.one _
  have hlhb0_0 := one_lt (show h.size < h0_0.size by omega)
  try simp -implicitDefEqProofs (disch := first | decide | assumption | omega) only [go_sem, RdS.len hdX sl22, RdS.idx hdX sl22, R1.intB hdX (Ext.pres eB), RdS.cells hdX, RdS.len hmX sl23, RdS.idx hmX sl23, RdS.cellB hmX (Ext.pres eB), RdS.cells hmX, RdS.len hvX sl26, RdS.idx hvX sl26, RdS.cellB hvX (Ext.pres eB), RdS.cells hvX, BoxAt.cell hb0_0, wrap_id]
  refine hK _ _ ?_
  clear hK K
  refine den_seq ?_
  refine den_region TTok ?_
  intro K hK
  simp -implicitDefEqProofs (disch := first | decide | assumption | omega) only [go_sem, ld33, RdS.len hdX sl22, RdS.idx hdX sl22, R1.intB hdX (Ext.pres eB), RdS.cells hdX, RdS.len hmX sl23, RdS.idx hmX sl23, RdS.cellB hmX (Ext.pres eB), RdS.cells hmX, RdS.len hvX sl26, RdS.idx hvX sl26, RdS.cellB hvX (Ext.pres eB), RdS.cells hvX, BoxAt.cell hb0_0, wrap_id]
  try simp -implicitDefEqProofs (disch := first | decide | assumption | omega) only [go_sem, RdS.len hdX sl22, RdS.idx hdX sl22, R1.intB hdX (Ext.pres eB), RdS.cells hdX, RdS.len hmX sl23, RdS.idx hmX sl23, RdS.cellB hmX (Ext.pres eB), RdS.cells hmX, RdS.len hvX sl26, RdS.idx hvX sl26, RdS.cellB hvX (Ext.pres eB), RdS.cells hvX, BoxAt.cell hb0_0, wrap_id]
  refine CallA.mono (sIsF_ok _ X _ ⟨_, _, _, rfl, (RdS.pres hdX (Ext.pres eB)), (RdS.pres hmX (Ext.pres eB)), (RdS.pres hvX (Ext.pres eB))⟩ ) ?_
  intro v_ h1_1
  rintro ⟨rfl, e1_1⟩
  replace hb0_0 := BoxAt.ext hb0_0 e1_1
  have := Ext.size e1_1
  replace eB := Ext.trans eB e1_1
  try simp -implicitDefEqProofs (disch := first | decide | assumption | omega) only [go_sem, RdS.len hdX sl22, RdS.idx hdX sl22, R1.intB hdX (Ext.pres eB), RdS.cells hdX, RdS.len hmX sl23, RdS.idx hmX sl23, RdS.cellB hmX (Ext.pres eB), RdS.cells hmX, RdS.len hvX sl26, RdS.idx hvX sl26, RdS.cellB hvX (Ext.pres eB), RdS.cells hvX, BoxAt.cell hb0_0, wrap_id]
  refine hK _ _ ?_
  clear hK K
  refine den_ret ?_
  simp (disch := decide) only [resP_1, puts_same, puts_ne]
  exact ⟨by first | rfl | trivial, eB⟩

end Go.Proofs.Ytjjjgllbocgkbaa
