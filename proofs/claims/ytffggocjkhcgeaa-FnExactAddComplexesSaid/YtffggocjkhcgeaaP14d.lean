/-
  Walks: AddComplexes.
  Conditions: each theorem's own.
-/
import Derived.Test.YtffggocjkhcgeaaP14c
set_option linter.unusedVariables false
set_option linter.unusedSimpArgs false
namespace Go.Proofs.Ytffggocjkhcgeaa
open Go
set_option maxRecDepth 100000 in
set_option maxHeartbeats 4000000 in
theorem iAdd_ok (vX vY : Value) (X : Cx) (Y : Cx) (h : Heap) (rX : RC h vX X) (rY : RC h vY Y)  : CallA Try.prog 30 #[vX, vY] h fun v' h' => ∃ wd0 wm0 fd0 fm0, v' = .tuple #[.agg #[.int .i64 ((addP X Y).1).p, wd0, wm0], .int .i64 ((addP X Y).2)] ∧ O1 h' wd0 ((addP X Y).1).dims fd0 ∧ O3 h' wm0 ((addP X Y).1).maps fm0 ∧ Fresh h.size (fd0 ++ fm0) ∧ Ext h h' := by
  obtain ⟨vdX, vmX, rfl, hdX, hmX⟩ := rX
  have hledX := RdS.le hdX
  have hlemX := RdS.le hmX
  obtain ⟨vdY, vmY, rfl, hdY, hmY⟩ := rY
  have hledY := RdS.le hdY
  have hlemY := RdS.le hmY
  refine callA_intro TTok (args := [_, _]) Try.func30 (by kernel_rfl) rfl 64 rfl (by simp) [.cell 4 30, .tmp 5] rfl ?_
  simp only [idxs, Nat.reduceAdd]
  refine den_seq ?_
  refine den_region TTok ?_
  intro K hK
  simp -implicitDefEqProofs (disch := first | decide | assumption | omega) only [go_sem, RdS.len hdX sl22, RdS.idx hdX sl22, R1.intB hdX (HPres.refl _), RdS.cells hdX, RdS.len hmX sl23, RdS.idx hmX sl23, RdS.cellB hmX (HPres.refl _), RdS.cells hmX, RdS.len hdY sl22, RdS.idx hdY sl22, R1.intB hdY (HPres.refl _), RdS.cells hdY, RdS.len hmY sl23, RdS.idx hmY sl23, RdS.cellB hmY (HPres.refl _), RdS.cells hmY, wrap_id, bC0]
  refine op_box (cs := #[.int .i64 (X.p), vdX, vmX]) rfl ?_
  intro h0_0 e0_0 hb0_0 z0_0
  have := Ext.size e0_0
  have eB := e0_0
  have hfhb0_0 : Fresh h.size [h.size] := Fresh.one _
  have hlhb0_0 := one_lt (show h.size < h0_0.size by omega)
  try simp -implicitDefEqProofs (disch := first | decide | assumption | omega) only [go_sem, RdS.len hdX sl22, RdS.idx hdX sl22, R1.intB hdX (Ext.pres eB), RdS.cells hdX, RdS.len hmX sl23, RdS.idx hmX sl23, RdS.cellB hmX (Ext.pres eB), RdS.cells hmX, RdS.len hdY sl22, RdS.idx hdY sl22, R1.intB hdY (Ext.pres eB), RdS.cells hdY, RdS.len hmY sl23, RdS.idx hmY sl23, RdS.cellB hmY (Ext.pres eB), RdS.cells hmY, BoxAt.cell hb0_0, wrap_id, bC0]
  refine op_box (cs := #[.int .i64 (Y.p), vdY, vmY]) rfl ?_
  intro h0_1 e0_1 hb0_1 z0_1
  replace hb0_0 := BoxAt.ext hb0_0 e0_1
  have := Ext.size e0_1
  replace eB := Ext.trans eB e0_1
  have hfhb0_1 : Fresh h0_0.size [h0_0.size] := Fresh.one _
  have hlhb0_1 := one_lt (show h0_0.size < h0_1.size by omega)
  try simp -implicitDefEqProofs (disch := first | decide | assumption | omega) only [go_sem, RdS.len hdX sl22, RdS.idx hdX sl22, R1.intB hdX (Ext.pres eB), RdS.cells hdX, RdS.len hmX sl23, RdS.idx hmX sl23, RdS.cellB hmX (Ext.pres eB), RdS.cells hmX, RdS.len hdY sl22, RdS.idx hdY sl22, R1.intB hdY (Ext.pres eB), RdS.cells hdY, RdS.len hmY sl23, RdS.idx hmY sl23, RdS.cellB hmY (Ext.pres eB), RdS.cells hmY, BoxAt.cell hb0_0, BoxAt.cell hb0_1, wrap_id, bC0]
  refine op_alloc (cs := #[.int .i64 0, .slice none 0 0, .slice none 0 0]) (by kernel_rfl) ?_
  intro h0_2 e0_2 hb0_2 z0_2
  replace hb0_0 := BoxAt.ext hb0_0 e0_2
  replace hb0_1 := BoxAt.ext hb0_1 e0_2
  have := Ext.size e0_2
  replace eB := Ext.trans eB e0_2
  have hfhb0_2 : Fresh h0_1.size [h0_1.size] := Fresh.one _
  have hlhb0_2 := one_lt (show h0_1.size < h0_2.size by omega)
  try simp -implicitDefEqProofs (disch := first | decide | assumption | omega) only [go_sem, RdS.len hdX sl22, RdS.idx hdX sl22, R1.intB hdX (Ext.pres eB), RdS.cells hdX, RdS.len hmX sl23, RdS.idx hmX sl23, RdS.cellB hmX (Ext.pres eB), RdS.cells hmX, RdS.len hdY sl22, RdS.idx hdY sl22, R1.intB hdY (Ext.pres eB), RdS.cells hdY, RdS.len hmY sl23, RdS.idx hmY sl23, RdS.cellB hmY (Ext.pres eB), RdS.cells hmY, BoxAt.cell hb0_0, BoxAt.cell hb0_1, BoxAt.cell hb0_2, wrap_id, bC0]
  refine hK _ _ ?_
  clear hK K
  refine den_seq ?_
  refine den_block ?_
  refine den_seq ?_
  refine den_merge [(9, .bool (((!((isC X))) || (!((isC Y))))))] [2, 3, 4] (fun H => Ext h0_2 H) ?_ ?_
    -- a way
  · refine den_region TTok ?_
    intro K hK
    simp -implicitDefEqProofs (disch := first | decide | assumption | (simp (disch := decide) only [slotOf_zero, slotOf_succ, Option.map_some, puts_same, puts_ne, gv_bool, gv_undef, tt, tf, ft, ff, eq_self, if_true, if_false, Bool.false_eq_true, Bool.not_true, Bool.not_false]; done) | omega) only [go_sem, ld30, RdS.len hdX sl22, RdS.idx hdX sl22, R1.intB hdX (Ext.pres eB), RdS.cells hdX, RdS.len hmX sl23, RdS.idx hmX sl23, RdS.cellB hmX (Ext.pres eB), RdS.cells hmX, RdS.len hdY sl22, RdS.idx hdY sl22, R1.intB hdY (Ext.pres eB), RdS.cells hdY, RdS.len hmY sl23, RdS.idx hmY sl23, RdS.cellB hmY (Ext.pres eB), RdS.cells hmY, BoxAt.cell hb0_0, BoxAt.cell hb0_1, BoxAt.cell hb0_2, wrap_id, bC0]
    try simp -implicitDefEqProofs (disch := first | decide | assumption | omega) only [go_sem, RdS.len hdX sl22, RdS.idx hdX sl22, R1.intB hdX (Ext.pres eB), RdS.cells hdX, RdS.len hmX sl23, RdS.idx hmX sl23, RdS.cellB hmX (Ext.pres eB), RdS.cells hmX, RdS.len hdY sl22, RdS.idx hdY sl22, R1.intB hdY (Ext.pres eB), RdS.cells hdY, RdS.len hmY sl23, RdS.idx hmY sl23, RdS.cellB hmY (Ext.pres eB), RdS.cells hmY, BoxAt.cell hb0_0, BoxAt.cell hb0_1, BoxAt.cell hb0_2, wrap_id, bC0]
    refine CallA.mono (iIs_ok _ X _ ⟨_, _, rfl, (RdS.pres hdX (Ext.pres eB)), (RdS.pres hmX (Ext.pres eB))⟩) ?_
    intro v_ h1_1
    rintro ⟨rfl, e1_1⟩
    replace hb0_0 := BoxAt.ext hb0_0 e1_1
    replace hb0_1 := BoxAt.ext hb0_1 e1_1
    replace hb0_2 := BoxAt.ext hb0_2 e1_1
    have := Ext.size e1_1
    replace eB := Ext.trans eB e1_1
    try simp -implicitDefEqProofs (disch := first | decide | assumption | (simp (disch := decide) only [slotOf_zero, slotOf_succ, Option.map_some, puts_same, puts_ne, gv_bool, gv_undef, tt, tf, ft, ff, eq_self, if_true, if_false, Bool.false_eq_true, Bool.not_true, Bool.not_false]; done) | omega) only [go_sem, RdS.len hdX sl22, RdS.idx hdX sl22, R1.intB hdX (Ext.pres eB), RdS.cells hdX, RdS.len hmX sl23, RdS.idx hmX sl23, RdS.cellB hmX (Ext.pres eB), RdS.cells hmX, RdS.len hdY sl22, RdS.idx hdY sl22, R1.intB hdY (Ext.pres eB), RdS.cells hdY, RdS.len hmY sl23, RdS.idx hmY sl23, RdS.cellB hmY (Ext.pres eB), RdS.cells hmY, BoxAt.cell hb0_0, BoxAt.cell hb0_1, BoxAt.cell hb0_2, wrap_id, bC0]
    refine opsP_F (by simp (disch := decide) only [slotOf_zero, slotOf_succ, Option.map_some, puts_same, puts_ne, gv_bool, gv_undef, tt, tf, ft, ff, eq_self, if_true, if_false, Bool.false_eq_true, Bool.not_true, Bool.not_false]; rfl) (fun g1 => ?_) (fun g1 => ?_)
    · try simp -implicitDefEqProofs (disch := first | decide | assumption | (simp (disch := decide) only [slotOf_zero, slotOf_succ, Option.map_some, puts_same, puts_ne, gv_bool, gv_undef, tt, tf, ft, ff, eq_self, if_true, if_false, Bool.false_eq_true, Bool.not_true, Bool.not_false, g1]; done) | omega) only [go_sem, ld30, RdS.len hdX sl22, RdS.idx hdX sl22, R1.intB hdX (Ext.pres eB), RdS.cells hdX, RdS.len hmX sl23, RdS.idx hmX sl23, RdS.cellB hmX (Ext.pres eB), RdS.cells hmX, RdS.len hdY sl22, RdS.idx hdY sl22, R1.intB hdY (Ext.pres eB), RdS.cells hdY, RdS.len hmY sl23, RdS.idx hmY sl23, RdS.cellB hmY (Ext.pres eB), RdS.cells hmY, BoxAt.cell hb0_0, BoxAt.cell hb0_1, BoxAt.cell hb0_2, wrap_id, bC0, g1, eq_self, if_true, if_false, Bool.false_eq_true]
      try simp -implicitDefEqProofs (disch := first | decide | assumption | omega) only [go_sem, RdS.len hdX sl22, RdS.idx hdX sl22, R1.intB hdX (Ext.pres eB), RdS.cells hdX, RdS.len hmX sl23, RdS.idx hmX sl23, RdS.cellB hmX (Ext.pres eB), RdS.cells hmX, RdS.len hdY sl22, RdS.idx hdY sl22, R1.intB hdY (Ext.pres eB), RdS.cells hdY, RdS.len hmY sl23, RdS.idx hmY sl23, RdS.cellB hmY (Ext.pres eB), RdS.cells hmY, BoxAt.cell hb0_0, BoxAt.cell hb0_1, BoxAt.cell hb0_2, wrap_id, bC0]
      refine CallA.mono (iIs_ok _ Y _ ⟨_, _, rfl, (RdS.pres hdY (Ext.pres eB)), (RdS.pres hmY (Ext.pres eB))⟩) ?_
      intro v_ h1_5
      rintro ⟨rfl, e1_5⟩
      replace hb0_0 := BoxAt.ext hb0_0 e1_5
      replace hb0_1 := BoxAt.ext hb0_1 e1_5
      replace hb0_2 := BoxAt.ext hb0_2 e1_5
      have := Ext.size e1_5
      replace eB := Ext.trans eB e1_5
      try simp -implicitDefEqProofs (disch := first | decide | assumption | (simp (disch := decide) only [slotOf_zero, slotOf_succ, Option.map_some, puts_same, puts_ne, gv_bool, gv_undef, tt, tf, ft, ff, eq_self, if_true, if_false, Bool.false_eq_true, Bool.not_true, Bool.not_false, g1]; done) | omega) only [go_sem, RdS.len hdX sl22, RdS.idx hdX sl22, R1.intB hdX (Ext.pres eB), RdS.cells hdX, RdS.len hmX sl23, RdS.idx hmX sl23, RdS.cellB hmX (Ext.pres eB), RdS.cells hmX, RdS.len hdY sl22, RdS.idx hdY sl22, R1.intB hdY (Ext.pres eB), RdS.cells hdY, RdS.len hmY sl23, RdS.idx hmY sl23, RdS.cellB hmY (Ext.pres eB), RdS.cells hmY, BoxAt.cell hb0_0, BoxAt.cell hb0_1, BoxAt.cell hb0_2, wrap_id, bC0, g1, eq_self, if_true, if_false, Bool.false_eq_true]
      refine hK _ _ ?_
      clear hK K
      refine den_stop ?_
      refine ⟨?_, (Ext.trans e1_1 e1_5)⟩
      first | (simp (disch := decide) only [go_sem, g1, eq_self, Bool.true_and, Bool.and_true, Bool.false_and, Bool.and_false, Bool.true_or, Bool.or_true, Bool.false_or, Bool.or_false, if_true, if_false, Bool.false_eq_true]; done) | simp [HasL, sel, puts_at, g1]
    · try simp -implicitDefEqProofs (disch := first | decide | assumption | (simp (disch := decide) only [slotOf_zero, slotOf_succ, Option.map_some, puts_same, puts_ne, gv_bool, gv_undef, tt, tf, ft, ff, eq_self, if_true, if_false, Bool.false_eq_true, Bool.not_true, Bool.not_false, g1]; done) | omega) only [go_sem, RdS.len hdX sl22, RdS.idx hdX sl22, R1.intB hdX (Ext.pres eB), RdS.cells hdX, RdS.len hmX sl23, RdS.idx hmX sl23, RdS.cellB hmX (Ext.pres eB), RdS.cells hmX, RdS.len hdY sl22, RdS.idx hdY sl22, R1.intB hdY (Ext.pres eB), RdS.cells hdY, RdS.len hmY sl23, RdS.idx hmY sl23, RdS.cellB hmY (Ext.pres eB), RdS.cells hmY, BoxAt.cell hb0_0, BoxAt.cell hb0_1, BoxAt.cell hb0_2, wrap_id, bC0, g1, eq_self, if_true, if_false, Bool.false_eq_true]
      refine hK _ _ ?_
      clear hK K
      refine den_stop ?_
      refine ⟨?_, e1_1⟩
      first | (simp (disch := decide) only [go_sem, g1, eq_self, Bool.true_and, Bool.and_true, Bool.false_and, Bool.and_false, Bool.true_or, Bool.or_true, Bool.false_or, Bool.or_false, if_true, if_false, Bool.false_eq_true]; done) | simp [HasL, sel, puts_at, g1]
  intro en2 h3 e4
  replace hb0_0 := BoxAt.ext hb0_0 e4
  replace hb0_1 := BoxAt.ext hb0_1 e4
  replace hb0_2 := BoxAt.ext hb0_2 e4
  have := Ext.size e4
  replace eB := Ext.trans eB e4
  simp (disch := decide) only [go_sem]
  refine den_cond rfl (fun c0 => ?_) (fun c0 => ?_)
  · try simp only [decide_eq_true_eq, decide_eq_false_iff_not, beq_iff_eq, beq_eq_false_iff_ne, bne_iff_ne, ne_eq, Bool.not_eq_true', Bool.not_eq_false', Bool.and_eq_true, Bool.or_eq_true, bne_eq_false_iff_eq, Bool.or_eq_false_iff, Bool.and_eq_false_iff] at c0
    refine den_seq ?_
    refine den_region TTok ?_
    intro K hK
    simp -implicitDefEqProofs (disch := first | decide | assumption | omega) only [go_sem, RdS.len hdX sl22, RdS.idx hdX sl22, R1.intB hdX (Ext.pres eB), RdS.cells hdX, RdS.len hmX sl23, RdS.idx hmX sl23, RdS.cellB hmX (Ext.pres eB), RdS.cells hmX, RdS.len hdY sl22, RdS.idx hdY sl22, R1.intB hdY (Ext.pres eB), RdS.cells hdY, RdS.len hmY sl23, RdS.idx hmY sl23, RdS.cellB hmY (Ext.pres eB), RdS.cells hmY, BoxAt.cell hb0_2, wrap_id, bC0]
    refine op_storeB (cs' := #[.int .i64 ((0 : Int)), .slice none 0 0, .slice none 0 0]) st30 hb0_2 rfl rfl rfl (by simp) (allOne_mem (l := [.int .i64 ((0 : Int)), .slice none 0 0, .slice none 0 0]) ⟨rfl, rfl, rfl, trivial⟩) rfl ?_
    intro h2_1 hb0_2 c2_1
    have := c2_1.size
    replace eB := Ext.then eB c2_1 (ge_of hfhb0_2 (by omega))
    try simp -implicitDefEqProofs (disch := first | decide | assumption | omega) only [go_sem, RdS.len hdX sl22, RdS.idx hdX sl22, R1.intB hdX (Ext.pres eB), RdS.cells hdX, RdS.len hmX sl23, RdS.idx hmX sl23, RdS.cellB hmX (Ext.pres eB), RdS.cells hmX, RdS.len hdY sl22, RdS.idx hdY sl22, R1.intB hdY (Ext.pres eB), RdS.cells hdY, RdS.len hmY sl23, RdS.idx hmY sl23, RdS.cellB hmY (Ext.pres eB), RdS.cells hmY, BoxAt.cell hb0_2, wrap_id, bC0]
    refine hK _ _ ?_
    clear hK K
    refine den_ret ?_
    simp -implicitDefEqProofs (disch := first | decide | assumption | omega) only [go_sem, RdS.len hdX sl22, RdS.idx hdX sl22, R1.intB hdX (Ext.pres eB), RdS.cells hdX, RdS.len hmX sl23, RdS.idx hmX sl23, RdS.cellB hmX (Ext.pres eB), RdS.cells hmX, RdS.len hdY sl22, RdS.idx hdY sl22, R1.intB hdY (Ext.pres eB), RdS.cells hdY, RdS.len hmY sl23, RdS.idx hmY sl23, RdS.cellB hmY (Ext.pres eB), RdS.cells hmY, BoxAt.cell hb0_2, wrap_id, bC0, resP_ct, ld30]
    have hz : addP X Y = (⟨0, [], []⟩, 1) := by rw [addP, if_neg (by rintro ⟨h1, h2⟩; rw [h1, h2] at c0; simp at c0)]
    rw [hz]
    exact ⟨.slice none 0 0, .slice none 0 0, [], [], rfl, OS.nil, OS.nil, Fresh.nil _, eB⟩
  · try simp only [decide_eq_true_eq, decide_eq_false_iff_not, beq_iff_eq, beq_eq_false_iff_ne, bne_iff_ne, ne_eq, Bool.not_eq_true', Bool.not_eq_false', Bool.and_eq_true, Bool.or_eq_true, bne_eq_false_iff_eq, Bool.or_eq_false_iff, Bool.and_eq_false_iff] at c0
    have hXY : isC X = true ∧ isC Y = true := by simpa using c0
    have hX := isC_t.1 hXY.1
    have hY := isC_t.1 hXY.2
    have hCX := hX
    have hCY := hY
    have hmlX := hX.ml
    have hmlY := hY.ml
    have hlX := hX.len
    have hlY := hY.len
    have hpb := isP_bnd hX.p
    refine den_seq ?_
    refine den_region TTok ?_
    intro K hK
    simp -implicitDefEqProofs (disch := first | decide | assumption | omega) only [go_sem, fa30_0, ld2, RdS.len hdX sl22, RdS.idx hdX sl22, R1.intB hdX (Ext.pres eB), RdS.cells hdX, RdS.len hmX sl23, RdS.idx hmX sl23, RdS.cellB hmX (Ext.pres eB), RdS.cells hmX, RdS.len hdY sl22, RdS.idx hdY sl22, R1.intB hdY (Ext.pres eB), RdS.cells hdY, RdS.len hmY sl23, RdS.idx hmY sl23, RdS.cellB hmY (Ext.pres eB), RdS.cells hmY, BoxAt.cell hb0_0, BoxAt.cell hb0_1, BoxAt.cell hb0_2, wrap_id, bC0]
    refine hK _ _ ?_
    clear hK K
    refine den_cond rfl (fun c1 => ?_) (fun c1 => ?_)
    · try simp only [decide_eq_true_eq, decide_eq_false_iff_not, beq_iff_eq, beq_eq_false_iff_ne, bne_iff_ne, ne_eq, Bool.not_eq_true', Bool.not_eq_false', Bool.and_eq_true, Bool.or_eq_true, bne_eq_false_iff_eq, Bool.or_eq_false_iff, Bool.and_eq_false_iff] at c1
      refine den_seq ?_
      refine den_region TTok ?_
      intro K hK
      simp -implicitDefEqProofs (disch := first | decide | assumption | omega) only [go_sem, RdS.len hdX sl22, RdS.idx hdX sl22, R1.intB hdX (Ext.pres eB), RdS.cells hdX, RdS.len hmX sl23, RdS.idx hmX sl23, RdS.cellB hmX (Ext.pres eB), RdS.cells hmX, RdS.len hdY sl22, RdS.idx hdY sl22, R1.intB hdY (Ext.pres eB), RdS.cells hdY, RdS.len hmY sl23, RdS.idx hmY sl23, RdS.cellB hmY (Ext.pres eB), RdS.cells hmY, BoxAt.cell hb0_2, wrap_id, bC0]
      refine op_storeB (cs' := #[.int .i64 ((0 : Int)), .slice none 0 0, .slice none 0 0]) st30 hb0_2 rfl rfl rfl (by simp) (allOne_mem (l := [.int .i64 ((0 : Int)), .slice none 0 0, .slice none 0 0]) ⟨rfl, rfl, rfl, trivial⟩) rfl ?_
      intro h4_1 hb0_2 c4_1
      have := c4_1.size
      replace eB := Ext.then eB c4_1 (ge_of hfhb0_2 (by omega))
      try simp -implicitDefEqProofs (disch := first | decide | assumption | omega) only [go_sem, RdS.len hdX sl22, RdS.idx hdX sl22, R1.intB hdX (Ext.pres eB), RdS.cells hdX, RdS.len hmX sl23, RdS.idx hmX sl23, RdS.cellB hmX (Ext.pres eB), RdS.cells hmX, RdS.len hdY sl22, RdS.idx hdY sl22, R1.intB hdY (Ext.pres eB), RdS.cells hdY, RdS.len hmY sl23, RdS.idx hmY sl23, RdS.cellB hmY (Ext.pres eB), RdS.cells hmY, BoxAt.cell hb0_2, wrap_id, bC0]
      refine hK _ _ ?_
      clear hK K
      refine den_ret ?_
      simp -implicitDefEqProofs (disch := first | decide | assumption | omega) only [go_sem, RdS.len hdX sl22, RdS.idx hdX sl22, R1.intB hdX (Ext.pres eB), RdS.cells hdX, RdS.len hmX sl23, RdS.idx hmX sl23, RdS.cellB hmX (Ext.pres eB), RdS.cells hmX, RdS.len hdY sl22, RdS.idx hdY sl22, R1.intB hdY (Ext.pres eB), RdS.cells hdY, RdS.len hmY sl23, RdS.idx hmY sl23, RdS.cellB hmY (Ext.pres eB), RdS.cells hmY, BoxAt.cell hb0_2, wrap_id, bC0, resP_ct, ld30]
      have hz : addP X Y = (⟨0, [], []⟩, 2) := by rw [addP, if_pos hXY, if_neg c1]
      rw [hz]
      exact ⟨.slice none 0 0, .slice none 0 0, [], [], rfl, OS.nil, OS.nil, Fresh.nil _, eB⟩
    · try simp only [decide_eq_true_eq, decide_eq_false_iff_not, beq_iff_eq, beq_eq_false_iff_ne, bne_iff_ne, ne_eq, Bool.not_eq_true', Bool.not_eq_false', Bool.and_eq_true, Bool.or_eq_true, bne_eq_false_iff_eq, Bool.or_eq_false_iff, Bool.and_eq_false_iff] at c1
      refine den_skip ?_
      refine den_blk ?_
      refine den_seq ?_
      refine den_region TTok ?_
      intro K hK
      simp -implicitDefEqProofs (disch := first | decide | assumption | omega) only [go_sem, RdS.len hdX sl22, RdS.idx hdX sl22, R1.intB hdX (Ext.pres eB), RdS.cells hdX, RdS.len hmX sl23, RdS.idx hmX sl23, RdS.cellB hmX (Ext.pres eB), RdS.cells hmX, RdS.len hdY sl22, RdS.idx hdY sl22, R1.intB hdY (Ext.pres eB), RdS.cells hdY, RdS.len hmY sl23, RdS.idx hmY sl23, RdS.cellB hmY (Ext.pres eB), RdS.cells hmY, BoxAt.cell hb0_0, BoxAt.cell hb0_1, BoxAt.cell hb0_2, wrap_id, bC0]
      refine op_bs0 sz22 OI ?_
      intro v5_0 h5_0 ho5_0 e5_0
      replace hb0_0 := BoxAt.ext hb0_0 e5_0
      replace hb0_1 := BoxAt.ext hb0_1 e5_0
      replace hb0_2 := BoxAt.ext hb0_2 e5_0
      have := Ext.size e5_0
      replace eB := Ext.trans eB e5_0
      have hfho5_0 : Fresh h3.size [h3.size] := Fresh.one _
      have hlho5_0 := OS.lt ho5_0
      try simp -implicitDefEqProofs (disch := first | decide | assumption | omega) only [go_sem, RdS.len hdX sl22, RdS.idx hdX sl22, R1.intB hdX (Ext.pres eB), RdS.cells hdX, RdS.len hmX sl23, RdS.idx hmX sl23, RdS.cellB hmX (Ext.pres eB), RdS.cells hmX, RdS.len hdY sl22, RdS.idx hdY sl22, R1.intB hdY (Ext.pres eB), RdS.cells hdY, RdS.len hmY sl23, RdS.idx hmY sl23, RdS.cellB hmY (Ext.pres eB), RdS.cells hmY, RdS.len (OS.rd ho5_0) sl22, RdS.idx (OS.rd ho5_0) sl22, R1.intN (OS.rd ho5_0), RdS.cells (OS.rd ho5_0), BoxAt.cell hb0_0, BoxAt.cell hb0_1, BoxAt.cell hb0_2, wrap_id, bC0]
      refine hK _ _ ?_
      clear hK K
      refine den_seq ?_
      refine den_seq ?_
      refine den_draw TTok mixed [] [(0, true), (1, true), (3, true), (4, true), (7, true), (2, false), (5, false), (6, true)] (by kernel_rfl) ?_
      intro K hK
      simp -implicitDefEqProofs (disch := first | decide | assumption | omega) only [go_sem, fa30_1, ld22, RdS.len hdX sl22, RdS.idx hdX sl22, R1.intB hdX (Ext.pres eB), RdS.cells hdX, RdS.len hmX sl23, RdS.idx hmX sl23, RdS.cellB hmX (Ext.pres eB), RdS.cells hmX, RdS.len hdY sl22, RdS.idx hdY sl22, R1.intB hdY (Ext.pres eB), RdS.cells hdY, RdS.len hmY sl23, RdS.idx hmY sl23, RdS.cellB hmY (Ext.pres eB), RdS.cells hmY, RdS.len (OS.rd ho5_0) sl22, RdS.idx (OS.rd ho5_0) sl22, R1.intN (OS.rd ho5_0), RdS.cells (OS.rd ho5_0), BoxAt.cell hb0_0, BoxAt.cell hb0_1, BoxAt.cell hb0_2, wrap_id, bC0]
      try simp -implicitDefEqProofs (disch := first | decide | assumption | omega) only [go_sem, RdS.len hdX sl22, RdS.idx hdX sl22, R1.intB hdX (Ext.pres eB), RdS.cells hdX, RdS.len hmX sl23, RdS.idx hmX sl23, RdS.cellB hmX (Ext.pres eB), RdS.cells hmX, RdS.len hdY sl22, RdS.idx hdY sl22, R1.intB hdY (Ext.pres eB), RdS.cells hdY, RdS.len hmY sl23, RdS.idx hmY sl23, RdS.cellB hmY (Ext.pres eB), RdS.cells hmY, RdS.len (OS.rd ho5_0) sl22, RdS.idx (OS.rd ho5_0) sl22, R1.intN (OS.rd ho5_0), RdS.cells (OS.rd ho5_0), BoxAt.cell hb0_0, BoxAt.cell hb0_1, BoxAt.cell hb0_2, wrap_id, bC0]
      refine CallA.pure (size1_ok _ _ _ (RdS.pres hdX (Ext.pres eB))) ?_
      try simp -implicitDefEqProofs (disch := first | decide | assumption | omega) only [go_sem, RdS.len hdX sl22, RdS.idx hdX sl22, R1.intB hdX (Ext.pres eB), RdS.cells hdX, RdS.len hmX sl23, RdS.idx hmX sl23, RdS.cellB hmX (Ext.pres eB), RdS.cells hmX, RdS.len hdY sl22, RdS.idx hdY sl22, R1.intB hdY (Ext.pres eB), RdS.cells hdY, RdS.len hmY sl23, RdS.idx hmY sl23, RdS.cellB hmY (Ext.pres eB), RdS.cells hmY, RdS.len (OS.rd ho5_0) sl22, RdS.idx (OS.rd ho5_0) sl22, R1.intN (OS.rd ho5_0), RdS.cells (OS.rd ho5_0), BoxAt.cell hb0_0, BoxAt.cell hb0_1, BoxAt.cell hb0_2, wrap_id, bC0]
      try simp -implicitDefEqProofs (disch := first | decide | assumption | omega) only [go_sem, RdS.len hdX sl22, RdS.idx hdX sl22, R1.intB hdX (Ext.pres eB), RdS.cells hdX, RdS.len hmX sl23, RdS.idx hmX sl23, RdS.cellB hmX (Ext.pres eB), RdS.cells hmX, RdS.len hdY sl22, RdS.idx hdY sl22, R1.intB hdY (Ext.pres eB), RdS.cells hdY, RdS.len hmY sl23, RdS.idx hmY sl23, RdS.cellB hmY (Ext.pres eB), RdS.cells hmY, RdS.len (OS.rd ho5_0) sl22, RdS.idx (OS.rd ho5_0) sl22, R1.intN (OS.rd ho5_0), RdS.cells (OS.rd ho5_0), BoxAt.cell hb0_0, BoxAt.cell hb0_1, BoxAt.cell hb0_2, wrap_id, bC0]
      refine CallA.pure (size1_ok _ _ _ (RdS.pres hdY (Ext.pres eB))) ?_
      try simp -implicitDefEqProofs (disch := first | decide | assumption | omega) only [go_sem, RdS.len hdX sl22, RdS.idx hdX sl22, R1.intB hdX (Ext.pres eB), RdS.cells hdX, RdS.len hmX sl23, RdS.idx hmX sl23, RdS.cellB hmX (Ext.pres eB), RdS.cells hmX, RdS.len hdY sl22, RdS.idx hdY sl22, R1.intB hdY (Ext.pres eB), RdS.cells hdY, RdS.len hmY sl23, RdS.idx hmY sl23, RdS.cellB hmY (Ext.pres eB), RdS.cells hmY, RdS.len (OS.rd ho5_0) sl22, RdS.idx (OS.rd ho5_0) sl22, R1.intN (OS.rd ho5_0), RdS.cells (OS.rd ho5_0), BoxAt.cell hb0_0, BoxAt.cell hb0_1, BoxAt.cell hb0_2, wrap_id, bC0]
      refine hK _ _ ?_
      clear hK K
      refine den_block ?_
      refine den_sel [6, 34, 2, 3, 4, 33] ?_
      intro env_5
      simp only [go_sem]
      refine den_loopS (σ := Nat × Value × List Nat) (fun st_ => [(6, st_.2.1), (34, .int .i64 (st_.1 : Int))]) (fun st_ H => ((st_.1 : Int) ≤ max (X.dims.length : Int) (Y.dims.length : Int)) ∧ (O1 H st_.2.1 ((List.range st_.1).map fun q : Nat => dimP X (q : Int) + dimP Y (q : Int)) st_.2.2) ∧ (Fresh (h3.size) st_.2.2) ∧ (Sub [h3.size] h5_0.size st_.2.2) ∧ (Chg [h3.size] h5_0 H)) (fun st_ => X.dims.length + Y.dims.length - st_.1) (0, v5_0, [h3.size]) ?_ ?_
      · exact ⟨by first | (simp; done) | (dsimp only; omega) | (simp; omega), by simpa using ho5_0, hfho5_0, Sub.refl, Chg.refl _ _⟩
      · rintro ⟨n, vhD, fphD⟩ h8 ee7 ⟨hi0, hD, hfhD, sbhD, cL6⟩
        dsimp only at hi0 hD hfhD sbhD cL6
        replace hb0_0 := BoxAt.chgA hb0_0 cL6 (apart_lt hlhb0_0 hfho5_0 (by omega))
        replace hb0_1 := BoxAt.chgA hb0_1 cL6 (apart_lt hlhb0_1 hfho5_0 (by omega))
        replace hb0_2 := BoxAt.chgA hb0_2 cL6 (apart_lt hlhb0_2 hfho5_0 (by omega))
        have := cL6.size
        replace eB := Ext.then eB cL6 (ge_of hfho5_0 (by omega))
        have hlhD := OS.lt hD
        simp only [List.cons_append, List.nil_append]
        refine den_seq ?_
        refine den_region TTok ?_
        intro K hK
        simp -implicitDefEqProofs (disch := first | decide | assumption | omega) only [go_sem, RdS.len hdX sl22, RdS.idx hdX sl22, R1.intB hdX (Ext.pres eB), RdS.cells hdX, RdS.len hmX sl23, RdS.idx hmX sl23, RdS.cellB hmX (Ext.pres eB), RdS.cells hmX, RdS.len hdY sl22, RdS.idx hdY sl22, R1.intB hdY (Ext.pres eB), RdS.cells hdY, RdS.len hmY sl23, RdS.idx hmY sl23, RdS.cellB hmY (Ext.pres eB), RdS.cells hmY, RdS.len (OS.rd hD) sl22, RdS.idx (OS.rd hD) sl22, R1.intN (OS.rd hD), RdS.cells (OS.rd hD), BoxAt.cell hb0_0, BoxAt.cell hb0_1, BoxAt.cell hb0_2, wrap_id, bC0]
        refine hK _ _ ?_
        clear hK K
        refine den_seq ?_
        refine den_cond rfl (fun c2 => ?_) (fun c2 => ?_)
        · try simp only [decide_eq_true_eq, decide_eq_false_iff_not, beq_iff_eq, beq_eq_false_iff_ne, bne_iff_ne, ne_eq, Bool.not_eq_true', Bool.not_eq_false', Bool.and_eq_true, Bool.or_eq_true, bne_eq_false_iff_eq, Bool.or_eq_false_iff, Bool.and_eq_false_iff] at c2
          refine den_skip ?_
          refine den_seq ?_
          refine den_block ?_
          refine den_seq ?_
          refine den_region TTok ?_
          intro K hK
          simp -implicitDefEqProofs (disch := first | decide | assumption | omega) only [go_sem, RdS.len hdX sl22, RdS.idx hdX sl22, R1.intB hdX (Ext.pres eB), RdS.cells hdX, RdS.len hmX sl23, RdS.idx hmX sl23, RdS.cellB hmX (Ext.pres eB), RdS.cells hmX, RdS.len hdY sl22, RdS.idx hdY sl22, R1.intB hdY (Ext.pres eB), RdS.cells hdY, RdS.len hmY sl23, RdS.idx hmY sl23, RdS.cellB hmY (Ext.pres eB), RdS.cells hmY, RdS.len (OS.rd hD) sl22, RdS.idx (OS.rd hD) sl22, R1.intN (OS.rd hD), RdS.cells (OS.rd hD), BoxAt.cell hb0_0, BoxAt.cell hb0_1, BoxAt.cell hb0_2, wrap_id, bC0]
          refine hK _ _ ?_
          clear hK K
          have hdx := dimP_bnd hX (n : Int)
          have hdy := dimP_bnd hY (n : Int)
          have hl0 : ((List.range n).map fun q : Nat => dimP X (q : Int) + dimP Y (q : Int)).length = n := by simp
          refine den_draw TTok mixed [9] [(0, true), (1, true), (2, true), (4, true), (5, true), (3, false), (6, false), (7, true), (8, false), (9, false), (10, true)] (by kernel_rfl) ?_
          intro K hK
          simp -implicitDefEqProofs (disch := first | decide | assumption | omega) only [go_sem, ld30, RdS.len hdX sl22, RdS.idx hdX sl22, R1.intB hdX (Ext.pres eB), RdS.cells hdX, RdS.len hmX sl23, RdS.idx hmX sl23, RdS.cellB hmX (Ext.pres eB), RdS.cells hmX, RdS.len hdY sl22, RdS.idx hdY sl22, R1.intB hdY (Ext.pres eB), RdS.cells hdY, RdS.len hmY sl23, RdS.idx hmY sl23, RdS.cellB hmY (Ext.pres eB), RdS.cells hmY, RdS.len (OS.rd hD) sl22, RdS.idx (OS.rd hD) sl22, R1.intN (OS.rd hD), RdS.cells (OS.rd hD), BoxAt.cell hb0_0, BoxAt.cell hb0_1, BoxAt.cell hb0_2, wrap_id, bC0]
          try simp -implicitDefEqProofs (disch := first | decide | assumption | omega) only [go_sem, RdS.len hdX sl22, RdS.idx hdX sl22, R1.intB hdX (Ext.pres eB), RdS.cells hdX, RdS.len hmX sl23, RdS.idx hmX sl23, RdS.cellB hmX (Ext.pres eB), RdS.cells hmX, RdS.len hdY sl22, RdS.idx hdY sl22, R1.intB hdY (Ext.pres eB), RdS.cells hdY, RdS.len hmY sl23, RdS.idx hmY sl23, RdS.cellB hmY (Ext.pres eB), RdS.cells hmY, RdS.len (OS.rd hD) sl22, RdS.idx (OS.rd hD) sl22, R1.intN (OS.rd hD), RdS.cells (OS.rd hD), BoxAt.cell hb0_0, BoxAt.cell hb0_1, BoxAt.cell hb0_2, wrap_id, bC0]
          refine CallA.mono (iDim_ok _ X _ _ ⟨_, _, rfl, (RdS.pres hdX (Ext.pres eB)), (RdS.pres hmX (Ext.pres eB))⟩) ?_
          intro v_ h9_3
          rintro ⟨rfl, e9_3⟩
          replace hD := OS.ext hD e9_3
          replace hb0_0 := BoxAt.ext hb0_0 e9_3
          replace hb0_1 := BoxAt.ext hb0_1 e9_3
          replace hb0_2 := BoxAt.ext hb0_2 e9_3
          have := Ext.size e9_3
          replace eB := Ext.trans eB e9_3
          replace cL6 := Chg.stepE cL6 e9_3
          try simp (disch := decide) only [outv_some, outv_none, put_puts]
          refine plK_pres (Ext.pres e9_3) ?_
          try simp -implicitDefEqProofs (disch := first | decide | assumption | omega) only [go_sem, RdS.len hdX sl22, RdS.idx hdX sl22, R1.intB hdX (Ext.pres eB), RdS.cells hdX, RdS.len hmX sl23, RdS.idx hmX sl23, RdS.cellB hmX (Ext.pres eB), RdS.cells hmX, RdS.len hdY sl22, RdS.idx hdY sl22, R1.intB hdY (Ext.pres eB), RdS.cells hdY, RdS.len hmY sl23, RdS.idx hmY sl23, RdS.cellB hmY (Ext.pres eB), RdS.cells hmY, RdS.len (OS.rd hD) sl22, RdS.idx (OS.rd hD) sl22, R1.intN (OS.rd hD), RdS.cells (OS.rd hD), BoxAt.cell hb0_0, BoxAt.cell hb0_1, BoxAt.cell hb0_2, wrap_id, bC0]
          try simp -implicitDefEqProofs (disch := first | decide | assumption | omega) only [go_sem, RdS.len hdX sl22, RdS.idx hdX sl22, R1.intB hdX (Ext.pres eB), RdS.cells hdX, RdS.len hmX sl23, RdS.idx hmX sl23, RdS.cellB hmX (Ext.pres eB), RdS.cells hmX, RdS.len hdY sl22, RdS.idx hdY sl22, R1.intB hdY (Ext.pres eB), RdS.cells hdY, RdS.len hmY sl23, RdS.idx hmY sl23, RdS.cellB hmY (Ext.pres eB), RdS.cells hmY, RdS.len (OS.rd hD) sl22, RdS.idx (OS.rd hD) sl22, R1.intN (OS.rd hD), RdS.cells (OS.rd hD), BoxAt.cell hb0_0, BoxAt.cell hb0_1, BoxAt.cell hb0_2, wrap_id, bC0]
          refine CallA.mono (iDim_ok _ Y _ _ ⟨_, _, rfl, (RdS.pres hdY (Ext.pres eB)), (RdS.pres hmY (Ext.pres eB))⟩) ?_
          intro v_ h9_6
          rintro ⟨rfl, e9_6⟩
          replace hD := OS.ext hD e9_6
          replace hb0_0 := BoxAt.ext hb0_0 e9_6
          replace hb0_1 := BoxAt.ext hb0_1 e9_6
          replace hb0_2 := BoxAt.ext hb0_2 e9_6
          have := Ext.size e9_6
          replace eB := Ext.trans eB e9_6
          replace cL6 := Chg.stepE cL6 e9_6
          try simp (disch := decide) only [outv_some, outv_none, put_puts]
          refine plK_pres (Ext.pres e9_6) ?_
          try simp -implicitDefEqProofs (disch := first | decide | assumption | omega) only [go_sem, RdS.len hdX sl22, RdS.idx hdX sl22, R1.intB hdX (Ext.pres eB), RdS.cells hdX, RdS.len hmX sl23, RdS.idx hmX sl23, RdS.cellB hmX (Ext.pres eB), RdS.cells hmX, RdS.len hdY sl22, RdS.idx hdY sl22, R1.intB hdY (Ext.pres eB), RdS.cells hdY, RdS.len hmY sl23, RdS.idx hmY sl23, RdS.cellB hmY (Ext.pres eB), RdS.cells hmY, RdS.len (OS.rd hD) sl22, RdS.idx (OS.rd hD) sl22, R1.intN (OS.rd hD), RdS.cells (OS.rd hD), BoxAt.cell hb0_0, BoxAt.cell hb0_1, BoxAt.cell hb0_2, wrap_id, bC0]
          refine op_bs1 sz22 rfl rfl ?_
          try simp (disch := decide) only [outv_some, outv_none, put_puts]
          refine plK_pres (Ext.pres (Ext.push _ _)) ?_
          try simp -implicitDefEqProofs (disch := first | decide | assumption | omega) only [go_sem, RdS.len hdX sl22, RdS.idx hdX sl22, R1.intB hdX (Ext.pres eB), RdS.cells hdX, RdS.len hmX sl23, RdS.idx hmX sl23, RdS.cellB hmX (Ext.pres eB), RdS.cells hmX, RdS.len hdY sl22, RdS.idx hdY sl22, R1.intB hdY (Ext.pres eB), RdS.cells hdY, RdS.len hmY sl23, RdS.idx hmY sl23, RdS.cellB hmY (Ext.pres eB), RdS.cells hmY, RdS.len (OS.rd hD) sl22, RdS.idx (OS.rd hD) sl22, R1.intN (OS.rd hD), RdS.cells (OS.rd hD), BoxAt.cell hb0_0, BoxAt.cell hb0_1, BoxAt.cell hb0_2, wrap_id, bC0]
          refine op_append1 sz22 hD hfhD.nodup ⟨rfl, rfl⟩ List.nodup_nil (Apart.nil _) (by first | omega | (simp; omega)) rfl rfl ?_
          intro v9_9 h9_9 fp9_9 ho9_9 hn9_9 hs9_9 c9_9
          have hsz9_9 := c9_9.size
          have hfho9_9 : Fresh h3.size fp9_9 := Fresh.appd hfhD (Fresh.nil h9_6.size) (by omega) (by omega) hn9_9 hs9_9
          have sb9 : Sub [h3.size] h5_0.size fp9_9 := Sub.grow sbhD Sub.nil (by omega) hs9_9
          replace hb0_0 := BoxAt.chgA hb0_0 c9_9 (apart_lt hlhb0_0 hfhD (by omega))
          replace hb0_1 := BoxAt.chgA hb0_1 c9_9 (apart_lt hlhb0_1 hfhD (by omega))
          replace hb0_2 := BoxAt.chgA hb0_2 c9_9 (apart_lt hlhb0_2 hfhD (by omega))
          have := c9_9.size
          replace eB := Ext.then eB c9_9 (ge_of hfhD (by omega))
          replace cL6 := Chg.step cL6 c9_9 sbhD
          have hlho9_9 := OS.lt ho9_9
          try simp (disch := decide) only [outv_some, outv_none, put_puts]
          refine plK_last (by decide) ?_
          try simp -implicitDefEqProofs (disch := first | decide | assumption | omega) only [go_sem, RdS.len hdX sl22, RdS.idx hdX sl22, R1.intB hdX (Ext.pres eB), RdS.cells hdX, RdS.len hmX sl23, RdS.idx hmX sl23, RdS.cellB hmX (Ext.pres eB), RdS.cells hmX, RdS.len hdY sl22, RdS.idx hdY sl22, R1.intB hdY (Ext.pres eB), RdS.cells hdY, RdS.len hmY sl23, RdS.idx hmY sl23, RdS.cellB hmY (Ext.pres eB), RdS.cells hmY, RdS.len (OS.rd ho9_9) sl22, RdS.idx (OS.rd ho9_9) sl22, R1.intN (OS.rd ho9_9), RdS.cells (OS.rd ho9_9), BoxAt.cell hb0_0, BoxAt.cell hb0_1, BoxAt.cell hb0_2, wrap_id, bC0]
          refine hK _ _ ?_
          clear hK K
          refine den_blk ?_
          refine den_region TTok ?_
          intro K hK
          simp -implicitDefEqProofs (disch := first | decide | assumption | omega) only [go_sem, RdS.len hdX sl22, RdS.idx hdX sl22, R1.intB hdX (Ext.pres eB), RdS.cells hdX, RdS.len hmX sl23, RdS.idx hmX sl23, RdS.cellB hmX (Ext.pres eB), RdS.cells hmX, RdS.len hdY sl22, RdS.idx hdY sl22, R1.intB hdY (Ext.pres eB), RdS.cells hdY, RdS.len hmY sl23, RdS.idx hmY sl23, RdS.cellB hmY (Ext.pres eB), RdS.cells hmY, RdS.len (OS.rd ho9_9) sl22, RdS.idx (OS.rd ho9_9) sl22, R1.intN (OS.rd ho9_9), RdS.cells (OS.rd ho9_9), BoxAt.cell hb0_0, BoxAt.cell hb0_1, BoxAt.cell hb0_2, wrap_id, bC0]
          refine hK _ _ ?_
          clear hK K
          refine den_stop ?_
          rw [range_step (fun q : Nat => dimP X (q : Int) + dimP Y (q : Int))] at ho9_9
          exact ⟨(n + 1, v9_9, fp9_9), by simp [HasL, puts_at], ⟨by first | omega | (dsimp only; omega), ho9_9, hfho9_9, sb9, cL6⟩, by first | omega | (dsimp only; omega)⟩
        · try simp only [decide_eq_true_eq, decide_eq_false_iff_not, beq_iff_eq, beq_eq_false_iff_ne, bne_iff_ne, ne_eq, Bool.not_eq_true', Bool.not_eq_false', Bool.and_eq_true, Bool.or_eq_true, bne_eq_false_iff_eq, Bool.or_eq_false_iff, Bool.and_eq_false_iff] at c2
          refine den_exit ?_
          refine denX_code ?_
          refine denX_stop ?_
          refine denX_hit ?_
          refine den_seq ?_
          refine den_seq ?_
          have eD : ((List.range n).map fun q : Nat => dimP X (q : Int) + dimP Y (q : Int)) = addD X Y := by rw [addD, show addN X Y = n by unfold addN; omega]
          rw [eD] at hD
          refine den_region TTok ?_
          intro K hK
          simp -implicitDefEqProofs (disch := first | decide | assumption | omega) only [go_sem, RdS.len hdX sl22, RdS.idx hdX sl22, R1.intB hdX (Ext.pres eB), RdS.cells hdX, RdS.len hmX sl23, RdS.idx hmX sl23, RdS.cellB hmX (Ext.pres eB), RdS.cells hmX, RdS.len hdY sl22, RdS.idx hdY sl22, R1.intB hdY (Ext.pres eB), RdS.cells hdY, RdS.len hmY sl23, RdS.idx hmY sl23, RdS.cellB hmY (Ext.pres eB), RdS.cells hmY, RdS.len (OS.rd hD) sl22, RdS.idx (OS.rd hD) sl22, R1.intN (OS.rd hD), RdS.cells (OS.rd hD), BoxAt.cell hb0_0, BoxAt.cell hb0_1, BoxAt.cell hb0_2, wrap_id, bC0]
          try simp -implicitDefEqProofs (disch := first | decide | assumption | omega) only [go_sem, RdS.len hdX sl22, RdS.idx hdX sl22, R1.intB hdX (Ext.pres eB), RdS.cells hdX, RdS.len hmX sl23, RdS.idx hmX sl23, RdS.cellB hmX (Ext.pres eB), RdS.cells hmX, RdS.len hdY sl22, RdS.idx hdY sl22, R1.intB hdY (Ext.pres eB), RdS.cells hdY, RdS.len hmY sl23, RdS.idx hmY sl23, RdS.cellB hmY (Ext.pres eB), RdS.cells hmY, RdS.len (OS.rd hD) sl22, RdS.idx (OS.rd hD) sl22, R1.intN (OS.rd hD), RdS.cells (OS.rd hD), BoxAt.cell hb0_0, BoxAt.cell hb0_1, BoxAt.cell hb0_2, wrap_id, bC0]
          refine CallA.mono (arS_ok _ _ _ (OS.rd hD)) ?_
          intro v_ h11_1
          rintro ⟨rfl, e11_1⟩
          replace hD := OS.ext hD e11_1
          replace hb0_0 := BoxAt.ext hb0_0 e11_1
          replace hb0_1 := BoxAt.ext hb0_1 e11_1
          replace hb0_2 := BoxAt.ext hb0_2 e11_1
          have := Ext.size e11_1
          replace eB := Ext.trans eB e11_1
          try simp -implicitDefEqProofs (disch := first | decide | assumption | omega) only [go_sem, RdS.len hdX sl22, RdS.idx hdX sl22, R1.intB hdX (Ext.pres eB), RdS.cells hdX, RdS.len hmX sl23, RdS.idx hmX sl23, RdS.cellB hmX (Ext.pres eB), RdS.cells hmX, RdS.len hdY sl22, RdS.idx hdY sl22, R1.intB hdY (Ext.pres eB), RdS.cells hdY, RdS.len hmY sl23, RdS.idx hmY sl23, RdS.cellB hmY (Ext.pres eB), RdS.cells hmY, RdS.len (OS.rd hD) sl22, RdS.idx (OS.rd hD) sl22, R1.intN (OS.rd hD), RdS.cells (OS.rd hD), BoxAt.cell hb0_0, BoxAt.cell hb0_1, BoxAt.cell hb0_2, wrap_id, bC0]
          refine hK _ _ ?_
          clear hK K
          refine den_cond rfl (fun c3 => ?_) (fun c3 => ?_)
          · try simp only [decide_eq_true_eq, decide_eq_false_iff_not, beq_iff_eq, beq_eq_false_iff_ne, bne_iff_ne, ne_eq, Bool.not_eq_true', Bool.not_eq_false', Bool.and_eq_true, Bool.or_eq_true, bne_eq_false_iff_eq, Bool.or_eq_false_iff, Bool.and_eq_false_iff] at c3
            refine den_seq ?_
            refine den_region TTok ?_
            intro K hK
            simp -implicitDefEqProofs (disch := first | decide | assumption | omega) only [go_sem, RdS.len hdX sl22, RdS.idx hdX sl22, R1.intB hdX (Ext.pres eB), RdS.cells hdX, RdS.len hmX sl23, RdS.idx hmX sl23, RdS.cellB hmX (Ext.pres eB), RdS.cells hmX, RdS.len hdY sl22, RdS.idx hdY sl22, R1.intB hdY (Ext.pres eB), RdS.cells hdY, RdS.len hmY sl23, RdS.idx hmY sl23, RdS.cellB hmY (Ext.pres eB), RdS.cells hmY, BoxAt.cell hb0_2, wrap_id, bC0]
            refine op_storeB (cs' := #[.int .i64 ((0 : Int)), .slice none 0 0, .slice none 0 0]) st30 hb0_2 rfl rfl rfl (by simp) (allOne_mem (l := [.int .i64 ((0 : Int)), .slice none 0 0, .slice none 0 0]) ⟨rfl, rfl, rfl, trivial⟩) rfl ?_
            intro h12_1 hb0_2 c12_1
            have := c12_1.size
            replace eB := Ext.then eB c12_1 (ge_of hfhb0_2 (by omega))
            try simp -implicitDefEqProofs (disch := first | decide | assumption | omega) only [go_sem, RdS.len hdX sl22, RdS.idx hdX sl22, R1.intB hdX (Ext.pres eB), RdS.cells hdX, RdS.len hmX sl23, RdS.idx hmX sl23, RdS.cellB hmX (Ext.pres eB), RdS.cells hmX, RdS.len hdY sl22, RdS.idx hdY sl22, R1.intB hdY (Ext.pres eB), RdS.cells hdY, RdS.len hmY sl23, RdS.idx hmY sl23, RdS.cellB hmY (Ext.pres eB), RdS.cells hmY, BoxAt.cell hb0_2, wrap_id, bC0]
            refine hK _ _ ?_
            clear hK K
            refine den_ret ?_
            simp -implicitDefEqProofs (disch := first | decide | assumption | omega) only [go_sem, RdS.len hdX sl22, RdS.idx hdX sl22, R1.intB hdX (Ext.pres eB), RdS.cells hdX, RdS.len hmX sl23, RdS.idx hmX sl23, RdS.cellB hmX (Ext.pres eB), RdS.cells hmX, RdS.len hdY sl22, RdS.idx hdY sl22, R1.intB hdY (Ext.pres eB), RdS.cells hdY, RdS.len hmY sl23, RdS.idx hmY sl23, RdS.cellB hmY (Ext.pres eB), RdS.cells hmY, BoxAt.cell hb0_2, wrap_id, bC0, resP_ct, ld30]
            have hz : addP X Y = (⟨0, [], []⟩, 3) := by rw [addP, if_pos hXY, if_pos (by omega), if_neg (add_large (by simpa using c3))]
            rw [hz]
            exact ⟨.slice none 0 0, .slice none 0 0, [], [], rfl, OS.nil, OS.nil, Fresh.nil _, eB⟩
          · try simp only [decide_eq_true_eq, decide_eq_false_iff_not, beq_iff_eq, beq_eq_false_iff_ne, bne_iff_ne, ne_eq, Bool.not_eq_true', Bool.not_eq_false', Bool.and_eq_true, Bool.or_eq_true, bne_eq_false_iff_eq, Bool.or_eq_false_iff, Bool.and_eq_false_iff] at c3
            refine den_skip ?_
            refine den_seq ?_
            have hbD := add_small hX hY (by simpa using c3)
            have hbL : (addD X Y).length ≤ 16 := by rw [addD_len]; unfold addN; omega
            refine den_region TTok ?_
            intro K hK
            simp -implicitDefEqProofs (disch := first | decide | assumption | omega) only [go_sem, fa30_0, ld2, RdS.len hdX sl22, RdS.idx hdX sl22, R1.intB hdX (Ext.pres eB), RdS.cells hdX, RdS.len hmX sl23, RdS.idx hmX sl23, RdS.cellB hmX (Ext.pres eB), RdS.cells hmX, RdS.len hdY sl22, RdS.idx hdY sl22, R1.intB hdY (Ext.pres eB), RdS.cells hdY, RdS.len hmY sl23, RdS.idx hmY sl23, RdS.cellB hmY (Ext.pres eB), RdS.cells hmY, RdS.len (OS.rd hD) sl22, RdS.idx (OS.rd hD) sl22, R1.intN (OS.rd hD), RdS.cells (OS.rd hD), BoxAt.cell hb0_0, BoxAt.cell hb0_1, BoxAt.cell hb0_2, wrap_id, bC0]
            try simp -implicitDefEqProofs (disch := first | decide | assumption | omega) only [go_sem, RdS.len hdX sl22, RdS.idx hdX sl22, R1.intB hdX (Ext.pres eB), RdS.cells hdX, RdS.len hmX sl23, RdS.idx hmX sl23, RdS.cellB hmX (Ext.pres eB), RdS.cells hmX, RdS.len hdY sl22, RdS.idx hdY sl22, R1.intB hdY (Ext.pres eB), RdS.cells hdY, RdS.len hmY sl23, RdS.idx hmY sl23, RdS.cellB hmY (Ext.pres eB), RdS.cells hmY, RdS.len (OS.rd hD) sl22, RdS.idx (OS.rd hD) sl22, R1.intN (OS.rd hD), RdS.cells (OS.rd hD), BoxAt.cell hb0_0, BoxAt.cell hb0_1, BoxAt.cell hb0_2, wrap_id, bC0]
            refine CallA.mono (blank_ok _ _ (addD X Y) _ (OS.rd hD) hbD hbL) ?_
            intro v_ h13_3
            rintro ⟨vw13_3, fw13_3, rfl, how13_3, hfw13_3, e13_3⟩
            replace hD := OS.ext hD e13_3
            replace hb0_0 := BoxAt.ext hb0_0 e13_3
            replace hb0_1 := BoxAt.ext hb0_1 e13_3
            replace hb0_2 := BoxAt.ext hb0_2 e13_3
            have := Ext.size e13_3
            replace eB := Ext.trans eB e13_3
            have hlhow13_3 := OS.lt how13_3
            try simp -implicitDefEqProofs (disch := first | decide | assumption | omega) only [go_sem, RdS.len hdX sl22, RdS.idx hdX sl22, R1.intB hdX (Ext.pres eB), RdS.cells hdX, RdS.len hmX sl23, RdS.idx hmX sl23, RdS.cellB hmX (Ext.pres eB), RdS.cells hmX, RdS.len hdY sl22, RdS.idx hdY sl22, R1.intB hdY (Ext.pres eB), RdS.cells hdY, RdS.len hmY sl23, RdS.idx hmY sl23, RdS.cellB hmY (Ext.pres eB), RdS.cells hmY, RdS.len (OS.rd hD) sl22, RdS.idx (OS.rd hD) sl22, R1.intN (OS.rd hD), RdS.cells (OS.rd hD), RdS.len (OS.rd how13_3) sl23, RdS.idx (OS.rd how13_3) sl23, RdS.cellN (OS.rd how13_3), RdS.cells (OS.rd how13_3), BoxAt.cell hb0_0, BoxAt.cell hb0_1, BoxAt.cell hb0_2, wrap_id, bC0]
            refine op_alloc (cs := #[.int .i64 0, .slice none 0 0, .slice none 0 0]) (by kernel_rfl) ?_
            intro h13_4 e13_4 hb13_4 z13_4
            replace hD := OS.ext hD e13_4
            replace how13_3 := OS.ext how13_3 e13_4
            replace hb0_0 := BoxAt.ext hb0_0 e13_4
            replace hb0_1 := BoxAt.ext hb0_1 e13_4
            replace hb0_2 := BoxAt.ext hb0_2 e13_4
            have := Ext.size e13_4
            replace eB := Ext.trans eB e13_4
            have hfhb13_4 : Fresh h13_3.size [h13_3.size] := Fresh.one _
            have hlhb13_4 := one_lt (show h13_3.size < h13_4.size by omega)
            try simp -implicitDefEqProofs (disch := first | decide | assumption | omega) only [go_sem, RdS.len hdX sl22, RdS.idx hdX sl22, R1.intB hdX (Ext.pres eB), RdS.cells hdX, RdS.len hmX sl23, RdS.idx hmX sl23, RdS.cellB hmX (Ext.pres eB), RdS.cells hmX, RdS.len hdY sl22, RdS.idx hdY sl22, R1.intB hdY (Ext.pres eB), RdS.cells hdY, RdS.len hmY sl23, RdS.idx hmY sl23, RdS.cellB hmY (Ext.pres eB), RdS.cells hmY, RdS.len (OS.rd hD) sl22, RdS.idx (OS.rd hD) sl22, R1.intN (OS.rd hD), RdS.cells (OS.rd hD), RdS.len (OS.rd how13_3) sl23, RdS.idx (OS.rd how13_3) sl23, RdS.cellN (OS.rd how13_3), RdS.cells (OS.rd how13_3), BoxAt.cell hb0_0, BoxAt.cell hb0_1, BoxAt.cell hb0_2, BoxAt.cell hb13_4, wrap_id, bC0]
            refine op_storeB (cs' := #[.int .i64 (X.p), vhD, vw13_3]) st30 hb13_4 rfl rfl rfl (by simp) (allOne_mem (l := [.int .i64 (X.p), vhD, vw13_3]) ⟨rfl, (OS.one hD).1, (OS.one how13_3).1, trivial⟩) rfl ?_
            intro h13_5 hb13_4 c13_5
            replace hD := OS.chg hD c13_5 (apart_lt hlhD hfhb13_4 (by omega))
            replace how13_3 := OS.chg how13_3 c13_5 (apart_lt hlhow13_3 hfhb13_4 (by omega))
            replace hb0_0 := BoxAt.chgA hb0_0 c13_5 (apart_lt hlhb0_0 hfhb13_4 (by omega))
            replace hb0_1 := BoxAt.chgA hb0_1 c13_5 (apart_lt hlhb0_1 hfhb13_4 (by omega))
            replace hb0_2 := BoxAt.chgA hb0_2 c13_5 (apart_lt hlhb0_2 hfhb13_4 (by omega))
            have := c13_5.size
            replace eB := Ext.then eB c13_5 (ge_of hfhb13_4 (by omega))
            try simp -implicitDefEqProofs (disch := first | decide | assumption | omega) only [go_sem, RdS.len hdX sl22, RdS.idx hdX sl22, R1.intB hdX (Ext.pres eB), RdS.cells hdX, RdS.len hmX sl23, RdS.idx hmX sl23, RdS.cellB hmX (Ext.pres eB), RdS.cells hmX, RdS.len hdY sl22, RdS.idx hdY sl22, R1.intB hdY (Ext.pres eB), RdS.cells hdY, RdS.len hmY sl23, RdS.idx hmY sl23, RdS.cellB hmY (Ext.pres eB), RdS.cells hmY, RdS.len (OS.rd hD) sl22, RdS.idx (OS.rd hD) sl22, R1.intN (OS.rd hD), RdS.cells (OS.rd hD), RdS.len (OS.rd how13_3) sl23, RdS.idx (OS.rd how13_3) sl23, RdS.cellN (OS.rd how13_3), RdS.cells (OS.rd how13_3), BoxAt.cell hb0_0, BoxAt.cell hb0_1, BoxAt.cell hb0_2, BoxAt.cell hb13_4, wrap_id, bC0]
            refine hK _ _ ?_
            clear hK K
            refine den_seq ?_
            have hzb := add_zb X Y hpb.1
            refine den_region TTok ?_
            intro K hK
            simp -implicitDefEqProofs (disch := first | decide | assumption | omega) only [go_sem, ld30, RdS.len hdX sl22, RdS.idx hdX sl22, R1.intB hdX (Ext.pres eB), RdS.cells hdX, RdS.len hmX sl23, RdS.idx hmX sl23, RdS.cellB hmX (Ext.pres eB), RdS.cells hmX, RdS.len hdY sl22, RdS.idx hdY sl22, R1.intB hdY (Ext.pres eB), RdS.cells hdY, RdS.len hmY sl23, RdS.idx hmY sl23, RdS.cellB hmY (Ext.pres eB), RdS.cells hmY, RdS.len (OS.rd hD) sl22, RdS.idx (OS.rd hD) sl22, R1.intN (OS.rd hD), RdS.cells (OS.rd hD), RdS.len (OS.rd how13_3) sl23, RdS.idx (OS.rd how13_3) sl23, RdS.cellN (OS.rd how13_3), RdS.cells (OS.rd how13_3), BoxAt.cell hb0_0, BoxAt.cell hb0_1, BoxAt.cell hb0_2, BoxAt.cell hb13_4, wrap_id, bC0]
            try simp -implicitDefEqProofs (disch := first | decide | assumption | omega) only [go_sem, RdS.len hdX sl22, RdS.idx hdX sl22, R1.intB hdX (Ext.pres eB), RdS.cells hdX, RdS.len hmX sl23, RdS.idx hmX sl23, RdS.cellB hmX (Ext.pres eB), RdS.cells hmX, RdS.len hdY sl22, RdS.idx hdY sl22, R1.intB hdY (Ext.pres eB), RdS.cells hdY, RdS.len hmY sl23, RdS.idx hmY sl23, RdS.cellB hmY (Ext.pres eB), RdS.cells hmY, RdS.len (OS.rd hD) sl22, RdS.idx (OS.rd hD) sl22, R1.intN (OS.rd hD), RdS.cells (OS.rd hD), RdS.len (OS.rd how13_3) sl23, RdS.idx (OS.rd how13_3) sl23, RdS.cellN (OS.rd how13_3), RdS.cells (OS.rd how13_3), BoxAt.cell hb0_0, BoxAt.cell hb0_1, BoxAt.cell hb0_2, BoxAt.cell hb13_4, wrap_id, bC0]
            refine CallA.mono (eachB_upd (bs := #[.agg #[.int .i64 X.p, vhD, vw13_3]]) (cs := #[]) (p := X.p) (L := addN X Y - 1) (A := aA X Y) (B := aB X Y) (U := addU1) (Ot := (fun H => O1 H vhD (addD X Y) fphD)) hpb.1 hdX hmX ⟨how13_3, hzb.1, hzb.2, eB, hD⟩ (fun H H' c o => OS.chg o c (apart_lt hlhD hfw13_3 (by omega))) (ge_of hfw13_3 (by omega)) (add_u1 hX hY) (fun s H k i j hk hi hj r => by
    simp only [List.append_toArray, List.cons_append, List.nil_append, List.append_nil]
    have hin := add_in1 hX hY hk hi hj
    have hnm := hX.num hk hi hj
    have ek : ((k : Int) + 1 - 1).toNat = k := by omega
    have hi3 := r.i3 _ _ _ hin.1 hin.2.1 hin.2.2
    have hr1 := r.sh.rows _ hin.1
    have hr2 := r.sh.cols _ _ hin.1 hin.2.1
    have hsl := r.sh.len
    refine (addAt_ok X.p _ _ (addD X Y) s _ _ _ _ _ H (OS.rd r.ot) r.o hfw13_3.nodup hpb (by omega) (by rw [ek, hr1]; omega) (by rw [ek]; simp only [Int.toNat_natCast]; rw [hr2]; omega) (by rw [ek]; exact hi3) (by omega)).mono (fun u H' q => ⟨?_, q.2.2⟩)
    have q2 := q.2.1
    rw [ek] at q2
    exact q2)) ?_
            intro v_ h14_3
            rintro ⟨rfl, hog14_3, cg14_3⟩
            replace hD := OS.chg hD cg14_3 (apart_lt hlhD hfw13_3 (by omega))
            replace hb0_0 := BoxAt.chgA hb0_0 cg14_3 (apart_lt hlhb0_0 hfw13_3 (by omega))
            replace hb0_1 := BoxAt.chgA hb0_1 cg14_3 (apart_lt hlhb0_1 hfw13_3 (by omega))
            replace hb0_2 := BoxAt.chgA hb0_2 cg14_3 (apart_lt hlhb0_2 hfw13_3 (by omega))
            replace hb13_4 := BoxAt.chgA hb13_4 cg14_3 (apart_gt hfhb13_4 hlhow13_3 (by omega))
            have := cg14_3.size
            replace eB := Ext.then eB cg14_3 (ge_of hfw13_3 (by omega))
            have hlhog14_3 := hlhow13_3
            try simp -implicitDefEqProofs (disch := first | decide | assumption | omega) only [go_sem, RdS.len hdX sl22, RdS.idx hdX sl22, R1.intB hdX (Ext.pres eB), RdS.cells hdX, RdS.len hmX sl23, RdS.idx hmX sl23, RdS.cellB hmX (Ext.pres eB), RdS.cells hmX, RdS.len hdY sl22, RdS.idx hdY sl22, R1.intB hdY (Ext.pres eB), RdS.cells hdY, RdS.len hmY sl23, RdS.idx hmY sl23, RdS.cellB hmY (Ext.pres eB), RdS.cells hmY, RdS.len (OS.rd hD) sl22, RdS.idx (OS.rd hD) sl22, R1.intN (OS.rd hD), RdS.cells (OS.rd hD), RdS.len (OS.rd hog14_3) sl23, RdS.idx (OS.rd hog14_3) sl23, RdS.cellN (OS.rd hog14_3), RdS.cells (OS.rd hog14_3), BoxAt.cell hb0_0, BoxAt.cell hb0_1, BoxAt.cell hb0_2, BoxAt.cell hb13_4, wrap_id, bC0]
            refine hK _ _ ?_
            clear hK K
            refine den_seq ?_
            refine den_region TTok ?_
            intro K hK
            simp -implicitDefEqProofs (disch := first | decide | assumption | omega) only [go_sem, ld30, RdS.len hdX sl22, RdS.idx hdX sl22, R1.intB hdX (Ext.pres eB), RdS.cells hdX, RdS.len hmX sl23, RdS.idx hmX sl23, RdS.cellB hmX (Ext.pres eB), RdS.cells hmX, RdS.len hdY sl22, RdS.idx hdY sl22, R1.intB hdY (Ext.pres eB), RdS.cells hdY, RdS.len hmY sl23, RdS.idx hmY sl23, RdS.cellB hmY (Ext.pres eB), RdS.cells hmY, RdS.len (OS.rd hD) sl22, RdS.idx (OS.rd hD) sl22, R1.intN (OS.rd hD), RdS.cells (OS.rd hD), RdS.len (OS.rd hog14_3) sl23, RdS.idx (OS.rd hog14_3) sl23, RdS.cellN (OS.rd hog14_3), RdS.cells (OS.rd hog14_3), BoxAt.cell hb0_0, BoxAt.cell hb0_1, BoxAt.cell hb0_2, BoxAt.cell hb13_4, wrap_id, bC0]
            try simp -implicitDefEqProofs (disch := first | decide | assumption | omega) only [go_sem, RdS.len hdX sl22, RdS.idx hdX sl22, R1.intB hdX (Ext.pres eB), RdS.cells hdX, RdS.len hmX sl23, RdS.idx hmX sl23, RdS.cellB hmX (Ext.pres eB), RdS.cells hmX, RdS.len hdY sl22, RdS.idx hdY sl22, R1.intB hdY (Ext.pres eB), RdS.cells hdY, RdS.len hmY sl23, RdS.idx hmY sl23, RdS.cellB hmY (Ext.pres eB), RdS.cells hmY, RdS.len (OS.rd hD) sl22, RdS.idx (OS.rd hD) sl22, R1.intN (OS.rd hD), RdS.cells (OS.rd hD), RdS.len (OS.rd hog14_3) sl23, RdS.idx (OS.rd hog14_3) sl23, RdS.cellN (OS.rd hog14_3), RdS.cells (OS.rd hog14_3), BoxAt.cell hb0_0, BoxAt.cell hb0_1, BoxAt.cell hb0_2, BoxAt.cell hb13_4, wrap_id, bC0]
            refine CallA.mono (each_upd (X := Y) (s0 := add1 X Y) (p := X.p) (L := addN X Y - 1) (A := aA X Y) (B := aB X Y) (U := addU2 X) (Ot := (fun H => BoxAt H (h13_3.size) #[.int .i64 X.p, vhD, vw13_3] 30 ∧ BoxAt H (h.size) #[.int .i64 X.p, vdX, vmX] 30 ∧ O1 H vhD (addD X Y) fphD)) hpb.1 hdY hmY ⟨hog14_3, (add1_sh hX hY).1, (add1_sh hX hY).2, eB, hb13_4, hb0_0, hD⟩ (fun H H' c o => ⟨BoxAt.chgA o.1 c (apart_gt hfhb13_4 hlhog14_3 (by omega)), BoxAt.chgA o.2.1 c (apart_lt hlhb0_0 hfw13_3 (by omega)), OS.chg o.2.2 c (apart_lt hlhD hfw13_3 (by omega))⟩) (ge_of hfw13_3 (by omega)) (add_u2 hX hY) (fun s H k i j hk hi hj r => by
    simp only [List.append_toArray, List.cons_append, List.nil_append]
    have hin := add_in2 hX hY hk hi hj
    have hnm := hY.num hk hi hj
    have hlk := lens_nat hY k
    have hlr := hlk.2 i hi
    have hd1 := dims_nat hY (k + 1)
    have hd0 := dims_nat hY k
    have hx1 := dims_nat hX (k + 1)
    have hx0 := dims_nat hX k
    have e1 : dimP X ((k : Int) + 1) = X.dims.getD (k + 1) 0 := dimP_nat X (k + 1)
    have e0 : dimP X ((k : Int) + 1 - 1) = X.dims.getD k 0 := by rw [show (k : Int) + 1 - 1 = (k : Nat) by omega]; exact dimP_nat X k
    have ek : ((k : Int) + 1 - 1).toNat = k := by omega
    have er : ((i : Int) + dimP X ((k : Int) + 1)).toNat = i + (X.dims.getD (k + 1) 0).toNat := by omega
    have ec : ((j : Int) + dimP X ((k : Int) + 1 - 1)).toNat = j + (X.dims.getD k 0).toNat := by omega
    have hi3 := r.i3 _ _ _ hin.1 hin.2.1 hin.2.2
    have hr1 := r.sh.rows _ hin.1
    have hr2 := r.sh.cols _ _ hin.1 hin.2.1
    have hsl := r.sh.len
    refine (addC1_ok X.p X vdX vmX _ _ (addD X Y) s _ _ _ _ _ _ _ _ H hdX hmX (OS.rd r.ot.2.2) r.o r.e r.ot.1 r.ot.2.1 hfw13_3.nodup hpb (by omega) (by omega) (by omega) (by omega) (by omega) (by rw [ek, hr1]; omega) (by rw [ek, er, hr2]; omega) (by rw [ek, er, ec]; exact hi3) (by omega)).mono (fun u H' q => ⟨?_, q.2.2⟩)
    have q2 := q.2.1
    rw [ek, er, ec] at q2
    exact q2)) ?_
            intro v_ h15_2
            rintro ⟨rfl, hog15_2, cg15_2⟩
            replace hD := OS.chg hD cg15_2 (apart_lt hlhD hfw13_3 (by omega))
            replace hb0_0 := BoxAt.chgA hb0_0 cg15_2 (apart_lt hlhb0_0 hfw13_3 (by omega))
            replace hb0_1 := BoxAt.chgA hb0_1 cg15_2 (apart_lt hlhb0_1 hfw13_3 (by omega))
            replace hb0_2 := BoxAt.chgA hb0_2 cg15_2 (apart_lt hlhb0_2 hfw13_3 (by omega))
            replace hb13_4 := BoxAt.chgA hb13_4 cg15_2 (apart_gt hfhb13_4 hlhog14_3 (by omega))
            have := cg15_2.size
            replace eB := Ext.then eB cg15_2 (ge_of hfw13_3 (by omega))
            have hlhog15_2 := hlhog14_3
            try simp -implicitDefEqProofs (disch := first | decide | assumption | omega) only [go_sem, RdS.len hdX sl22, RdS.idx hdX sl22, R1.intB hdX (Ext.pres eB), RdS.cells hdX, RdS.len hmX sl23, RdS.idx hmX sl23, RdS.cellB hmX (Ext.pres eB), RdS.cells hmX, RdS.len hdY sl22, RdS.idx hdY sl22, R1.intB hdY (Ext.pres eB), RdS.cells hdY, RdS.len hmY sl23, RdS.idx hmY sl23, RdS.cellB hmY (Ext.pres eB), RdS.cells hmY, RdS.len (OS.rd hD) sl22, RdS.idx (OS.rd hD) sl22, R1.intN (OS.rd hD), RdS.cells (OS.rd hD), RdS.len (OS.rd hog15_2) sl23, RdS.idx (OS.rd hog15_2) sl23, RdS.cellN (OS.rd hog15_2), RdS.cells (OS.rd hog15_2), BoxAt.cell hb0_0, BoxAt.cell hb0_1, BoxAt.cell hb0_2, BoxAt.cell hb13_4, wrap_id, bC0]
            refine hK _ _ ?_
            clear hK K
            refine den_seq ?_
            refine den_region TTok ?_
            intro K hK
            simp -implicitDefEqProofs (disch := first | decide | assumption | omega) only [go_sem, ld30, RdS.len hdX sl22, RdS.idx hdX sl22, R1.intB hdX (Ext.pres eB), RdS.cells hdX, RdS.len hmX sl23, RdS.idx hmX sl23, RdS.cellB hmX (Ext.pres eB), RdS.cells hmX, RdS.len hdY sl22, RdS.idx hdY sl22, R1.intB hdY (Ext.pres eB), RdS.cells hdY, RdS.len hmY sl23, RdS.idx hmY sl23, RdS.cellB hmY (Ext.pres eB), RdS.cells hmY, RdS.len (OS.rd hD) sl22, RdS.idx (OS.rd hD) sl22, R1.intN (OS.rd hD), RdS.cells (OS.rd hD), RdS.len (OS.rd hog15_2) sl23, RdS.idx (OS.rd hog15_2) sl23, RdS.cellN (OS.rd hog15_2), RdS.cells (OS.rd hog15_2), BoxAt.cell hb0_2, BoxAt.cell hb13_4, wrap_id, bC0]
            refine op_storeB (cs' := #[.int .i64 (X.p), vhD, vw13_3]) st30 hb0_2 rfl rfl rfl (by simp) (allOne_mem (l := [.int .i64 (X.p), vhD, vw13_3]) ⟨rfl, (OS.one hD).1, (OS.one hog15_2).1, trivial⟩) rfl ?_
            intro h16_1 hb0_2 c16_1
            replace hD := OS.chg hD c16_1 (apart_gt hfhD hlhb0_2 (by omega))
            replace hog15_2 := OS.chg hog15_2 c16_1 (apart_gt hfw13_3 hlhb0_2 (by omega))
            replace hb13_4 := BoxAt.chgA hb13_4 c16_1 (apart_gt hfhb13_4 hlhb0_2 (by omega))
            have := c16_1.size
            replace eB := Ext.then eB c16_1 (ge_of hfhb0_2 (by omega))
            try simp -implicitDefEqProofs (disch := first | decide | assumption | omega) only [go_sem, RdS.len hdX sl22, RdS.idx hdX sl22, R1.intB hdX (Ext.pres eB), RdS.cells hdX, RdS.len hmX sl23, RdS.idx hmX sl23, RdS.cellB hmX (Ext.pres eB), RdS.cells hmX, RdS.len hdY sl22, RdS.idx hdY sl22, R1.intB hdY (Ext.pres eB), RdS.cells hdY, RdS.len hmY sl23, RdS.idx hmY sl23, RdS.cellB hmY (Ext.pres eB), RdS.cells hmY, RdS.len (OS.rd hD) sl22, RdS.idx (OS.rd hD) sl22, R1.intN (OS.rd hD), RdS.cells (OS.rd hD), RdS.len (OS.rd hog15_2) sl23, RdS.idx (OS.rd hog15_2) sl23, RdS.cellN (OS.rd hog15_2), RdS.cells (OS.rd hog15_2), BoxAt.cell hb0_2, BoxAt.cell hb13_4, wrap_id, bC0]
            refine hK _ _ ?_
            clear hK K
            refine den_ret ?_
            simp -implicitDefEqProofs (disch := first | decide | assumption | omega) only [go_sem, RdS.len hdX sl22, RdS.idx hdX sl22, R1.intB hdX (Ext.pres eB), RdS.cells hdX, RdS.len hmX sl23, RdS.idx hmX sl23, RdS.cellB hmX (Ext.pres eB), RdS.cells hmX, RdS.len hdY sl22, RdS.idx hdY sl22, R1.intB hdY (Ext.pres eB), RdS.cells hdY, RdS.len hmY sl23, RdS.idx hmY sl23, RdS.cellB hmY (Ext.pres eB), RdS.cells hmY, RdS.len (OS.rd hD) sl22, RdS.idx (OS.rd hD) sl22, R1.intN (OS.rd hD), RdS.cells (OS.rd hD), RdS.len (OS.rd hog15_2) sl23, RdS.idx (OS.rd hog15_2) sl23, RdS.cellN (OS.rd hog15_2), RdS.cells (OS.rd hog15_2), BoxAt.cell hb0_2, BoxAt.cell hb13_4, wrap_id, bC0, resP_ct, ld30]
            have hz : addP X Y = (⟨X.p, addD X Y, addM X Y⟩, 0) := by rw [addP, if_pos hXY, if_pos (by omega), if_pos (add_small hX hY (by simpa using c3))]
            rw [hz]
            have hM2 := hog15_2
            rw [add_eq hX hY (by omega)] at hM2
            exact ⟨_, _, _, _, rfl, hD, hM2, Fresh.two hfhD hfw13_3 (apart_lt hlhD hfw13_3 (by omega)) (by omega) (by omega), eB⟩

end Go.Proofs.Ytffggocjkhcgeaa
