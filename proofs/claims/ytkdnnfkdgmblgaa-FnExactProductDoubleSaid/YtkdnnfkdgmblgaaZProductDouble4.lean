/-
  What the statement FnExactProductDouble uses of the walks, part 4.
  Conditions: each theorem's own.
-/
import Derived.Test.YtkdnnfkdgmblgaaG16
import Derived.Test.YtkdnnfkdgmblgaaG17
import Derived.Test.YtkdnnfkdgmblgaaG14
import Derived.Test.YtkdnnfkdgmblgaaG13
import Derived.Test.YtkdnnfkdgmblgaaG15
import Derived.Test.YtkdnnfkdgmblgaaG18
import Derived.Test.YtkdnnfkdgmblgaaZProductDouble1
import Derived.Test.YtkdnnfkdgmblgaaZProductDouble2
import Derived.Test.YtkdnnfkdgmblgaaZProductDouble3
set_option linter.unusedVariables false
set_option linter.unusedSimpArgs false
namespace Go.Proofs.Ytkdnnfkdgmblgaa
open Go
set_option maxRecDepth 100000 in
set_option maxHeartbeats 4000000 in
theorem iPD_ok (vX vY : Value) (X : Cx) (Y : Cx) (h : Heap) (rX : RC h vX X) (rY : RC h vY Y)  : CallA Try.prog 7 #[vX, vY] h fun v' h' => ∃ wd0 wa0 wb0 fd0 fa0 fb0, v' = .tuple #[.agg #[.int .i64 ((pdP X Y).1).p, wd0, wa0, wb0], .int .i64 ((pdP X Y).2)] ∧ O2 h' wd0 ((pdP X Y).1).dims fd0 ∧ O4 h' wa0 ((pdP X Y).1).ac fa0 ∧ O4 h' wb0 ((pdP X Y).1).dn fb0 ∧ Fresh h.size (fd0 ++ (fa0 ++ fb0)) ∧ Ext h h' := by
 obtain ⟨vdX, vmX, rfl, hdX, hmX⟩ := rX
 have hledX := RdS.le hdX
 have hlemX := RdS.le hmX
 obtain ⟨vdY, vmY, rfl, hdY, hmY⟩ := rY
 have hledY := RdS.le hdY
 have hlemY := RdS.le hmY
 refine callA_intro TTok (args := [_, _]) Try.func7 (by kernel_rfl) rfl 86 rfl (by simp) [.cell 4 30, .tmp 5] rfl ?_
 simp only [idxs, Nat.reduceAdd]
 refine den_seq ?_
 refine den_region TTok ?_
 intro K hK
 simp -implicitDefEqProofs (disch := first | decide | assumption | omega) only [go_sem, wrap_id, bD0]
 refine op_box (cs := #[.int .i64 (X.p), vdX, vmX]) rfl ?_
 intro h0_0 e0_0 hb0_0 z0_0
 have := Ext.size e0_0
 have eB := e0_0
 have hfhb0_0 : Fresh h.size [h.size] := Fresh.one _
 have hlhb0_0 := one_lt (show h.size < h0_0.size by omega)
 try simp -implicitDefEqProofs (disch := first | decide | assumption | omega) only [go_sem, wrap_id, bD0]
 refine op_box (cs := #[.int .i64 (Y.p), vdY, vmY]) rfl ?_
 intro h0_1 e0_1 hb0_1 z0_1
 replace hb0_0 := BoxAt.ext hb0_0 e0_1
 have := Ext.size e0_1
 replace eB := Ext.trans eB e0_1
 have hfhb0_1 : Fresh h0_0.size [h0_0.size] := Fresh.one _
 have hlhb0_1 := one_lt (show h0_0.size < h0_1.size by omega)
 try simp -implicitDefEqProofs (disch := first | decide | assumption | omega) only [go_sem, wrap_id, bD0]
 refine op_alloc (cs := #[.int .i64 0, .slice none 0 0, .slice none 0 0, .slice none 0 0]) (by kernel_rfl) ?_
 intro h0_2 e0_2 hb0_2 z0_2
 replace hb0_0 := BoxAt.ext hb0_0 e0_2
 replace hb0_1 := BoxAt.ext hb0_1 e0_2
 have := Ext.size e0_2
 replace eB := Ext.trans eB e0_2
 have hfhb0_2 : Fresh h0_1.size [h0_1.size] := Fresh.one _
 have hlhb0_2 := one_lt (show h0_1.size < h0_2.size by omega)
 try simp -implicitDefEqProofs (disch := first | decide | assumption | omega) only [go_sem, wrap_id, bD0]
 refine hK _ _ ?_
 clear hK K
 refine den_seq ?_
 refine den_block ?_
 refine den_seq ?_
 refine den_merge [(14, .bool (((!((isC X))) || (!((isC Y))))))] [2, 3, 4] (fun H => Ext h0_2 H) ?_ ?_
  -- a way
 ·refine den_region TTok ?_
  intro K hK
  simp -implicitDefEqProofs (disch := first | decide | assumption | (simp (disch := decide) only [slotOf_zero, slotOf_succ, Option.map_some, puts_same, puts_ne, gv_bool, gv_undef, tt, tf, ft, ff, eq_self, if_true, if_false, Bool.false_eq_true, Bool.not_true, Bool.not_false]; done) | omega) only [go_sem, ld33, RdS.len hdX sl22, RdS.idx hdX sl22, R1.intB hdX (Ext.pres eB), RdS.cells hdX, RdS.len hmX sl23, RdS.idx hmX sl23, RdS.cellB hmX (Ext.pres eB), RdS.cells hmX, BoxAt.cell hb0_0, wrap_id, bD0]
  try simp -implicitDefEqProofs (disch := first | decide | assumption | omega) only [go_sem, BoxAt.cell hb0_2, wrap_id, bD0]
  refine CallA.mono (iIs_ok _ X _ ⟨_, _, rfl, (RdS.pres hdX (Ext.pres eB)), (RdS.pres hmX (Ext.pres eB))⟩) ?_
  intro v_ h1_1
  rintro ⟨rfl, e1_1⟩
  replace hb0_0 := BoxAt.ext hb0_0 e1_1
  replace hb0_1 := BoxAt.ext hb0_1 e1_1
  replace hb0_2 := BoxAt.ext hb0_2 e1_1
  have := Ext.size e1_1
  replace eB := Ext.trans eB e1_1
  try simp -implicitDefEqProofs (disch := first | decide | assumption | (simp (disch := decide) only [slotOf_zero, slotOf_succ, Option.map_some, puts_same, puts_ne, gv_bool, gv_undef, tt, tf, ft, ff, eq_self, if_true, if_false, Bool.false_eq_true, Bool.not_true, Bool.not_false]; done) | omega) only [go_sem, wrap_id, bD0]
  refine opsP_F (by simp (disch := decide) only [slotOf_zero, slotOf_succ, Option.map_some, puts_same, puts_ne, gv_bool, gv_undef, tt, tf, ft, ff, eq_self, if_true, if_false, Bool.false_eq_true, Bool.not_true, Bool.not_false]; rfl) (fun g1 => ?_) (fun g1 => ?_)
  ·try simp -implicitDefEqProofs (disch := first | decide | assumption | (simp (disch := decide) only [slotOf_zero, slotOf_succ, Option.map_some, puts_same, puts_ne, gv_bool, gv_undef, tt, tf, ft, ff, eq_self, if_true, if_false, Bool.false_eq_true, Bool.not_true, Bool.not_false, g1]; done) | omega) only [go_sem, ld33, RdS.len hdY sl22, RdS.idx hdY sl22, R1.intB hdY (Ext.pres eB), RdS.cells hdY, RdS.len hmY sl23, RdS.idx hmY sl23, RdS.cellB hmY (Ext.pres eB), RdS.cells hmY, BoxAt.cell hb0_1, wrap_id, bD0, g1, eq_self, if_true, if_false, Bool.false_eq_true]
   try simp -implicitDefEqProofs (disch := first | decide | assumption | omega) only [go_sem, BoxAt.cell hb0_2, wrap_id, bD0]
   refine CallA.mono (iIs_ok _ Y _ ⟨_, _, rfl, (RdS.pres hdY (Ext.pres eB)), (RdS.pres hmY (Ext.pres eB))⟩) ?_
   intro v_ h1_5
   rintro ⟨rfl, e1_5⟩
   replace hb0_0 := BoxAt.ext hb0_0 e1_5
   replace hb0_1 := BoxAt.ext hb0_1 e1_5
   replace hb0_2 := BoxAt.ext hb0_2 e1_5
   have := Ext.size e1_5
   replace eB := Ext.trans eB e1_5
   try simp -implicitDefEqProofs (disch := first | decide | assumption | (simp (disch := decide) only [slotOf_zero, slotOf_succ, Option.map_some, puts_same, puts_ne, gv_bool, gv_undef, tt, tf, ft, ff, eq_self, if_true, if_false, Bool.false_eq_true, Bool.not_true, Bool.not_false, g1]; done) | omega) only [go_sem, wrap_id, bD0, g1, eq_self, if_true, if_false, Bool.false_eq_true]
   refine hK _ _ ?_
   clear hK K
   refine den_stop ?_
   refine ⟨?_, (Ext.trans e1_1 e1_5)⟩
   first | (simp (disch := decide) only [go_sem, g1, eq_self, Bool.true_and, Bool.and_true, Bool.false_and, Bool.and_false, Bool.true_or, Bool.or_true, Bool.false_or, Bool.or_false, if_true, if_false, Bool.false_eq_true]; done) | simp [HasL, sel, puts_at, g1]
  ·try simp -implicitDefEqProofs (disch := first | decide | assumption | (simp (disch := decide) only [slotOf_zero, slotOf_succ, Option.map_some, puts_same, puts_ne, gv_bool, gv_undef, tt, tf, ft, ff, eq_self, if_true, if_false, Bool.false_eq_true, Bool.not_true, Bool.not_false, g1]; done) | omega) only [go_sem, wrap_id, bD0, g1, eq_self, if_true, if_false, Bool.false_eq_true]
   refine hK _ _ ?_
   clear hK K
   refine den_stop ?_
   refine ⟨?_, e1_1⟩
   first | (simp (disch := decide) only [go_sem, g1, eq_self, Bool.true_and, Bool.and_true, Bool.false_and, Bool.and_false, Bool.true_or, Bool.or_true, Bool.false_or, Bool.or_false, if_true, if_false, Bool.false_eq_true]; done) | simp [HasL, sel, puts_at, g1]
 intro en2 h3 e4
 replace hb0_0 := BoxAt.ext hb0_0 e4
 replace hb0_1 := BoxAt.ext hb0_1 e4
 replace hb0_2 := BoxAt.ext hb0_2 e4
 have := Ext.size e4
 replace eB := Ext.trans eB e4
 simp (disch := decide) only [go_sem]
 refine den_cond rfl (fun c0 => ?_) (fun c0 => ?_)
 ·try simp only [decide_eq_true_eq, decide_eq_false_iff_not, beq_iff_eq, beq_eq_false_iff_ne, bne_iff_ne, ne_eq, Bool.not_eq_true', Bool.not_eq_false', Bool.and_eq_true, Bool.or_eq_true, bne_eq_false_iff_eq] at c0
  refine den_seq ?_
  refine den_region TTok ?_
  intro K hK
  simp -implicitDefEqProofs (disch := first | decide | assumption | omega) only [go_sem, wrap_id, bD0]
  refine op_storeB (cs' := #[.int .i64 ((0 : Int)), .slice none 0 0, .slice none 0 0, .slice none 0 0]) st30 hb0_2 rfl rfl rfl (by simp) (allOne_mem (l := [.int .i64 ((0 : Int)), .slice none 0 0, .slice none 0 0, .slice none 0 0]) ⟨rfl, rfl, rfl, rfl, trivial⟩) rfl ?_
  intro h2_1 hb0_2 c2_1
  have := c2_1.size
  replace eB := Ext.then eB c2_1 (ge_of hfhb0_2 (by omega))
  try simp -implicitDefEqProofs (disch := first | decide | assumption | omega) only [go_sem, wrap_id, bD0]
  refine hK _ _ ?_
  clear hK K
  refine den_ret ?_
  simp -implicitDefEqProofs (disch := first | decide | assumption | omega) only [go_sem, BoxAt.cell hb0_2, wrap_id, bD0, resP_ct, ld30]
  rw [show pdP X Y = _ from pdP_1 (by rintro ⟨h1, h2⟩; rw [h1, h2] at c0; simp at c0)]
  exact ⟨.slice none 0 0, .slice none 0 0, .slice none 0 0, [], [], [], rfl, OS.nil, OS.nil, OS.nil, Fresh.nil _, eB⟩
 ·try simp only [decide_eq_true_eq, decide_eq_false_iff_not, beq_iff_eq, beq_eq_false_iff_ne, bne_iff_ne, ne_eq, Bool.not_eq_true', Bool.not_eq_false', Bool.and_eq_true, Bool.or_eq_true, bne_eq_false_iff_eq] at c0
  have hXY : isC X = true ∧ isC Y = true := by simpa using c0
  have hX := isC_t.1 hXY.1
  have hY := isC_t.1 hXY.2
  have hlX := hX.len
  have hlY := hY.len
  refine den_seq ?_
  refine den_region TTok ?_
  intro K hK
  simp -implicitDefEqProofs (disch := first | decide | assumption | omega) only [go_sem, fa33_0, ld2, RdS.len hdX sl22, RdS.idx hdX sl22, R1.intB hdX (Ext.pres eB), RdS.cells hdX, RdS.len hmX sl23, RdS.idx hmX sl23, RdS.cellB hmX (Ext.pres eB), RdS.cells hmX, RdS.len hdY sl22, RdS.idx hdY sl22, R1.intB hdY (Ext.pres eB), RdS.cells hdY, RdS.len hmY sl23, RdS.idx hmY sl23, RdS.cellB hmY (Ext.pres eB), RdS.cells hmY, BoxAt.cell hb0_0, BoxAt.cell hb0_1, wrap_id, bD0]
  refine hK _ _ ?_
  clear hK K
  refine den_cond rfl (fun c1 => ?_) (fun c1 => ?_)
  ·try simp only [decide_eq_true_eq, decide_eq_false_iff_not, beq_iff_eq, beq_eq_false_iff_ne, bne_iff_ne, ne_eq, Bool.not_eq_true', Bool.not_eq_false', Bool.and_eq_true, Bool.or_eq_true, bne_eq_false_iff_eq] at c1
   refine den_seq ?_
   refine den_region TTok ?_
   intro K hK
   simp -implicitDefEqProofs (disch := first | decide | assumption | omega) only [go_sem, wrap_id, bD0]
   refine op_storeB (cs' := #[.int .i64 ((0 : Int)), .slice none 0 0, .slice none 0 0, .slice none 0 0]) st30 hb0_2 rfl rfl rfl (by simp) (allOne_mem (l := [.int .i64 ((0 : Int)), .slice none 0 0, .slice none 0 0, .slice none 0 0]) ⟨rfl, rfl, rfl, rfl, trivial⟩) rfl ?_
   intro h4_1 hb0_2 c4_1
   have := c4_1.size
   replace eB := Ext.then eB c4_1 (ge_of hfhb0_2 (by omega))
   try simp -implicitDefEqProofs (disch := first | decide | assumption | omega) only [go_sem, wrap_id, bD0]
   refine hK _ _ ?_
   clear hK K
   refine den_ret ?_
   simp -implicitDefEqProofs (disch := first | decide | assumption | omega) only [go_sem, BoxAt.cell hb0_2, wrap_id, bD0, resP_ct, ld30]
   rw [show pdP X Y = _ from pdP_2 hXY (by simpa using c1)]
   exact ⟨.slice none 0 0, .slice none 0 0, .slice none 0 0, [], [], [], rfl, OS.nil, OS.nil, OS.nil, Fresh.nil _, eB⟩
  ·try simp only [decide_eq_true_eq, decide_eq_false_iff_not, beq_iff_eq, beq_eq_false_iff_ne, bne_iff_ne, ne_eq, Bool.not_eq_true', Bool.not_eq_false', Bool.and_eq_true, Bool.or_eq_true, bne_eq_false_iff_eq] at c1
   have hpp : X.p = Y.p := by simpa using c1
   refine den_seq ?_
   refine den_mergeH [(31, .bool (((decide ((4 : Int) < ((X.dims).length : Int))) || (decide ((4 : Int) < ((Y.dims).length : Int))))))] [2, 3, 4] ?_ ?_
    -- a way
   ·refine den_region TTok ?_
    intro K hK
    simp -implicitDefEqProofs (disch := first | decide | assumption | (simp (disch := decide) only [slotOf_zero, slotOf_succ, Option.map_some, puts_same, puts_ne, gv_bool, gv_undef, tt, tf, ft, ff, eq_self, if_true, if_false, Bool.false_eq_true, Bool.not_true, Bool.not_false]; done) | omega) only [go_sem, fa33_1, ld22, RdS.len hdX sl22, RdS.idx hdX sl22, R1.intB hdX (Ext.pres eB), RdS.cells hdX, RdS.len hmX sl23, RdS.idx hmX sl23, RdS.cellB hmX (Ext.pres eB), RdS.cells hmX, BoxAt.cell hb0_0, wrap_id, bD0]
    refine opsP_F (by simp (disch := decide) only [slotOf_zero, slotOf_succ, Option.map_some, puts_same, puts_ne, gv_bool, gv_undef, tt, tf, ft, ff, eq_self, if_true, if_false, Bool.false_eq_true, Bool.not_true, Bool.not_false]; rfl) (fun g5 => ?_) (fun g5 => ?_)
    ·try simp -implicitDefEqProofs (disch := first | decide | assumption | (simp (disch := decide) only [slotOf_zero, slotOf_succ, Option.map_some, puts_same, puts_ne, gv_bool, gv_undef, tt, tf, ft, ff, eq_self, if_true, if_false, Bool.false_eq_true, Bool.not_true, Bool.not_false, g5]; done) | omega) only [go_sem, fa33_1, ld22, RdS.len hdY sl22, RdS.idx hdY sl22, R1.intB hdY (Ext.pres eB), RdS.cells hdY, RdS.len hmY sl23, RdS.idx hmY sl23, RdS.cellB hmY (Ext.pres eB), RdS.cells hmY, BoxAt.cell hb0_1, wrap_id, bD0, g5, eq_self, if_true, if_false, Bool.false_eq_true]
     refine hK _ _ ?_
     clear hK K
     refine den_stop ?_
     refine ⟨?_, rfl⟩
     first | (simp (disch := decide) only [go_sem, g5, eq_self, Bool.true_and, Bool.and_true, Bool.false_and, Bool.and_false, Bool.true_or, Bool.or_true, Bool.false_or, Bool.or_false, if_true, if_false, Bool.false_eq_true]; done) | simp [HasL, sel, puts_at, g5]
    ·try simp -implicitDefEqProofs (disch := first | decide | assumption | (simp (disch := decide) only [slotOf_zero, slotOf_succ, Option.map_some, puts_same, puts_ne, gv_bool, gv_undef, tt, tf, ft, ff, eq_self, if_true, if_false, Bool.false_eq_true, Bool.not_true, Bool.not_false, g5]; done) | omega) only [go_sem, wrap_id, bD0, g5, eq_self, if_true, if_false, Bool.false_eq_true]
     refine hK _ _ ?_
     clear hK K
     refine den_stop ?_
     refine ⟨?_, rfl⟩
     first | (simp (disch := decide) only [go_sem, g5, eq_self, Bool.true_and, Bool.and_true, Bool.false_and, Bool.and_false, Bool.true_or, Bool.or_true, Bool.false_or, Bool.or_false, if_true, if_false, Bool.false_eq_true]; done) | simp [HasL, sel, puts_at, g5]
   intro en6
   simp (disch := decide) only [go_sem]
   refine den_cond rfl (fun c2 => ?_) (fun c2 => ?_)
   ·try simp only [decide_eq_true_eq, decide_eq_false_iff_not, beq_iff_eq, beq_eq_false_iff_ne, bne_iff_ne, ne_eq, Bool.not_eq_true', Bool.not_eq_false', Bool.and_eq_true, Bool.or_eq_true, bne_eq_false_iff_eq] at c2
    refine den_seq ?_
    refine den_region TTok ?_
    intro K hK
    simp -implicitDefEqProofs (disch := first | decide | assumption | omega) only [go_sem, wrap_id, bD0]
    refine op_storeB (cs' := #[.int .i64 ((0 : Int)), .slice none 0 0, .slice none 0 0, .slice none 0 0]) st30 hb0_2 rfl rfl rfl (by simp) (allOne_mem (l := [.int .i64 ((0 : Int)), .slice none 0 0, .slice none 0 0, .slice none 0 0]) ⟨rfl, rfl, rfl, rfl, trivial⟩) rfl ?_
    intro h6_1 hb0_2 c6_1
    have := c6_1.size
    replace eB := Ext.then eB c6_1 (ge_of hfhb0_2 (by omega))
    try simp -implicitDefEqProofs (disch := first | decide | assumption | omega) only [go_sem, wrap_id, bD0]
    refine hK _ _ ?_
    clear hK K
    refine den_ret ?_
    simp -implicitDefEqProofs (disch := first | decide | assumption | omega) only [go_sem, BoxAt.cell hb0_2, wrap_id, bD0, resP_ct, ld30]
    rw [show pdP X Y = _ from pdP_3 hXY hpp (by intro hh; omega)]
    exact ⟨.slice none 0 0, .slice none 0 0, .slice none 0 0, [], [], [], rfl, OS.nil, OS.nil, OS.nil, Fresh.nil _, eB⟩
   ·try simp only [decide_eq_true_eq, decide_eq_false_iff_not, beq_iff_eq, beq_eq_false_iff_ne, bne_iff_ne, ne_eq, Bool.not_eq_true', Bool.not_eq_false', Bool.and_eq_true, Bool.or_eq_true, bne_eq_false_iff_eq] at c2
    have hs4 : X.dims.length ≤ 4 ∧ Y.dims.length ≤ 4 := by first | omega | (simp at c2; omega)
    refine den_skip ?_
    refine den_blk ?_
    refine den_seq ?_
    refine den_region TTok ?_
    intro K hK
    simp -implicitDefEqProofs (disch := first | decide | assumption | omega) only [go_sem, BoxAt.cell hb0_2, wrap_id, bD0]
    refine op_bs0 sz27 O1 ?_
    intro v7_0 h7_0 ho7_0 e7_0
    replace hb0_0 := BoxAt.ext hb0_0 e7_0
    replace hb0_1 := BoxAt.ext hb0_1 e7_0
    replace hb0_2 := BoxAt.ext hb0_2 e7_0
    have := Ext.size e7_0
    replace eB := Ext.trans eB e7_0
    have hfho7_0 : Fresh h3.size [h3.size] := Fresh.one _
    have hlho7_0 := OS.lt ho7_0
    try simp -implicitDefEqProofs (disch := first | decide | assumption | omega) only [go_sem, RdS.len (OS.rd ho7_0) sl27, RdS.idx (OS.rd ho7_0) sl27, RdS.cellN (OS.rd ho7_0), RdS.cells (OS.rd ho7_0), wrap_id, bD0]
    refine hK _ _ ?_
    clear hK K
    refine den_seq ?_
    refine den_seq ?_
    refine den_region TTok ?_
    intro K hK
    simp -implicitDefEqProofs (disch := first | decide | assumption | omega) only [go_sem, fa33_1, ld22, RdS.len hdX sl22, RdS.idx hdX sl22, R1.intB hdX (Ext.pres eB), RdS.cells hdX, RdS.len hmX sl23, RdS.idx hmX sl23, RdS.cellB hmX (Ext.pres eB), RdS.cells hmX, BoxAt.cell hb0_0, wrap_id, bD0]
    refine hK _ _ ?_
    clear hK K
    refine den_block ?_
    refine den_sel [6, 47, 2, 3, 4, 45, 46] ?_
    intro env_9
    simp only [go_sem]
    refine den_loopS (σ := Nat × Value × List Nat) (fun st_ => [(6, st_.2.1), (47, .int .i64 (st_.1 : Int))]) (fun st_ H => (st_.1 ≤ X.dims.length) ∧ (∀ q, q < st_.1 → ∀ j, j < Y.dims.length → X.dims.getD q 0 * Y.dims.getD j 0 ≤ 4) ∧ (O2 H st_.2.1 ((List.range st_.1).map (pdDr X Y)) st_.2.2) ∧ (Fresh (h3.size) st_.2.2) ∧ (Sub [h3.size] h7_0.size st_.2.2) ∧ (Chg [h3.size] h7_0 H)) (fun st_ => X.dims.length - st_.1) (0, v7_0, [h3.size]) ?_ ?_
    ·exact ⟨by omega, fun q h => by omega, by show O2 _ _ [] _; exact ho7_0, hfho7_0, Sub.refl, Chg.refl _ _⟩
    ·rintro ⟨i, vhD, fphD⟩ h12 ee11 ⟨hi_, hq_, hD, hfhD, sbhD, cL10⟩
     dsimp only at hi_ hq_ hD hfhD sbhD cL10
     replace hb0_0 := BoxAt.chgA hb0_0 cL10 (apart_lt hlhb0_0 hfho7_0 (by omega))
     replace hb0_1 := BoxAt.chgA hb0_1 cL10 (apart_lt hlhb0_1 hfho7_0 (by omega))
     replace hb0_2 := BoxAt.chgA hb0_2 cL10 (apart_lt hlhb0_2 hfho7_0 (by omega))
     have := cL10.size
     replace eB := Ext.then eB cL10 (ge_of hfho7_0 (by omega))
     have hlhD := OS.lt hD
     simp only [List.cons_append, List.nil_append]
     refine den_seq ?_
     refine den_region TTok ?_
     intro K hK
     simp -implicitDefEqProofs (disch := first | decide | assumption | omega) only [go_sem, wrap_id, bD0]
     refine hK _ _ ?_
     clear hK K
     refine den_seq ?_
     refine den_cond rfl (fun c3 => ?_) (fun c3 => ?_)
     ·try simp only [decide_eq_true_eq, decide_eq_false_iff_not, beq_iff_eq, beq_eq_false_iff_ne, bne_iff_ne, ne_eq, Bool.not_eq_true', Bool.not_eq_false', Bool.and_eq_true, Bool.or_eq_true, bne_eq_false_iff_eq] at c3
      refine den_skip ?_
      refine den_seq ?_
      refine den_block ?_
      refine den_seq ?_
      refine den_region TTok ?_
      intro K hK
      simp -implicitDefEqProofs (disch := first | decide | assumption | omega) only [go_sem, ld2, RdS.len hdX sl22, RdS.idx hdX sl22, R1.intB hdX (Ext.pres eB), RdS.cells hdX, wrap_id, bD0]
      refine hK _ _ ?_
      clear hK K
      refine den_seq ?_
      refine den_region TTok ?_
      intro K hK
      simp -implicitDefEqProofs (disch := first | decide | assumption | omega) only [go_sem, BoxAt.cell hb0_2, wrap_id, bD0]
      refine op_bs0 sz22 OI ?_
      intro v11_0 h11_0 ho11_0 e11_0
      replace hD := OS.ext hD e11_0
      replace hb0_0 := BoxAt.ext hb0_0 e11_0
      replace hb0_1 := BoxAt.ext hb0_1 e11_0
      replace hb0_2 := BoxAt.ext hb0_2 e11_0
      have := Ext.size e11_0
      replace eB := Ext.trans eB e11_0
      replace cL10 := Chg.stepE cL10 e11_0
      have hfho11_0 : Fresh h12.size [h12.size] := Fresh.one _
      have hlho11_0 := OS.lt ho11_0
      try simp -implicitDefEqProofs (disch := first | decide | assumption | omega) only [go_sem, RdS.len (OS.rd ho11_0) sl22, RdS.idx (OS.rd ho11_0) sl22, R1.intN (OS.rd ho11_0), RdS.cells (OS.rd ho11_0), wrap_id, bD0]
      refine hK _ _ ?_
      clear hK K
      refine den_seq ?_
      refine den_seq ?_
      refine den_region TTok ?_
      intro K hK
      simp -implicitDefEqProofs (disch := first | decide | assumption | omega) only [go_sem, fa33_1, ld22, RdS.len hdY sl22, RdS.idx hdY sl22, R1.intB hdY (Ext.pres eB), RdS.cells hdY, RdS.len hmY sl23, RdS.idx hmY sl23, RdS.cellB hmY (Ext.pres eB), RdS.cells hmY, BoxAt.cell hb0_1, wrap_id, bD0]
      refine hK _ _ ?_
      clear hK K
      refine den_block ?_
      refine den_sel [9, 55, 2, 3, 4, 6, 8, 45, 46, 47, 53, 54] ?_
      intro env_13
      simp only [go_sem]
      refine den_loopS (σ := Nat × Value × List Nat) (fun st_ => [(9, st_.2.1), (55, .int .i64 (st_.1 : Int))]) (fun st_ H => (st_.1 ≤ Y.dims.length) ∧ (∀ q, q < st_.1 → X.dims.getD i 0 * Y.dims.getD q 0 ≤ 4) ∧ (O1 H st_.2.1 ((List.range st_.1).map fun q : Nat => X.dims.getD i 0 * Y.dims.getD q 0) st_.2.2) ∧ (Fresh (h12.size) st_.2.2) ∧ (Sub [h12.size] h11_0.size st_.2.2) ∧ (Chg [h12.size] h11_0 H)) (fun st_ => Y.dims.length - st_.1) (0, v11_0, [h12.size]) ?_ ?_
      ·exact ⟨by omega, fun q h => by omega, by show O1 _ _ [] _; exact ho11_0, hfho11_0, Sub.refl, Chg.refl _ _⟩
      ·rintro ⟨j, vhE, fphE⟩ h16 ee15 ⟨hj_, hr_, hE, hfhE, sbhE, cL14⟩
       dsimp only at hj_ hr_ hE hfhE sbhE cL14
       replace hD := OS.chg hD cL14 (apart_lt hlhD hfho11_0 (by omega))
       replace hb0_0 := BoxAt.chgA hb0_0 cL14 (apart_lt hlhb0_0 hfho11_0 (by omega))
       replace hb0_1 := BoxAt.chgA hb0_1 cL14 (apart_lt hlhb0_1 hfho11_0 (by omega))
       replace hb0_2 := BoxAt.chgA hb0_2 cL14 (apart_lt hlhb0_2 hfho11_0 (by omega))
       have := cL14.size
       replace eB := Ext.then eB cL14 (ge_of hfho11_0 (by omega))
       replace cL10 := Chg.step cL10 cL14 (Sub.fresh hfho11_0 (by omega))
       have hlhE := OS.lt hE
       simp only [List.cons_append, List.nil_append]
       refine den_seq ?_
       refine den_region TTok ?_
       intro K hK
       simp -implicitDefEqProofs (disch := first | decide | assumption | omega) only [go_sem, wrap_id, bD0]
       refine hK _ _ ?_
       clear hK K
       refine den_seq ?_
       refine den_cond rfl (fun c4 => ?_) (fun c4 => ?_)
       ·try simp only [decide_eq_true_eq, decide_eq_false_iff_not, beq_iff_eq, beq_eq_false_iff_ne, bne_iff_ne, ne_eq, Bool.not_eq_true', Bool.not_eq_false', Bool.and_eq_true, Bool.or_eq_true, bne_eq_false_iff_eq] at c4
        refine den_skip ?_
        refine den_seq ?_
        refine den_block ?_
        refine den_seq ?_
        refine den_region TTok ?_
        intro K hK
        simp -implicitDefEqProofs (disch := first | decide | assumption | omega) only [go_sem, ld2, RdS.len hdY sl22, RdS.idx hdY sl22, R1.intB hdY (Ext.pres eB), RdS.cells hdY, wrap_id, bD0]
        refine hK _ _ ?_
        clear hK K
        refine den_seq ?_
        refine den_seq ?_
        have hdi := dimsD_nat hX i
        have hdj := dimsD_nat hY j
        have hpd := mul8 hdi hdj
        refine den_region TTok ?_
        intro K hK
        simp -implicitDefEqProofs (disch := first | decide | assumption | omega) only [go_sem, wrap_id, bD0]
        refine hK _ _ ?_
        clear hK K
        refine den_cond rfl (fun c5 => ?_) (fun c5 => ?_)
        ·try simp only [decide_eq_true_eq, decide_eq_false_iff_not, beq_iff_eq, beq_eq_false_iff_ne, bne_iff_ne, ne_eq, Bool.not_eq_true', Bool.not_eq_false', Bool.and_eq_true, Bool.or_eq_true, bne_eq_false_iff_eq] at c5
         refine den_seq ?_
         refine den_region TTok ?_
         intro K hK
         simp -implicitDefEqProofs (disch := first | decide | assumption | omega) only [go_sem, wrap_id, bD0]
         refine op_storeB (cs' := #[.int .i64 ((0 : Int)), .slice none 0 0, .slice none 0 0, .slice none 0 0]) st30 hb0_2 rfl rfl rfl (by simp) (allOne_mem (l := [.int .i64 ((0 : Int)), .slice none 0 0, .slice none 0 0, .slice none 0 0]) ⟨rfl, rfl, rfl, rfl, trivial⟩) rfl ?_
         intro h16_1 hb0_2 c16_1
         have := c16_1.size
         replace eB := Ext.then eB c16_1 (ge_of hfhb0_2 (by omega))
         try simp -implicitDefEqProofs (disch := first | decide | assumption | omega) only [go_sem, wrap_id, bD0]
         refine hK _ _ ?_
         clear hK K
         refine den_ret ?_
         simp -implicitDefEqProofs (disch := first | decide | assumption | omega) only [go_sem, BoxAt.cell hb0_2, wrap_id, bD0, resP_ct, ld30]
         rw [show pdP X Y = _ from pdP_4 hXY hpp hs4 (i := i) (j := j) (by omega) (by omega) (by omega)]
         exact ⟨.slice none 0 0, .slice none 0 0, .slice none 0 0, [], [], [], rfl, OS.nil, OS.nil, OS.nil, Fresh.nil _, eB⟩
        ·try simp only [decide_eq_true_eq, decide_eq_false_iff_not, beq_iff_eq, beq_eq_false_iff_ne, bne_iff_ne, ne_eq, Bool.not_eq_true', Bool.not_eq_false', Bool.and_eq_true, Bool.or_eq_true, bne_eq_false_iff_eq] at c5
         refine den_skip ?_
         have hdi := dimsD_nat hX i
         have hdj := dimsD_nat hY j
         have hpd := mul8 hdi hdj
         have hlE : ((List.range j).map fun q : Nat => X.dims.getD i 0 * Y.dims.getD q 0).length = j := by simp
         refine den_region TTok ?_
         intro K hK
         simp -implicitDefEqProofs (disch := first | decide | assumption | omega) only [go_sem, RdS.len (OS.rd hE) sl22, RdS.idx (OS.rd hE) sl22, R1.intN (OS.rd hE), RdS.cells (OS.rd hE), wrap_id, bD0]
         refine op_bs1 sz22 rfl rfl ?_
         try simp -implicitDefEqProofs (disch := first | decide | assumption | omega) only [go_sem, BoxAt.cell hb0_2, wrap_id, bD0]
         refine op_append1 sz22 hE hfhE.nodup ⟨rfl, rfl⟩ List.nodup_nil (Apart.nil _) (by first | omega | (simp; omega)) rfl rfl ?_
         intro v17_5 h17_5 fp17_5 ho17_5 hn17_5 hs17_5 c17_5
         have hsz17_5 := c17_5.size
         have hfho17_5 : Fresh h12.size fp17_5 := Fresh.appd hfhE (Fresh.nil h16.size) (by omega) (by omega) hn17_5 hs17_5
         have sb17 : Sub [h12.size] h11_0.size fp17_5 := Sub.grow sbhE Sub.nil (by omega) hs17_5
         replace hD := OS.chg hD c17_5 (apart_lt hlhD hfhE (by omega))
         replace hb0_0 := BoxAt.chgA hb0_0 c17_5 (apart_lt hlhb0_0 hfhE (by omega))
         replace hb0_1 := BoxAt.chgA hb0_1 c17_5 (apart_lt hlhb0_1 hfhE (by omega))
         replace hb0_2 := BoxAt.chgA hb0_2 c17_5 (apart_lt hlhb0_2 hfhE (by omega))
         have := c17_5.size
         replace eB := Ext.then eB c17_5 (ge_of hfhE (by omega))
         replace cL10 := Chg.step cL10 c17_5 (Sub.fresh hfhE (by omega))
         replace cL14 := Chg.step cL14 c17_5 sbhE
         have hlho17_5 := OS.lt ho17_5
         try simp -implicitDefEqProofs (disch := first | decide | assumption | omega) only [go_sem, RdS.len (OS.rd ho17_5) sl22, RdS.idx (OS.rd ho17_5) sl22, R1.intN (OS.rd ho17_5), RdS.cells (OS.rd ho17_5), wrap_id, bD0]
         refine hK _ _ ?_
         clear hK K
         refine den_blk ?_
         refine den_region TTok ?_
         intro K hK
         simp -implicitDefEqProofs (disch := first | decide | assumption | omega) only [go_sem, wrap_id, bD0]
         refine hK _ _ ?_
         clear hK K
         refine den_stop ?_
         rw [range_step (fun q : Nat => X.dims.getD i 0 * Y.dims.getD q 0)] at ho17_5
         exact ⟨(j + 1, v17_5, fp17_5), by simp [HasL, puts_at], ⟨by omega, (fun q hq => (Nat.lt_succ_iff_lt_or_eq.1 hq).elim (hr_ q) (fun e => by subst e; omega)), ho17_5, hfho17_5, sb17, cL14⟩, by first | omega | (dsimp only; omega)⟩
       ·try simp only [decide_eq_true_eq, decide_eq_false_iff_not, beq_iff_eq, beq_eq_false_iff_ne, bne_iff_ne, ne_eq, Bool.not_eq_true', Bool.not_eq_false', Bool.and_eq_true, Bool.or_eq_true, bne_eq_false_iff_eq] at c4
        refine den_exit ?_
        refine denX_code ?_
        refine denX_stop ?_
        refine denX_hit ?_
        have hlD : ((List.range i).map (pdDr X Y)).length = i := by simp
        refine den_region TTok ?_
        intro K hK
        simp -implicitDefEqProofs (disch := first | decide | assumption | omega) only [go_sem, RdS.len (OS.rd hD) sl27, RdS.idx (OS.rd hD) sl27, RdS.cellN (OS.rd hD), RdS.cells (OS.rd hD), RdS.len (OS.rd hE) sl22, RdS.idx (OS.rd hE) sl22, R1.intN (OS.rd hE), RdS.cells (OS.rd hE), wrap_id, bD0]
        refine op_bs1 sz27 rfl (OS.one hE).2 ?_
        try simp -implicitDefEqProofs (disch := first | decide | assumption | omega) only [go_sem, BoxAt.cell hb0_2, wrap_id, bD0]
        refine op_append1 sz27 hD hfhD.nodup hE hfhE.nodup (apart_lt hlhD hfhE (by omega)) (by first | omega | (simp; omega)) rfl rfl ?_
        intro v19_3 h19_3 fp19_3 ho19_3 hn19_3 hs19_3 c19_3
        have hsz19_3 := c19_3.size
        have hfho19_3 : Fresh h3.size fp19_3 := Fresh.appd hfhD hfhE (by omega) (by omega) hn19_3 hs19_3
        have sb18 : Sub [h3.size] h7_0.size fp19_3 := Sub.grow sbhD (Sub.fresh hfhE (by omega)) (by omega) hs19_3
        replace hb0_0 := BoxAt.chgA hb0_0 c19_3 (apart_lt hlhb0_0 hfhD (by omega))
        replace hb0_1 := BoxAt.chgA hb0_1 c19_3 (apart_lt hlhb0_1 hfhD (by omega))
        replace hb0_2 := BoxAt.chgA hb0_2 c19_3 (apart_lt hlhb0_2 hfhD (by omega))
        have := c19_3.size
        replace eB := Ext.then eB c19_3 (ge_of hfhD (by omega))
        replace cL10 := Chg.step cL10 c19_3 sbhD
        have hlho19_3 := OS.lt ho19_3
        try simp -implicitDefEqProofs (disch := first | decide | assumption | omega) only [go_sem, RdS.len (OS.rd ho19_3) sl27, RdS.idx (OS.rd ho19_3) sl27, RdS.cellN (OS.rd ho19_3), RdS.cells (OS.rd ho19_3), wrap_id, bD0]
        refine hK _ _ ?_
        clear hK K
        refine den_blk ?_
        refine den_region TTok ?_
        intro K hK
        simp -implicitDefEqProofs (disch := first | decide | assumption | omega) only [go_sem, wrap_id, bD0]
        refine hK _ _ ?_
        clear hK K
        refine den_stop ?_
        rw [show j = Y.dims.length by omega, pdD_step] at ho19_3
        exact ⟨(i + 1, v19_3, fp19_3), by simp [HasL, puts_at], ⟨by omega, (fun q hq j' hj' => (Nat.lt_succ_iff_lt_or_eq.1 hq).elim (fun h => hq_ q h j' hj') (fun e => by subst e; exact hr_ j' (by omega))), ho19_3, hfho19_3, sb18, cL10⟩, by first | omega | (dsimp only; omega)⟩
     ·try simp only [decide_eq_true_eq, decide_eq_false_iff_not, beq_iff_eq, beq_eq_false_iff_ne, bne_iff_ne, ne_eq, Bool.not_eq_true', Bool.not_eq_false', Bool.and_eq_true, Bool.or_eq_true, bne_eq_false_iff_eq] at c3
      refine den_exit ?_
      refine denX_code ?_
      refine denX_stop ?_
      refine denX_hit ?_
      refine den_seq ?_
      have xQ := Ext.refl h12
      have hQ : R2 h12 vhD (pdDl X Y) := by rw [show i = X.dims.length by omega] at hD; exact OS.rd hD
      have eQ := eB
      have hbQ := hb0_2
      have hlQ := RdS.le hQ
      rw [show i = X.dims.length by omega] at hD
      have hDQ := hD
      refine den_sel [2, 3, 4, 6] ?_
      intro env_19
      simp only [go_sem]
      refine den_drawTJ (σ := Value × List Nat × Value × List Nat × Nat × Nat) TTok (fun st_ => [(12, .pointer (some ⟨st_.2.2.2.2.1, 0, none⟩)), (13, .pointer (some ⟨st_.2.2.2.2.2, 0, none⟩))]) (fun st_ H => (O4 H st_.1 (baF (pdDl X Y) Y.dims.length) st_.2.1) ∧ (Fresh h12.size st_.2.1) ∧ (O4 H st_.2.2.1 (bbF (pdDl X Y) Y.dims.length) st_.2.2.2.1) ∧ (Fresh h12.size st_.2.2.2.1) ∧ (BoxAt H st_.2.2.2.2.1 #[.int .i64 (X.p), vhD, st_.1, st_.2.2.1] 30) ∧ (Fresh h12.size [st_.2.2.2.2.1]) ∧ (BoxAt H st_.2.2.2.2.2 #[.int .i64 (X.p)] 2) ∧ (Fresh h12.size [st_.2.2.2.2.2]) ∧ (Apart st_.2.1 st_.2.2.2.1) ∧ (Apart st_.2.1 [st_.2.2.2.2.1]) ∧ (Apart st_.2.1 [st_.2.2.2.2.2]) ∧ (Apart st_.2.2.2.1 [st_.2.2.2.2.1]) ∧ (Apart st_.2.2.2.1 [st_.2.2.2.2.2]) ∧ (Apart [st_.2.2.2.2.1] [st_.2.2.2.2.2]) ∧ (Ext h12 H)) mixed [8, 9] [(0, true), (1, true), (2, true), (4, true)] (.fork4 3 [] (.fork3 5 [] (.fork 6 [(7, false), (8, false), (9, false)] .fin 7 [(6, false), (8, false), (9, false)] .fin) 6 [] (.fork 5 [(7, false), (8, false), (9, false)] .fin 7 [] (.fork 5 [(8, false), (9, false)] .fin 8 [(5, true), (9, false)] .fin)) 7 [] (.fork 5 [(6, false), (8, false), (9, false)] .fin 6 [] (.fork 5 [(8, false), (9, false)] .fin 8 [(5, true), (9, false)] .fin))) 5 [] (.fork3 3 [] (.fork 6 [(7, false), (8, false), (9, false)] .fin 7 [(6, false), (8, false), (9, false)] .fin) 6 [] (.fork 3 [(7, false), (8, false), (9, false)] .fin 7 [(3, false), (8, false), (9, false)] .fin) 7 [] (.fork 3 [(6, false), (8, false), (9, false)] .fin 6 [(3, false), (8, false), (9, false)] .fin)) 6 [] (.fork3 3 [] (.fork 5 [(7, false), (8, false), (9, false)] .fin 7 [] (.fork 5 [(8, false), (9, false)] .fin 8 [(5, true), (9, false)] .fin)) 5 [] (.fork 3 [(7, false), (8, false), (9, false)] .fin 7 [(3, false), (8, false), (9, false)] .fin) 7 [] (.fork 3 [] (.fork 5 [(8, false), (9, false)] .fin 8 [(5, true), (9, false)] .fin) 5 [(3, false), (8, false), (9, false)] .fin)) 7 [] (.fork3 3 [] (.fork 5 [(6, false), (8, false), (9, false)] .fin 6 [] (.fork 5 [(8, false), (9, false)] .fin 8 [(5, true), (9, false)] .fin)) 5 [] (.fork 3 [(6, false), (8, false), (9, false)] .fin 6 [(3, false), (8, false), (9, false)] .fin) 6 [] (.fork 3 [] (.fork 5 [(8, false), (9, false)] .fin 8 [(5, true), (9, false)] .fin) 5 [(3, false), (8, false), (9, false)] .fin))) (by kernel_rfl) ?_ ?_
      ·intro K hK
       have cJ20 := Ext.refl h12
       simp -implicitDefEqProofs (disch := first | decide | assumption | omega) only [go_sem, fa33_0, ld2, RdS.len hdX sl22, RdS.idx hdX sl22, R1.intB hdX (Ext.pres eB), RdS.cells hdX, RdS.len hmX sl23, RdS.idx hmX sl23, RdS.cellB hmX (Ext.pres eB), RdS.cells hmX, RdS.len (OS.rd hD) sl27, RdS.idx (OS.rd hD) sl27, RdS.cellN (OS.rd hD), RdS.cells (OS.rd hD), BoxAt.cell hb0_0, wrap_id, bD0]
       refine And.intro ?_ (And.intro ?_ (And.intro ?_ ?_))
       ·simp -implicitDefEqProofs (disch := first | decide | assumption | omega) only [go_sem, BoxAt.cell hb0_2, wrap_id, bD0]
        try simp -implicitDefEqProofs (disch := first | decide | assumption | omega) only [go_sem, BoxAt.cell hb0_2, wrap_id, bD0]
        refine CallA.mono (iBlank_ok X.p _ (pdDl X Y) Y.dims.length _ (OS.rd hD) (by rw [pdDl_len]; omega) (by omega) (fun r hr => pdDl_rl (by rw [pdDl_len] at hr; exact hr)) (fun r c hr hc => by rw [pdDl_len] at hr; rw [pdDl_at hr hc]; have h1 := mul8 (dimsD_nat hX r) (dimsD_nat hY c); omega)) ?_
        intro v_ h21_3
        rintro ⟨vwa21_3, vwb21_3, fwa21_3, fwb21_3, rfl, howa21_3, howb21_3, hfw21_3, e21_3⟩
        replace hD := OS.ext hD e21_3
        replace hb0_0 := BoxAt.ext hb0_0 e21_3
        replace hb0_1 := BoxAt.ext hb0_1 e21_3
        replace hb0_2 := BoxAt.ext hb0_2 e21_3
        have := Ext.size e21_3
        replace eB := Ext.trans eB e21_3
        replace xQ := Ext.trans xQ e21_3
        replace cJ20 := Ext.trans cJ20 e21_3
        have hfwa21_3 := hfw21_3.left
        have hfwb21_3 := hfw21_3.right
        have hlhowa21_3 := OS.lt howa21_3
        have hlhowb21_3 := OS.lt howb21_3
        have ap21 : Apart fwa21_3 fwb21_3 := apart_nodup hfw21_3
        try simp (disch := decide) only [outv_some, outv_none, put_puts]
        refine plK_pres (Ext.pres e21_3) ?_
        try simp -implicitDefEqProofs (disch := first | decide | assumption | omega) only [go_sem, BoxAt.cell hb0_2, wrap_id, bD0]
        refine And.intro ?_ (And.intro ?_ ?_)
        ·simp -implicitDefEqProofs (disch := first | decide | assumption | omega) only [go_sem, ld2, RdS.len hdX sl22, RdS.idx hdX sl22, R1.intB hdX (Ext.pres eB), RdS.cells hdX, RdS.len hmX sl23, RdS.idx hmX sl23, RdS.cellB hmX (Ext.pres eB), RdS.cells hmX, BoxAt.cell hb0_0, wrap_id, bD0]
         refine And.intro ?_ ?_
         ·simp -implicitDefEqProofs (disch := first | decide | assumption | omega) only [go_sem, BoxAt.cell hb0_2, wrap_id, bD0]
          refine op_alloc (cs := #[.int .i64 0, .slice none 0 0, .slice none 0 0, .slice none 0 0]) (by kernel_rfl) ?_
          intro h21_6 e21_6 hb21_6 z21_6
          replace hD := OS.ext hD e21_6
          replace howa21_3 := OS.ext howa21_3 e21_6
          replace howb21_3 := OS.ext howb21_3 e21_6
          replace hb0_0 := BoxAt.ext hb0_0 e21_6
          replace hb0_1 := BoxAt.ext hb0_1 e21_6
          replace hb0_2 := BoxAt.ext hb0_2 e21_6
          have := Ext.size e21_6
          replace eB := Ext.trans eB e21_6
          replace xQ := Ext.trans xQ e21_6
          replace cJ20 := Ext.trans cJ20 e21_6
          have hfhb21_6 : Fresh h21_3.size [h21_3.size] := Fresh.one _
          have hlhb21_6 := one_lt (show h21_3.size < h21_6.size by omega)
          try simp (disch := decide) only [outv_some, outv_none, put_puts]
          refine plK_pres (Ext.pres e21_6) ?_
          try simp -implicitDefEqProofs (disch := first | decide | assumption | omega) only [go_sem, BoxAt.cell hb0_2, wrap_id, bD0]
          refine op_alloc (cs := #[.int .i64 0]) (by kernel_rfl) ?_
          intro h21_7 e21_7 hb21_7 z21_7
          replace hD := OS.ext hD e21_7
          replace howa21_3 := OS.ext howa21_3 e21_7
          replace howb21_3 := OS.ext howb21_3 e21_7
          replace hb0_0 := BoxAt.ext hb0_0 e21_7
          replace hb0_1 := BoxAt.ext hb0_1 e21_7
          replace hb0_2 := BoxAt.ext hb0_2 e21_7
          replace hb21_6 := BoxAt.ext hb21_6 e21_7
          have := Ext.size e21_7
          replace eB := Ext.trans eB e21_7
          replace xQ := Ext.trans xQ e21_7
          replace cJ20 := Ext.trans cJ20 e21_7
          have hfhb21_7 : Fresh h21_6.size [h21_6.size] := Fresh.one _
          have hlhb21_7 := one_lt (show h21_6.size < h21_7.size by omega)
          try simp (disch := decide) only [outv_some, outv_none, put_puts]
          refine plK_pres (Ext.pres e21_7) ?_
          try simp -implicitDefEqProofs (disch := first | decide | assumption | omega) only [go_sem, BoxAt.cell hb0_2, wrap_id, bD0]
          refine op_storeB (cs' := #[.int .i64 (X.p), vhD, vwa21_3, vwb21_3]) st30 hb21_6 rfl rfl rfl (by simp) (allOne_mem (l := [.int .i64 (X.p), vhD, vwa21_3, vwb21_3]) ⟨rfl, (OS.one hD).1, (OS.one howa21_3).1, (OS.one howb21_3).1, trivial⟩) rfl ?_
          intro h21_8 hb21_6 c21_8
          replace hD := OS.chg hD c21_8 (apart_lt hlhD hfhb21_6 (by omega))
          replace howa21_3 := OS.chg howa21_3 c21_8 (apart_lt hlhowa21_3 hfhb21_6 (by omega))
          replace howb21_3 := OS.chg howb21_3 c21_8 (apart_lt hlhowb21_3 hfhb21_6 (by omega))
          replace hb0_0 := BoxAt.chgA hb0_0 c21_8 (apart_lt hlhb0_0 hfhb21_6 (by omega))
          replace hb0_1 := BoxAt.chgA hb0_1 c21_8 (apart_lt hlhb0_1 hfhb21_6 (by omega))
          replace hb0_2 := BoxAt.chgA hb0_2 c21_8 (apart_lt hlhb0_2 hfhb21_6 (by omega))
          replace hb21_7 := BoxAt.chgA hb21_7 c21_8 (apart_gt hfhb21_7 hlhb21_6 (by omega))
          have := c21_8.size
          replace eB := Ext.then eB c21_8 (ge_of hfhb21_6 (by omega))
          replace xQ := Ext.then xQ c21_8 (ge_of hfhb21_6 (by omega))
          replace cJ20 := Ext.then cJ20 c21_8 (ge_of hfhb21_6 (by omega))
          try simp (disch := decide) only [outv_some, outv_none, put_puts]
          refine plK_last (by decide) ?_
          try simp -implicitDefEqProofs (disch := first | decide | assumption | omega) only [go_sem, BoxAt.cell hb0_2, wrap_id, bD0]
          refine op_storeB (cs' := #[.int .i64 (X.p)]) st2 hb21_7 rfl rfl rfl (by simp) (allOne_mem (l := [.int .i64 (X.p)]) ⟨rfl, trivial⟩) rfl ?_
          intro h21_9 hb21_7 c21_9
          replace hD := OS.chg hD c21_9 (apart_lt hlhD hfhb21_7 (by omega))
          replace howa21_3 := OS.chg howa21_3 c21_9 (apart_lt hlhowa21_3 hfhb21_7 (by omega))
          replace howb21_3 := OS.chg howb21_3 c21_9 (apart_lt hlhowb21_3 hfhb21_7 (by omega))
          replace hb0_0 := BoxAt.chgA hb0_0 c21_9 (apart_lt hlhb0_0 hfhb21_7 (by omega))
          replace hb0_1 := BoxAt.chgA hb0_1 c21_9 (apart_lt hlhb0_1 hfhb21_7 (by omega))
          replace hb0_2 := BoxAt.chgA hb0_2 c21_9 (apart_lt hlhb0_2 hfhb21_7 (by omega))
          replace hb21_6 := BoxAt.chgA hb21_6 c21_9 (apart_lt hlhb21_6 hfhb21_7 (by omega))
          have := c21_9.size
          replace eB := Ext.then eB c21_9 (ge_of hfhb21_7 (by omega))
          replace xQ := Ext.then xQ c21_9 (ge_of hfhb21_7 (by omega))
          replace cJ20 := Ext.then cJ20 c21_9 (ge_of hfhb21_7 (by omega))
          try simp (disch := decide) only [outv_some, outv_none, put_puts]
          refine plK_last (by decide) ?_
          try simp -implicitDefEqProofs (disch := first | decide | assumption | omega) only [go_sem, BoxAt.cell hb0_2, wrap_id, bD0]
          exact hK (vwa21_3, fwa21_3, vwb21_3, fwb21_3, h21_3.size, h21_6.size) _ _ (by simp [HasL, puts_at]) ⟨howa21_3, (hfwa21_3.mono (by omega)), howb21_3, (hfwb21_3.mono (by omega)), hb21_6, (hfhb21_6.mono (by omega)), hb21_7, (hfhb21_7.mono (by omega)), ap21, (apart_lt hlhowa21_3 hfhb21_6 (by omega)), (apart_lt hlhowa21_3 hfhb21_7 (by omega)), (apart_lt hlhowb21_3 hfhb21_6 (by omega)), (apart_lt hlhowb21_3 hfhb21_7 (by omega)), (apart_lt hlhb21_6 hfhb21_7 (by omega)), cJ20⟩
         ·simp -implicitDefEqProofs (disch := first | decide | assumption | omega) only [go_sem, BoxAt.cell hb0_2, wrap_id, bD0]
          refine op_alloc (cs := #[.int .i64 0]) (by kernel_rfl) ?_
          intro h21_7 e21_7 hb21_7 z21_7
          replace hD := OS.ext hD e21_7
          replace howa21_3 := OS.ext howa21_3 e21_7
          replace howb21_3 := OS.ext howb21_3 e21_7
          replace hb0_0 := BoxAt.ext hb0_0 e21_7
          replace hb0_1 := BoxAt.ext hb0_1 e21_7
          replace hb0_2 := BoxAt.ext hb0_2 e21_7
          have := Ext.size e21_7
          replace eB := Ext.trans eB e21_7
          replace xQ := Ext.trans xQ e21_7
          replace cJ20 := Ext.trans cJ20 e21_7
          have hfhb21_7 : Fresh h21_3.size [h21_3.size] := Fresh.one _
          have hlhb21_7 := one_lt (show h21_3.size < h21_7.size by omega)
          try simp (disch := decide) only [outv_some, outv_none, put_puts]
          refine plK_pres (Ext.pres e21_7) ?_
          try simp -implicitDefEqProofs (disch := first | decide | assumption | omega) only [go_sem, BoxAt.cell hb0_2, wrap_id, bD0]
          refine op_alloc (cs := #[.int .i64 0, .slice none 0 0, .slice none 0 0, .slice none 0 0]) (by kernel_rfl) ?_
          intro h21_6 e21_6 hb21_6 z21_6
          replace hD := OS.ext hD e21_6
          replace howa21_3 := OS.ext howa21_3 e21_6
          replace howb21_3 := OS.ext howb21_3 e21_6
          replace hb0_0 := BoxAt.ext hb0_0 e21_6
          replace hb0_1 := BoxAt.ext hb0_1 e21_6
          replace hb0_2 := BoxAt.ext hb0_2 e21_6
          replace hb21_7 := BoxAt.ext hb21_7 e21_6
          have := Ext.size e21_6
          replace eB := Ext.trans eB e21_6
          replace xQ := Ext.trans xQ e21_6
          replace cJ20 := Ext.trans cJ20 e21_6
          have hfhb21_6 : Fresh h21_7.size [h21_7.size] := Fresh.one _
          have hlhb21_6 := one_lt (show h21_7.size < h21_6.size by omega)
          try simp (disch := decide) only [outv_some, outv_none, put_puts]
          refine plK_pres (Ext.pres e21_6) ?_
          try simp -implicitDefEqProofs (disch := first | decide | assumption | omega) only [go_sem, BoxAt.cell hb0_2, wrap_id, bD0]
          refine op_storeB (cs' := #[.int .i64 (X.p), vhD, vwa21_3, vwb21_3]) st30 hb21_6 rfl rfl rfl (by simp) (allOne_mem (l := [.int .i64 (X.p), vhD, vwa21_3, vwb21_3]) ⟨rfl, (OS.one hD).1, (OS.one howa21_3).1, (OS.one howb21_3).1, trivial⟩) rfl ?_
          intro h21_8 hb21_6 c21_8
          replace hD := OS.chg hD c21_8 (apart_lt hlhD hfhb21_6 (by omega))
          replace howa21_3 := OS.chg howa21_3 c21_8 (apart_lt hlhowa21_3 hfhb21_6 (by omega))
          replace howb21_3 := OS.chg howb21_3 c21_8 (apart_lt hlhowb21_3 hfhb21_6 (by omega))
          replace hb0_0 := BoxAt.chgA hb0_0 c21_8 (apart_lt hlhb0_0 hfhb21_6 (by omega))
          replace hb0_1 := BoxAt.chgA hb0_1 c21_8 (apart_lt hlhb0_1 hfhb21_6 (by omega))
          replace hb0_2 := BoxAt.chgA hb0_2 c21_8 (apart_lt hlhb0_2 hfhb21_6 (by omega))
          replace hb21_7 := BoxAt.chgA hb21_7 c21_8 (apart_lt hlhb21_7 hfhb21_6 (by omega))
          have := c21_8.size
          replace eB := Ext.then eB c21_8 (ge_of hfhb21_6 (by omega))
          replace xQ := Ext.then xQ c21_8 (ge_of hfhb21_6 (by omega))
          replace cJ20 := Ext.then cJ20 c21_8 (ge_of hfhb21_6 (by omega))
          try simp (disch := decide) only [outv_some, outv_none, put_puts]
          refine plK_last (by decide) ?_
          try simp -implicitDefEqProofs (disch := first | decide | assumption | omega) only [go_sem, BoxAt.cell hb0_2, wrap_id, bD0]
          refine op_storeB (cs' := #[.int .i64 (X.p)]) st2 hb21_7 rfl rfl rfl (by simp) (allOne_mem (l := [.int .i64 (X.p)]) ⟨rfl, trivial⟩) rfl ?_
          intro h21_9 hb21_7 c21_9
          replace hD := OS.chg hD c21_9 (apart_lt hlhD hfhb21_7 (by omega))
          replace howa21_3 := OS.chg howa21_3 c21_9 (apart_lt hlhowa21_3 hfhb21_7 (by omega))
          replace howb21_3 := OS.chg howb21_3 c21_9 (apart_lt hlhowb21_3 hfhb21_7 (by omega))
          replace hb0_0 := BoxAt.chgA hb0_0 c21_9 (apart_lt hlhb0_0 hfhb21_7 (by omega))
          replace hb0_1 := BoxAt.chgA hb0_1 c21_9 (apart_lt hlhb0_1 hfhb21_7 (by omega))
          replace hb0_2 := BoxAt.chgA hb0_2 c21_9 (apart_lt hlhb0_2 hfhb21_7 (by omega))
          replace hb21_6 := BoxAt.chgA hb21_6 c21_9 (apart_gt hfhb21_6 hlhb21_7 (by omega))
          have := c21_9.size
          replace eB := Ext.then eB c21_9 (ge_of hfhb21_7 (by omega))
          replace xQ := Ext.then xQ c21_9 (ge_of hfhb21_7 (by omega))
          replace cJ20 := Ext.then cJ20 c21_9 (ge_of hfhb21_7 (by omega))
          try simp (disch := decide) only [outv_some, outv_none, put_puts]
          refine plK_last (by decide) ?_
          try simp -implicitDefEqProofs (disch := first | decide | assumption | omega) only [go_sem, BoxAt.cell hb0_2, wrap_id, bD0]
          exact hK (vwa21_3, fwa21_3, vwb21_3, fwb21_3, h21_7.size, h21_3.size) _ _ (by simp [HasL, puts_at]) ⟨howa21_3, (hfwa21_3.mono (by omega)), howb21_3, (hfwb21_3.mono (by omega)), hb21_6, (hfhb21_6.mono (by omega)), hb21_7, (hfhb21_7.mono (by omega)), ap21, (apart_lt hlhowa21_3 hfhb21_6 (by omega)), (apart_lt hlhowa21_3 hfhb21_7 (by omega)), (apart_lt hlhowb21_3 hfhb21_6 (by omega)), (apart_lt hlhowb21_3 hfhb21_7 (by omega)), (apart_gt hfhb21_6 hlhb21_7 (by omega)), cJ20⟩
        ·simp -implicitDefEqProofs (disch := first | decide | assumption | omega) only [go_sem, BoxAt.cell hb0_2, wrap_id, bD0]
         refine op_alloc (cs := #[.int .i64 0, .slice none 0 0, .slice none 0 0, .slice none 0 0]) (by kernel_rfl) ?_
         intro h21_6 e21_6 hb21_6 z21_6
         replace hD := OS.ext hD e21_6
         replace howa21_3 := OS.ext howa21_3 e21_6
         replace howb21_3 := OS.ext howb21_3 e21_6
         replace hb0_0 := BoxAt.ext hb0_0 e21_6
         replace hb0_1 := BoxAt.ext hb0_1 e21_6
         replace hb0_2 := BoxAt.ext hb0_2 e21_6
         have := Ext.size e21_6
         replace eB := Ext.trans eB e21_6
         replace xQ := Ext.trans xQ e21_6
         replace cJ20 := Ext.trans cJ20 e21_6
         have hfhb21_6 : Fresh h21_3.size [h21_3.size] := Fresh.one _
         have hlhb21_6 := one_lt (show h21_3.size < h21_6.size by omega)
         try simp (disch := decide) only [outv_some, outv_none, put_puts]
         refine plK_pres (Ext.pres e21_6) ?_
         try simp -implicitDefEqProofs (disch := first | decide | assumption | omega) only [go_sem, BoxAt.cell hb0_2, wrap_id, bD0]
         refine And.intro ?_ ?_
         ·simp -implicitDefEqProofs (disch := first | decide | assumption | omega) only [go_sem, ld2, RdS.len hdX sl22, RdS.idx hdX sl22, R1.intB hdX (Ext.pres eB), RdS.cells hdX, RdS.len hmX sl23, RdS.idx hmX sl23, RdS.cellB hmX (Ext.pres eB), RdS.cells hmX, BoxAt.cell hb0_0, wrap_id, bD0]
          refine op_alloc (cs := #[.int .i64 0]) (by kernel_rfl) ?_
          intro h21_7 e21_7 hb21_7 z21_7
          replace hD := OS.ext hD e21_7
          replace howa21_3 := OS.ext howa21_3 e21_7
          replace howb21_3 := OS.ext howb21_3 e21_7
          replace hb0_0 := BoxAt.ext hb0_0 e21_7
          replace hb0_1 := BoxAt.ext hb0_1 e21_7
          replace hb0_2 := BoxAt.ext hb0_2 e21_7
          replace hb21_6 := BoxAt.ext hb21_6 e21_7
          have := Ext.size e21_7
          replace eB := Ext.trans eB e21_7
          replace xQ := Ext.trans xQ e21_7
          replace cJ20 := Ext.trans cJ20 e21_7
          have hfhb21_7 : Fresh h21_6.size [h21_6.size] := Fresh.one _
          have hlhb21_7 := one_lt (show h21_6.size < h21_7.size by omega)
          try simp (disch := decide) only [outv_some, outv_none, put_puts]
          refine plK_pres (Ext.pres e21_7) ?_
          try simp -implicitDefEqProofs (disch := first | decide | assumption | omega) only [go_sem, BoxAt.cell hb0_2, wrap_id, bD0]
          refine op_storeB (cs' := #[.int .i64 (X.p), vhD, vwa21_3, vwb21_3]) st30 hb21_6 rfl rfl rfl (by simp) (allOne_mem (l := [.int .i64 (X.p), vhD, vwa21_3, vwb21_3]) ⟨rfl, (OS.one hD).1, (OS.one howa21_3).1, (OS.one howb21_3).1, trivial⟩) rfl ?_
          intro h21_8 hb21_6 c21_8
          replace hD := OS.chg hD c21_8 (apart_lt hlhD hfhb21_6 (by omega))
          replace howa21_3 := OS.chg howa21_3 c21_8 (apart_lt hlhowa21_3 hfhb21_6 (by omega))
          replace howb21_3 := OS.chg howb21_3 c21_8 (apart_lt hlhowb21_3 hfhb21_6 (by omega))
          replace hb0_0 := BoxAt.chgA hb0_0 c21_8 (apart_lt hlhb0_0 hfhb21_6 (by omega))
          replace hb0_1 := BoxAt.chgA hb0_1 c21_8 (apart_lt hlhb0_1 hfhb21_6 (by omega))
          replace hb0_2 := BoxAt.chgA hb0_2 c21_8 (apart_lt hlhb0_2 hfhb21_6 (by omega))
          replace hb21_7 := BoxAt.chgA hb21_7 c21_8 (apart_gt hfhb21_7 hlhb21_6 (by omega))
          have := c21_8.size
          replace eB := Ext.then eB c21_8 (ge_of hfhb21_6 (by omega))
          replace xQ := Ext.then xQ c21_8 (ge_of hfhb21_6 (by omega))
          replace cJ20 := Ext.then cJ20 c21_8 (ge_of hfhb21_6 (by omega))
          try simp (disch := decide) only [outv_some, outv_none, put_puts]
          refine plK_last (by decide) ?_
          try simp -implicitDefEqProofs (disch := first | decide | assumption | omega) only [go_sem, BoxAt.cell hb0_2, wrap_id, bD0]
          refine op_storeB (cs' := #[.int .i64 (X.p)]) st2 hb21_7 rfl rfl rfl (by simp) (allOne_mem (l := [.int .i64 (X.p)]) ⟨rfl, trivial⟩) rfl ?_
          intro h21_9 hb21_7 c21_9
          replace hD := OS.chg hD c21_9 (apart_lt hlhD hfhb21_7 (by omega))
          replace howa21_3 := OS.chg howa21_3 c21_9 (apart_lt hlhowa21_3 hfhb21_7 (by omega))
          replace howb21_3 := OS.chg howb21_3 c21_9 (apart_lt hlhowb21_3 hfhb21_7 (by omega))
          replace hb0_0 := BoxAt.chgA hb0_0 c21_9 (apart_lt hlhb0_0 hfhb21_7 (by omega))
          replace hb0_1 := BoxAt.chgA hb0_1 c21_9 (apart_lt hlhb0_1 hfhb21_7 (by omega))
          replace hb0_2 := BoxAt.chgA hb0_2 c21_9 (apart_lt hlhb0_2 hfhb21_7 (by omega))
          replace hb21_6 := BoxAt.chgA hb21_6 c21_9 (apart_lt hlhb21_6 hfhb21_7 (by omega))
          have := c21_9.size
          replace eB := Ext.then eB c21_9 (ge_of hfhb21_7 (by omega))
          replace xQ := Ext.then xQ c21_9 (ge_of hfhb21_7 (by omega))
          replace cJ20 := Ext.then cJ20 c21_9 (ge_of hfhb21_7 (by omega))
          try simp (disch := decide) only [outv_some, outv_none, put_puts]
          refine plK_last (by decide) ?_
          try simp -implicitDefEqProofs (disch := first | decide | assumption | omega) only [go_sem, BoxAt.cell hb0_2, wrap_id, bD0]
          exact hK (vwa21_3, fwa21_3, vwb21_3, fwb21_3, h21_3.size, h21_6.size) _ _ (by simp [HasL, puts_at]) ⟨howa21_3, (hfwa21_3.mono (by omega)), howb21_3, (hfwb21_3.mono (by omega)), hb21_6, (hfhb21_6.mono (by omega)), hb21_7, (hfhb21_7.mono (by omega)), ap21, (apart_lt hlhowa21_3 hfhb21_6 (by omega)), (apart_lt hlhowa21_3 hfhb21_7 (by omega)), (apart_lt hlhowb21_3 hfhb21_6 (by omega)), (apart_lt hlhowb21_3 hfhb21_7 (by omega)), (apart_lt hlhb21_6 hfhb21_7 (by omega)), cJ20⟩
         ·simp -implicitDefEqProofs (disch := first | decide | assumption | omega) only [go_sem, BoxAt.cell hb0_2, wrap_id, bD0]
          refine op_alloc (cs := #[.int .i64 0]) (by kernel_rfl) ?_
          intro h21_7 e21_7 hb21_7 z21_7
          replace hD := OS.ext hD e21_7
          replace howa21_3 := OS.ext howa21_3 e21_7
          replace howb21_3 := OS.ext howb21_3 e21_7
          replace hb0_0 := BoxAt.ext hb0_0 e21_7
          replace hb0_1 := BoxAt.ext hb0_1 e21_7
          replace hb0_2 := BoxAt.ext hb0_2 e21_7
          replace hb21_6 := BoxAt.ext hb21_6 e21_7
          have := Ext.size e21_7
          replace eB := Ext.trans eB e21_7
          replace xQ := Ext.trans xQ e21_7
          replace cJ20 := Ext.trans cJ20 e21_7
          have hfhb21_7 : Fresh h21_6.size [h21_6.size] := Fresh.one _
          have hlhb21_7 := one_lt (show h21_6.size < h21_7.size by omega)
          try simp (disch := decide) only [outv_some, outv_none, put_puts]
          refine plK_pres (Ext.pres e21_7) ?_
          try simp -implicitDefEqProofs (disch := first | decide | assumption | omega) only [go_sem, BoxAt.cell hb0_2, wrap_id, bD0]
          refine And.intro ?_ ?_
          ·simp -implicitDefEqProofs (disch := first | decide | assumption | omega) only [go_sem, ld2, RdS.len hdX sl22, RdS.idx hdX sl22, R1.intB hdX (Ext.pres eB), RdS.cells hdX, RdS.len hmX sl23, RdS.idx hmX sl23, RdS.cellB hmX (Ext.pres eB), RdS.cells hmX, BoxAt.cell hb0_0, wrap_id, bD0]
           refine op_storeB (cs' := #[.int .i64 (X.p), vhD, vwa21_3, vwb21_3]) st30 hb21_6 rfl rfl rfl (by simp) (allOne_mem (l := [.int .i64 (X.p), vhD, vwa21_3, vwb21_3]) ⟨rfl, (OS.one hD).1, (OS.one howa21_3).1, (OS.one howb21_3).1, trivial⟩) rfl ?_
           intro h21_8 hb21_6 c21_8
           replace hD := OS.chg hD c21_8 (apart_lt hlhD hfhb21_6 (by omega))
           replace howa21_3 := OS.chg howa21_3 c21_8 (apart_lt hlhowa21_3 hfhb21_6 (by omega))
           replace howb21_3 := OS.chg howb21_3 c21_8 (apart_lt hlhowb21_3 hfhb21_6 (by omega))
           replace hb0_0 := BoxAt.chgA hb0_0 c21_8 (apart_lt hlhb0_0 hfhb21_6 (by omega))
           replace hb0_1 := BoxAt.chgA hb0_1 c21_8 (apart_lt hlhb0_1 hfhb21_6 (by omega))
           replace hb0_2 := BoxAt.chgA hb0_2 c21_8 (apart_lt hlhb0_2 hfhb21_6 (by omega))
           replace hb21_7 := BoxAt.chgA hb21_7 c21_8 (apart_gt hfhb21_7 hlhb21_6 (by omega))
           have := c21_8.size
           replace eB := Ext.then eB c21_8 (ge_of hfhb21_6 (by omega))
           replace xQ := Ext.then xQ c21_8 (ge_of hfhb21_6 (by omega))
           replace cJ20 := Ext.then cJ20 c21_8 (ge_of hfhb21_6 (by omega))
           try simp (disch := decide) only [outv_some, outv_none, put_puts]
           refine plK_last (by decide) ?_
           try simp -implicitDefEqProofs (disch := first | decide | assumption | omega) only [go_sem, BoxAt.cell hb0_2, wrap_id, bD0]
           refine op_storeB (cs' := #[.int .i64 (X.p)]) st2 hb21_7 rfl rfl rfl (by simp) (allOne_mem (l := [.int .i64 (X.p)]) ⟨rfl, trivial⟩) rfl ?_
           intro h21_9 hb21_7 c21_9
           replace hD := OS.chg hD c21_9 (apart_lt hlhD hfhb21_7 (by omega))
           replace howa21_3 := OS.chg howa21_3 c21_9 (apart_lt hlhowa21_3 hfhb21_7 (by omega))
           replace howb21_3 := OS.chg howb21_3 c21_9 (apart_lt hlhowb21_3 hfhb21_7 (by omega))
           replace hb0_0 := BoxAt.chgA hb0_0 c21_9 (apart_lt hlhb0_0 hfhb21_7 (by omega))
           replace hb0_1 := BoxAt.chgA hb0_1 c21_9 (apart_lt hlhb0_1 hfhb21_7 (by omega))
           replace hb0_2 := BoxAt.chgA hb0_2 c21_9 (apart_lt hlhb0_2 hfhb21_7 (by omega))
           replace hb21_6 := BoxAt.chgA hb21_6 c21_9 (apart_lt hlhb21_6 hfhb21_7 (by omega))
           have := c21_9.size
           replace eB := Ext.then eB c21_9 (ge_of hfhb21_7 (by omega))
           replace xQ := Ext.then xQ c21_9 (ge_of hfhb21_7 (by omega))
           replace cJ20 := Ext.then cJ20 c21_9 (ge_of hfhb21_7 (by omega))
           try simp (disch := decide) only [outv_some, outv_none, put_puts]
           refine plK_last (by decide) ?_
           try simp -implicitDefEqProofs (disch := first | decide | assumption | omega) only [go_sem, BoxAt.cell hb0_2, wrap_id, bD0]
           exact hK (vwa21_3, fwa21_3, vwb21_3, fwb21_3, h21_3.size, h21_6.size) _ _ (by simp [HasL, puts_at]) ⟨howa21_3, (hfwa21_3.mono (by omega)), howb21_3, (hfwb21_3.mono (by omega)), hb21_6, (hfhb21_6.mono (by omega)), hb21_7, (hfhb21_7.mono (by omega)), ap21, (apart_lt hlhowa21_3 hfhb21_6 (by omega)), (apart_lt hlhowa21_3 hfhb21_7 (by omega)), (apart_lt hlhowb21_3 hfhb21_6 (by omega)), (apart_lt hlhowb21_3 hfhb21_7 (by omega)), (apart_lt hlhb21_6 hfhb21_7 (by omega)), cJ20⟩
          ·simp -implicitDefEqProofs (disch := first | decide | assumption | omega) only [go_sem, BoxAt.cell hb0_2, wrap_id, bD0]
           refine op_storeB (cs' := #[.int .i64 (X.p), vhD, vwa21_3, vwb21_3]) st30 hb21_6 rfl rfl rfl (by simp) (allOne_mem (l := [.int .i64 (X.p), vhD, vwa21_3, vwb21_3]) ⟨rfl, (OS.one hD).1, (OS.one howa21_3).1, (OS.one howb21_3).1, trivial⟩) rfl ?_
           intro h21_8 hb21_6 c21_8
           replace hD := OS.chg hD c21_8 (apart_lt hlhD hfhb21_6 (by omega))
           replace howa21_3 := OS.chg howa21_3 c21_8 (apart_lt hlhowa21_3 hfhb21_6 (by omega))
           replace howb21_3 := OS.chg howb21_3 c21_8 (apart_lt hlhowb21_3 hfhb21_6 (by omega))
           replace hb0_0 := BoxAt.chgA hb0_0 c21_8 (apart_lt hlhb0_0 hfhb21_6 (by omega))
           replace hb0_1 := BoxAt.chgA hb0_1 c21_8 (apart_lt hlhb0_1 hfhb21_6 (by omega))
           replace hb0_2 := BoxAt.chgA hb0_2 c21_8 (apart_lt hlhb0_2 hfhb21_6 (by omega))
           replace hb21_7 := BoxAt.chgA hb21_7 c21_8 (apart_gt hfhb21_7 hlhb21_6 (by omega))
           have := c21_8.size
           replace eB := Ext.then eB c21_8 (ge_of hfhb21_6 (by omega))
           replace xQ := Ext.then xQ c21_8 (ge_of hfhb21_6 (by omega))
           replace cJ20 := Ext.then cJ20 c21_8 (ge_of hfhb21_6 (by omega))
           try simp (disch := decide) only [outv_some, outv_none, put_puts]
           refine plK_last (by decide) ?_
           try simp -implicitDefEqProofs (disch := first | decide | assumption | omega) only [go_sem, ld2, RdS.len hdX sl22, RdS.idx hdX sl22, R1.intB hdX (Ext.pres eB), RdS.cells hdX, RdS.len hmX sl23, RdS.idx hmX sl23, RdS.cellB hmX (Ext.pres eB), RdS.cells hmX, BoxAt.cell hb0_0, wrap_id, bD0]
           refine op_storeB (cs' := #[.int .i64 (X.p)]) st2 hb21_7 rfl rfl rfl (by simp) (allOne_mem (l := [.int .i64 (X.p)]) ⟨rfl, trivial⟩) rfl ?_
           intro h21_9 hb21_7 c21_9
           replace hD := OS.chg hD c21_9 (apart_lt hlhD hfhb21_7 (by omega))
           replace howa21_3 := OS.chg howa21_3 c21_9 (apart_lt hlhowa21_3 hfhb21_7 (by omega))
           replace howb21_3 := OS.chg howb21_3 c21_9 (apart_lt hlhowb21_3 hfhb21_7 (by omega))
           replace hb0_0 := BoxAt.chgA hb0_0 c21_9 (apart_lt hlhb0_0 hfhb21_7 (by omega))
           replace hb0_1 := BoxAt.chgA hb0_1 c21_9 (apart_lt hlhb0_1 hfhb21_7 (by omega))
           replace hb0_2 := BoxAt.chgA hb0_2 c21_9 (apart_lt hlhb0_2 hfhb21_7 (by omega))
           replace hb21_6 := BoxAt.chgA hb21_6 c21_9 (apart_lt hlhb21_6 hfhb21_7 (by omega))
           have := c21_9.size
           replace eB := Ext.then eB c21_9 (ge_of hfhb21_7 (by omega))
           replace xQ := Ext.then xQ c21_9 (ge_of hfhb21_7 (by omega))
           replace cJ20 := Ext.then cJ20 c21_9 (ge_of hfhb21_7 (by omega))
           try simp (disch := decide) only [outv_some, outv_none, put_puts]
           refine plK_last (by decide) ?_
           try simp -implicitDefEqProofs (disch := first | decide | assumption | omega) only [go_sem, BoxAt.cell hb0_2, wrap_id, bD0]
           exact hK (vwa21_3, fwa21_3, vwb21_3, fwb21_3, h21_3.size, h21_6.size) _ _ (by simp [HasL, puts_at]) ⟨howa21_3, (hfwa21_3.mono (by omega)), howb21_3, (hfwb21_3.mono (by omega)), hb21_6, (hfhb21_6.mono (by omega)), hb21_7, (hfhb21_7.mono (by omega)), ap21, (apart_lt hlhowa21_3 hfhb21_6 (by omega)), (apart_lt hlhowa21_3 hfhb21_7 (by omega)), (apart_lt hlhowb21_3 hfhb21_6 (by omega)), (apart_lt hlhowb21_3 hfhb21_7 (by omega)), (apart_lt hlhb21_6 hfhb21_7 (by omega)), cJ20⟩
        ·simp -implicitDefEqProofs (disch := first | decide | assumption | omega) only [go_sem, BoxAt.cell hb0_2, wrap_id, bD0]
         refine op_alloc (cs := #[.int .i64 0]) (by kernel_rfl) ?_
         intro h21_7 e21_7 hb21_7 z21_7
         replace hD := OS.ext hD e21_7
         replace howa21_3 := OS.ext howa21_3 e21_7
         replace howb21_3 := OS.ext howb21_3 e21_7
         replace hb0_0 := BoxAt.ext hb0_0 e21_7
         replace hb0_1 := BoxAt.ext hb0_1 e21_7
         replace hb0_2 := BoxAt.ext hb0_2 e21_7
         have := Ext.size e21_7
         replace eB := Ext.trans eB e21_7
         replace xQ := Ext.trans xQ e21_7
         replace cJ20 := Ext.trans cJ20 e21_7
         have hfhb21_7 : Fresh h21_3.size [h21_3.size] := Fresh.one _
         have hlhb21_7 := one_lt (show h21_3.size < h21_7.size by omega)
         try simp (disch := decide) only [outv_some, outv_none, put_puts]
         refine plK_pres (Ext.pres e21_7) ?_
         try simp -implicitDefEqProofs (disch := first | decide | assumption | omega) only [go_sem, BoxAt.cell hb0_2, wrap_id, bD0]
         refine And.intro ?_ ?_
         ·simp -implicitDefEqProofs (disch := first | decide | assumption | omega) only [go_sem, ld2, RdS.len hdX sl22, RdS.idx hdX sl22, R1.intB hdX (Ext.pres eB), RdS.cells hdX, RdS.len hmX sl23, RdS.idx hmX sl23, RdS.cellB hmX (Ext.pres eB), RdS.cells hmX, BoxAt.cell hb0_0, wrap_id, bD0]
          refine op_alloc (cs := #[.int .i64 0, .slice none 0 0, .slice none 0 0, .slice none 0 0]) (by kernel_rfl) ?_
          intro h21_6 e21_6 hb21_6 z21_6
          replace hD := OS.ext hD e21_6
          replace howa21_3 := OS.ext howa21_3 e21_6
          replace howb21_3 := OS.ext howb21_3 e21_6
          replace hb0_0 := BoxAt.ext hb0_0 e21_6
          replace hb0_1 := BoxAt.ext hb0_1 e21_6
          replace hb0_2 := BoxAt.ext hb0_2 e21_6
          replace hb21_7 := BoxAt.ext hb21_7 e21_6
          have := Ext.size e21_6
          replace eB := Ext.trans eB e21_6
          replace xQ := Ext.trans xQ e21_6
          replace cJ20 := Ext.trans cJ20 e21_6
          have hfhb21_6 : Fresh h21_7.size [h21_7.size] := Fresh.one _
          have hlhb21_6 := one_lt (show h21_7.size < h21_6.size by omega)
          try simp (disch := decide) only [outv_some, outv_none, put_puts]
          refine plK_pres (Ext.pres e21_6) ?_
          try simp -implicitDefEqProofs (disch := first | decide | assumption | omega) only [go_sem, BoxAt.cell hb0_2, wrap_id, bD0]
          refine op_storeB (cs' := #[.int .i64 (X.p), vhD, vwa21_3, vwb21_3]) st30 hb21_6 rfl rfl rfl (by simp) (allOne_mem (l := [.int .i64 (X.p), vhD, vwa21_3, vwb21_3]) ⟨rfl, (OS.one hD).1, (OS.one howa21_3).1, (OS.one howb21_3).1, trivial⟩) rfl ?_
          intro h21_8 hb21_6 c21_8
          replace hD := OS.chg hD c21_8 (apart_lt hlhD hfhb21_6 (by omega))
          replace howa21_3 := OS.chg howa21_3 c21_8 (apart_lt hlhowa21_3 hfhb21_6 (by omega))
          replace howb21_3 := OS.chg howb21_3 c21_8 (apart_lt hlhowb21_3 hfhb21_6 (by omega))
          replace hb0_0 := BoxAt.chgA hb0_0 c21_8 (apart_lt hlhb0_0 hfhb21_6 (by omega))
          replace hb0_1 := BoxAt.chgA hb0_1 c21_8 (apart_lt hlhb0_1 hfhb21_6 (by omega))
          replace hb0_2 := BoxAt.chgA hb0_2 c21_8 (apart_lt hlhb0_2 hfhb21_6 (by omega))
          replace hb21_7 := BoxAt.chgA hb21_7 c21_8 (apart_lt hlhb21_7 hfhb21_6 (by omega))
          have := c21_8.size
          replace eB := Ext.then eB c21_8 (ge_of hfhb21_6 (by omega))
          replace xQ := Ext.then xQ c21_8 (ge_of hfhb21_6 (by omega))
          replace cJ20 := Ext.then cJ20 c21_8 (ge_of hfhb21_6 (by omega))
          try simp (disch := decide) only [outv_some, outv_none, put_puts]
          refine plK_last (by decide) ?_
          try simp -implicitDefEqProofs (disch := first | decide | assumption | omega) only [go_sem, BoxAt.cell hb0_2, wrap_id, bD0]
          refine op_storeB (cs' := #[.int .i64 (X.p)]) st2 hb21_7 rfl rfl rfl (by simp) (allOne_mem (l := [.int .i64 (X.p)]) ⟨rfl, trivial⟩) rfl ?_
          intro h21_9 hb21_7 c21_9
          replace hD := OS.chg hD c21_9 (apart_lt hlhD hfhb21_7 (by omega))
          replace howa21_3 := OS.chg howa21_3 c21_9 (apart_lt hlhowa21_3 hfhb21_7 (by omega))
          replace howb21_3 := OS.chg howb21_3 c21_9 (apart_lt hlhowb21_3 hfhb21_7 (by omega))
          replace hb0_0 := BoxAt.chgA hb0_0 c21_9 (apart_lt hlhb0_0 hfhb21_7 (by omega))
          replace hb0_1 := BoxAt.chgA hb0_1 c21_9 (apart_lt hlhb0_1 hfhb21_7 (by omega))
          replace hb0_2 := BoxAt.chgA hb0_2 c21_9 (apart_lt hlhb0_2 hfhb21_7 (by omega))
          replace hb21_6 := BoxAt.chgA hb21_6 c21_9 (apart_gt hfhb21_6 hlhb21_7 (by omega))
          have := c21_9.size
          replace eB := Ext.then eB c21_9 (ge_of hfhb21_7 (by omega))
          replace xQ := Ext.then xQ c21_9 (ge_of hfhb21_7 (by omega))
          replace cJ20 := Ext.then cJ20 c21_9 (ge_of hfhb21_7 (by omega))
          try simp (disch := decide) only [outv_some, outv_none, put_puts]
          refine plK_last (by decide) ?_
          try simp -implicitDefEqProofs (disch := first | decide | assumption | omega) only [go_sem, BoxAt.cell hb0_2, wrap_id, bD0]
          exact hK (vwa21_3, fwa21_3, vwb21_3, fwb21_3, h21_7.size, h21_3.size) _ _ (by simp [HasL, puts_at]) ⟨howa21_3, (hfwa21_3.mono (by omega)), howb21_3, (hfwb21_3.mono (by omega)), hb21_6, (hfhb21_6.mono (by omega)), hb21_7, (hfhb21_7.mono (by omega)), ap21, (apart_lt hlhowa21_3 hfhb21_6 (by omega)), (apart_lt hlhowa21_3 hfhb21_7 (by omega)), (apart_lt hlhowb21_3 hfhb21_6 (by omega)), (apart_lt hlhowb21_3 hfhb21_7 (by omega)), (apart_gt hfhb21_6 hlhb21_7 (by omega)), cJ20⟩
         ·simp -implicitDefEqProofs (disch := first | decide | assumption | omega) only [go_sem, BoxAt.cell hb0_2, wrap_id, bD0]
          refine op_alloc (cs := #[.int .i64 0, .slice none 0 0, .slice none 0 0, .slice none 0 0]) (by kernel_rfl) ?_
          intro h21_6 e21_6 hb21_6 z21_6
          replace hD := OS.ext hD e21_6
          replace howa21_3 := OS.ext howa21_3 e21_6
          replace howb21_3 := OS.ext howb21_3 e21_6
          replace hb0_0 := BoxAt.ext hb0_0 e21_6
          replace hb0_1 := BoxAt.ext hb0_1 e21_6
          replace hb0_2 := BoxAt.ext hb0_2 e21_6
          replace hb21_7 := BoxAt.ext hb21_7 e21_6
          have := Ext.size e21_6
          replace eB := Ext.trans eB e21_6
          replace xQ := Ext.trans xQ e21_6
          replace cJ20 := Ext.trans cJ20 e21_6
          have hfhb21_6 : Fresh h21_7.size [h21_7.size] := Fresh.one _
          have hlhb21_6 := one_lt (show h21_7.size < h21_6.size by omega)
          try simp (disch := decide) only [outv_some, outv_none, put_puts]
          refine plK_pres (Ext.pres e21_6) ?_
          try simp -implicitDefEqProofs (disch := first | decide | assumption | omega) only [go_sem, BoxAt.cell hb0_2, wrap_id, bD0]
          refine And.intro ?_ ?_
          ·simp -implicitDefEqProofs (disch := first | decide | assumption | omega) only [go_sem, ld2, RdS.len hdX sl22, RdS.idx hdX sl22, R1.intB hdX (Ext.pres eB), RdS.cells hdX, RdS.len hmX sl23, RdS.idx hmX sl23, RdS.cellB hmX (Ext.pres eB), RdS.cells hmX, BoxAt.cell hb0_0, wrap_id, bD0]
           refine op_storeB (cs' := #[.int .i64 (X.p), vhD, vwa21_3, vwb21_3]) st30 hb21_6 rfl rfl rfl (by simp) (allOne_mem (l := [.int .i64 (X.p), vhD, vwa21_3, vwb21_3]) ⟨rfl, (OS.one hD).1, (OS.one howa21_3).1, (OS.one howb21_3).1, trivial⟩) rfl ?_
           intro h21_8 hb21_6 c21_8
           replace hD := OS.chg hD c21_8 (apart_lt hlhD hfhb21_6 (by omega))
           replace howa21_3 := OS.chg howa21_3 c21_8 (apart_lt hlhowa21_3 hfhb21_6 (by omega))
           replace howb21_3 := OS.chg howb21_3 c21_8 (apart_lt hlhowb21_3 hfhb21_6 (by omega))
           replace hb0_0 := BoxAt.chgA hb0_0 c21_8 (apart_lt hlhb0_0 hfhb21_6 (by omega))
           replace hb0_1 := BoxAt.chgA hb0_1 c21_8 (apart_lt hlhb0_1 hfhb21_6 (by omega))
           replace hb0_2 := BoxAt.chgA hb0_2 c21_8 (apart_lt hlhb0_2 hfhb21_6 (by omega))
           replace hb21_7 := BoxAt.chgA hb21_7 c21_8 (apart_lt hlhb21_7 hfhb21_6 (by omega))
           have := c21_8.size
           replace eB := Ext.then eB c21_8 (ge_of hfhb21_6 (by omega))
           replace xQ := Ext.then xQ c21_8 (ge_of hfhb21_6 (by omega))
           replace cJ20 := Ext.then cJ20 c21_8 (ge_of hfhb21_6 (by omega))
           try simp (disch := decide) only [outv_some, outv_none, put_puts]
           refine plK_last (by decide) ?_
           try simp -implicitDefEqProofs (disch := first | decide | assumption | omega) only [go_sem, BoxAt.cell hb0_2, wrap_id, bD0]
           refine op_storeB (cs' := #[.int .i64 (X.p)]) st2 hb21_7 rfl rfl rfl (by simp) (allOne_mem (l := [.int .i64 (X.p)]) ⟨rfl, trivial⟩) rfl ?_
           intro h21_9 hb21_7 c21_9
           replace hD := OS.chg hD c21_9 (apart_lt hlhD hfhb21_7 (by omega))
           replace howa21_3 := OS.chg howa21_3 c21_9 (apart_lt hlhowa21_3 hfhb21_7 (by omega))
           replace howb21_3 := OS.chg howb21_3 c21_9 (apart_lt hlhowb21_3 hfhb21_7 (by omega))
           replace hb0_0 := BoxAt.chgA hb0_0 c21_9 (apart_lt hlhb0_0 hfhb21_7 (by omega))
           replace hb0_1 := BoxAt.chgA hb0_1 c21_9 (apart_lt hlhb0_1 hfhb21_7 (by omega))
           replace hb0_2 := BoxAt.chgA hb0_2 c21_9 (apart_lt hlhb0_2 hfhb21_7 (by omega))
           replace hb21_6 := BoxAt.chgA hb21_6 c21_9 (apart_gt hfhb21_6 hlhb21_7 (by omega))
           have := c21_9.size
           replace eB := Ext.then eB c21_9 (ge_of hfhb21_7 (by omega))
           replace xQ := Ext.then xQ c21_9 (ge_of hfhb21_7 (by omega))
           replace cJ20 := Ext.then cJ20 c21_9 (ge_of hfhb21_7 (by omega))
           try simp (disch := decide) only [outv_some, outv_none, put_puts]
           refine plK_last (by decide) ?_
           try simp -implicitDefEqProofs (disch := first | decide | assumption | omega) only [go_sem, BoxAt.cell hb0_2, wrap_id, bD0]
           exact hK (vwa21_3, fwa21_3, vwb21_3, fwb21_3, h21_7.size, h21_3.size) _ _ (by simp [HasL, puts_at]) ⟨howa21_3, (hfwa21_3.mono (by omega)), howb21_3, (hfwb21_3.mono (by omega)), hb21_6, (hfhb21_6.mono (by omega)), hb21_7, (hfhb21_7.mono (by omega)), ap21, (apart_lt hlhowa21_3 hfhb21_6 (by omega)), (apart_lt hlhowa21_3 hfhb21_7 (by omega)), (apart_lt hlhowb21_3 hfhb21_6 (by omega)), (apart_lt hlhowb21_3 hfhb21_7 (by omega)), (apart_gt hfhb21_6 hlhb21_7 (by omega)), cJ20⟩
          ·simp -implicitDefEqProofs (disch := first | decide | assumption | omega) only [go_sem, BoxAt.cell hb0_2, wrap_id, bD0]
           refine op_storeB (cs' := #[.int .i64 (X.p), vhD, vwa21_3, vwb21_3]) st30 hb21_6 rfl rfl rfl (by simp) (allOne_mem (l := [.int .i64 (X.p), vhD, vwa21_3, vwb21_3]) ⟨rfl, (OS.one hD).1, (OS.one howa21_3).1, (OS.one howb21_3).1, trivial⟩) rfl ?_
           intro h21_8 hb21_6 c21_8
           replace hD := OS.chg hD c21_8 (apart_lt hlhD hfhb21_6 (by omega))
           replace howa21_3 := OS.chg howa21_3 c21_8 (apart_lt hlhowa21_3 hfhb21_6 (by omega))
           replace howb21_3 := OS.chg howb21_3 c21_8 (apart_lt hlhowb21_3 hfhb21_6 (by omega))
           replace hb0_0 := BoxAt.chgA hb0_0 c21_8 (apart_lt hlhb0_0 hfhb21_6 (by omega))
           replace hb0_1 := BoxAt.chgA hb0_1 c21_8 (apart_lt hlhb0_1 hfhb21_6 (by omega))
           replace hb0_2 := BoxAt.chgA hb0_2 c21_8 (apart_lt hlhb0_2 hfhb21_6 (by omega))
           replace hb21_7 := BoxAt.chgA hb21_7 c21_8 (apart_lt hlhb21_7 hfhb21_6 (by omega))
           have := c21_8.size
           replace eB := Ext.then eB c21_8 (ge_of hfhb21_6 (by omega))
           replace xQ := Ext.then xQ c21_8 (ge_of hfhb21_6 (by omega))
           replace cJ20 := Ext.then cJ20 c21_8 (ge_of hfhb21_6 (by omega))
           try simp (disch := decide) only [outv_some, outv_none, put_puts]
           refine plK_last (by decide) ?_
           try simp -implicitDefEqProofs (disch := first | decide | assumption | omega) only [go_sem, ld2, RdS.len hdX sl22, RdS.idx hdX sl22, R1.intB hdX (Ext.pres eB), RdS.cells hdX, RdS.len hmX sl23, RdS.idx hmX sl23, RdS.cellB hmX (Ext.pres eB), RdS.cells hmX, BoxAt.cell hb0_0, wrap_id, bD0]
           refine op_storeB (cs' := #[.int .i64 (X.p)]) st2 hb21_7 rfl rfl rfl (by simp) (allOne_mem (l := [.int .i64 (X.p)]) ⟨rfl, trivial⟩) rfl ?_
           intro h21_9 hb21_7 c21_9
           replace hD := OS.chg hD c21_9 (apart_lt hlhD hfhb21_7 (by omega))
           replace howa21_3 := OS.chg howa21_3 c21_9 (apart_lt hlhowa21_3 hfhb21_7 (by omega))
           replace howb21_3 := OS.chg howb21_3 c21_9 (apart_lt hlhowb21_3 hfhb21_7 (by omega))
           replace hb0_0 := BoxAt.chgA hb0_0 c21_9 (apart_lt hlhb0_0 hfhb21_7 (by omega))
           replace hb0_1 := BoxAt.chgA hb0_1 c21_9 (apart_lt hlhb0_1 hfhb21_7 (by omega))
           replace hb0_2 := BoxAt.chgA hb0_2 c21_9 (apart_lt hlhb0_2 hfhb21_7 (by omega))
           replace hb21_6 := BoxAt.chgA hb21_6 c21_9 (apart_gt hfhb21_6 hlhb21_7 (by omega))
           have := c21_9.size
           replace eB := Ext.then eB c21_9 (ge_of hfhb21_7 (by omega))
           replace xQ := Ext.then xQ c21_9 (ge_of hfhb21_7 (by omega))
           replace cJ20 := Ext.then cJ20 c21_9 (ge_of hfhb21_7 (by omega))
           try simp (disch := decide) only [outv_some, outv_none, put_puts]
           refine plK_last (by decide) ?_
           try simp -implicitDefEqProofs (disch := first | decide | assumption | omega) only [go_sem, BoxAt.cell hb0_2, wrap_id, bD0]
           exact hK (vwa21_3, fwa21_3, vwb21_3, fwb21_3, h21_7.size, h21_3.size) _ _ (by simp [HasL, puts_at]) ⟨howa21_3, (hfwa21_3.mono (by omega)), howb21_3, (hfwb21_3.mono (by omega)), hb21_6, (hfhb21_6.mono (by omega)), hb21_7, (hfhb21_7.mono (by omega)), ap21, (apart_lt hlhowa21_3 hfhb21_6 (by omega)), (apart_lt hlhowa21_3 hfhb21_7 (by omega)), (apart_lt hlhowb21_3 hfhb21_6 (by omega)), (apart_lt hlhowb21_3 hfhb21_7 (by omega)), (apart_gt hfhb21_6 hlhb21_7 (by omega)), cJ20⟩
       ·simp -implicitDefEqProofs (disch := first | decide | assumption | omega) only [go_sem, ld2, RdS.len hdX sl22, RdS.idx hdX sl22, R1.intB hdX (Ext.pres eB), RdS.cells hdX, RdS.len hmX sl23, RdS.idx hmX sl23, RdS.cellB hmX (Ext.pres eB), RdS.cells hmX, BoxAt.cell hb0_0, wrap_id, bD0]
        refine And.intro ?_ (And.intro ?_ ?_)
        ·simp -implicitDefEqProofs (disch := first | decide | assumption | omega) only [go_sem, BoxAt.cell hb0_2, wrap_id, bD0]
         try simp -implicitDefEqProofs (disch := first | decide | assumption | omega) only [go_sem, BoxAt.cell hb0_2, wrap_id, bD0]
         refine CallA.mono (iBlank_ok X.p _ (pdDl X Y) Y.dims.length _ (OS.rd hD) (by rw [pdDl_len]; omega) (by omega) (fun r hr => pdDl_rl (by rw [pdDl_len] at hr; exact hr)) (fun r c hr hc => by rw [pdDl_len] at hr; rw [pdDl_at hr hc]; have h1 := mul8 (dimsD_nat hX r) (dimsD_nat hY c); omega)) ?_
         intro v_ h21_3
         rintro ⟨vwa21_3, vwb21_3, fwa21_3, fwb21_3, rfl, howa21_3, howb21_3, hfw21_3, e21_3⟩
         replace hD := OS.ext hD e21_3
         replace hb0_0 := BoxAt.ext hb0_0 e21_3
         replace hb0_1 := BoxAt.ext hb0_1 e21_3
         replace hb0_2 := BoxAt.ext hb0_2 e21_3
         have := Ext.size e21_3
         replace eB := Ext.trans eB e21_3
         replace xQ := Ext.trans xQ e21_3
         replace cJ20 := Ext.trans cJ20 e21_3
         have hfwa21_3 := hfw21_3.left
         have hfwb21_3 := hfw21_3.right
         have hlhowa21_3 := OS.lt howa21_3
         have hlhowb21_3 := OS.lt howb21_3
         have ap22 : Apart fwa21_3 fwb21_3 := apart_nodup hfw21_3
         try simp (disch := decide) only [outv_some, outv_none, put_puts]
         refine plK_pres (Ext.pres e21_3) ?_
         try simp -implicitDefEqProofs (disch := first | decide | assumption | omega) only [go_sem, BoxAt.cell hb0_2, wrap_id, bD0]
         refine And.intro ?_ ?_
         ·simp -implicitDefEqProofs (disch := first | decide | assumption | omega) only [go_sem, BoxAt.cell hb0_2, wrap_id, bD0]
          refine op_alloc (cs := #[.int .i64 0, .slice none 0 0, .slice none 0 0, .slice none 0 0]) (by kernel_rfl) ?_
          intro h21_6 e21_6 hb21_6 z21_6
          replace hD := OS.ext hD e21_6
          replace howa21_3 := OS.ext howa21_3 e21_6
          replace howb21_3 := OS.ext howb21_3 e21_6
          replace hb0_0 := BoxAt.ext hb0_0 e21_6
          replace hb0_1 := BoxAt.ext hb0_1 e21_6
          replace hb0_2 := BoxAt.ext hb0_2 e21_6
          have := Ext.size e21_6
          replace eB := Ext.trans eB e21_6
          replace xQ := Ext.trans xQ e21_6
          replace cJ20 := Ext.trans cJ20 e21_6
          have hfhb21_6 : Fresh h21_3.size [h21_3.size] := Fresh.one _
          have hlhb21_6 := one_lt (show h21_3.size < h21_6.size by omega)
          try simp (disch := decide) only [outv_some, outv_none, put_puts]
          refine plK_pres (Ext.pres e21_6) ?_
          try simp -implicitDefEqProofs (disch := first | decide | assumption | omega) only [go_sem, BoxAt.cell hb0_2, wrap_id, bD0]
          refine op_alloc (cs := #[.int .i64 0]) (by kernel_rfl) ?_
          intro h21_7 e21_7 hb21_7 z21_7
          replace hD := OS.ext hD e21_7
          replace howa21_3 := OS.ext howa21_3 e21_7
          replace howb21_3 := OS.ext howb21_3 e21_7
          replace hb0_0 := BoxAt.ext hb0_0 e21_7
          replace hb0_1 := BoxAt.ext hb0_1 e21_7
          replace hb0_2 := BoxAt.ext hb0_2 e21_7
          replace hb21_6 := BoxAt.ext hb21_6 e21_7
          have := Ext.size e21_7
          replace eB := Ext.trans eB e21_7
          replace xQ := Ext.trans xQ e21_7
          replace cJ20 := Ext.trans cJ20 e21_7
          have hfhb21_7 : Fresh h21_6.size [h21_6.size] := Fresh.one _
          have hlhb21_7 := one_lt (show h21_6.size < h21_7.size by omega)
          try simp (disch := decide) only [outv_some, outv_none, put_puts]
          refine plK_pres (Ext.pres e21_7) ?_
          try simp -implicitDefEqProofs (disch := first | decide | assumption | omega) only [go_sem, BoxAt.cell hb0_2, wrap_id, bD0]
          refine op_storeB (cs' := #[.int .i64 (X.p), vhD, vwa21_3, vwb21_3]) st30 hb21_6 rfl rfl rfl (by simp) (allOne_mem (l := [.int .i64 (X.p), vhD, vwa21_3, vwb21_3]) ⟨rfl, (OS.one hD).1, (OS.one howa21_3).1, (OS.one howb21_3).1, trivial⟩) rfl ?_
          intro h21_8 hb21_6 c21_8
          replace hD := OS.chg hD c21_8 (apart_lt hlhD hfhb21_6 (by omega))
          replace howa21_3 := OS.chg howa21_3 c21_8 (apart_lt hlhowa21_3 hfhb21_6 (by omega))
          replace howb21_3 := OS.chg howb21_3 c21_8 (apart_lt hlhowb21_3 hfhb21_6 (by omega))
          replace hb0_0 := BoxAt.chgA hb0_0 c21_8 (apart_lt hlhb0_0 hfhb21_6 (by omega))
          replace hb0_1 := BoxAt.chgA hb0_1 c21_8 (apart_lt hlhb0_1 hfhb21_6 (by omega))
          replace hb0_2 := BoxAt.chgA hb0_2 c21_8 (apart_lt hlhb0_2 hfhb21_6 (by omega))
          replace hb21_7 := BoxAt.chgA hb21_7 c21_8 (apart_gt hfhb21_7 hlhb21_6 (by omega))
          have := c21_8.size
          replace eB := Ext.then eB c21_8 (ge_of hfhb21_6 (by omega))
          replace xQ := Ext.then xQ c21_8 (ge_of hfhb21_6 (by omega))
          replace cJ20 := Ext.then cJ20 c21_8 (ge_of hfhb21_6 (by omega))
          try simp (disch := decide) only [outv_some, outv_none, put_puts]
          refine plK_last (by decide) ?_
          try simp -implicitDefEqProofs (disch := first | decide | assumption | omega) only [go_sem, BoxAt.cell hb0_2, wrap_id, bD0]
          refine op_storeB (cs' := #[.int .i64 (X.p)]) st2 hb21_7 rfl rfl rfl (by simp) (allOne_mem (l := [.int .i64 (X.p)]) ⟨rfl, trivial⟩) rfl ?_
          intro h21_9 hb21_7 c21_9
          replace hD := OS.chg hD c21_9 (apart_lt hlhD hfhb21_7 (by omega))
          replace howa21_3 := OS.chg howa21_3 c21_9 (apart_lt hlhowa21_3 hfhb21_7 (by omega))
          replace howb21_3 := OS.chg howb21_3 c21_9 (apart_lt hlhowb21_3 hfhb21_7 (by omega))
          replace hb0_0 := BoxAt.chgA hb0_0 c21_9 (apart_lt hlhb0_0 hfhb21_7 (by omega))
          replace hb0_1 := BoxAt.chgA hb0_1 c21_9 (apart_lt hlhb0_1 hfhb21_7 (by omega))
          replace hb0_2 := BoxAt.chgA hb0_2 c21_9 (apart_lt hlhb0_2 hfhb21_7 (by omega))
          replace hb21_6 := BoxAt.chgA hb21_6 c21_9 (apart_lt hlhb21_6 hfhb21_7 (by omega))
          have := c21_9.size
          replace eB := Ext.then eB c21_9 (ge_of hfhb21_7 (by omega))
          replace xQ := Ext.then xQ c21_9 (ge_of hfhb21_7 (by omega))
          replace cJ20 := Ext.then cJ20 c21_9 (ge_of hfhb21_7 (by omega))
          try simp (disch := decide) only [outv_some, outv_none, put_puts]
          refine plK_last (by decide) ?_
          try simp -implicitDefEqProofs (disch := first | decide | assumption | omega) only [go_sem, BoxAt.cell hb0_2, wrap_id, bD0]
          exact hK (vwa21_3, fwa21_3, vwb21_3, fwb21_3, h21_3.size, h21_6.size) _ _ (by simp [HasL, puts_at]) ⟨howa21_3, (hfwa21_3.mono (by omega)), howb21_3, (hfwb21_3.mono (by omega)), hb21_6, (hfhb21_6.mono (by omega)), hb21_7, (hfhb21_7.mono (by omega)), ap22, (apart_lt hlhowa21_3 hfhb21_6 (by omega)), (apart_lt hlhowa21_3 hfhb21_7 (by omega)), (apart_lt hlhowb21_3 hfhb21_6 (by omega)), (apart_lt hlhowb21_3 hfhb21_7 (by omega)), (apart_lt hlhb21_6 hfhb21_7 (by omega)), cJ20⟩
         ·simp -implicitDefEqProofs (disch := first | decide | assumption | omega) only [go_sem, BoxAt.cell hb0_2, wrap_id, bD0]
          refine op_alloc (cs := #[.int .i64 0]) (by kernel_rfl) ?_
          intro h21_7 e21_7 hb21_7 z21_7
          replace hD := OS.ext hD e21_7
          replace howa21_3 := OS.ext howa21_3 e21_7
          replace howb21_3 := OS.ext howb21_3 e21_7
          replace hb0_0 := BoxAt.ext hb0_0 e21_7
          replace hb0_1 := BoxAt.ext hb0_1 e21_7
          replace hb0_2 := BoxAt.ext hb0_2 e21_7
          have := Ext.size e21_7
          replace eB := Ext.trans eB e21_7
          replace xQ := Ext.trans xQ e21_7
          replace cJ20 := Ext.trans cJ20 e21_7
          have hfhb21_7 : Fresh h21_3.size [h21_3.size] := Fresh.one _
          have hlhb21_7 := one_lt (show h21_3.size < h21_7.size by omega)
          try simp (disch := decide) only [outv_some, outv_none, put_puts]
          refine plK_pres (Ext.pres e21_7) ?_
          try simp -implicitDefEqProofs (disch := first | decide | assumption | omega) only [go_sem, BoxAt.cell hb0_2, wrap_id, bD0]
          refine op_alloc (cs := #[.int .i64 0, .slice none 0 0, .slice none 0 0, .slice none 0 0]) (by kernel_rfl) ?_
          intro h21_6 e21_6 hb21_6 z21_6
          replace hD := OS.ext hD e21_6
          replace howa21_3 := OS.ext howa21_3 e21_6
          replace howb21_3 := OS.ext howb21_3 e21_6
          replace hb0_0 := BoxAt.ext hb0_0 e21_6
          replace hb0_1 := BoxAt.ext hb0_1 e21_6
          replace hb0_2 := BoxAt.ext hb0_2 e21_6
          replace hb21_7 := BoxAt.ext hb21_7 e21_6
          have := Ext.size e21_6
          replace eB := Ext.trans eB e21_6
          replace xQ := Ext.trans xQ e21_6
          replace cJ20 := Ext.trans cJ20 e21_6
          have hfhb21_6 : Fresh h21_7.size [h21_7.size] := Fresh.one _
          have hlhb21_6 := one_lt (show h21_7.size < h21_6.size by omega)
          try simp (disch := decide) only [outv_some, outv_none, put_puts]
          refine plK_pres (Ext.pres e21_6) ?_
          try simp -implicitDefEqProofs (disch := first | decide | assumption | omega) only [go_sem, BoxAt.cell hb0_2, wrap_id, bD0]
          refine op_storeB (cs' := #[.int .i64 (X.p), vhD, vwa21_3, vwb21_3]) st30 hb21_6 rfl rfl rfl (by simp) (allOne_mem (l := [.int .i64 (X.p), vhD, vwa21_3, vwb21_3]) ⟨rfl, (OS.one hD).1, (OS.one howa21_3).1, (OS.one howb21_3).1, trivial⟩) rfl ?_
          intro h21_8 hb21_6 c21_8
          replace hD := OS.chg hD c21_8 (apart_lt hlhD hfhb21_6 (by omega))
          replace howa21_3 := OS.chg howa21_3 c21_8 (apart_lt hlhowa21_3 hfhb21_6 (by omega))
          replace howb21_3 := OS.chg howb21_3 c21_8 (apart_lt hlhowb21_3 hfhb21_6 (by omega))
          replace hb0_0 := BoxAt.chgA hb0_0 c21_8 (apart_lt hlhb0_0 hfhb21_6 (by omega))
          replace hb0_1 := BoxAt.chgA hb0_1 c21_8 (apart_lt hlhb0_1 hfhb21_6 (by omega))
          replace hb0_2 := BoxAt.chgA hb0_2 c21_8 (apart_lt hlhb0_2 hfhb21_6 (by omega))
          replace hb21_7 := BoxAt.chgA hb21_7 c21_8 (apart_lt hlhb21_7 hfhb21_6 (by omega))
          have := c21_8.size
          replace eB := Ext.then eB c21_8 (ge_of hfhb21_6 (by omega))
          replace xQ := Ext.then xQ c21_8 (ge_of hfhb21_6 (by omega))
          replace cJ20 := Ext.then cJ20 c21_8 (ge_of hfhb21_6 (by omega))
          try simp (disch := decide) only [outv_some, outv_none, put_puts]
          refine plK_last (by decide) ?_
          try simp -implicitDefEqProofs (disch := first | decide | assumption | omega) only [go_sem, BoxAt.cell hb0_2, wrap_id, bD0]
          refine op_storeB (cs' := #[.int .i64 (X.p)]) st2 hb21_7 rfl rfl rfl (by simp) (allOne_mem (l := [.int .i64 (X.p)]) ⟨rfl, trivial⟩) rfl ?_
          intro h21_9 hb21_7 c21_9
          replace hD := OS.chg hD c21_9 (apart_lt hlhD hfhb21_7 (by omega))
          replace howa21_3 := OS.chg howa21_3 c21_9 (apart_lt hlhowa21_3 hfhb21_7 (by omega))
          replace howb21_3 := OS.chg howb21_3 c21_9 (apart_lt hlhowb21_3 hfhb21_7 (by omega))
          replace hb0_0 := BoxAt.chgA hb0_0 c21_9 (apart_lt hlhb0_0 hfhb21_7 (by omega))
          replace hb0_1 := BoxAt.chgA hb0_1 c21_9 (apart_lt hlhb0_1 hfhb21_7 (by omega))
          replace hb0_2 := BoxAt.chgA hb0_2 c21_9 (apart_lt hlhb0_2 hfhb21_7 (by omega))
          replace hb21_6 := BoxAt.chgA hb21_6 c21_9 (apart_gt hfhb21_6 hlhb21_7 (by omega))
          have := c21_9.size
          replace eB := Ext.then eB c21_9 (ge_of hfhb21_7 (by omega))
          replace xQ := Ext.then xQ c21_9 (ge_of hfhb21_7 (by omega))
          replace cJ20 := Ext.then cJ20 c21_9 (ge_of hfhb21_7 (by omega))
          try simp (disch := decide) only [outv_some, outv_none, put_puts]
          refine plK_last (by decide) ?_
          try simp -implicitDefEqProofs (disch := first | decide | assumption | omega) only [go_sem, BoxAt.cell hb0_2, wrap_id, bD0]
          exact hK (vwa21_3, fwa21_3, vwb21_3, fwb21_3, h21_7.size, h21_3.size) _ _ (by simp [HasL, puts_at]) ⟨howa21_3, (hfwa21_3.mono (by omega)), howb21_3, (hfwb21_3.mono (by omega)), hb21_6, (hfhb21_6.mono (by omega)), hb21_7, (hfhb21_7.mono (by omega)), ap22, (apart_lt hlhowa21_3 hfhb21_6 (by omega)), (apart_lt hlhowa21_3 hfhb21_7 (by omega)), (apart_lt hlhowb21_3 hfhb21_6 (by omega)), (apart_lt hlhowb21_3 hfhb21_7 (by omega)), (apart_gt hfhb21_6 hlhb21_7 (by omega)), cJ20⟩
        ·simp -implicitDefEqProofs (disch := first | decide | assumption | omega) only [go_sem, BoxAt.cell hb0_2, wrap_id, bD0]
         refine op_alloc (cs := #[.int .i64 0, .slice none 0 0, .slice none 0 0, .slice none 0 0]) (by kernel_rfl) ?_
         intro h21_6 e21_6 hb21_6 z21_6
         replace hD := OS.ext hD e21_6
         replace hb0_0 := BoxAt.ext hb0_0 e21_6
         replace hb0_1 := BoxAt.ext hb0_1 e21_6
         replace hb0_2 := BoxAt.ext hb0_2 e21_6
         have := Ext.size e21_6
         replace eB := Ext.trans eB e21_6
         replace xQ := Ext.trans xQ e21_6
         replace cJ20 := Ext.trans cJ20 e21_6
         have hfhb21_6 : Fresh h12.size [h12.size] := Fresh.one _
         have hlhb21_6 := one_lt (show h12.size < h21_6.size by omega)
         try simp (disch := decide) only [outv_some, outv_none, put_puts]
         refine plK_pres (Ext.pres e21_6) ?_
         try simp -implicitDefEqProofs (disch := first | decide | assumption | omega) only [go_sem, BoxAt.cell hb0_2, wrap_id, bD0]
         refine And.intro ?_ ?_
         ·simp -implicitDefEqProofs (disch := first | decide | assumption | omega) only [go_sem, BoxAt.cell hb0_2, wrap_id, bD0]
          try simp -implicitDefEqProofs (disch := first | decide | assumption | omega) only [go_sem, BoxAt.cell hb0_2, wrap_id, bD0]
          refine CallA.mono (iBlank_ok X.p _ (pdDl X Y) Y.dims.length _ (OS.rd hD) (by rw [pdDl_len]; omega) (by omega) (fun r hr => pdDl_rl (by rw [pdDl_len] at hr; exact hr)) (fun r c hr hc => by rw [pdDl_len] at hr; rw [pdDl_at hr hc]; have h1 := mul8 (dimsD_nat hX r) (dimsD_nat hY c); omega)) ?_
          intro v_ h21_3
          rintro ⟨vwa21_3, vwb21_3, fwa21_3, fwb21_3, rfl, howa21_3, howb21_3, hfw21_3, e21_3⟩
          replace hD := OS.ext hD e21_3
          replace hb0_0 := BoxAt.ext hb0_0 e21_3
          replace hb0_1 := BoxAt.ext hb0_1 e21_3
          replace hb0_2 := BoxAt.ext hb0_2 e21_3
          replace hb21_6 := BoxAt.ext hb21_6 e21_3
          have := Ext.size e21_3
          replace eB := Ext.trans eB e21_3
          replace xQ := Ext.trans xQ e21_3
          replace cJ20 := Ext.trans cJ20 e21_3
          have hfwa21_3 := hfw21_3.left
          have hfwb21_3 := hfw21_3.right
          have hlhowa21_3 := OS.lt howa21_3
          have hlhowb21_3 := OS.lt howb21_3
          have ap23 : Apart fwa21_3 fwb21_3 := apart_nodup hfw21_3
          try simp (disch := decide) only [outv_some, outv_none, put_puts]
          refine plK_pres (Ext.pres e21_3) ?_
          try simp -implicitDefEqProofs (disch := first | decide | assumption | omega) only [go_sem, BoxAt.cell hb0_2, wrap_id, bD0]
          refine op_alloc (cs := #[.int .i64 0]) (by kernel_rfl) ?_
          intro h21_7 e21_7 hb21_7 z21_7
          replace hD := OS.ext hD e21_7
          replace howa21_3 := OS.ext howa21_3 e21_7
          replace howb21_3 := OS.ext howb21_3 e21_7
          replace hb0_0 := BoxAt.ext hb0_0 e21_7
          replace hb0_1 := BoxAt.ext hb0_1 e21_7
          replace hb0_2 := BoxAt.ext hb0_2 e21_7
          replace hb21_6 := BoxAt.ext hb21_6 e21_7
          have := Ext.size e21_7
          replace eB := Ext.trans eB e21_7
          replace xQ := Ext.trans xQ e21_7
          replace cJ20 := Ext.trans cJ20 e21_7
          have hfhb21_7 : Fresh h21_3.size [h21_3.size] := Fresh.one _
          have hlhb21_7 := one_lt (show h21_3.size < h21_7.size by omega)
          try simp (disch := decide) only [outv_some, outv_none, put_puts]
          refine plK_pres (Ext.pres e21_7) ?_
          try simp -implicitDefEqProofs (disch := first | decide | assumption | omega) only [go_sem, BoxAt.cell hb0_2, wrap_id, bD0]
          refine op_storeB (cs' := #[.int .i64 (X.p), vhD, vwa21_3, vwb21_3]) st30 hb21_6 rfl rfl rfl (by simp) (allOne_mem (l := [.int .i64 (X.p), vhD, vwa21_3, vwb21_3]) ⟨rfl, (OS.one hD).1, (OS.one howa21_3).1, (OS.one howb21_3).1, trivial⟩) rfl ?_
          intro h21_8 hb21_6 c21_8
          replace hD := OS.chg hD c21_8 (apart_lt hlhD hfhb21_6 (by omega))
          replace howa21_3 := OS.chg howa21_3 c21_8 (apart_gt hfwa21_3 hlhb21_6 (by omega))
          replace howb21_3 := OS.chg howb21_3 c21_8 (apart_gt hfwb21_3 hlhb21_6 (by omega))
          replace hb0_0 := BoxAt.chgA hb0_0 c21_8 (apart_lt hlhb0_0 hfhb21_6 (by omega))
          replace hb0_1 := BoxAt.chgA hb0_1 c21_8 (apart_lt hlhb0_1 hfhb21_6 (by omega))
          replace hb0_2 := BoxAt.chgA hb0_2 c21_8 (apart_lt hlhb0_2 hfhb21_6 (by omega))
          replace hb21_7 := BoxAt.chgA hb21_7 c21_8 (apart_gt hfhb21_7 hlhb21_6 (by omega))
          have := c21_8.size
          replace eB := Ext.then eB c21_8 (ge_of hfhb21_6 (by omega))
          replace xQ := Ext.then xQ c21_8 (ge_of hfhb21_6 (by omega))
          replace cJ20 := Ext.then cJ20 c21_8 (ge_of hfhb21_6 (by omega))
          try simp (disch := decide) only [outv_some, outv_none, put_puts]
          refine plK_last (by decide) ?_
          try simp -implicitDefEqProofs (disch := first | decide | assumption | omega) only [go_sem, BoxAt.cell hb0_2, wrap_id, bD0]
          refine op_storeB (cs' := #[.int .i64 (X.p)]) st2 hb21_7 rfl rfl rfl (by simp) (allOne_mem (l := [.int .i64 (X.p)]) ⟨rfl, trivial⟩) rfl ?_
          intro h21_9 hb21_7 c21_9
          replace hD := OS.chg hD c21_9 (apart_lt hlhD hfhb21_7 (by omega))
          replace howa21_3 := OS.chg howa21_3 c21_9 (apart_lt hlhowa21_3 hfhb21_7 (by omega))
          replace howb21_3 := OS.chg howb21_3 c21_9 (apart_lt hlhowb21_3 hfhb21_7 (by omega))
          replace hb0_0 := BoxAt.chgA hb0_0 c21_9 (apart_lt hlhb0_0 hfhb21_7 (by omega))
          replace hb0_1 := BoxAt.chgA hb0_1 c21_9 (apart_lt hlhb0_1 hfhb21_7 (by omega))
          replace hb0_2 := BoxAt.chgA hb0_2 c21_9 (apart_lt hlhb0_2 hfhb21_7 (by omega))
          replace hb21_6 := BoxAt.chgA hb21_6 c21_9 (apart_lt hlhb21_6 hfhb21_7 (by omega))
          have := c21_9.size
          replace eB := Ext.then eB c21_9 (ge_of hfhb21_7 (by omega))
          replace xQ := Ext.then xQ c21_9 (ge_of hfhb21_7 (by omega))
          replace cJ20 := Ext.then cJ20 c21_9 (ge_of hfhb21_7 (by omega))
          try simp (disch := decide) only [outv_some, outv_none, put_puts]
          refine plK_last (by decide) ?_
          try simp -implicitDefEqProofs (disch := first | decide | assumption | omega) only [go_sem, BoxAt.cell hb0_2, wrap_id, bD0]
          exact hK (vwa21_3, fwa21_3, vwb21_3, fwb21_3, h12.size, h21_3.size) _ _ (by simp [HasL, puts_at]) ⟨howa21_3, (hfwa21_3.mono (by omega)), howb21_3, (hfwb21_3.mono (by omega)), hb21_6, (hfhb21_6.mono (by omega)), hb21_7, (hfhb21_7.mono (by omega)), ap23, (apart_gt hfwa21_3 hlhb21_6 (by omega)), (apart_lt hlhowa21_3 hfhb21_7 (by omega)), (apart_gt hfwb21_3 hlhb21_6 (by omega)), (apart_lt hlhowb21_3 hfhb21_7 (by omega)), (apart_lt hlhb21_6 hfhb21_7 (by omega)), cJ20⟩
         ·simp -implicitDefEqProofs (disch := first | decide | assumption | omega) only [go_sem, BoxAt.cell hb0_2, wrap_id, bD0]
          refine op_alloc (cs := #[.int .i64 0]) (by kernel_rfl) ?_
          intro h21_7 e21_7 hb21_7 z21_7
          replace hD := OS.ext hD e21_7
          replace hb0_0 := BoxAt.ext hb0_0 e21_7
          replace hb0_1 := BoxAt.ext hb0_1 e21_7
          replace hb0_2 := BoxAt.ext hb0_2 e21_7
          replace hb21_6 := BoxAt.ext hb21_6 e21_7
          have := Ext.size e21_7
          replace eB := Ext.trans eB e21_7
          replace xQ := Ext.trans xQ e21_7
          replace cJ20 := Ext.trans cJ20 e21_7
          have hfhb21_7 : Fresh h21_6.size [h21_6.size] := Fresh.one _
          have hlhb21_7 := one_lt (show h21_6.size < h21_7.size by omega)
          try simp (disch := decide) only [outv_some, outv_none, put_puts]
          refine plK_pres (Ext.pres e21_7) ?_
          try simp -implicitDefEqProofs (disch := first | decide | assumption | omega) only [go_sem, BoxAt.cell hb0_2, wrap_id, bD0]
          try simp -implicitDefEqProofs (disch := first | decide | assumption | omega) only [go_sem, BoxAt.cell hb0_2, wrap_id, bD0]
          refine CallA.mono (iBlank_ok X.p _ (pdDl X Y) Y.dims.length _ (OS.rd hD) (by rw [pdDl_len]; omega) (by omega) (fun r hr => pdDl_rl (by rw [pdDl_len] at hr; exact hr)) (fun r c hr hc => by rw [pdDl_len] at hr; rw [pdDl_at hr hc]; have h1 := mul8 (dimsD_nat hX r) (dimsD_nat hY c); omega)) ?_
          intro v_ h21_3
          rintro ⟨vwa21_3, vwb21_3, fwa21_3, fwb21_3, rfl, howa21_3, howb21_3, hfw21_3, e21_3⟩
          replace hD := OS.ext hD e21_3
          replace hb0_0 := BoxAt.ext hb0_0 e21_3
          replace hb0_1 := BoxAt.ext hb0_1 e21_3
          replace hb0_2 := BoxAt.ext hb0_2 e21_3
          replace hb21_6 := BoxAt.ext hb21_6 e21_3
          replace hb21_7 := BoxAt.ext hb21_7 e21_3
          have := Ext.size e21_3
          replace eB := Ext.trans eB e21_3
          replace xQ := Ext.trans xQ e21_3
          replace cJ20 := Ext.trans cJ20 e21_3
          have hfwa21_3 := hfw21_3.left
          have hfwb21_3 := hfw21_3.right
          have hlhowa21_3 := OS.lt howa21_3
          have hlhowb21_3 := OS.lt howb21_3
          have ap24 : Apart fwa21_3 fwb21_3 := apart_nodup hfw21_3
          try simp (disch := decide) only [outv_some, outv_none, put_puts]
          refine plK_pres (Ext.pres e21_3) ?_
          try simp -implicitDefEqProofs (disch := first | decide | assumption | omega) only [go_sem, BoxAt.cell hb0_2, wrap_id, bD0]
          refine op_storeB (cs' := #[.int .i64 (X.p), vhD, vwa21_3, vwb21_3]) st30 hb21_6 rfl rfl rfl (by simp) (allOne_mem (l := [.int .i64 (X.p), vhD, vwa21_3, vwb21_3]) ⟨rfl, (OS.one hD).1, (OS.one howa21_3).1, (OS.one howb21_3).1, trivial⟩) rfl ?_
          intro h21_8 hb21_6 c21_8
          replace hD := OS.chg hD c21_8 (apart_lt hlhD hfhb21_6 (by omega))
          replace howa21_3 := OS.chg howa21_3 c21_8 (apart_gt hfwa21_3 hlhb21_6 (by omega))
          replace howb21_3 := OS.chg howb21_3 c21_8 (apart_gt hfwb21_3 hlhb21_6 (by omega))
          replace hb0_0 := BoxAt.chgA hb0_0 c21_8 (apart_lt hlhb0_0 hfhb21_6 (by omega))
          replace hb0_1 := BoxAt.chgA hb0_1 c21_8 (apart_lt hlhb0_1 hfhb21_6 (by omega))
          replace hb0_2 := BoxAt.chgA hb0_2 c21_8 (apart_lt hlhb0_2 hfhb21_6 (by omega))
          replace hb21_7 := BoxAt.chgA hb21_7 c21_8 (apart_gt hfhb21_7 hlhb21_6 (by omega))
          have := c21_8.size
          replace eB := Ext.then eB c21_8 (ge_of hfhb21_6 (by omega))
          replace xQ := Ext.then xQ c21_8 (ge_of hfhb21_6 (by omega))
          replace cJ20 := Ext.then cJ20 c21_8 (ge_of hfhb21_6 (by omega))
          try simp (disch := decide) only [outv_some, outv_none, put_puts]
          refine plK_last (by decide) ?_
          try simp -implicitDefEqProofs (disch := first | decide | assumption | omega) only [go_sem, BoxAt.cell hb0_2, wrap_id, bD0]
          refine op_storeB (cs' := #[.int .i64 (X.p)]) st2 hb21_7 rfl rfl rfl (by simp) (allOne_mem (l := [.int .i64 (X.p)]) ⟨rfl, trivial⟩) rfl ?_
          intro h21_9 hb21_7 c21_9
          replace hD := OS.chg hD c21_9 (apart_lt hlhD hfhb21_7 (by omega))
          replace howa21_3 := OS.chg howa21_3 c21_9 (apart_gt hfwa21_3 hlhb21_7 (by omega))
          replace howb21_3 := OS.chg howb21_3 c21_9 (apart_gt hfwb21_3 hlhb21_7 (by omega))
          replace hb0_0 := BoxAt.chgA hb0_0 c21_9 (apart_lt hlhb0_0 hfhb21_7 (by omega))
          replace hb0_1 := BoxAt.chgA hb0_1 c21_9 (apart_lt hlhb0_1 hfhb21_7 (by omega))
          replace hb0_2 := BoxAt.chgA hb0_2 c21_9 (apart_lt hlhb0_2 hfhb21_7 (by omega))
          replace hb21_6 := BoxAt.chgA hb21_6 c21_9 (apart_lt hlhb21_6 hfhb21_7 (by omega))
          have := c21_9.size
          replace eB := Ext.then eB c21_9 (ge_of hfhb21_7 (by omega))
          replace xQ := Ext.then xQ c21_9 (ge_of hfhb21_7 (by omega))
          replace cJ20 := Ext.then cJ20 c21_9 (ge_of hfhb21_7 (by omega))
          try simp (disch := decide) only [outv_some, outv_none, put_puts]
          refine plK_last (by decide) ?_
          try simp -implicitDefEqProofs (disch := first | decide | assumption | omega) only [go_sem, BoxAt.cell hb0_2, wrap_id, bD0]
          exact hK (vwa21_3, fwa21_3, vwb21_3, fwb21_3, h12.size, h21_6.size) _ _ (by simp [HasL, puts_at]) ⟨howa21_3, (hfwa21_3.mono (by omega)), howb21_3, (hfwb21_3.mono (by omega)), hb21_6, (hfhb21_6.mono (by omega)), hb21_7, (hfhb21_7.mono (by omega)), ap24, (apart_gt hfwa21_3 hlhb21_6 (by omega)), (apart_gt hfwa21_3 hlhb21_7 (by omega)), (apart_gt hfwb21_3 hlhb21_6 (by omega)), (apart_gt hfwb21_3 hlhb21_7 (by omega)), (apart_lt hlhb21_6 hfhb21_7 (by omega)), cJ20⟩
        ·simp -implicitDefEqProofs (disch := first | decide | assumption | omega) only [go_sem, BoxAt.cell hb0_2, wrap_id, bD0]
         refine op_alloc (cs := #[.int .i64 0]) (by kernel_rfl) ?_
         intro h21_7 e21_7 hb21_7 z21_7
         replace hD := OS.ext hD e21_7
         replace hb0_0 := BoxAt.ext hb0_0 e21_7
         replace hb0_1 := BoxAt.ext hb0_1 e21_7
         replace hb0_2 := BoxAt.ext hb0_2 e21_7
         have := Ext.size e21_7
         replace eB := Ext.trans eB e21_7
         replace xQ := Ext.trans xQ e21_7
         replace cJ20 := Ext.trans cJ20 e21_7
         have hfhb21_7 : Fresh h12.size [h12.size] := Fresh.one _
         have hlhb21_7 := one_lt (show h12.size < h21_7.size by omega)
         try simp (disch := decide) only [outv_some, outv_none, put_puts]
         refine plK_pres (Ext.pres e21_7) ?_
         try simp -implicitDefEqProofs (disch := first | decide | assumption | omega) only [go_sem, BoxAt.cell hb0_2, wrap_id, bD0]
         refine And.intro ?_ ?_
         ·simp -implicitDefEqProofs (disch := first | decide | assumption | omega) only [go_sem, BoxAt.cell hb0_2, wrap_id, bD0]
          try simp -implicitDefEqProofs (disch := first | decide | assumption | omega) only [go_sem, BoxAt.cell hb0_2, wrap_id, bD0]
          refine CallA.mono (iBlank_ok X.p _ (pdDl X Y) Y.dims.length _ (OS.rd hD) (by rw [pdDl_len]; omega) (by omega) (fun r hr => pdDl_rl (by rw [pdDl_len] at hr; exact hr)) (fun r c hr hc => by rw [pdDl_len] at hr; rw [pdDl_at hr hc]; have h1 := mul8 (dimsD_nat hX r) (dimsD_nat hY c); omega)) ?_
          intro v_ h21_3
          rintro ⟨vwa21_3, vwb21_3, fwa21_3, fwb21_3, rfl, howa21_3, howb21_3, hfw21_3, e21_3⟩
          replace hD := OS.ext hD e21_3
          replace hb0_0 := BoxAt.ext hb0_0 e21_3
          replace hb0_1 := BoxAt.ext hb0_1 e21_3
          replace hb0_2 := BoxAt.ext hb0_2 e21_3
          replace hb21_7 := BoxAt.ext hb21_7 e21_3
          have := Ext.size e21_3
          replace eB := Ext.trans eB e21_3
          replace xQ := Ext.trans xQ e21_3
          replace cJ20 := Ext.trans cJ20 e21_3
          have hfwa21_3 := hfw21_3.left
          have hfwb21_3 := hfw21_3.right
          have hlhowa21_3 := OS.lt howa21_3
          have hlhowb21_3 := OS.lt howb21_3
          have ap25 : Apart fwa21_3 fwb21_3 := apart_nodup hfw21_3
          try simp (disch := decide) only [outv_some, outv_none, put_puts]
          refine plK_pres (Ext.pres e21_3) ?_
          try simp -implicitDefEqProofs (disch := first | decide | assumption | omega) only [go_sem, BoxAt.cell hb0_2, wrap_id, bD0]
          refine op_alloc (cs := #[.int .i64 0, .slice none 0 0, .slice none 0 0, .slice none 0 0]) (by kernel_rfl) ?_
          intro h21_6 e21_6 hb21_6 z21_6
          replace hD := OS.ext hD e21_6
          replace howa21_3 := OS.ext howa21_3 e21_6
          replace howb21_3 := OS.ext howb21_3 e21_6
          replace hb0_0 := BoxAt.ext hb0_0 e21_6
          replace hb0_1 := BoxAt.ext hb0_1 e21_6
          replace hb0_2 := BoxAt.ext hb0_2 e21_6
          replace hb21_7 := BoxAt.ext hb21_7 e21_6
          have := Ext.size e21_6
          replace eB := Ext.trans eB e21_6
          replace xQ := Ext.trans xQ e21_6
          replace cJ20 := Ext.trans cJ20 e21_6
          have hfhb21_6 : Fresh h21_3.size [h21_3.size] := Fresh.one _
          have hlhb21_6 := one_lt (show h21_3.size < h21_6.size by omega)
          try simp (disch := decide) only [outv_some, outv_none, put_puts]
          refine plK_pres (Ext.pres e21_6) ?_
          try simp -implicitDefEqProofs (disch := first | decide | assumption | omega) only [go_sem, BoxAt.cell hb0_2, wrap_id, bD0]
          refine op_storeB (cs' := #[.int .i64 (X.p), vhD, vwa21_3, vwb21_3]) st30 hb21_6 rfl rfl rfl (by simp) (allOne_mem (l := [.int .i64 (X.p), vhD, vwa21_3, vwb21_3]) ⟨rfl, (OS.one hD).1, (OS.one howa21_3).1, (OS.one howb21_3).1, trivial⟩) rfl ?_
          intro h21_8 hb21_6 c21_8
          replace hD := OS.chg hD c21_8 (apart_lt hlhD hfhb21_6 (by omega))
          replace howa21_3 := OS.chg howa21_3 c21_8 (apart_lt hlhowa21_3 hfhb21_6 (by omega))
          replace howb21_3 := OS.chg howb21_3 c21_8 (apart_lt hlhowb21_3 hfhb21_6 (by omega))
          replace hb0_0 := BoxAt.chgA hb0_0 c21_8 (apart_lt hlhb0_0 hfhb21_6 (by omega))
          replace hb0_1 := BoxAt.chgA hb0_1 c21_8 (apart_lt hlhb0_1 hfhb21_6 (by omega))
          replace hb0_2 := BoxAt.chgA hb0_2 c21_8 (apart_lt hlhb0_2 hfhb21_6 (by omega))
          replace hb21_7 := BoxAt.chgA hb21_7 c21_8 (apart_lt hlhb21_7 hfhb21_6 (by omega))
          have := c21_8.size
          replace eB := Ext.then eB c21_8 (ge_of hfhb21_6 (by omega))
          replace xQ := Ext.then xQ c21_8 (ge_of hfhb21_6 (by omega))
          replace cJ20 := Ext.then cJ20 c21_8 (ge_of hfhb21_6 (by omega))
          try simp (disch := decide) only [outv_some, outv_none, put_puts]
          refine plK_last (by decide) ?_
          try simp -implicitDefEqProofs (disch := first | decide | assumption | omega) only [go_sem, BoxAt.cell hb0_2, wrap_id, bD0]
          refine op_storeB (cs' := #[.int .i64 (X.p)]) st2 hb21_7 rfl rfl rfl (by simp) (allOne_mem (l := [.int .i64 (X.p)]) ⟨rfl, trivial⟩) rfl ?_
          intro h21_9 hb21_7 c21_9
          replace hD := OS.chg hD c21_9 (apart_lt hlhD hfhb21_7 (by omega))
          replace howa21_3 := OS.chg howa21_3 c21_9 (apart_gt hfwa21_3 hlhb21_7 (by omega))
          replace howb21_3 := OS.chg howb21_3 c21_9 (apart_gt hfwb21_3 hlhb21_7 (by omega))
          replace hb0_0 := BoxAt.chgA hb0_0 c21_9 (apart_lt hlhb0_0 hfhb21_7 (by omega))
          replace hb0_1 := BoxAt.chgA hb0_1 c21_9 (apart_lt hlhb0_1 hfhb21_7 (by omega))
          replace hb0_2 := BoxAt.chgA hb0_2 c21_9 (apart_lt hlhb0_2 hfhb21_7 (by omega))
          replace hb21_6 := BoxAt.chgA hb21_6 c21_9 (apart_gt hfhb21_6 hlhb21_7 (by omega))
          have := c21_9.size
          replace eB := Ext.then eB c21_9 (ge_of hfhb21_7 (by omega))
          replace xQ := Ext.then xQ c21_9 (ge_of hfhb21_7 (by omega))
          replace cJ20 := Ext.then cJ20 c21_9 (ge_of hfhb21_7 (by omega))
          try simp (disch := decide) only [outv_some, outv_none, put_puts]
          refine plK_last (by decide) ?_
          try simp -implicitDefEqProofs (disch := first | decide | assumption | omega) only [go_sem, BoxAt.cell hb0_2, wrap_id, bD0]
          exact hK (vwa21_3, fwa21_3, vwb21_3, fwb21_3, h21_3.size, h12.size) _ _ (by simp [HasL, puts_at]) ⟨howa21_3, (hfwa21_3.mono (by omega)), howb21_3, (hfwb21_3.mono (by omega)), hb21_6, (hfhb21_6.mono (by omega)), hb21_7, (hfhb21_7.mono (by omega)), ap25, (apart_lt hlhowa21_3 hfhb21_6 (by omega)), (apart_gt hfwa21_3 hlhb21_7 (by omega)), (apart_lt hlhowb21_3 hfhb21_6 (by omega)), (apart_gt hfwb21_3 hlhb21_7 (by omega)), (apart_gt hfhb21_6 hlhb21_7 (by omega)), cJ20⟩
         ·simp -implicitDefEqProofs (disch := first | decide | assumption | omega) only [go_sem, BoxAt.cell hb0_2, wrap_id, bD0]
          refine op_alloc (cs := #[.int .i64 0, .slice none 0 0, .slice none 0 0, .slice none 0 0]) (by kernel_rfl) ?_
          intro h21_6 e21_6 hb21_6 z21_6
          replace hD := OS.ext hD e21_6
          replace hb0_0 := BoxAt.ext hb0_0 e21_6
          replace hb0_1 := BoxAt.ext hb0_1 e21_6
          replace hb0_2 := BoxAt.ext hb0_2 e21_6
          replace hb21_7 := BoxAt.ext hb21_7 e21_6
          have := Ext.size e21_6
          replace eB := Ext.trans eB e21_6
          replace xQ := Ext.trans xQ e21_6
          replace cJ20 := Ext.trans cJ20 e21_6
          have hfhb21_6 : Fresh h21_7.size [h21_7.size] := Fresh.one _
          have hlhb21_6 := one_lt (show h21_7.size < h21_6.size by omega)
          try simp (disch := decide) only [outv_some, outv_none, put_puts]
          refine plK_pres (Ext.pres e21_6) ?_
          try simp -implicitDefEqProofs (disch := first | decide | assumption | omega) only [go_sem, BoxAt.cell hb0_2, wrap_id, bD0]
          try simp -implicitDefEqProofs (disch := first | decide | assumption | omega) only [go_sem, BoxAt.cell hb0_2, wrap_id, bD0]
          refine CallA.mono (iBlank_ok X.p _ (pdDl X Y) Y.dims.length _ (OS.rd hD) (by rw [pdDl_len]; omega) (by omega) (fun r hr => pdDl_rl (by rw [pdDl_len] at hr; exact hr)) (fun r c hr hc => by rw [pdDl_len] at hr; rw [pdDl_at hr hc]; have h1 := mul8 (dimsD_nat hX r) (dimsD_nat hY c); omega)) ?_
          intro v_ h21_3
          rintro ⟨vwa21_3, vwb21_3, fwa21_3, fwb21_3, rfl, howa21_3, howb21_3, hfw21_3, e21_3⟩
          replace hD := OS.ext hD e21_3
          replace hb0_0 := BoxAt.ext hb0_0 e21_3
          replace hb0_1 := BoxAt.ext hb0_1 e21_3
          replace hb0_2 := BoxAt.ext hb0_2 e21_3
          replace hb21_7 := BoxAt.ext hb21_7 e21_3
          replace hb21_6 := BoxAt.ext hb21_6 e21_3
          have := Ext.size e21_3
          replace eB := Ext.trans eB e21_3
          replace xQ := Ext.trans xQ e21_3
          replace cJ20 := Ext.trans cJ20 e21_3
          have hfwa21_3 := hfw21_3.left
          have hfwb21_3 := hfw21_3.right
          have hlhowa21_3 := OS.lt howa21_3
          have hlhowb21_3 := OS.lt howb21_3
          have ap26 : Apart fwa21_3 fwb21_3 := apart_nodup hfw21_3
          try simp (disch := decide) only [outv_some, outv_none, put_puts]
          refine plK_pres (Ext.pres e21_3) ?_
          try simp -implicitDefEqProofs (disch := first | decide | assumption | omega) only [go_sem, BoxAt.cell hb0_2, wrap_id, bD0]
          refine op_storeB (cs' := #[.int .i64 (X.p), vhD, vwa21_3, vwb21_3]) st30 hb21_6 rfl rfl rfl (by simp) (allOne_mem (l := [.int .i64 (X.p), vhD, vwa21_3, vwb21_3]) ⟨rfl, (OS.one hD).1, (OS.one howa21_3).1, (OS.one howb21_3).1, trivial⟩) rfl ?_
          intro h21_8 hb21_6 c21_8
          replace hD := OS.chg hD c21_8 (apart_lt hlhD hfhb21_6 (by omega))
          replace howa21_3 := OS.chg howa21_3 c21_8 (apart_gt hfwa21_3 hlhb21_6 (by omega))
          replace howb21_3 := OS.chg howb21_3 c21_8 (apart_gt hfwb21_3 hlhb21_6 (by omega))
          replace hb0_0 := BoxAt.chgA hb0_0 c21_8 (apart_lt hlhb0_0 hfhb21_6 (by omega))
          replace hb0_1 := BoxAt.chgA hb0_1 c21_8 (apart_lt hlhb0_1 hfhb21_6 (by omega))
          replace hb0_2 := BoxAt.chgA hb0_2 c21_8 (apart_lt hlhb0_2 hfhb21_6 (by omega))
          replace hb21_7 := BoxAt.chgA hb21_7 c21_8 (apart_lt hlhb21_7 hfhb21_6 (by omega))
          have := c21_8.size
          replace eB := Ext.then eB c21_8 (ge_of hfhb21_6 (by omega))
          replace xQ := Ext.then xQ c21_8 (ge_of hfhb21_6 (by omega))
          replace cJ20 := Ext.then cJ20 c21_8 (ge_of hfhb21_6 (by omega))
          try simp (disch := decide) only [outv_some, outv_none, put_puts]
          refine plK_last (by decide) ?_
          try simp -implicitDefEqProofs (disch := first | decide | assumption | omega) only [go_sem, BoxAt.cell hb0_2, wrap_id, bD0]
          refine op_storeB (cs' := #[.int .i64 (X.p)]) st2 hb21_7 rfl rfl rfl (by simp) (allOne_mem (l := [.int .i64 (X.p)]) ⟨rfl, trivial⟩) rfl ?_
          intro h21_9 hb21_7 c21_9
          replace hD := OS.chg hD c21_9 (apart_lt hlhD hfhb21_7 (by omega))
          replace howa21_3 := OS.chg howa21_3 c21_9 (apart_gt hfwa21_3 hlhb21_7 (by omega))
          replace howb21_3 := OS.chg howb21_3 c21_9 (apart_gt hfwb21_3 hlhb21_7 (by omega))
          replace hb0_0 := BoxAt.chgA hb0_0 c21_9 (apart_lt hlhb0_0 hfhb21_7 (by omega))
          replace hb0_1 := BoxAt.chgA hb0_1 c21_9 (apart_lt hlhb0_1 hfhb21_7 (by omega))
          replace hb0_2 := BoxAt.chgA hb0_2 c21_9 (apart_lt hlhb0_2 hfhb21_7 (by omega))
          replace hb21_6 := BoxAt.chgA hb21_6 c21_9 (apart_gt hfhb21_6 hlhb21_7 (by omega))
          have := c21_9.size
          replace eB := Ext.then eB c21_9 (ge_of hfhb21_7 (by omega))
          replace xQ := Ext.then xQ c21_9 (ge_of hfhb21_7 (by omega))
          replace cJ20 := Ext.then cJ20 c21_9 (ge_of hfhb21_7 (by omega))
          try simp (disch := decide) only [outv_some, outv_none, put_puts]
          refine plK_last (by decide) ?_
          try simp -implicitDefEqProofs (disch := first | decide | assumption | omega) only [go_sem, BoxAt.cell hb0_2, wrap_id, bD0]
          exact hK (vwa21_3, fwa21_3, vwb21_3, fwb21_3, h21_7.size, h12.size) _ _ (by simp [HasL, puts_at]) ⟨howa21_3, (hfwa21_3.mono (by omega)), howb21_3, (hfwb21_3.mono (by omega)), hb21_6, (hfhb21_6.mono (by omega)), hb21_7, (hfhb21_7.mono (by omega)), ap26, (apart_gt hfwa21_3 hlhb21_6 (by omega)), (apart_gt hfwa21_3 hlhb21_7 (by omega)), (apart_gt hfwb21_3 hlhb21_6 (by omega)), (apart_gt hfwb21_3 hlhb21_7 (by omega)), (apart_gt hfhb21_6 hlhb21_7 (by omega)), cJ20⟩
       ·simp -implicitDefEqProofs (disch := first | decide | assumption | omega) only [go_sem, BoxAt.cell hb0_2, wrap_id, bD0]
        refine op_alloc (cs := #[.int .i64 0, .slice none 0 0, .slice none 0 0, .slice none 0 0]) (by kernel_rfl) ?_
        intro h21_6 e21_6 hb21_6 z21_6
        replace hD := OS.ext hD e21_6
        replace hb0_0 := BoxAt.ext hb0_0 e21_6
        replace hb0_1 := BoxAt.ext hb0_1 e21_6
        replace hb0_2 := BoxAt.ext hb0_2 e21_6
        have := Ext.size e21_6
        replace eB := Ext.trans eB e21_6
        replace xQ := Ext.trans xQ e21_6
        replace cJ20 := Ext.trans cJ20 e21_6
        have hfhb21_6 : Fresh h12.size [h12.size] := Fresh.one _
        have hlhb21_6 := one_lt (show h12.size < h21_6.size by omega)
        try simp (disch := decide) only [outv_some, outv_none, put_puts]
        refine plK_pres (Ext.pres e21_6) ?_
        try simp -implicitDefEqProofs (disch := first | decide | assumption | omega) only [go_sem, BoxAt.cell hb0_2, wrap_id, bD0]
        refine And.intro ?_ (And.intro ?_ ?_)
        ·simp -implicitDefEqProofs (disch := first | decide | assumption | omega) only [go_sem, BoxAt.cell hb0_2, wrap_id, bD0]
         try simp -implicitDefEqProofs (disch := first | decide | assumption | omega) only [go_sem, BoxAt.cell hb0_2, wrap_id, bD0]
         refine CallA.mono (iBlank_ok X.p _ (pdDl X Y) Y.dims.length _ (OS.rd hD) (by rw [pdDl_len]; omega) (by omega) (fun r hr => pdDl_rl (by rw [pdDl_len] at hr; exact hr)) (fun r c hr hc => by rw [pdDl_len] at hr; rw [pdDl_at hr hc]; have h1 := mul8 (dimsD_nat hX r) (dimsD_nat hY c); omega)) ?_
         intro v_ h21_3
         rintro ⟨vwa21_3, vwb21_3, fwa21_3, fwb21_3, rfl, howa21_3, howb21_3, hfw21_3, e21_3⟩
         replace hD := OS.ext hD e21_3
         replace hb0_0 := BoxAt.ext hb0_0 e21_3
         replace hb0_1 := BoxAt.ext hb0_1 e21_3
         replace hb0_2 := BoxAt.ext hb0_2 e21_3
         replace hb21_6 := BoxAt.ext hb21_6 e21_3
         have := Ext.size e21_3
         replace eB := Ext.trans eB e21_3
         replace xQ := Ext.trans xQ e21_3
         replace cJ20 := Ext.trans cJ20 e21_3
         have hfwa21_3 := hfw21_3.left
         have hfwb21_3 := hfw21_3.right
         have hlhowa21_3 := OS.lt howa21_3
         have hlhowb21_3 := OS.lt howb21_3
         have ap27 : Apart fwa21_3 fwb21_3 := apart_nodup hfw21_3
         try simp (disch := decide) only [outv_some, outv_none, put_puts]
         refine plK_pres (Ext.pres e21_3) ?_
         try simp -implicitDefEqProofs (disch := first | decide | assumption | omega) only [go_sem, BoxAt.cell hb0_2, wrap_id, bD0]
         refine And.intro ?_ ?_
         ·simp -implicitDefEqProofs (disch := first | decide | assumption | omega) only [go_sem, ld2, RdS.len hdX sl22, RdS.idx hdX sl22, R1.intB hdX (Ext.pres eB), RdS.cells hdX, RdS.len hmX sl23, RdS.idx hmX sl23, RdS.cellB hmX (Ext.pres eB), RdS.cells hmX, BoxAt.cell hb0_0, wrap_id, bD0]
          refine op_alloc (cs := #[.int .i64 0]) (by kernel_rfl) ?_
          intro h21_7 e21_7 hb21_7 z21_7
          replace hD := OS.ext hD e21_7
          replace howa21_3 := OS.ext howa21_3 e21_7
          replace howb21_3 := OS.ext howb21_3 e21_7
          replace hb0_0 := BoxAt.ext hb0_0 e21_7
          replace hb0_1 := BoxAt.ext hb0_1 e21_7
          replace hb0_2 := BoxAt.ext hb0_2 e21_7
          replace hb21_6 := BoxAt.ext hb21_6 e21_7
          have := Ext.size e21_7
          replace eB := Ext.trans eB e21_7
          replace xQ := Ext.trans xQ e21_7
          replace cJ20 := Ext.trans cJ20 e21_7
          have hfhb21_7 : Fresh h21_3.size [h21_3.size] := Fresh.one _
          have hlhb21_7 := one_lt (show h21_3.size < h21_7.size by omega)
          try simp (disch := decide) only [outv_some, outv_none, put_puts]
          refine plK_pres (Ext.pres e21_7) ?_
          try simp -implicitDefEqProofs (disch := first | decide | assumption | omega) only [go_sem, BoxAt.cell hb0_2, wrap_id, bD0]
          refine op_storeB (cs' := #[.int .i64 (X.p), vhD, vwa21_3, vwb21_3]) st30 hb21_6 rfl rfl rfl (by simp) (allOne_mem (l := [.int .i64 (X.p), vhD, vwa21_3, vwb21_3]) ⟨rfl, (OS.one hD).1, (OS.one howa21_3).1, (OS.one howb21_3).1, trivial⟩) rfl ?_
          intro h21_8 hb21_6 c21_8
          replace hD := OS.chg hD c21_8 (apart_lt hlhD hfhb21_6 (by omega))
          replace howa21_3 := OS.chg howa21_3 c21_8 (apart_gt hfwa21_3 hlhb21_6 (by omega))
          replace howb21_3 := OS.chg howb21_3 c21_8 (apart_gt hfwb21_3 hlhb21_6 (by omega))
          replace hb0_0 := BoxAt.chgA hb0_0 c21_8 (apart_lt hlhb0_0 hfhb21_6 (by omega))
          replace hb0_1 := BoxAt.chgA hb0_1 c21_8 (apart_lt hlhb0_1 hfhb21_6 (by omega))
          replace hb0_2 := BoxAt.chgA hb0_2 c21_8 (apart_lt hlhb0_2 hfhb21_6 (by omega))
          replace hb21_7 := BoxAt.chgA hb21_7 c21_8 (apart_gt hfhb21_7 hlhb21_6 (by omega))
          have := c21_8.size
          replace eB := Ext.then eB c21_8 (ge_of hfhb21_6 (by omega))
          replace xQ := Ext.then xQ c21_8 (ge_of hfhb21_6 (by omega))
          replace cJ20 := Ext.then cJ20 c21_8 (ge_of hfhb21_6 (by omega))
          try simp (disch := decide) only [outv_some, outv_none, put_puts]
          refine plK_last (by decide) ?_
          try simp -implicitDefEqProofs (disch := first | decide | assumption | omega) only [go_sem, BoxAt.cell hb0_2, wrap_id, bD0]
          refine op_storeB (cs' := #[.int .i64 (X.p)]) st2 hb21_7 rfl rfl rfl (by simp) (allOne_mem (l := [.int .i64 (X.p)]) ⟨rfl, trivial⟩) rfl ?_
          intro h21_9 hb21_7 c21_9
          replace hD := OS.chg hD c21_9 (apart_lt hlhD hfhb21_7 (by omega))
          replace howa21_3 := OS.chg howa21_3 c21_9 (apart_lt hlhowa21_3 hfhb21_7 (by omega))
          replace howb21_3 := OS.chg howb21_3 c21_9 (apart_lt hlhowb21_3 hfhb21_7 (by omega))
          replace hb0_0 := BoxAt.chgA hb0_0 c21_9 (apart_lt hlhb0_0 hfhb21_7 (by omega))
          replace hb0_1 := BoxAt.chgA hb0_1 c21_9 (apart_lt hlhb0_1 hfhb21_7 (by omega))
          replace hb0_2 := BoxAt.chgA hb0_2 c21_9 (apart_lt hlhb0_2 hfhb21_7 (by omega))
          replace hb21_6 := BoxAt.chgA hb21_6 c21_9 (apart_lt hlhb21_6 hfhb21_7 (by omega))
          have := c21_9.size
          replace eB := Ext.then eB c21_9 (ge_of hfhb21_7 (by omega))
          replace xQ := Ext.then xQ c21_9 (ge_of hfhb21_7 (by omega))
          replace cJ20 := Ext.then cJ20 c21_9 (ge_of hfhb21_7 (by omega))
          try simp (disch := decide) only [outv_some, outv_none, put_puts]
          refine plK_last (by decide) ?_
          try simp -implicitDefEqProofs (disch := first | decide | assumption | omega) only [go_sem, BoxAt.cell hb0_2, wrap_id, bD0]
          exact hK (vwa21_3, fwa21_3, vwb21_3, fwb21_3, h12.size, h21_3.size) _ _ (by simp [HasL, puts_at]) ⟨howa21_3, (hfwa21_3.mono (by omega)), howb21_3, (hfwb21_3.mono (by omega)), hb21_6, (hfhb21_6.mono (by omega)), hb21_7, (hfhb21_7.mono (by omega)), ap27, (apart_gt hfwa21_3 hlhb21_6 (by omega)), (apart_lt hlhowa21_3 hfhb21_7 (by omega)), (apart_gt hfwb21_3 hlhb21_6 (by omega)), (apart_lt hlhowb21_3 hfhb21_7 (by omega)), (apart_lt hlhb21_6 hfhb21_7 (by omega)), cJ20⟩
         ·simp -implicitDefEqProofs (disch := first | decide | assumption | omega) only [go_sem, BoxAt.cell hb0_2, wrap_id, bD0]
          refine op_alloc (cs := #[.int .i64 0]) (by kernel_rfl) ?_
          intro h21_7 e21_7 hb21_7 z21_7
          replace hD := OS.ext hD e21_7
          replace howa21_3 := OS.ext howa21_3 e21_7
          replace howb21_3 := OS.ext howb21_3 e21_7
          replace hb0_0 := BoxAt.ext hb0_0 e21_7
          replace hb0_1 := BoxAt.ext hb0_1 e21_7
          replace hb0_2 := BoxAt.ext hb0_2 e21_7
          replace hb21_6 := BoxAt.ext hb21_6 e21_7
          have := Ext.size e21_7
          replace eB := Ext.trans eB e21_7
          replace xQ := Ext.trans xQ e21_7
          replace cJ20 := Ext.trans cJ20 e21_7
          have hfhb21_7 : Fresh h21_3.size [h21_3.size] := Fresh.one _
          have hlhb21_7 := one_lt (show h21_3.size < h21_7.size by omega)
          try simp (disch := decide) only [outv_some, outv_none, put_puts]
          refine plK_pres (Ext.pres e21_7) ?_
          try simp -implicitDefEqProofs (disch := first | decide | assumption | omega) only [go_sem, BoxAt.cell hb0_2, wrap_id, bD0]
          refine And.intro ?_ ?_
          ·simp -implicitDefEqProofs (disch := first | decide | assumption | omega) only [go_sem, ld2, RdS.len hdX sl22, RdS.idx hdX sl22, R1.intB hdX (Ext.pres eB), RdS.cells hdX, RdS.len hmX sl23, RdS.idx hmX sl23, RdS.cellB hmX (Ext.pres eB), RdS.cells hmX, BoxAt.cell hb0_0, wrap_id, bD0]
           refine op_storeB (cs' := #[.int .i64 (X.p), vhD, vwa21_3, vwb21_3]) st30 hb21_6 rfl rfl rfl (by simp) (allOne_mem (l := [.int .i64 (X.p), vhD, vwa21_3, vwb21_3]) ⟨rfl, (OS.one hD).1, (OS.one howa21_3).1, (OS.one howb21_3).1, trivial⟩) rfl ?_
           intro h21_8 hb21_6 c21_8
           replace hD := OS.chg hD c21_8 (apart_lt hlhD hfhb21_6 (by omega))
           replace howa21_3 := OS.chg howa21_3 c21_8 (apart_gt hfwa21_3 hlhb21_6 (by omega))
           replace howb21_3 := OS.chg howb21_3 c21_8 (apart_gt hfwb21_3 hlhb21_6 (by omega))
           replace hb0_0 := BoxAt.chgA hb0_0 c21_8 (apart_lt hlhb0_0 hfhb21_6 (by omega))
           replace hb0_1 := BoxAt.chgA hb0_1 c21_8 (apart_lt hlhb0_1 hfhb21_6 (by omega))
           replace hb0_2 := BoxAt.chgA hb0_2 c21_8 (apart_lt hlhb0_2 hfhb21_6 (by omega))
           replace hb21_7 := BoxAt.chgA hb21_7 c21_8 (apart_gt hfhb21_7 hlhb21_6 (by omega))
           have := c21_8.size
           replace eB := Ext.then eB c21_8 (ge_of hfhb21_6 (by omega))
           replace xQ := Ext.then xQ c21_8 (ge_of hfhb21_6 (by omega))
           replace cJ20 := Ext.then cJ20 c21_8 (ge_of hfhb21_6 (by omega))
           try simp (disch := decide) only [outv_some, outv_none, put_puts]
           refine plK_last (by decide) ?_
           try simp -implicitDefEqProofs (disch := first | decide | assumption | omega) only [go_sem, BoxAt.cell hb0_2, wrap_id, bD0]
           refine op_storeB (cs' := #[.int .i64 (X.p)]) st2 hb21_7 rfl rfl rfl (by simp) (allOne_mem (l := [.int .i64 (X.p)]) ⟨rfl, trivial⟩) rfl ?_
           intro h21_9 hb21_7 c21_9
           replace hD := OS.chg hD c21_9 (apart_lt hlhD hfhb21_7 (by omega))
           replace howa21_3 := OS.chg howa21_3 c21_9 (apart_lt hlhowa21_3 hfhb21_7 (by omega))
           replace howb21_3 := OS.chg howb21_3 c21_9 (apart_lt hlhowb21_3 hfhb21_7 (by omega))
           replace hb0_0 := BoxAt.chgA hb0_0 c21_9 (apart_lt hlhb0_0 hfhb21_7 (by omega))
           replace hb0_1 := BoxAt.chgA hb0_1 c21_9 (apart_lt hlhb0_1 hfhb21_7 (by omega))
           replace hb0_2 := BoxAt.chgA hb0_2 c21_9 (apart_lt hlhb0_2 hfhb21_7 (by omega))
           replace hb21_6 := BoxAt.chgA hb21_6 c21_9 (apart_lt hlhb21_6 hfhb21_7 (by omega))
           have := c21_9.size
           replace eB := Ext.then eB c21_9 (ge_of hfhb21_7 (by omega))
           replace xQ := Ext.then xQ c21_9 (ge_of hfhb21_7 (by omega))
           replace cJ20 := Ext.then cJ20 c21_9 (ge_of hfhb21_7 (by omega))
           try simp (disch := decide) only [outv_some, outv_none, put_puts]
           refine plK_last (by decide) ?_
           try simp -implicitDefEqProofs (disch := first | decide | assumption | omega) only [go_sem, BoxAt.cell hb0_2, wrap_id, bD0]
           exact hK (vwa21_3, fwa21_3, vwb21_3, fwb21_3, h12.size, h21_3.size) _ _ (by simp [HasL, puts_at]) ⟨howa21_3, (hfwa21_3.mono (by omega)), howb21_3, (hfwb21_3.mono (by omega)), hb21_6, (hfhb21_6.mono (by omega)), hb21_7, (hfhb21_7.mono (by omega)), ap27, (apart_gt hfwa21_3 hlhb21_6 (by omega)), (apart_lt hlhowa21_3 hfhb21_7 (by omega)), (apart_gt hfwb21_3 hlhb21_6 (by omega)), (apart_lt hlhowb21_3 hfhb21_7 (by omega)), (apart_lt hlhb21_6 hfhb21_7 (by omega)), cJ20⟩
          ·simp -implicitDefEqProofs (disch := first | decide | assumption | omega) only [go_sem, BoxAt.cell hb0_2, wrap_id, bD0]
           refine op_storeB (cs' := #[.int .i64 (X.p), vhD, vwa21_3, vwb21_3]) st30 hb21_6 rfl rfl rfl (by simp) (allOne_mem (l := [.int .i64 (X.p), vhD, vwa21_3, vwb21_3]) ⟨rfl, (OS.one hD).1, (OS.one howa21_3).1, (OS.one howb21_3).1, trivial⟩) rfl ?_
           intro h21_8 hb21_6 c21_8
           replace hD := OS.chg hD c21_8 (apart_lt hlhD hfhb21_6 (by omega))
           replace howa21_3 := OS.chg howa21_3 c21_8 (apart_gt hfwa21_3 hlhb21_6 (by omega))
           replace howb21_3 := OS.chg howb21_3 c21_8 (apart_gt hfwb21_3 hlhb21_6 (by omega))
           replace hb0_0 := BoxAt.chgA hb0_0 c21_8 (apart_lt hlhb0_0 hfhb21_6 (by omega))
           replace hb0_1 := BoxAt.chgA hb0_1 c21_8 (apart_lt hlhb0_1 hfhb21_6 (by omega))
           replace hb0_2 := BoxAt.chgA hb0_2 c21_8 (apart_lt hlhb0_2 hfhb21_6 (by omega))
           replace hb21_7 := BoxAt.chgA hb21_7 c21_8 (apart_gt hfhb21_7 hlhb21_6 (by omega))
           have := c21_8.size
           replace eB := Ext.then eB c21_8 (ge_of hfhb21_6 (by omega))
           replace xQ := Ext.then xQ c21_8 (ge_of hfhb21_6 (by omega))
           replace cJ20 := Ext.then cJ20 c21_8 (ge_of hfhb21_6 (by omega))
           try simp (disch := decide) only [outv_some, outv_none, put_puts]
           refine plK_last (by decide) ?_
           try simp -implicitDefEqProofs (disch := first | decide | assumption | omega) only [go_sem, ld2, RdS.len hdX sl22, RdS.idx hdX sl22, R1.intB hdX (Ext.pres eB), RdS.cells hdX, RdS.len hmX sl23, RdS.idx hmX sl23, RdS.cellB hmX (Ext.pres eB), RdS.cells hmX, BoxAt.cell hb0_0, wrap_id, bD0]
           refine op_storeB (cs' := #[.int .i64 (X.p)]) st2 hb21_7 rfl rfl rfl (by simp) (allOne_mem (l := [.int .i64 (X.p)]) ⟨rfl, trivial⟩) rfl ?_
           intro h21_9 hb21_7 c21_9
           replace hD := OS.chg hD c21_9 (apart_lt hlhD hfhb21_7 (by omega))
           replace howa21_3 := OS.chg howa21_3 c21_9 (apart_lt hlhowa21_3 hfhb21_7 (by omega))
           replace howb21_3 := OS.chg howb21_3 c21_9 (apart_lt hlhowb21_3 hfhb21_7 (by omega))
           replace hb0_0 := BoxAt.chgA hb0_0 c21_9 (apart_lt hlhb0_0 hfhb21_7 (by omega))
           replace hb0_1 := BoxAt.chgA hb0_1 c21_9 (apart_lt hlhb0_1 hfhb21_7 (by omega))
           replace hb0_2 := BoxAt.chgA hb0_2 c21_9 (apart_lt hlhb0_2 hfhb21_7 (by omega))
           replace hb21_6 := BoxAt.chgA hb21_6 c21_9 (apart_lt hlhb21_6 hfhb21_7 (by omega))
           have := c21_9.size
           replace eB := Ext.then eB c21_9 (ge_of hfhb21_7 (by omega))
           replace xQ := Ext.then xQ c21_9 (ge_of hfhb21_7 (by omega))
           replace cJ20 := Ext.then cJ20 c21_9 (ge_of hfhb21_7 (by omega))
           try simp (disch := decide) only [outv_some, outv_none, put_puts]
           refine plK_last (by decide) ?_
           try simp -implicitDefEqProofs (disch := first | decide | assumption | omega) only [go_sem, BoxAt.cell hb0_2, wrap_id, bD0]
           exact hK (vwa21_3, fwa21_3, vwb21_3, fwb21_3, h12.size, h21_3.size) _ _ (by simp [HasL, puts_at]) ⟨howa21_3, (hfwa21_3.mono (by omega)), howb21_3, (hfwb21_3.mono (by omega)), hb21_6, (hfhb21_6.mono (by omega)), hb21_7, (hfhb21_7.mono (by omega)), ap27, (apart_gt hfwa21_3 hlhb21_6 (by omega)), (apart_lt hlhowa21_3 hfhb21_7 (by omega)), (apart_gt hfwb21_3 hlhb21_6 (by omega)), (apart_lt hlhowb21_3 hfhb21_7 (by omega)), (apart_lt hlhb21_6 hfhb21_7 (by omega)), cJ20⟩
        ·simp -implicitDefEqProofs (disch := first | decide | assumption | omega) only [go_sem, ld2, RdS.len hdX sl22, RdS.idx hdX sl22, R1.intB hdX (Ext.pres eB), RdS.cells hdX, RdS.len hmX sl23, RdS.idx hmX sl23, RdS.cellB hmX (Ext.pres eB), RdS.cells hmX, BoxAt.cell hb0_0, wrap_id, bD0]
         refine And.intro ?_ ?_
         ·simp -implicitDefEqProofs (disch := first | decide | assumption | omega) only [go_sem, BoxAt.cell hb0_2, wrap_id, bD0]
          try simp -implicitDefEqProofs (disch := first | decide | assumption | omega) only [go_sem, BoxAt.cell hb0_2, wrap_id, bD0]
          refine CallA.mono (iBlank_ok X.p _ (pdDl X Y) Y.dims.length _ (OS.rd hD) (by rw [pdDl_len]; omega) (by omega) (fun r hr => pdDl_rl (by rw [pdDl_len] at hr; exact hr)) (fun r c hr hc => by rw [pdDl_len] at hr; rw [pdDl_at hr hc]; have h1 := mul8 (dimsD_nat hX r) (dimsD_nat hY c); omega)) ?_
          intro v_ h21_3
          rintro ⟨vwa21_3, vwb21_3, fwa21_3, fwb21_3, rfl, howa21_3, howb21_3, hfw21_3, e21_3⟩
          replace hD := OS.ext hD e21_3
          replace hb0_0 := BoxAt.ext hb0_0 e21_3
          replace hb0_1 := BoxAt.ext hb0_1 e21_3
          replace hb0_2 := BoxAt.ext hb0_2 e21_3
          replace hb21_6 := BoxAt.ext hb21_6 e21_3
          have := Ext.size e21_3
          replace eB := Ext.trans eB e21_3
          replace xQ := Ext.trans xQ e21_3
          replace cJ20 := Ext.trans cJ20 e21_3
          have hfwa21_3 := hfw21_3.left
          have hfwb21_3 := hfw21_3.right
          have hlhowa21_3 := OS.lt howa21_3
          have hlhowb21_3 := OS.lt howb21_3
          have ap28 : Apart fwa21_3 fwb21_3 := apart_nodup hfw21_3
          try simp (disch := decide) only [outv_some, outv_none, put_puts]
          refine plK_pres (Ext.pres e21_3) ?_
          try simp -implicitDefEqProofs (disch := first | decide | assumption | omega) only [go_sem, BoxAt.cell hb0_2, wrap_id, bD0]
          refine op_alloc (cs := #[.int .i64 0]) (by kernel_rfl) ?_
          intro h21_7 e21_7 hb21_7 z21_7
          replace hD := OS.ext hD e21_7
          replace howa21_3 := OS.ext howa21_3 e21_7
          replace howb21_3 := OS.ext howb21_3 e21_7
          replace hb0_0 := BoxAt.ext hb0_0 e21_7
          replace hb0_1 := BoxAt.ext hb0_1 e21_7
          replace hb0_2 := BoxAt.ext hb0_2 e21_7
          replace hb21_6 := BoxAt.ext hb21_6 e21_7
          have := Ext.size e21_7
          replace eB := Ext.trans eB e21_7
          replace xQ := Ext.trans xQ e21_7
          replace cJ20 := Ext.trans cJ20 e21_7
          have hfhb21_7 : Fresh h21_3.size [h21_3.size] := Fresh.one _
          have hlhb21_7 := one_lt (show h21_3.size < h21_7.size by omega)
          try simp (disch := decide) only [outv_some, outv_none, put_puts]
          refine plK_pres (Ext.pres e21_7) ?_
          try simp -implicitDefEqProofs (disch := first | decide | assumption | omega) only [go_sem, BoxAt.cell hb0_2, wrap_id, bD0]
          refine op_storeB (cs' := #[.int .i64 (X.p), vhD, vwa21_3, vwb21_3]) st30 hb21_6 rfl rfl rfl (by simp) (allOne_mem (l := [.int .i64 (X.p), vhD, vwa21_3, vwb21_3]) ⟨rfl, (OS.one hD).1, (OS.one howa21_3).1, (OS.one howb21_3).1, trivial⟩) rfl ?_
          intro h21_8 hb21_6 c21_8
          replace hD := OS.chg hD c21_8 (apart_lt hlhD hfhb21_6 (by omega))
          replace howa21_3 := OS.chg howa21_3 c21_8 (apart_gt hfwa21_3 hlhb21_6 (by omega))
          replace howb21_3 := OS.chg howb21_3 c21_8 (apart_gt hfwb21_3 hlhb21_6 (by omega))
          replace hb0_0 := BoxAt.chgA hb0_0 c21_8 (apart_lt hlhb0_0 hfhb21_6 (by omega))
          replace hb0_1 := BoxAt.chgA hb0_1 c21_8 (apart_lt hlhb0_1 hfhb21_6 (by omega))
          replace hb0_2 := BoxAt.chgA hb0_2 c21_8 (apart_lt hlhb0_2 hfhb21_6 (by omega))
          replace hb21_7 := BoxAt.chgA hb21_7 c21_8 (apart_gt hfhb21_7 hlhb21_6 (by omega))
          have := c21_8.size
          replace eB := Ext.then eB c21_8 (ge_of hfhb21_6 (by omega))
          replace xQ := Ext.then xQ c21_8 (ge_of hfhb21_6 (by omega))
          replace cJ20 := Ext.then cJ20 c21_8 (ge_of hfhb21_6 (by omega))
          try simp (disch := decide) only [outv_some, outv_none, put_puts]
          refine plK_last (by decide) ?_
          try simp -implicitDefEqProofs (disch := first | decide | assumption | omega) only [go_sem, BoxAt.cell hb0_2, wrap_id, bD0]
          refine op_storeB (cs' := #[.int .i64 (X.p)]) st2 hb21_7 rfl rfl rfl (by simp) (allOne_mem (l := [.int .i64 (X.p)]) ⟨rfl, trivial⟩) rfl ?_
          intro h21_9 hb21_7 c21_9
          replace hD := OS.chg hD c21_9 (apart_lt hlhD hfhb21_7 (by omega))
          replace howa21_3 := OS.chg howa21_3 c21_9 (apart_lt hlhowa21_3 hfhb21_7 (by omega))
          replace howb21_3 := OS.chg howb21_3 c21_9 (apart_lt hlhowb21_3 hfhb21_7 (by omega))
          replace hb0_0 := BoxAt.chgA hb0_0 c21_9 (apart_lt hlhb0_0 hfhb21_7 (by omega))
          replace hb0_1 := BoxAt.chgA hb0_1 c21_9 (apart_lt hlhb0_1 hfhb21_7 (by omega))
          replace hb0_2 := BoxAt.chgA hb0_2 c21_9 (apart_lt hlhb0_2 hfhb21_7 (by omega))
          replace hb21_6 := BoxAt.chgA hb21_6 c21_9 (apart_lt hlhb21_6 hfhb21_7 (by omega))
          have := c21_9.size
          replace eB := Ext.then eB c21_9 (ge_of hfhb21_7 (by omega))
          replace xQ := Ext.then xQ c21_9 (ge_of hfhb21_7 (by omega))
          replace cJ20 := Ext.then cJ20 c21_9 (ge_of hfhb21_7 (by omega))
          try simp (disch := decide) only [outv_some, outv_none, put_puts]
          refine plK_last (by decide) ?_
          try simp -implicitDefEqProofs (disch := first | decide | assumption | omega) only [go_sem, BoxAt.cell hb0_2, wrap_id, bD0]
          exact hK (vwa21_3, fwa21_3, vwb21_3, fwb21_3, h12.size, h21_3.size) _ _ (by simp [HasL, puts_at]) ⟨howa21_3, (hfwa21_3.mono (by omega)), howb21_3, (hfwb21_3.mono (by omega)), hb21_6, (hfhb21_6.mono (by omega)), hb21_7, (hfhb21_7.mono (by omega)), ap28, (apart_gt hfwa21_3 hlhb21_6 (by omega)), (apart_lt hlhowa21_3 hfhb21_7 (by omega)), (apart_gt hfwb21_3 hlhb21_6 (by omega)), (apart_lt hlhowb21_3 hfhb21_7 (by omega)), (apart_lt hlhb21_6 hfhb21_7 (by omega)), cJ20⟩
         ·simp -implicitDefEqProofs (disch := first | decide | assumption | omega) only [go_sem, BoxAt.cell hb0_2, wrap_id, bD0]
          refine op_alloc (cs := #[.int .i64 0]) (by kernel_rfl) ?_
          intro h21_7 e21_7 hb21_7 z21_7
          replace hD := OS.ext hD e21_7
          replace hb0_0 := BoxAt.ext hb0_0 e21_7
          replace hb0_1 := BoxAt.ext hb0_1 e21_7
          replace hb0_2 := BoxAt.ext hb0_2 e21_7
          replace hb21_6 := BoxAt.ext hb21_6 e21_7
          have := Ext.size e21_7
          replace eB := Ext.trans eB e21_7
          replace xQ := Ext.trans xQ e21_7
          replace cJ20 := Ext.trans cJ20 e21_7
          have hfhb21_7 : Fresh h21_6.size [h21_6.size] := Fresh.one _
          have hlhb21_7 := one_lt (show h21_6.size < h21_7.size by omega)
          try simp (disch := decide) only [outv_some, outv_none, put_puts]
          refine plK_pres (Ext.pres e21_7) ?_
          try simp -implicitDefEqProofs (disch := first | decide | assumption | omega) only [go_sem, BoxAt.cell hb0_2, wrap_id, bD0]
          try simp -implicitDefEqProofs (disch := first | decide | assumption | omega) only [go_sem, BoxAt.cell hb0_2, wrap_id, bD0]
          refine CallA.mono (iBlank_ok X.p _ (pdDl X Y) Y.dims.length _ (OS.rd hD) (by rw [pdDl_len]; omega) (by omega) (fun r hr => pdDl_rl (by rw [pdDl_len] at hr; exact hr)) (fun r c hr hc => by rw [pdDl_len] at hr; rw [pdDl_at hr hc]; have h1 := mul8 (dimsD_nat hX r) (dimsD_nat hY c); omega)) ?_
          intro v_ h21_3
          rintro ⟨vwa21_3, vwb21_3, fwa21_3, fwb21_3, rfl, howa21_3, howb21_3, hfw21_3, e21_3⟩
          replace hD := OS.ext hD e21_3
          replace hb0_0 := BoxAt.ext hb0_0 e21_3
          replace hb0_1 := BoxAt.ext hb0_1 e21_3
          replace hb0_2 := BoxAt.ext hb0_2 e21_3
          replace hb21_6 := BoxAt.ext hb21_6 e21_3
          replace hb21_7 := BoxAt.ext hb21_7 e21_3
          have := Ext.size e21_3
          replace eB := Ext.trans eB e21_3
          replace xQ := Ext.trans xQ e21_3
          replace cJ20 := Ext.trans cJ20 e21_3
          have hfwa21_3 := hfw21_3.left
          have hfwb21_3 := hfw21_3.right
          have hlhowa21_3 := OS.lt howa21_3
          have hlhowb21_3 := OS.lt howb21_3
          have ap29 : Apart fwa21_3 fwb21_3 := apart_nodup hfw21_3
          try simp (disch := decide) only [outv_some, outv_none, put_puts]
          refine plK_pres (Ext.pres e21_3) ?_
          try simp -implicitDefEqProofs (disch := first | decide | assumption | omega) only [go_sem, BoxAt.cell hb0_2, wrap_id, bD0]
          refine op_storeB (cs' := #[.int .i64 (X.p), vhD, vwa21_3, vwb21_3]) st30 hb21_6 rfl rfl rfl (by simp) (allOne_mem (l := [.int .i64 (X.p), vhD, vwa21_3, vwb21_3]) ⟨rfl, (OS.one hD).1, (OS.one howa21_3).1, (OS.one howb21_3).1, trivial⟩) rfl ?_
          intro h21_8 hb21_6 c21_8
          replace hD := OS.chg hD c21_8 (apart_lt hlhD hfhb21_6 (by omega))
          replace howa21_3 := OS.chg howa21_3 c21_8 (apart_gt hfwa21_3 hlhb21_6 (by omega))
          replace howb21_3 := OS.chg howb21_3 c21_8 (apart_gt hfwb21_3 hlhb21_6 (by omega))
          replace hb0_0 := BoxAt.chgA hb0_0 c21_8 (apart_lt hlhb0_0 hfhb21_6 (by omega))
          replace hb0_1 := BoxAt.chgA hb0_1 c21_8 (apart_lt hlhb0_1 hfhb21_6 (by omega))
          replace hb0_2 := BoxAt.chgA hb0_2 c21_8 (apart_lt hlhb0_2 hfhb21_6 (by omega))
          replace hb21_7 := BoxAt.chgA hb21_7 c21_8 (apart_gt hfhb21_7 hlhb21_6 (by omega))
          have := c21_8.size
          replace eB := Ext.then eB c21_8 (ge_of hfhb21_6 (by omega))
          replace xQ := Ext.then xQ c21_8 (ge_of hfhb21_6 (by omega))
          replace cJ20 := Ext.then cJ20 c21_8 (ge_of hfhb21_6 (by omega))
          try simp (disch := decide) only [outv_some, outv_none, put_puts]
          refine plK_last (by decide) ?_
          try simp -implicitDefEqProofs (disch := first | decide | assumption | omega) only [go_sem, BoxAt.cell hb0_2, wrap_id, bD0]
          refine op_storeB (cs' := #[.int .i64 (X.p)]) st2 hb21_7 rfl rfl rfl (by simp) (allOne_mem (l := [.int .i64 (X.p)]) ⟨rfl, trivial⟩) rfl ?_
          intro h21_9 hb21_7 c21_9
          replace hD := OS.chg hD c21_9 (apart_lt hlhD hfhb21_7 (by omega))
          replace howa21_3 := OS.chg howa21_3 c21_9 (apart_gt hfwa21_3 hlhb21_7 (by omega))
          replace howb21_3 := OS.chg howb21_3 c21_9 (apart_gt hfwb21_3 hlhb21_7 (by omega))
          replace hb0_0 := BoxAt.chgA hb0_0 c21_9 (apart_lt hlhb0_0 hfhb21_7 (by omega))
          replace hb0_1 := BoxAt.chgA hb0_1 c21_9 (apart_lt hlhb0_1 hfhb21_7 (by omega))
          replace hb0_2 := BoxAt.chgA hb0_2 c21_9 (apart_lt hlhb0_2 hfhb21_7 (by omega))
          replace hb21_6 := BoxAt.chgA hb21_6 c21_9 (apart_lt hlhb21_6 hfhb21_7 (by omega))
          have := c21_9.size
          replace eB := Ext.then eB c21_9 (ge_of hfhb21_7 (by omega))
          replace xQ := Ext.then xQ c21_9 (ge_of hfhb21_7 (by omega))
          replace cJ20 := Ext.then cJ20 c21_9 (ge_of hfhb21_7 (by omega))
          try simp (disch := decide) only [outv_some, outv_none, put_puts]
          refine plK_last (by decide) ?_
          try simp -implicitDefEqProofs (disch := first | decide | assumption | omega) only [go_sem, BoxAt.cell hb0_2, wrap_id, bD0]
          exact hK (vwa21_3, fwa21_3, vwb21_3, fwb21_3, h12.size, h21_6.size) _ _ (by simp [HasL, puts_at]) ⟨howa21_3, (hfwa21_3.mono (by omega)), howb21_3, (hfwb21_3.mono (by omega)), hb21_6, (hfhb21_6.mono (by omega)), hb21_7, (hfhb21_7.mono (by omega)), ap29, (apart_gt hfwa21_3 hlhb21_6 (by omega)), (apart_gt hfwa21_3 hlhb21_7 (by omega)), (apart_gt hfwb21_3 hlhb21_6 (by omega)), (apart_gt hfwb21_3 hlhb21_7 (by omega)), (apart_lt hlhb21_6 hfhb21_7 (by omega)), cJ20⟩
        ·simp -implicitDefEqProofs (disch := first | decide | assumption | omega) only [go_sem, BoxAt.cell hb0_2, wrap_id, bD0]
         refine op_alloc (cs := #[.int .i64 0]) (by kernel_rfl) ?_
         intro h21_7 e21_7 hb21_7 z21_7
         replace hD := OS.ext hD e21_7
         replace hb0_0 := BoxAt.ext hb0_0 e21_7
         replace hb0_1 := BoxAt.ext hb0_1 e21_7
         replace hb0_2 := BoxAt.ext hb0_2 e21_7
         replace hb21_6 := BoxAt.ext hb21_6 e21_7
         have := Ext.size e21_7
         replace eB := Ext.trans eB e21_7
         replace xQ := Ext.trans xQ e21_7
         replace cJ20 := Ext.trans cJ20 e21_7
         have hfhb21_7 : Fresh h21_6.size [h21_6.size] := Fresh.one _
         have hlhb21_7 := one_lt (show h21_6.size < h21_7.size by omega)
         try simp (disch := decide) only [outv_some, outv_none, put_puts]
         refine plK_pres (Ext.pres e21_7) ?_
         try simp -implicitDefEqProofs (disch := first | decide | assumption | omega) only [go_sem, BoxAt.cell hb0_2, wrap_id, bD0]
         refine And.intro ?_ ?_
         ·simp -implicitDefEqProofs (disch := first | decide | assumption | omega) only [go_sem, BoxAt.cell hb0_2, wrap_id, bD0]
          try simp -implicitDefEqProofs (disch := first | decide | assumption | omega) only [go_sem, BoxAt.cell hb0_2, wrap_id, bD0]
          refine CallA.mono (iBlank_ok X.p _ (pdDl X Y) Y.dims.length _ (OS.rd hD) (by rw [pdDl_len]; omega) (by omega) (fun r hr => pdDl_rl (by rw [pdDl_len] at hr; exact hr)) (fun r c hr hc => by rw [pdDl_len] at hr; rw [pdDl_at hr hc]; have h1 := mul8 (dimsD_nat hX r) (dimsD_nat hY c); omega)) ?_
          intro v_ h21_3
          rintro ⟨vwa21_3, vwb21_3, fwa21_3, fwb21_3, rfl, howa21_3, howb21_3, hfw21_3, e21_3⟩
          replace hD := OS.ext hD e21_3
          replace hb0_0 := BoxAt.ext hb0_0 e21_3
          replace hb0_1 := BoxAt.ext hb0_1 e21_3
          replace hb0_2 := BoxAt.ext hb0_2 e21_3
          replace hb21_6 := BoxAt.ext hb21_6 e21_3
          replace hb21_7 := BoxAt.ext hb21_7 e21_3
          have := Ext.size e21_3
          replace eB := Ext.trans eB e21_3
          replace xQ := Ext.trans xQ e21_3
          replace cJ20 := Ext.trans cJ20 e21_3
          have hfwa21_3 := hfw21_3.left
          have hfwb21_3 := hfw21_3.right
          have hlhowa21_3 := OS.lt howa21_3
          have hlhowb21_3 := OS.lt howb21_3
          have ap30 : Apart fwa21_3 fwb21_3 := apart_nodup hfw21_3
          try simp (disch := decide) only [outv_some, outv_none, put_puts]
          refine plK_pres (Ext.pres e21_3) ?_
          try simp -implicitDefEqProofs (disch := first | decide | assumption | omega) only [go_sem, BoxAt.cell hb0_2, wrap_id, bD0]
          refine And.intro ?_ ?_
          ·simp -implicitDefEqProofs (disch := first | decide | assumption | omega) only [go_sem, ld2, RdS.len hdX sl22, RdS.idx hdX sl22, R1.intB hdX (Ext.pres eB), RdS.cells hdX, RdS.len hmX sl23, RdS.idx hmX sl23, RdS.cellB hmX (Ext.pres eB), RdS.cells hmX, BoxAt.cell hb0_0, wrap_id, bD0]
           refine op_storeB (cs' := #[.int .i64 (X.p), vhD, vwa21_3, vwb21_3]) st30 hb21_6 rfl rfl rfl (by simp) (allOne_mem (l := [.int .i64 (X.p), vhD, vwa21_3, vwb21_3]) ⟨rfl, (OS.one hD).1, (OS.one howa21_3).1, (OS.one howb21_3).1, trivial⟩) rfl ?_
           intro h21_8 hb21_6 c21_8
           replace hD := OS.chg hD c21_8 (apart_lt hlhD hfhb21_6 (by omega))
           replace howa21_3 := OS.chg howa21_3 c21_8 (apart_gt hfwa21_3 hlhb21_6 (by omega))
           replace howb21_3 := OS.chg howb21_3 c21_8 (apart_gt hfwb21_3 hlhb21_6 (by omega))
           replace hb0_0 := BoxAt.chgA hb0_0 c21_8 (apart_lt hlhb0_0 hfhb21_6 (by omega))
           replace hb0_1 := BoxAt.chgA hb0_1 c21_8 (apart_lt hlhb0_1 hfhb21_6 (by omega))
           replace hb0_2 := BoxAt.chgA hb0_2 c21_8 (apart_lt hlhb0_2 hfhb21_6 (by omega))
           replace hb21_7 := BoxAt.chgA hb21_7 c21_8 (apart_gt hfhb21_7 hlhb21_6 (by omega))
           have := c21_8.size
           replace eB := Ext.then eB c21_8 (ge_of hfhb21_6 (by omega))
           replace xQ := Ext.then xQ c21_8 (ge_of hfhb21_6 (by omega))
           replace cJ20 := Ext.then cJ20 c21_8 (ge_of hfhb21_6 (by omega))
           try simp (disch := decide) only [outv_some, outv_none, put_puts]
           refine plK_last (by decide) ?_
           try simp -implicitDefEqProofs (disch := first | decide | assumption | omega) only [go_sem, BoxAt.cell hb0_2, wrap_id, bD0]
           refine op_storeB (cs' := #[.int .i64 (X.p)]) st2 hb21_7 rfl rfl rfl (by simp) (allOne_mem (l := [.int .i64 (X.p)]) ⟨rfl, trivial⟩) rfl ?_
           intro h21_9 hb21_7 c21_9
           replace hD := OS.chg hD c21_9 (apart_lt hlhD hfhb21_7 (by omega))
           replace howa21_3 := OS.chg howa21_3 c21_9 (apart_gt hfwa21_3 hlhb21_7 (by omega))
           replace howb21_3 := OS.chg howb21_3 c21_9 (apart_gt hfwb21_3 hlhb21_7 (by omega))
           replace hb0_0 := BoxAt.chgA hb0_0 c21_9 (apart_lt hlhb0_0 hfhb21_7 (by omega))
           replace hb0_1 := BoxAt.chgA hb0_1 c21_9 (apart_lt hlhb0_1 hfhb21_7 (by omega))
           replace hb0_2 := BoxAt.chgA hb0_2 c21_9 (apart_lt hlhb0_2 hfhb21_7 (by omega))
           replace hb21_6 := BoxAt.chgA hb21_6 c21_9 (apart_lt hlhb21_6 hfhb21_7 (by omega))
           have := c21_9.size
           replace eB := Ext.then eB c21_9 (ge_of hfhb21_7 (by omega))
           replace xQ := Ext.then xQ c21_9 (ge_of hfhb21_7 (by omega))
           replace cJ20 := Ext.then cJ20 c21_9 (ge_of hfhb21_7 (by omega))
           try simp (disch := decide) only [outv_some, outv_none, put_puts]
           refine plK_last (by decide) ?_
           try simp -implicitDefEqProofs (disch := first | decide | assumption | omega) only [go_sem, BoxAt.cell hb0_2, wrap_id, bD0]
           exact hK (vwa21_3, fwa21_3, vwb21_3, fwb21_3, h12.size, h21_6.size) _ _ (by simp [HasL, puts_at]) ⟨howa21_3, (hfwa21_3.mono (by omega)), howb21_3, (hfwb21_3.mono (by omega)), hb21_6, (hfhb21_6.mono (by omega)), hb21_7, (hfhb21_7.mono (by omega)), ap30, (apart_gt hfwa21_3 hlhb21_6 (by omega)), (apart_gt hfwa21_3 hlhb21_7 (by omega)), (apart_gt hfwb21_3 hlhb21_6 (by omega)), (apart_gt hfwb21_3 hlhb21_7 (by omega)), (apart_lt hlhb21_6 hfhb21_7 (by omega)), cJ20⟩
          ·simp -implicitDefEqProofs (disch := first | decide | assumption | omega) only [go_sem, BoxAt.cell hb0_2, wrap_id, bD0]
           refine op_storeB (cs' := #[.int .i64 (X.p), vhD, vwa21_3, vwb21_3]) st30 hb21_6 rfl rfl rfl (by simp) (allOne_mem (l := [.int .i64 (X.p), vhD, vwa21_3, vwb21_3]) ⟨rfl, (OS.one hD).1, (OS.one howa21_3).1, (OS.one howb21_3).1, trivial⟩) rfl ?_
           intro h21_8 hb21_6 c21_8
           replace hD := OS.chg hD c21_8 (apart_lt hlhD hfhb21_6 (by omega))
           replace howa21_3 := OS.chg howa21_3 c21_8 (apart_gt hfwa21_3 hlhb21_6 (by omega))
           replace howb21_3 := OS.chg howb21_3 c21_8 (apart_gt hfwb21_3 hlhb21_6 (by omega))
           replace hb0_0 := BoxAt.chgA hb0_0 c21_8 (apart_lt hlhb0_0 hfhb21_6 (by omega))
           replace hb0_1 := BoxAt.chgA hb0_1 c21_8 (apart_lt hlhb0_1 hfhb21_6 (by omega))
           replace hb0_2 := BoxAt.chgA hb0_2 c21_8 (apart_lt hlhb0_2 hfhb21_6 (by omega))
           replace hb21_7 := BoxAt.chgA hb21_7 c21_8 (apart_gt hfhb21_7 hlhb21_6 (by omega))
           have := c21_8.size
           replace eB := Ext.then eB c21_8 (ge_of hfhb21_6 (by omega))
           replace xQ := Ext.then xQ c21_8 (ge_of hfhb21_6 (by omega))
           replace cJ20 := Ext.then cJ20 c21_8 (ge_of hfhb21_6 (by omega))
           try simp (disch := decide) only [outv_some, outv_none, put_puts]
           refine plK_last (by decide) ?_
           try simp -implicitDefEqProofs (disch := first | decide | assumption | omega) only [go_sem, ld2, RdS.len hdX sl22, RdS.idx hdX sl22, R1.intB hdX (Ext.pres eB), RdS.cells hdX, RdS.len hmX sl23, RdS.idx hmX sl23, RdS.cellB hmX (Ext.pres eB), RdS.cells hmX, BoxAt.cell hb0_0, wrap_id, bD0]
           refine op_storeB (cs' := #[.int .i64 (X.p)]) st2 hb21_7 rfl rfl rfl (by simp) (allOne_mem (l := [.int .i64 (X.p)]) ⟨rfl, trivial⟩) rfl ?_
           intro h21_9 hb21_7 c21_9
           replace hD := OS.chg hD c21_9 (apart_lt hlhD hfhb21_7 (by omega))
           replace howa21_3 := OS.chg howa21_3 c21_9 (apart_gt hfwa21_3 hlhb21_7 (by omega))
           replace howb21_3 := OS.chg howb21_3 c21_9 (apart_gt hfwb21_3 hlhb21_7 (by omega))
           replace hb0_0 := BoxAt.chgA hb0_0 c21_9 (apart_lt hlhb0_0 hfhb21_7 (by omega))
           replace hb0_1 := BoxAt.chgA hb0_1 c21_9 (apart_lt hlhb0_1 hfhb21_7 (by omega))
           replace hb0_2 := BoxAt.chgA hb0_2 c21_9 (apart_lt hlhb0_2 hfhb21_7 (by omega))
           replace hb21_6 := BoxAt.chgA hb21_6 c21_9 (apart_lt hlhb21_6 hfhb21_7 (by omega))
           have := c21_9.size
           replace eB := Ext.then eB c21_9 (ge_of hfhb21_7 (by omega))
           replace xQ := Ext.then xQ c21_9 (ge_of hfhb21_7 (by omega))
           replace cJ20 := Ext.then cJ20 c21_9 (ge_of hfhb21_7 (by omega))
           try simp (disch := decide) only [outv_some, outv_none, put_puts]
           refine plK_last (by decide) ?_
           try simp -implicitDefEqProofs (disch := first | decide | assumption | omega) only [go_sem, BoxAt.cell hb0_2, wrap_id, bD0]
           exact hK (vwa21_3, fwa21_3, vwb21_3, fwb21_3, h12.size, h21_6.size) _ _ (by simp [HasL, puts_at]) ⟨howa21_3, (hfwa21_3.mono (by omega)), howb21_3, (hfwb21_3.mono (by omega)), hb21_6, (hfhb21_6.mono (by omega)), hb21_7, (hfhb21_7.mono (by omega)), ap30, (apart_gt hfwa21_3 hlhb21_6 (by omega)), (apart_gt hfwa21_3 hlhb21_7 (by omega)), (apart_gt hfwb21_3 hlhb21_6 (by omega)), (apart_gt hfwb21_3 hlhb21_7 (by omega)), (apart_lt hlhb21_6 hfhb21_7 (by omega)), cJ20⟩
         ·simp -implicitDefEqProofs (disch := first | decide | assumption | omega) only [go_sem, ld2, RdS.len hdX sl22, RdS.idx hdX sl22, R1.intB hdX (Ext.pres eB), RdS.cells hdX, RdS.len hmX sl23, RdS.idx hmX sl23, RdS.cellB hmX (Ext.pres eB), RdS.cells hmX, BoxAt.cell hb0_0, wrap_id, bD0]
          try simp -implicitDefEqProofs (disch := first | decide | assumption | omega) only [go_sem, BoxAt.cell hb0_2, wrap_id, bD0]
          refine CallA.mono (iBlank_ok X.p _ (pdDl X Y) Y.dims.length _ (OS.rd hD) (by rw [pdDl_len]; omega) (by omega) (fun r hr => pdDl_rl (by rw [pdDl_len] at hr; exact hr)) (fun r c hr hc => by rw [pdDl_len] at hr; rw [pdDl_at hr hc]; have h1 := mul8 (dimsD_nat hX r) (dimsD_nat hY c); omega)) ?_
          intro v_ h21_3
          rintro ⟨vwa21_3, vwb21_3, fwa21_3, fwb21_3, rfl, howa21_3, howb21_3, hfw21_3, e21_3⟩
          replace hD := OS.ext hD e21_3
          replace hb0_0 := BoxAt.ext hb0_0 e21_3
          replace hb0_1 := BoxAt.ext hb0_1 e21_3
          replace hb0_2 := BoxAt.ext hb0_2 e21_3
          replace hb21_6 := BoxAt.ext hb21_6 e21_3
          replace hb21_7 := BoxAt.ext hb21_7 e21_3
          have := Ext.size e21_3
          replace eB := Ext.trans eB e21_3
          replace xQ := Ext.trans xQ e21_3
          replace cJ20 := Ext.trans cJ20 e21_3
          have hfwa21_3 := hfw21_3.left
          have hfwb21_3 := hfw21_3.right
          have hlhowa21_3 := OS.lt howa21_3
          have hlhowb21_3 := OS.lt howb21_3
          have ap31 : Apart fwa21_3 fwb21_3 := apart_nodup hfw21_3
          try simp (disch := decide) only [outv_some, outv_none, put_puts]
          refine plK_pres (Ext.pres e21_3) ?_
          try simp -implicitDefEqProofs (disch := first | decide | assumption | omega) only [go_sem, BoxAt.cell hb0_2, wrap_id, bD0]
          refine op_storeB (cs' := #[.int .i64 (X.p), vhD, vwa21_3, vwb21_3]) st30 hb21_6 rfl rfl rfl (by simp) (allOne_mem (l := [.int .i64 (X.p), vhD, vwa21_3, vwb21_3]) ⟨rfl, (OS.one hD).1, (OS.one howa21_3).1, (OS.one howb21_3).1, trivial⟩) rfl ?_
          intro h21_8 hb21_6 c21_8
          replace hD := OS.chg hD c21_8 (apart_lt hlhD hfhb21_6 (by omega))
          replace howa21_3 := OS.chg howa21_3 c21_8 (apart_gt hfwa21_3 hlhb21_6 (by omega))
          replace howb21_3 := OS.chg howb21_3 c21_8 (apart_gt hfwb21_3 hlhb21_6 (by omega))
          replace hb0_0 := BoxAt.chgA hb0_0 c21_8 (apart_lt hlhb0_0 hfhb21_6 (by omega))
          replace hb0_1 := BoxAt.chgA hb0_1 c21_8 (apart_lt hlhb0_1 hfhb21_6 (by omega))
          replace hb0_2 := BoxAt.chgA hb0_2 c21_8 (apart_lt hlhb0_2 hfhb21_6 (by omega))
          replace hb21_7 := BoxAt.chgA hb21_7 c21_8 (apart_gt hfhb21_7 hlhb21_6 (by omega))
          have := c21_8.size
          replace eB := Ext.then eB c21_8 (ge_of hfhb21_6 (by omega))
          replace xQ := Ext.then xQ c21_8 (ge_of hfhb21_6 (by omega))
          replace cJ20 := Ext.then cJ20 c21_8 (ge_of hfhb21_6 (by omega))
          try simp (disch := decide) only [outv_some, outv_none, put_puts]
          refine plK_last (by decide) ?_
          try simp -implicitDefEqProofs (disch := first | decide | assumption | omega) only [go_sem, BoxAt.cell hb0_2, wrap_id, bD0]
          refine op_storeB (cs' := #[.int .i64 (X.p)]) st2 hb21_7 rfl rfl rfl (by simp) (allOne_mem (l := [.int .i64 (X.p)]) ⟨rfl, trivial⟩) rfl ?_
          intro h21_9 hb21_7 c21_9
          replace hD := OS.chg hD c21_9 (apart_lt hlhD hfhb21_7 (by omega))
          replace howa21_3 := OS.chg howa21_3 c21_9 (apart_gt hfwa21_3 hlhb21_7 (by omega))
          replace howb21_3 := OS.chg howb21_3 c21_9 (apart_gt hfwb21_3 hlhb21_7 (by omega))
          replace hb0_0 := BoxAt.chgA hb0_0 c21_9 (apart_lt hlhb0_0 hfhb21_7 (by omega))
          replace hb0_1 := BoxAt.chgA hb0_1 c21_9 (apart_lt hlhb0_1 hfhb21_7 (by omega))
          replace hb0_2 := BoxAt.chgA hb0_2 c21_9 (apart_lt hlhb0_2 hfhb21_7 (by omega))
          replace hb21_6 := BoxAt.chgA hb21_6 c21_9 (apart_lt hlhb21_6 hfhb21_7 (by omega))
          have := c21_9.size
          replace eB := Ext.then eB c21_9 (ge_of hfhb21_7 (by omega))
          replace xQ := Ext.then xQ c21_9 (ge_of hfhb21_7 (by omega))
          replace cJ20 := Ext.then cJ20 c21_9 (ge_of hfhb21_7 (by omega))
          try simp (disch := decide) only [outv_some, outv_none, put_puts]
          refine plK_last (by decide) ?_
          try simp -implicitDefEqProofs (disch := first | decide | assumption | omega) only [go_sem, BoxAt.cell hb0_2, wrap_id, bD0]
          exact hK (vwa21_3, fwa21_3, vwb21_3, fwb21_3, h12.size, h21_6.size) _ _ (by simp [HasL, puts_at]) ⟨howa21_3, (hfwa21_3.mono (by omega)), howb21_3, (hfwb21_3.mono (by omega)), hb21_6, (hfhb21_6.mono (by omega)), hb21_7, (hfhb21_7.mono (by omega)), ap31, (apart_gt hfwa21_3 hlhb21_6 (by omega)), (apart_gt hfwa21_3 hlhb21_7 (by omega)), (apart_gt hfwb21_3 hlhb21_6 (by omega)), (apart_gt hfwb21_3 hlhb21_7 (by omega)), (apart_lt hlhb21_6 hfhb21_7 (by omega)), cJ20⟩
       ·simp -implicitDefEqProofs (disch := first | decide | assumption | omega) only [go_sem, BoxAt.cell hb0_2, wrap_id, bD0]
        refine op_alloc (cs := #[.int .i64 0]) (by kernel_rfl) ?_
        intro h21_7 e21_7 hb21_7 z21_7
        replace hD := OS.ext hD e21_7
        replace hb0_0 := BoxAt.ext hb0_0 e21_7
        replace hb0_1 := BoxAt.ext hb0_1 e21_7
        replace hb0_2 := BoxAt.ext hb0_2 e21_7
        have := Ext.size e21_7
        replace eB := Ext.trans eB e21_7
        replace xQ := Ext.trans xQ e21_7
        replace cJ20 := Ext.trans cJ20 e21_7
        have hfhb21_7 : Fresh h12.size [h12.size] := Fresh.one _
        have hlhb21_7 := one_lt (show h12.size < h21_7.size by omega)
        try simp (disch := decide) only [outv_some, outv_none, put_puts]
        refine plK_pres (Ext.pres e21_7) ?_
        try simp -implicitDefEqProofs (disch := first | decide | assumption | omega) only [go_sem, BoxAt.cell hb0_2, wrap_id, bD0]
        refine And.intro ?_ (And.intro ?_ ?_)
        ·simp -implicitDefEqProofs (disch := first | decide | assumption | omega) only [go_sem, BoxAt.cell hb0_2, wrap_id, bD0]
         try simp -implicitDefEqProofs (disch := first | decide | assumption | omega) only [go_sem, BoxAt.cell hb0_2, wrap_id, bD0]
         refine CallA.mono (iBlank_ok X.p _ (pdDl X Y) Y.dims.length _ (OS.rd hD) (by rw [pdDl_len]; omega) (by omega) (fun r hr => pdDl_rl (by rw [pdDl_len] at hr; exact hr)) (fun r c hr hc => by rw [pdDl_len] at hr; rw [pdDl_at hr hc]; have h1 := mul8 (dimsD_nat hX r) (dimsD_nat hY c); omega)) ?_
         intro v_ h21_3
         rintro ⟨vwa21_3, vwb21_3, fwa21_3, fwb21_3, rfl, howa21_3, howb21_3, hfw21_3, e21_3⟩
         replace hD := OS.ext hD e21_3
         replace hb0_0 := BoxAt.ext hb0_0 e21_3
         replace hb0_1 := BoxAt.ext hb0_1 e21_3
         replace hb0_2 := BoxAt.ext hb0_2 e21_3
         replace hb21_7 := BoxAt.ext hb21_7 e21_3
         have := Ext.size e21_3
         replace eB := Ext.trans eB e21_3
         replace xQ := Ext.trans xQ e21_3
         replace cJ20 := Ext.trans cJ20 e21_3
         have hfwa21_3 := hfw21_3.left
         have hfwb21_3 := hfw21_3.right
         have hlhowa21_3 := OS.lt howa21_3
         have hlhowb21_3 := OS.lt howb21_3
         have ap32 : Apart fwa21_3 fwb21_3 := apart_nodup hfw21_3
         try simp (disch := decide) only [outv_some, outv_none, put_puts]
         refine plK_pres (Ext.pres e21_3) ?_
         try simp -implicitDefEqProofs (disch := first | decide | assumption | omega) only [go_sem, BoxAt.cell hb0_2, wrap_id, bD0]
         refine And.intro ?_ ?_
         ·simp -implicitDefEqProofs (disch := first | decide | assumption | omega) only [go_sem, ld2, RdS.len hdX sl22, RdS.idx hdX sl22, R1.intB hdX (Ext.pres eB), RdS.cells hdX, RdS.len hmX sl23, RdS.idx hmX sl23, RdS.cellB hmX (Ext.pres eB), RdS.cells hmX, BoxAt.cell hb0_0, wrap_id, bD0]
          refine op_alloc (cs := #[.int .i64 0, .slice none 0 0, .slice none 0 0, .slice none 0 0]) (by kernel_rfl) ?_
          intro h21_6 e21_6 hb21_6 z21_6
          replace hD := OS.ext hD e21_6
          replace howa21_3 := OS.ext howa21_3 e21_6
          replace howb21_3 := OS.ext howb21_3 e21_6
          replace hb0_0 := BoxAt.ext hb0_0 e21_6
          replace hb0_1 := BoxAt.ext hb0_1 e21_6
          replace hb0_2 := BoxAt.ext hb0_2 e21_6
          replace hb21_7 := BoxAt.ext hb21_7 e21_6
          have := Ext.size e21_6
          replace eB := Ext.trans eB e21_6
          replace xQ := Ext.trans xQ e21_6
          replace cJ20 := Ext.trans cJ20 e21_6
          have hfhb21_6 : Fresh h21_3.size [h21_3.size] := Fresh.one _
          have hlhb21_6 := one_lt (show h21_3.size < h21_6.size by omega)
          try simp (disch := decide) only [outv_some, outv_none, put_puts]
          refine plK_pres (Ext.pres e21_6) ?_
          try simp -implicitDefEqProofs (disch := first | decide | assumption | omega) only [go_sem, BoxAt.cell hb0_2, wrap_id, bD0]
          refine op_storeB (cs' := #[.int .i64 (X.p), vhD, vwa21_3, vwb21_3]) st30 hb21_6 rfl rfl rfl (by simp) (allOne_mem (l := [.int .i64 (X.p), vhD, vwa21_3, vwb21_3]) ⟨rfl, (OS.one hD).1, (OS.one howa21_3).1, (OS.one howb21_3).1, trivial⟩) rfl ?_
          intro h21_8 hb21_6 c21_8
          replace hD := OS.chg hD c21_8 (apart_lt hlhD hfhb21_6 (by omega))
          replace howa21_3 := OS.chg howa21_3 c21_8 (apart_lt hlhowa21_3 hfhb21_6 (by omega))
          replace howb21_3 := OS.chg howb21_3 c21_8 (apart_lt hlhowb21_3 hfhb21_6 (by omega))
          replace hb0_0 := BoxAt.chgA hb0_0 c21_8 (apart_lt hlhb0_0 hfhb21_6 (by omega))
          replace hb0_1 := BoxAt.chgA hb0_1 c21_8 (apart_lt hlhb0_1 hfhb21_6 (by omega))
          replace hb0_2 := BoxAt.chgA hb0_2 c21_8 (apart_lt hlhb0_2 hfhb21_6 (by omega))
          replace hb21_7 := BoxAt.chgA hb21_7 c21_8 (apart_lt hlhb21_7 hfhb21_6 (by omega))
          have := c21_8.size
          replace eB := Ext.then eB c21_8 (ge_of hfhb21_6 (by omega))
          replace xQ := Ext.then xQ c21_8 (ge_of hfhb21_6 (by omega))
          replace cJ20 := Ext.then cJ20 c21_8 (ge_of hfhb21_6 (by omega))
          try simp (disch := decide) only [outv_some, outv_none, put_puts]
          refine plK_last (by decide) ?_
          try simp -implicitDefEqProofs (disch := first | decide | assumption | omega) only [go_sem, BoxAt.cell hb0_2, wrap_id, bD0]
          refine op_storeB (cs' := #[.int .i64 (X.p)]) st2 hb21_7 rfl rfl rfl (by simp) (allOne_mem (l := [.int .i64 (X.p)]) ⟨rfl, trivial⟩) rfl ?_
          intro h21_9 hb21_7 c21_9
          replace hD := OS.chg hD c21_9 (apart_lt hlhD hfhb21_7 (by omega))
          replace howa21_3 := OS.chg howa21_3 c21_9 (apart_gt hfwa21_3 hlhb21_7 (by omega))
          replace howb21_3 := OS.chg howb21_3 c21_9 (apart_gt hfwb21_3 hlhb21_7 (by omega))
          replace hb0_0 := BoxAt.chgA hb0_0 c21_9 (apart_lt hlhb0_0 hfhb21_7 (by omega))
          replace hb0_1 := BoxAt.chgA hb0_1 c21_9 (apart_lt hlhb0_1 hfhb21_7 (by omega))
          replace hb0_2 := BoxAt.chgA hb0_2 c21_9 (apart_lt hlhb0_2 hfhb21_7 (by omega))
          replace hb21_6 := BoxAt.chgA hb21_6 c21_9 (apart_gt hfhb21_6 hlhb21_7 (by omega))
          have := c21_9.size
          replace eB := Ext.then eB c21_9 (ge_of hfhb21_7 (by omega))
          replace xQ := Ext.then xQ c21_9 (ge_of hfhb21_7 (by omega))
          replace cJ20 := Ext.then cJ20 c21_9 (ge_of hfhb21_7 (by omega))
          try simp (disch := decide) only [outv_some, outv_none, put_puts]
          refine plK_last (by decide) ?_
          try simp -implicitDefEqProofs (disch := first | decide | assumption | omega) only [go_sem, BoxAt.cell hb0_2, wrap_id, bD0]
          exact hK (vwa21_3, fwa21_3, vwb21_3, fwb21_3, h21_3.size, h12.size) _ _ (by simp [HasL, puts_at]) ⟨howa21_3, (hfwa21_3.mono (by omega)), howb21_3, (hfwb21_3.mono (by omega)), hb21_6, (hfhb21_6.mono (by omega)), hb21_7, (hfhb21_7.mono (by omega)), ap32, (apart_lt hlhowa21_3 hfhb21_6 (by omega)), (apart_gt hfwa21_3 hlhb21_7 (by omega)), (apart_lt hlhowb21_3 hfhb21_6 (by omega)), (apart_gt hfwb21_3 hlhb21_7 (by omega)), (apart_gt hfhb21_6 hlhb21_7 (by omega)), cJ20⟩
         ·simp -implicitDefEqProofs (disch := first | decide | assumption | omega) only [go_sem, BoxAt.cell hb0_2, wrap_id, bD0]
          refine op_alloc (cs := #[.int .i64 0, .slice none 0 0, .slice none 0 0, .slice none 0 0]) (by kernel_rfl) ?_
          intro h21_6 e21_6 hb21_6 z21_6
          replace hD := OS.ext hD e21_6
          replace howa21_3 := OS.ext howa21_3 e21_6
          replace howb21_3 := OS.ext howb21_3 e21_6
          replace hb0_0 := BoxAt.ext hb0_0 e21_6
          replace hb0_1 := BoxAt.ext hb0_1 e21_6
          replace hb0_2 := BoxAt.ext hb0_2 e21_6
          replace hb21_7 := BoxAt.ext hb21_7 e21_6
          have := Ext.size e21_6
          replace eB := Ext.trans eB e21_6
          replace xQ := Ext.trans xQ e21_6
          replace cJ20 := Ext.trans cJ20 e21_6
          have hfhb21_6 : Fresh h21_3.size [h21_3.size] := Fresh.one _
          have hlhb21_6 := one_lt (show h21_3.size < h21_6.size by omega)
          try simp (disch := decide) only [outv_some, outv_none, put_puts]
          refine plK_pres (Ext.pres e21_6) ?_
          try simp -implicitDefEqProofs (disch := first | decide | assumption | omega) only [go_sem, BoxAt.cell hb0_2, wrap_id, bD0]
          refine And.intro ?_ ?_
          ·simp -implicitDefEqProofs (disch := first | decide | assumption | omega) only [go_sem, ld2, RdS.len hdX sl22, RdS.idx hdX sl22, R1.intB hdX (Ext.pres eB), RdS.cells hdX, RdS.len hmX sl23, RdS.idx hmX sl23, RdS.cellB hmX (Ext.pres eB), RdS.cells hmX, BoxAt.cell hb0_0, wrap_id, bD0]
           refine op_storeB (cs' := #[.int .i64 (X.p), vhD, vwa21_3, vwb21_3]) st30 hb21_6 rfl rfl rfl (by simp) (allOne_mem (l := [.int .i64 (X.p), vhD, vwa21_3, vwb21_3]) ⟨rfl, (OS.one hD).1, (OS.one howa21_3).1, (OS.one howb21_3).1, trivial⟩) rfl ?_
           intro h21_8 hb21_6 c21_8
           replace hD := OS.chg hD c21_8 (apart_lt hlhD hfhb21_6 (by omega))
           replace howa21_3 := OS.chg howa21_3 c21_8 (apart_lt hlhowa21_3 hfhb21_6 (by omega))
           replace howb21_3 := OS.chg howb21_3 c21_8 (apart_lt hlhowb21_3 hfhb21_6 (by omega))
           replace hb0_0 := BoxAt.chgA hb0_0 c21_8 (apart_lt hlhb0_0 hfhb21_6 (by omega))
           replace hb0_1 := BoxAt.chgA hb0_1 c21_8 (apart_lt hlhb0_1 hfhb21_6 (by omega))
           replace hb0_2 := BoxAt.chgA hb0_2 c21_8 (apart_lt hlhb0_2 hfhb21_6 (by omega))
           replace hb21_7 := BoxAt.chgA hb21_7 c21_8 (apart_lt hlhb21_7 hfhb21_6 (by omega))
           have := c21_8.size
           replace eB := Ext.then eB c21_8 (ge_of hfhb21_6 (by omega))
           replace xQ := Ext.then xQ c21_8 (ge_of hfhb21_6 (by omega))
           replace cJ20 := Ext.then cJ20 c21_8 (ge_of hfhb21_6 (by omega))
           try simp (disch := decide) only [outv_some, outv_none, put_puts]
           refine plK_last (by decide) ?_
           try simp -implicitDefEqProofs (disch := first | decide | assumption | omega) only [go_sem, BoxAt.cell hb0_2, wrap_id, bD0]
           refine op_storeB (cs' := #[.int .i64 (X.p)]) st2 hb21_7 rfl rfl rfl (by simp) (allOne_mem (l := [.int .i64 (X.p)]) ⟨rfl, trivial⟩) rfl ?_
           intro h21_9 hb21_7 c21_9
           replace hD := OS.chg hD c21_9 (apart_lt hlhD hfhb21_7 (by omega))
           replace howa21_3 := OS.chg howa21_3 c21_9 (apart_gt hfwa21_3 hlhb21_7 (by omega))
           replace howb21_3 := OS.chg howb21_3 c21_9 (apart_gt hfwb21_3 hlhb21_7 (by omega))
           replace hb0_0 := BoxAt.chgA hb0_0 c21_9 (apart_lt hlhb0_0 hfhb21_7 (by omega))
           replace hb0_1 := BoxAt.chgA hb0_1 c21_9 (apart_lt hlhb0_1 hfhb21_7 (by omega))
           replace hb0_2 := BoxAt.chgA hb0_2 c21_9 (apart_lt hlhb0_2 hfhb21_7 (by omega))
           replace hb21_6 := BoxAt.chgA hb21_6 c21_9 (apart_gt hfhb21_6 hlhb21_7 (by omega))
           have := c21_9.size
           replace eB := Ext.then eB c21_9 (ge_of hfhb21_7 (by omega))
           replace xQ := Ext.then xQ c21_9 (ge_of hfhb21_7 (by omega))
           replace cJ20 := Ext.then cJ20 c21_9 (ge_of hfhb21_7 (by omega))
           try simp (disch := decide) only [outv_some, outv_none, put_puts]
           refine plK_last (by decide) ?_
           try simp -implicitDefEqProofs (disch := first | decide | assumption | omega) only [go_sem, BoxAt.cell hb0_2, wrap_id, bD0]
           exact hK (vwa21_3, fwa21_3, vwb21_3, fwb21_3, h21_3.size, h12.size) _ _ (by simp [HasL, puts_at]) ⟨howa21_3, (hfwa21_3.mono (by omega)), howb21_3, (hfwb21_3.mono (by omega)), hb21_6, (hfhb21_6.mono (by omega)), hb21_7, (hfhb21_7.mono (by omega)), ap32, (apart_lt hlhowa21_3 hfhb21_6 (by omega)), (apart_gt hfwa21_3 hlhb21_7 (by omega)), (apart_lt hlhowb21_3 hfhb21_6 (by omega)), (apart_gt hfwb21_3 hlhb21_7 (by omega)), (apart_gt hfhb21_6 hlhb21_7 (by omega)), cJ20⟩
          ·simp -implicitDefEqProofs (disch := first | decide | assumption | omega) only [go_sem, BoxAt.cell hb0_2, wrap_id, bD0]
           refine op_storeB (cs' := #[.int .i64 (X.p), vhD, vwa21_3, vwb21_3]) st30 hb21_6 rfl rfl rfl (by simp) (allOne_mem (l := [.int .i64 (X.p), vhD, vwa21_3, vwb21_3]) ⟨rfl, (OS.one hD).1, (OS.one howa21_3).1, (OS.one howb21_3).1, trivial⟩) rfl ?_
           intro h21_8 hb21_6 c21_8
           replace hD := OS.chg hD c21_8 (apart_lt hlhD hfhb21_6 (by omega))
           replace howa21_3 := OS.chg howa21_3 c21_8 (apart_lt hlhowa21_3 hfhb21_6 (by omega))
           replace howb21_3 := OS.chg howb21_3 c21_8 (apart_lt hlhowb21_3 hfhb21_6 (by omega))
           replace hb0_0 := BoxAt.chgA hb0_0 c21_8 (apart_lt hlhb0_0 hfhb21_6 (by omega))
           replace hb0_1 := BoxAt.chgA hb0_1 c21_8 (apart_lt hlhb0_1 hfhb21_6 (by omega))
           replace hb0_2 := BoxAt.chgA hb0_2 c21_8 (apart_lt hlhb0_2 hfhb21_6 (by omega))
           replace hb21_7 := BoxAt.chgA hb21_7 c21_8 (apart_lt hlhb21_7 hfhb21_6 (by omega))
           have := c21_8.size
           replace eB := Ext.then eB c21_8 (ge_of hfhb21_6 (by omega))
           replace xQ := Ext.then xQ c21_8 (ge_of hfhb21_6 (by omega))
           replace cJ20 := Ext.then cJ20 c21_8 (ge_of hfhb21_6 (by omega))
           try simp (disch := decide) only [outv_some, outv_none, put_puts]
           refine plK_last (by decide) ?_
           try simp -implicitDefEqProofs (disch := first | decide | assumption | omega) only [go_sem, ld2, RdS.len hdX sl22, RdS.idx hdX sl22, R1.intB hdX (Ext.pres eB), RdS.cells hdX, RdS.len hmX sl23, RdS.idx hmX sl23, RdS.cellB hmX (Ext.pres eB), RdS.cells hmX, BoxAt.cell hb0_0, wrap_id, bD0]
           refine op_storeB (cs' := #[.int .i64 (X.p)]) st2 hb21_7 rfl rfl rfl (by simp) (allOne_mem (l := [.int .i64 (X.p)]) ⟨rfl, trivial⟩) rfl ?_
           intro h21_9 hb21_7 c21_9
           replace hD := OS.chg hD c21_9 (apart_lt hlhD hfhb21_7 (by omega))
           replace howa21_3 := OS.chg howa21_3 c21_9 (apart_gt hfwa21_3 hlhb21_7 (by omega))
           replace howb21_3 := OS.chg howb21_3 c21_9 (apart_gt hfwb21_3 hlhb21_7 (by omega))
           replace hb0_0 := BoxAt.chgA hb0_0 c21_9 (apart_lt hlhb0_0 hfhb21_7 (by omega))
           replace hb0_1 := BoxAt.chgA hb0_1 c21_9 (apart_lt hlhb0_1 hfhb21_7 (by omega))
           replace hb0_2 := BoxAt.chgA hb0_2 c21_9 (apart_lt hlhb0_2 hfhb21_7 (by omega))
           replace hb21_6 := BoxAt.chgA hb21_6 c21_9 (apart_gt hfhb21_6 hlhb21_7 (by omega))
           have := c21_9.size
           replace eB := Ext.then eB c21_9 (ge_of hfhb21_7 (by omega))
           replace xQ := Ext.then xQ c21_9 (ge_of hfhb21_7 (by omega))
           replace cJ20 := Ext.then cJ20 c21_9 (ge_of hfhb21_7 (by omega))
           try simp (disch := decide) only [outv_some, outv_none, put_puts]
           refine plK_last (by decide) ?_
           try simp -implicitDefEqProofs (disch := first | decide | assumption | omega) only [go_sem, BoxAt.cell hb0_2, wrap_id, bD0]
           exact hK (vwa21_3, fwa21_3, vwb21_3, fwb21_3, h21_3.size, h12.size) _ _ (by simp [HasL, puts_at]) ⟨howa21_3, (hfwa21_3.mono (by omega)), howb21_3, (hfwb21_3.mono (by omega)), hb21_6, (hfhb21_6.mono (by omega)), hb21_7, (hfhb21_7.mono (by omega)), ap32, (apart_lt hlhowa21_3 hfhb21_6 (by omega)), (apart_gt hfwa21_3 hlhb21_7 (by omega)), (apart_lt hlhowb21_3 hfhb21_6 (by omega)), (apart_gt hfwb21_3 hlhb21_7 (by omega)), (apart_gt hfhb21_6 hlhb21_7 (by omega)), cJ20⟩
        ·simp -implicitDefEqProofs (disch := first | decide | assumption | omega) only [go_sem, ld2, RdS.len hdX sl22, RdS.idx hdX sl22, R1.intB hdX (Ext.pres eB), RdS.cells hdX, RdS.len hmX sl23, RdS.idx hmX sl23, RdS.cellB hmX (Ext.pres eB), RdS.cells hmX, BoxAt.cell hb0_0, wrap_id, bD0]
         refine And.intro ?_ ?_
         ·simp -implicitDefEqProofs (disch := first | decide | assumption | omega) only [go_sem, BoxAt.cell hb0_2, wrap_id, bD0]
          try simp -implicitDefEqProofs (disch := first | decide | assumption | omega) only [go_sem, BoxAt.cell hb0_2, wrap_id, bD0]
          refine CallA.mono (iBlank_ok X.p _ (pdDl X Y) Y.dims.length _ (OS.rd hD) (by rw [pdDl_len]; omega) (by omega) (fun r hr => pdDl_rl (by rw [pdDl_len] at hr; exact hr)) (fun r c hr hc => by rw [pdDl_len] at hr; rw [pdDl_at hr hc]; have h1 := mul8 (dimsD_nat hX r) (dimsD_nat hY c); omega)) ?_
          intro v_ h21_3
          rintro ⟨vwa21_3, vwb21_3, fwa21_3, fwb21_3, rfl, howa21_3, howb21_3, hfw21_3, e21_3⟩
          replace hD := OS.ext hD e21_3
          replace hb0_0 := BoxAt.ext hb0_0 e21_3
          replace hb0_1 := BoxAt.ext hb0_1 e21_3
          replace hb0_2 := BoxAt.ext hb0_2 e21_3
          replace hb21_7 := BoxAt.ext hb21_7 e21_3
          have := Ext.size e21_3
          replace eB := Ext.trans eB e21_3
          replace xQ := Ext.trans xQ e21_3
          replace cJ20 := Ext.trans cJ20 e21_3
          have hfwa21_3 := hfw21_3.left
          have hfwb21_3 := hfw21_3.right
          have hlhowa21_3 := OS.lt howa21_3
          have hlhowb21_3 := OS.lt howb21_3
          have ap33 : Apart fwa21_3 fwb21_3 := apart_nodup hfw21_3
          try simp (disch := decide) only [outv_some, outv_none, put_puts]
          refine plK_pres (Ext.pres e21_3) ?_
          try simp -implicitDefEqProofs (disch := first | decide | assumption | omega) only [go_sem, BoxAt.cell hb0_2, wrap_id, bD0]
          refine op_alloc (cs := #[.int .i64 0, .slice none 0 0, .slice none 0 0, .slice none 0 0]) (by kernel_rfl) ?_
          intro h21_6 e21_6 hb21_6 z21_6
          replace hD := OS.ext hD e21_6
          replace howa21_3 := OS.ext howa21_3 e21_6
          replace howb21_3 := OS.ext howb21_3 e21_6
          replace hb0_0 := BoxAt.ext hb0_0 e21_6
          replace hb0_1 := BoxAt.ext hb0_1 e21_6
          replace hb0_2 := BoxAt.ext hb0_2 e21_6
          replace hb21_7 := BoxAt.ext hb21_7 e21_6
          have := Ext.size e21_6
          replace eB := Ext.trans eB e21_6
          replace xQ := Ext.trans xQ e21_6
          replace cJ20 := Ext.trans cJ20 e21_6
          have hfhb21_6 : Fresh h21_3.size [h21_3.size] := Fresh.one _
          have hlhb21_6 := one_lt (show h21_3.size < h21_6.size by omega)
          try simp (disch := decide) only [outv_some, outv_none, put_puts]
          refine plK_pres (Ext.pres e21_6) ?_
          try simp -implicitDefEqProofs (disch := first | decide | assumption | omega) only [go_sem, BoxAt.cell hb0_2, wrap_id, bD0]
          refine op_storeB (cs' := #[.int .i64 (X.p), vhD, vwa21_3, vwb21_3]) st30 hb21_6 rfl rfl rfl (by simp) (allOne_mem (l := [.int .i64 (X.p), vhD, vwa21_3, vwb21_3]) ⟨rfl, (OS.one hD).1, (OS.one howa21_3).1, (OS.one howb21_3).1, trivial⟩) rfl ?_
          intro h21_8 hb21_6 c21_8
          replace hD := OS.chg hD c21_8 (apart_lt hlhD hfhb21_6 (by omega))
          replace howa21_3 := OS.chg howa21_3 c21_8 (apart_lt hlhowa21_3 hfhb21_6 (by omega))
          replace howb21_3 := OS.chg howb21_3 c21_8 (apart_lt hlhowb21_3 hfhb21_6 (by omega))
          replace hb0_0 := BoxAt.chgA hb0_0 c21_8 (apart_lt hlhb0_0 hfhb21_6 (by omega))
          replace hb0_1 := BoxAt.chgA hb0_1 c21_8 (apart_lt hlhb0_1 hfhb21_6 (by omega))
          replace hb0_2 := BoxAt.chgA hb0_2 c21_8 (apart_lt hlhb0_2 hfhb21_6 (by omega))
          replace hb21_7 := BoxAt.chgA hb21_7 c21_8 (apart_lt hlhb21_7 hfhb21_6 (by omega))
          have := c21_8.size
          replace eB := Ext.then eB c21_8 (ge_of hfhb21_6 (by omega))
          replace xQ := Ext.then xQ c21_8 (ge_of hfhb21_6 (by omega))
          replace cJ20 := Ext.then cJ20 c21_8 (ge_of hfhb21_6 (by omega))
          try simp (disch := decide) only [outv_some, outv_none, put_puts]
          refine plK_last (by decide) ?_
          try simp -implicitDefEqProofs (disch := first | decide | assumption | omega) only [go_sem, BoxAt.cell hb0_2, wrap_id, bD0]
          refine op_storeB (cs' := #[.int .i64 (X.p)]) st2 hb21_7 rfl rfl rfl (by simp) (allOne_mem (l := [.int .i64 (X.p)]) ⟨rfl, trivial⟩) rfl ?_
          intro h21_9 hb21_7 c21_9
          replace hD := OS.chg hD c21_9 (apart_lt hlhD hfhb21_7 (by omega))
          replace howa21_3 := OS.chg howa21_3 c21_9 (apart_gt hfwa21_3 hlhb21_7 (by omega))
          replace howb21_3 := OS.chg howb21_3 c21_9 (apart_gt hfwb21_3 hlhb21_7 (by omega))
          replace hb0_0 := BoxAt.chgA hb0_0 c21_9 (apart_lt hlhb0_0 hfhb21_7 (by omega))
          replace hb0_1 := BoxAt.chgA hb0_1 c21_9 (apart_lt hlhb0_1 hfhb21_7 (by omega))
          replace hb0_2 := BoxAt.chgA hb0_2 c21_9 (apart_lt hlhb0_2 hfhb21_7 (by omega))
          replace hb21_6 := BoxAt.chgA hb21_6 c21_9 (apart_gt hfhb21_6 hlhb21_7 (by omega))
          have := c21_9.size
          replace eB := Ext.then eB c21_9 (ge_of hfhb21_7 (by omega))
          replace xQ := Ext.then xQ c21_9 (ge_of hfhb21_7 (by omega))
          replace cJ20 := Ext.then cJ20 c21_9 (ge_of hfhb21_7 (by omega))
          try simp (disch := decide) only [outv_some, outv_none, put_puts]
          refine plK_last (by decide) ?_
          try simp -implicitDefEqProofs (disch := first | decide | assumption | omega) only [go_sem, BoxAt.cell hb0_2, wrap_id, bD0]
          exact hK (vwa21_3, fwa21_3, vwb21_3, fwb21_3, h21_3.size, h12.size) _ _ (by simp [HasL, puts_at]) ⟨howa21_3, (hfwa21_3.mono (by omega)), howb21_3, (hfwb21_3.mono (by omega)), hb21_6, (hfhb21_6.mono (by omega)), hb21_7, (hfhb21_7.mono (by omega)), ap33, (apart_lt hlhowa21_3 hfhb21_6 (by omega)), (apart_gt hfwa21_3 hlhb21_7 (by omega)), (apart_lt hlhowb21_3 hfhb21_6 (by omega)), (apart_gt hfwb21_3 hlhb21_7 (by omega)), (apart_gt hfhb21_6 hlhb21_7 (by omega)), cJ20⟩
         ·simp -implicitDefEqProofs (disch := first | decide | assumption | omega) only [go_sem, BoxAt.cell hb0_2, wrap_id, bD0]
          refine op_alloc (cs := #[.int .i64 0, .slice none 0 0, .slice none 0 0, .slice none 0 0]) (by kernel_rfl) ?_
          intro h21_6 e21_6 hb21_6 z21_6
          replace hD := OS.ext hD e21_6
          replace hb0_0 := BoxAt.ext hb0_0 e21_6
          replace hb0_1 := BoxAt.ext hb0_1 e21_6
          replace hb0_2 := BoxAt.ext hb0_2 e21_6
          replace hb21_7 := BoxAt.ext hb21_7 e21_6
          have := Ext.size e21_6
          replace eB := Ext.trans eB e21_6
          replace xQ := Ext.trans xQ e21_6
          replace cJ20 := Ext.trans cJ20 e21_6
          have hfhb21_6 : Fresh h21_7.size [h21_7.size] := Fresh.one _
          have hlhb21_6 := one_lt (show h21_7.size < h21_6.size by omega)
          try simp (disch := decide) only [outv_some, outv_none, put_puts]
          refine plK_pres (Ext.pres e21_6) ?_
          try simp -implicitDefEqProofs (disch := first | decide | assumption | omega) only [go_sem, BoxAt.cell hb0_2, wrap_id, bD0]
          try simp -implicitDefEqProofs (disch := first | decide | assumption | omega) only [go_sem, BoxAt.cell hb0_2, wrap_id, bD0]
          refine CallA.mono (iBlank_ok X.p _ (pdDl X Y) Y.dims.length _ (OS.rd hD) (by rw [pdDl_len]; omega) (by omega) (fun r hr => pdDl_rl (by rw [pdDl_len] at hr; exact hr)) (fun r c hr hc => by rw [pdDl_len] at hr; rw [pdDl_at hr hc]; have h1 := mul8 (dimsD_nat hX r) (dimsD_nat hY c); omega)) ?_
          intro v_ h21_3
          rintro ⟨vwa21_3, vwb21_3, fwa21_3, fwb21_3, rfl, howa21_3, howb21_3, hfw21_3, e21_3⟩
          replace hD := OS.ext hD e21_3
          replace hb0_0 := BoxAt.ext hb0_0 e21_3
          replace hb0_1 := BoxAt.ext hb0_1 e21_3
          replace hb0_2 := BoxAt.ext hb0_2 e21_3
          replace hb21_7 := BoxAt.ext hb21_7 e21_3
          replace hb21_6 := BoxAt.ext hb21_6 e21_3
          have := Ext.size e21_3
          replace eB := Ext.trans eB e21_3
          replace xQ := Ext.trans xQ e21_3
          replace cJ20 := Ext.trans cJ20 e21_3
          have hfwa21_3 := hfw21_3.left
          have hfwb21_3 := hfw21_3.right
          have hlhowa21_3 := OS.lt howa21_3
          have hlhowb21_3 := OS.lt howb21_3
          have ap34 : Apart fwa21_3 fwb21_3 := apart_nodup hfw21_3
          try simp (disch := decide) only [outv_some, outv_none, put_puts]
          refine plK_pres (Ext.pres e21_3) ?_
          try simp -implicitDefEqProofs (disch := first | decide | assumption | omega) only [go_sem, BoxAt.cell hb0_2, wrap_id, bD0]
          refine op_storeB (cs' := #[.int .i64 (X.p), vhD, vwa21_3, vwb21_3]) st30 hb21_6 rfl rfl rfl (by simp) (allOne_mem (l := [.int .i64 (X.p), vhD, vwa21_3, vwb21_3]) ⟨rfl, (OS.one hD).1, (OS.one howa21_3).1, (OS.one howb21_3).1, trivial⟩) rfl ?_
          intro h21_8 hb21_6 c21_8
          replace hD := OS.chg hD c21_8 (apart_lt hlhD hfhb21_6 (by omega))
          replace howa21_3 := OS.chg howa21_3 c21_8 (apart_gt hfwa21_3 hlhb21_6 (by omega))
          replace howb21_3 := OS.chg howb21_3 c21_8 (apart_gt hfwb21_3 hlhb21_6 (by omega))
          replace hb0_0 := BoxAt.chgA hb0_0 c21_8 (apart_lt hlhb0_0 hfhb21_6 (by omega))
          replace hb0_1 := BoxAt.chgA hb0_1 c21_8 (apart_lt hlhb0_1 hfhb21_6 (by omega))
          replace hb0_2 := BoxAt.chgA hb0_2 c21_8 (apart_lt hlhb0_2 hfhb21_6 (by omega))
          replace hb21_7 := BoxAt.chgA hb21_7 c21_8 (apart_lt hlhb21_7 hfhb21_6 (by omega))
          have := c21_8.size
          replace eB := Ext.then eB c21_8 (ge_of hfhb21_6 (by omega))
          replace xQ := Ext.then xQ c21_8 (ge_of hfhb21_6 (by omega))
          replace cJ20 := Ext.then cJ20 c21_8 (ge_of hfhb21_6 (by omega))
          try simp (disch := decide) only [outv_some, outv_none, put_puts]
          refine plK_last (by decide) ?_
          try simp -implicitDefEqProofs (disch := first | decide | assumption | omega) only [go_sem, BoxAt.cell hb0_2, wrap_id, bD0]
          refine op_storeB (cs' := #[.int .i64 (X.p)]) st2 hb21_7 rfl rfl rfl (by simp) (allOne_mem (l := [.int .i64 (X.p)]) ⟨rfl, trivial⟩) rfl ?_
          intro h21_9 hb21_7 c21_9
          replace hD := OS.chg hD c21_9 (apart_lt hlhD hfhb21_7 (by omega))
          replace howa21_3 := OS.chg howa21_3 c21_9 (apart_gt hfwa21_3 hlhb21_7 (by omega))
          replace howb21_3 := OS.chg howb21_3 c21_9 (apart_gt hfwb21_3 hlhb21_7 (by omega))
          replace hb0_0 := BoxAt.chgA hb0_0 c21_9 (apart_lt hlhb0_0 hfhb21_7 (by omega))
          replace hb0_1 := BoxAt.chgA hb0_1 c21_9 (apart_lt hlhb0_1 hfhb21_7 (by omega))
          replace hb0_2 := BoxAt.chgA hb0_2 c21_9 (apart_lt hlhb0_2 hfhb21_7 (by omega))
          replace hb21_6 := BoxAt.chgA hb21_6 c21_9 (apart_gt hfhb21_6 hlhb21_7 (by omega))
          have := c21_9.size
          replace eB := Ext.then eB c21_9 (ge_of hfhb21_7 (by omega))
          replace xQ := Ext.then xQ c21_9 (ge_of hfhb21_7 (by omega))
          replace cJ20 := Ext.then cJ20 c21_9 (ge_of hfhb21_7 (by omega))
          try simp (disch := decide) only [outv_some, outv_none, put_puts]
          refine plK_last (by decide) ?_
          try simp -implicitDefEqProofs (disch := first | decide | assumption | omega) only [go_sem, BoxAt.cell hb0_2, wrap_id, bD0]
          exact hK (vwa21_3, fwa21_3, vwb21_3, fwb21_3, h21_7.size, h12.size) _ _ (by simp [HasL, puts_at]) ⟨howa21_3, (hfwa21_3.mono (by omega)), howb21_3, (hfwb21_3.mono (by omega)), hb21_6, (hfhb21_6.mono (by omega)), hb21_7, (hfhb21_7.mono (by omega)), ap34, (apart_gt hfwa21_3 hlhb21_6 (by omega)), (apart_gt hfwa21_3 hlhb21_7 (by omega)), (apart_gt hfwb21_3 hlhb21_6 (by omega)), (apart_gt hfwb21_3 hlhb21_7 (by omega)), (apart_gt hfhb21_6 hlhb21_7 (by omega)), cJ20⟩
        ·simp -implicitDefEqProofs (disch := first | decide | assumption | omega) only [go_sem, BoxAt.cell hb0_2, wrap_id, bD0]
         refine op_alloc (cs := #[.int .i64 0, .slice none 0 0, .slice none 0 0, .slice none 0 0]) (by kernel_rfl) ?_
         intro h21_6 e21_6 hb21_6 z21_6
         replace hD := OS.ext hD e21_6
         replace hb0_0 := BoxAt.ext hb0_0 e21_6
         replace hb0_1 := BoxAt.ext hb0_1 e21_6
         replace hb0_2 := BoxAt.ext hb0_2 e21_6
         replace hb21_7 := BoxAt.ext hb21_7 e21_6
         have := Ext.size e21_6
         replace eB := Ext.trans eB e21_6
         replace xQ := Ext.trans xQ e21_6
         replace cJ20 := Ext.trans cJ20 e21_6
         have hfhb21_6 : Fresh h21_7.size [h21_7.size] := Fresh.one _
         have hlhb21_6 := one_lt (show h21_7.size < h21_6.size by omega)
         try simp (disch := decide) only [outv_some, outv_none, put_puts]
         refine plK_pres (Ext.pres e21_6) ?_
         try simp -implicitDefEqProofs (disch := first | decide | assumption | omega) only [go_sem, BoxAt.cell hb0_2, wrap_id, bD0]
         refine And.intro ?_ ?_
         ·simp -implicitDefEqProofs (disch := first | decide | assumption | omega) only [go_sem, BoxAt.cell hb0_2, wrap_id, bD0]
          try simp -implicitDefEqProofs (disch := first | decide | assumption | omega) only [go_sem, BoxAt.cell hb0_2, wrap_id, bD0]
          refine CallA.mono (iBlank_ok X.p _ (pdDl X Y) Y.dims.length _ (OS.rd hD) (by rw [pdDl_len]; omega) (by omega) (fun r hr => pdDl_rl (by rw [pdDl_len] at hr; exact hr)) (fun r c hr hc => by rw [pdDl_len] at hr; rw [pdDl_at hr hc]; have h1 := mul8 (dimsD_nat hX r) (dimsD_nat hY c); omega)) ?_
          intro v_ h21_3
          rintro ⟨vwa21_3, vwb21_3, fwa21_3, fwb21_3, rfl, howa21_3, howb21_3, hfw21_3, e21_3⟩
          replace hD := OS.ext hD e21_3
          replace hb0_0 := BoxAt.ext hb0_0 e21_3
          replace hb0_1 := BoxAt.ext hb0_1 e21_3
          replace hb0_2 := BoxAt.ext hb0_2 e21_3
          replace hb21_7 := BoxAt.ext hb21_7 e21_3
          replace hb21_6 := BoxAt.ext hb21_6 e21_3
          have := Ext.size e21_3
          replace eB := Ext.trans eB e21_3
          replace xQ := Ext.trans xQ e21_3
          replace cJ20 := Ext.trans cJ20 e21_3
          have hfwa21_3 := hfw21_3.left
          have hfwb21_3 := hfw21_3.right
          have hlhowa21_3 := OS.lt howa21_3
          have hlhowb21_3 := OS.lt howb21_3
          have ap35 : Apart fwa21_3 fwb21_3 := apart_nodup hfw21_3
          try simp (disch := decide) only [outv_some, outv_none, put_puts]
          refine plK_pres (Ext.pres e21_3) ?_
          try simp -implicitDefEqProofs (disch := first | decide | assumption | omega) only [go_sem, BoxAt.cell hb0_2, wrap_id, bD0]
          refine And.intro ?_ ?_
          ·simp -implicitDefEqProofs (disch := first | decide | assumption | omega) only [go_sem, ld2, RdS.len hdX sl22, RdS.idx hdX sl22, R1.intB hdX (Ext.pres eB), RdS.cells hdX, RdS.len hmX sl23, RdS.idx hmX sl23, RdS.cellB hmX (Ext.pres eB), RdS.cells hmX, BoxAt.cell hb0_0, wrap_id, bD0]
           refine op_storeB (cs' := #[.int .i64 (X.p), vhD, vwa21_3, vwb21_3]) st30 hb21_6 rfl rfl rfl (by simp) (allOne_mem (l := [.int .i64 (X.p), vhD, vwa21_3, vwb21_3]) ⟨rfl, (OS.one hD).1, (OS.one howa21_3).1, (OS.one howb21_3).1, trivial⟩) rfl ?_
           intro h21_8 hb21_6 c21_8
           replace hD := OS.chg hD c21_8 (apart_lt hlhD hfhb21_6 (by omega))
           replace howa21_3 := OS.chg howa21_3 c21_8 (apart_gt hfwa21_3 hlhb21_6 (by omega))
           replace howb21_3 := OS.chg howb21_3 c21_8 (apart_gt hfwb21_3 hlhb21_6 (by omega))
           replace hb0_0 := BoxAt.chgA hb0_0 c21_8 (apart_lt hlhb0_0 hfhb21_6 (by omega))
           replace hb0_1 := BoxAt.chgA hb0_1 c21_8 (apart_lt hlhb0_1 hfhb21_6 (by omega))
           replace hb0_2 := BoxAt.chgA hb0_2 c21_8 (apart_lt hlhb0_2 hfhb21_6 (by omega))
           replace hb21_7 := BoxAt.chgA hb21_7 c21_8 (apart_lt hlhb21_7 hfhb21_6 (by omega))
           have := c21_8.size
           replace eB := Ext.then eB c21_8 (ge_of hfhb21_6 (by omega))
           replace xQ := Ext.then xQ c21_8 (ge_of hfhb21_6 (by omega))
           replace cJ20 := Ext.then cJ20 c21_8 (ge_of hfhb21_6 (by omega))
           try simp (disch := decide) only [outv_some, outv_none, put_puts]
           refine plK_last (by decide) ?_
           try simp -implicitDefEqProofs (disch := first | decide | assumption | omega) only [go_sem, BoxAt.cell hb0_2, wrap_id, bD0]
           refine op_storeB (cs' := #[.int .i64 (X.p)]) st2 hb21_7 rfl rfl rfl (by simp) (allOne_mem (l := [.int .i64 (X.p)]) ⟨rfl, trivial⟩) rfl ?_
           intro h21_9 hb21_7 c21_9
           replace hD := OS.chg hD c21_9 (apart_lt hlhD hfhb21_7 (by omega))
           replace howa21_3 := OS.chg howa21_3 c21_9 (apart_gt hfwa21_3 hlhb21_7 (by omega))
           replace howb21_3 := OS.chg howb21_3 c21_9 (apart_gt hfwb21_3 hlhb21_7 (by omega))
           replace hb0_0 := BoxAt.chgA hb0_0 c21_9 (apart_lt hlhb0_0 hfhb21_7 (by omega))
           replace hb0_1 := BoxAt.chgA hb0_1 c21_9 (apart_lt hlhb0_1 hfhb21_7 (by omega))
           replace hb0_2 := BoxAt.chgA hb0_2 c21_9 (apart_lt hlhb0_2 hfhb21_7 (by omega))
           replace hb21_6 := BoxAt.chgA hb21_6 c21_9 (apart_gt hfhb21_6 hlhb21_7 (by omega))
           have := c21_9.size
           replace eB := Ext.then eB c21_9 (ge_of hfhb21_7 (by omega))
           replace xQ := Ext.then xQ c21_9 (ge_of hfhb21_7 (by omega))
           replace cJ20 := Ext.then cJ20 c21_9 (ge_of hfhb21_7 (by omega))
           try simp (disch := decide) only [outv_some, outv_none, put_puts]
           refine plK_last (by decide) ?_
           try simp -implicitDefEqProofs (disch := first | decide | assumption | omega) only [go_sem, BoxAt.cell hb0_2, wrap_id, bD0]
           exact hK (vwa21_3, fwa21_3, vwb21_3, fwb21_3, h21_7.size, h12.size) _ _ (by simp [HasL, puts_at]) ⟨howa21_3, (hfwa21_3.mono (by omega)), howb21_3, (hfwb21_3.mono (by omega)), hb21_6, (hfhb21_6.mono (by omega)), hb21_7, (hfhb21_7.mono (by omega)), ap35, (apart_gt hfwa21_3 hlhb21_6 (by omega)), (apart_gt hfwa21_3 hlhb21_7 (by omega)), (apart_gt hfwb21_3 hlhb21_6 (by omega)), (apart_gt hfwb21_3 hlhb21_7 (by omega)), (apart_gt hfhb21_6 hlhb21_7 (by omega)), cJ20⟩
          ·simp -implicitDefEqProofs (disch := first | decide | assumption | omega) only [go_sem, BoxAt.cell hb0_2, wrap_id, bD0]
           refine op_storeB (cs' := #[.int .i64 (X.p), vhD, vwa21_3, vwb21_3]) st30 hb21_6 rfl rfl rfl (by simp) (allOne_mem (l := [.int .i64 (X.p), vhD, vwa21_3, vwb21_3]) ⟨rfl, (OS.one hD).1, (OS.one howa21_3).1, (OS.one howb21_3).1, trivial⟩) rfl ?_
           intro h21_8 hb21_6 c21_8
           replace hD := OS.chg hD c21_8 (apart_lt hlhD hfhb21_6 (by omega))
           replace howa21_3 := OS.chg howa21_3 c21_8 (apart_gt hfwa21_3 hlhb21_6 (by omega))
           replace howb21_3 := OS.chg howb21_3 c21_8 (apart_gt hfwb21_3 hlhb21_6 (by omega))
           replace hb0_0 := BoxAt.chgA hb0_0 c21_8 (apart_lt hlhb0_0 hfhb21_6 (by omega))
           replace hb0_1 := BoxAt.chgA hb0_1 c21_8 (apart_lt hlhb0_1 hfhb21_6 (by omega))
           replace hb0_2 := BoxAt.chgA hb0_2 c21_8 (apart_lt hlhb0_2 hfhb21_6 (by omega))
           replace hb21_7 := BoxAt.chgA hb21_7 c21_8 (apart_lt hlhb21_7 hfhb21_6 (by omega))
           have := c21_8.size
           replace eB := Ext.then eB c21_8 (ge_of hfhb21_6 (by omega))
           replace xQ := Ext.then xQ c21_8 (ge_of hfhb21_6 (by omega))
           replace cJ20 := Ext.then cJ20 c21_8 (ge_of hfhb21_6 (by omega))
           try simp (disch := decide) only [outv_some, outv_none, put_puts]
           refine plK_last (by decide) ?_
           try simp -implicitDefEqProofs (disch := first | decide | assumption | omega) only [go_sem, ld2, RdS.len hdX sl22, RdS.idx hdX sl22, R1.intB hdX (Ext.pres eB), RdS.cells hdX, RdS.len hmX sl23, RdS.idx hmX sl23, RdS.cellB hmX (Ext.pres eB), RdS.cells hmX, BoxAt.cell hb0_0, wrap_id, bD0]
           refine op_storeB (cs' := #[.int .i64 (X.p)]) st2 hb21_7 rfl rfl rfl (by simp) (allOne_mem (l := [.int .i64 (X.p)]) ⟨rfl, trivial⟩) rfl ?_
           intro h21_9 hb21_7 c21_9
           replace hD := OS.chg hD c21_9 (apart_lt hlhD hfhb21_7 (by omega))
           replace howa21_3 := OS.chg howa21_3 c21_9 (apart_gt hfwa21_3 hlhb21_7 (by omega))
           replace howb21_3 := OS.chg howb21_3 c21_9 (apart_gt hfwb21_3 hlhb21_7 (by omega))
           replace hb0_0 := BoxAt.chgA hb0_0 c21_9 (apart_lt hlhb0_0 hfhb21_7 (by omega))
           replace hb0_1 := BoxAt.chgA hb0_1 c21_9 (apart_lt hlhb0_1 hfhb21_7 (by omega))
           replace hb0_2 := BoxAt.chgA hb0_2 c21_9 (apart_lt hlhb0_2 hfhb21_7 (by omega))
           replace hb21_6 := BoxAt.chgA hb21_6 c21_9 (apart_gt hfhb21_6 hlhb21_7 (by omega))
           have := c21_9.size
           replace eB := Ext.then eB c21_9 (ge_of hfhb21_7 (by omega))
           replace xQ := Ext.then xQ c21_9 (ge_of hfhb21_7 (by omega))
           replace cJ20 := Ext.then cJ20 c21_9 (ge_of hfhb21_7 (by omega))
           try simp (disch := decide) only [outv_some, outv_none, put_puts]
           refine plK_last (by decide) ?_
           try simp -implicitDefEqProofs (disch := first | decide | assumption | omega) only [go_sem, BoxAt.cell hb0_2, wrap_id, bD0]
           exact hK (vwa21_3, fwa21_3, vwb21_3, fwb21_3, h21_7.size, h12.size) _ _ (by simp [HasL, puts_at]) ⟨howa21_3, (hfwa21_3.mono (by omega)), howb21_3, (hfwb21_3.mono (by omega)), hb21_6, (hfhb21_6.mono (by omega)), hb21_7, (hfhb21_7.mono (by omega)), ap35, (apart_gt hfwa21_3 hlhb21_6 (by omega)), (apart_gt hfwa21_3 hlhb21_7 (by omega)), (apart_gt hfwb21_3 hlhb21_6 (by omega)), (apart_gt hfwb21_3 hlhb21_7 (by omega)), (apart_gt hfhb21_6 hlhb21_7 (by omega)), cJ20⟩
         ·simp -implicitDefEqProofs (disch := first | decide | assumption | omega) only [go_sem, ld2, RdS.len hdX sl22, RdS.idx hdX sl22, R1.intB hdX (Ext.pres eB), RdS.cells hdX, RdS.len hmX sl23, RdS.idx hmX sl23, RdS.cellB hmX (Ext.pres eB), RdS.cells hmX, BoxAt.cell hb0_0, wrap_id, bD0]
          try simp -implicitDefEqProofs (disch := first | decide | assumption | omega) only [go_sem, BoxAt.cell hb0_2, wrap_id, bD0]
          refine CallA.mono (iBlank_ok X.p _ (pdDl X Y) Y.dims.length _ (OS.rd hD) (by rw [pdDl_len]; omega) (by omega) (fun r hr => pdDl_rl (by rw [pdDl_len] at hr; exact hr)) (fun r c hr hc => by rw [pdDl_len] at hr; rw [pdDl_at hr hc]; have h1 := mul8 (dimsD_nat hX r) (dimsD_nat hY c); omega)) ?_
          intro v_ h21_3
          rintro ⟨vwa21_3, vwb21_3, fwa21_3, fwb21_3, rfl, howa21_3, howb21_3, hfw21_3, e21_3⟩
          replace hD := OS.ext hD e21_3
          replace hb0_0 := BoxAt.ext hb0_0 e21_3
          replace hb0_1 := BoxAt.ext hb0_1 e21_3
          replace hb0_2 := BoxAt.ext hb0_2 e21_3
          replace hb21_7 := BoxAt.ext hb21_7 e21_3
          replace hb21_6 := BoxAt.ext hb21_6 e21_3
          have := Ext.size e21_3
          replace eB := Ext.trans eB e21_3
          replace xQ := Ext.trans xQ e21_3
          replace cJ20 := Ext.trans cJ20 e21_3
          have hfwa21_3 := hfw21_3.left
          have hfwb21_3 := hfw21_3.right
          have hlhowa21_3 := OS.lt howa21_3
          have hlhowb21_3 := OS.lt howb21_3
          have ap36 : Apart fwa21_3 fwb21_3 := apart_nodup hfw21_3
          try simp (disch := decide) only [outv_some, outv_none, put_puts]
          refine plK_pres (Ext.pres e21_3) ?_
          try simp -implicitDefEqProofs (disch := first | decide | assumption | omega) only [go_sem, BoxAt.cell hb0_2, wrap_id, bD0]
          refine op_storeB (cs' := #[.int .i64 (X.p), vhD, vwa21_3, vwb21_3]) st30 hb21_6 rfl rfl rfl (by simp) (allOne_mem (l := [.int .i64 (X.p), vhD, vwa21_3, vwb21_3]) ⟨rfl, (OS.one hD).1, (OS.one howa21_3).1, (OS.one howb21_3).1, trivial⟩) rfl ?_
          intro h21_8 hb21_6 c21_8
          replace hD := OS.chg hD c21_8 (apart_lt hlhD hfhb21_6 (by omega))
          replace howa21_3 := OS.chg howa21_3 c21_8 (apart_gt hfwa21_3 hlhb21_6 (by omega))
          replace howb21_3 := OS.chg howb21_3 c21_8 (apart_gt hfwb21_3 hlhb21_6 (by omega))
          replace hb0_0 := BoxAt.chgA hb0_0 c21_8 (apart_lt hlhb0_0 hfhb21_6 (by omega))
          replace hb0_1 := BoxAt.chgA hb0_1 c21_8 (apart_lt hlhb0_1 hfhb21_6 (by omega))
          replace hb0_2 := BoxAt.chgA hb0_2 c21_8 (apart_lt hlhb0_2 hfhb21_6 (by omega))
          replace hb21_7 := BoxAt.chgA hb21_7 c21_8 (apart_lt hlhb21_7 hfhb21_6 (by omega))
          have := c21_8.size
          replace eB := Ext.then eB c21_8 (ge_of hfhb21_6 (by omega))
          replace xQ := Ext.then xQ c21_8 (ge_of hfhb21_6 (by omega))
          replace cJ20 := Ext.then cJ20 c21_8 (ge_of hfhb21_6 (by omega))
          try simp (disch := decide) only [outv_some, outv_none, put_puts]
          refine plK_last (by decide) ?_
          try simp -implicitDefEqProofs (disch := first | decide | assumption | omega) only [go_sem, BoxAt.cell hb0_2, wrap_id, bD0]
          refine op_storeB (cs' := #[.int .i64 (X.p)]) st2 hb21_7 rfl rfl rfl (by simp) (allOne_mem (l := [.int .i64 (X.p)]) ⟨rfl, trivial⟩) rfl ?_
          intro h21_9 hb21_7 c21_9
          replace hD := OS.chg hD c21_9 (apart_lt hlhD hfhb21_7 (by omega))
          replace howa21_3 := OS.chg howa21_3 c21_9 (apart_gt hfwa21_3 hlhb21_7 (by omega))
          replace howb21_3 := OS.chg howb21_3 c21_9 (apart_gt hfwb21_3 hlhb21_7 (by omega))
          replace hb0_0 := BoxAt.chgA hb0_0 c21_9 (apart_lt hlhb0_0 hfhb21_7 (by omega))
          replace hb0_1 := BoxAt.chgA hb0_1 c21_9 (apart_lt hlhb0_1 hfhb21_7 (by omega))
          replace hb0_2 := BoxAt.chgA hb0_2 c21_9 (apart_lt hlhb0_2 hfhb21_7 (by omega))
          replace hb21_6 := BoxAt.chgA hb21_6 c21_9 (apart_gt hfhb21_6 hlhb21_7 (by omega))
          have := c21_9.size
          replace eB := Ext.then eB c21_9 (ge_of hfhb21_7 (by omega))
          replace xQ := Ext.then xQ c21_9 (ge_of hfhb21_7 (by omega))
          replace cJ20 := Ext.then cJ20 c21_9 (ge_of hfhb21_7 (by omega))
          try simp (disch := decide) only [outv_some, outv_none, put_puts]
          refine plK_last (by decide) ?_
          try simp -implicitDefEqProofs (disch := first | decide | assumption | omega) only [go_sem, BoxAt.cell hb0_2, wrap_id, bD0]
          exact hK (vwa21_3, fwa21_3, vwb21_3, fwb21_3, h21_7.size, h12.size) _ _ (by simp [HasL, puts_at]) ⟨howa21_3, (hfwa21_3.mono (by omega)), howb21_3, (hfwb21_3.mono (by omega)), hb21_6, (hfhb21_6.mono (by omega)), hb21_7, (hfhb21_7.mono (by omega)), ap36, (apart_gt hfwa21_3 hlhb21_6 (by omega)), (apart_gt hfwa21_3 hlhb21_7 (by omega)), (apart_gt hfwb21_3 hlhb21_6 (by omega)), (apart_gt hfwb21_3 hlhb21_7 (by omega)), (apart_gt hfhb21_6 hlhb21_7 (by omega)), cJ20⟩
      ·rintro ⟨vwa21_3, fpJhowa21_3, vwb21_3, fpJhowb21_3, bJhb21_6, bJhb21_7⟩ hj37 ee39 ⟨howa21_3, hfhowa21_3, howb21_3, hfhowb21_3, hb21_6, hfhb21_6, hb21_7, hfhb21_7, apJ_howa21_3_howb21_3, apJ_howa21_3_hb21_6, apJ_howa21_3_hb21_7, apJ_howb21_3_hb21_6, apJ_howb21_3_hb21_7, apJ_hb21_6_hb21_7, eJ38⟩
       dsimp only at howa21_3 hfhowa21_3 howb21_3 hfhowb21_3 hb21_6 hfhb21_6 hb21_7 hfhb21_7 apJ_howa21_3_howb21_3 apJ_howa21_3_hb21_6 apJ_howa21_3_hb21_7 apJ_howb21_3_hb21_6 apJ_howb21_3_hb21_7 apJ_hb21_6_hb21_7 eJ38
       replace hD := OS.ext hD eJ38
       replace hb0_0 := BoxAt.ext hb0_0 eJ38
       replace hb0_1 := BoxAt.ext hb0_1 eJ38
       replace hb0_2 := BoxAt.ext hb0_2 eJ38
       have := Ext.size eJ38
       replace eB := Ext.trans eB eJ38
       replace xQ := Ext.trans xQ eJ38
       have hlhowa21_3 := OS.lt howa21_3
       have hlhowb21_3 := OS.lt howb21_3
       have hlhb21_6 := one_lt hb21_6.lt
       have hlhb21_7 := one_lt hb21_7.lt
       simp only [List.cons_append, List.nil_append]
       refine den_seq ?_
       refine den_region TTok ?_
       intro K hK
       simp -implicitDefEqProofs (disch := first | decide | assumption | omega) only [go_sem, ld30, RdS.len hdX sl22, RdS.idx hdX sl22, R1.intB hdX (Ext.pres eB), RdS.cells hdX, RdS.len hmX sl23, RdS.idx hmX sl23, RdS.cellB hmX (Ext.pres eB), RdS.cells hmX, RdS.len hdY sl22, RdS.idx hdY sl22, R1.intB hdY (Ext.pres eB), RdS.cells hdY, RdS.len hmY sl23, RdS.idx hmY sl23, RdS.cellB hmY (Ext.pres eB), RdS.cells hmY, RdS.len (OS.rd hD) sl27, RdS.idx (OS.rd hD) sl27, RdS.cellN (OS.rd hD), RdS.cells (OS.rd hD), RdS.len (OS.rd howa21_3) sl28, RdS.idx (OS.rd howa21_3) sl28, RdS.cellN (OS.rd howa21_3), RdS.cells (OS.rd howa21_3), RdS.len (OS.rd howb21_3) sl28, RdS.idx (OS.rd howb21_3) sl28, RdS.cellN (OS.rd howb21_3), RdS.cells (OS.rd howb21_3), BoxAt.cell hb0_0, BoxAt.cell hb0_1, BoxAt.cell hb21_6, BoxAt.cell hb21_7, wrap_id, bD0]
       try simp -implicitDefEqProofs (disch := first | decide | assumption | omega) only [go_sem, BoxAt.cell hb0_2, wrap_id, bD0]
       refine CallA.mono (pd_each hX hY hpp (RdS.pres hdX (Ext.pres eQ)) (RdS.pres hmX (Ext.pres eQ)) (RdS.pres hdY (Ext.pres eQ)) (RdS.pres hmY (Ext.pres eQ)) hQ (hfhowa21_3.mono (by omega)) (hfhowb21_3.mono (by omega)) apJ_howa21_3_howb21_3 ⟨(fun hm => ((apart_lt hlhb0_0 hfhowa21_3 (by omega))) _ (by simp) hm), (fun hm => ((apart_lt hlhb0_1 hfhowa21_3 (by omega))) _ (by simp) hm), (fun hm => ((Apart.symm apJ_howa21_3_hb21_6)) _ (by simp) hm), (fun hm => ((Apart.symm apJ_howa21_3_hb21_7)) _ (by simp) hm)⟩ ⟨(fun hm => ((apart_lt hlhb0_0 hfhowb21_3 (by omega))) _ (by simp) hm), (fun hm => ((apart_lt hlhb0_1 hfhowb21_3 (by omega))) _ (by simp) hm), (fun hm => ((Apart.symm apJ_howb21_3_hb21_6)) _ (by simp) hm), (fun hm => ((Apart.symm apJ_howb21_3_hb21_7)) _ (by simp) hm)⟩ ⟨by rw [← tA_0 hX hY]; exact howa21_3, by rw [← tB_0 hX hY]; exact howb21_3, xQ, hb0_0, hb0_1, hb21_6, hb21_7⟩) ?_
       intro v_ h22_2
       rintro ⟨rfl, hRel⟩
       obtain ⟨oA, oB, eR, bR2, bR3, bR4, bR5⟩ := hRel
       rw [tA_end] at oA
       rw [tB_end] at oB
       replace hD := OS.ext hDQ eR
       replace howa21_3 := oA
       replace howb21_3 := oB
       replace hb0_2 := BoxAt.ext hbQ eR
       replace eB := eQ.trans eR
       replace xQ := eR
       replace hb0_0 := bR2
       replace hb0_1 := bR3
       replace hb21_6 := bR4
       replace hb21_7 := bR5
       try simp -implicitDefEqProofs (disch := first | decide | assumption | omega) only [go_sem, BoxAt.cell hb0_2, wrap_id, bD0]
       refine hK _ _ ?_
       clear hK K
       refine den_seq ?_
       refine den_region TTok ?_
       intro K hK
       simp -implicitDefEqProofs (disch := first | decide | assumption | omega) only [go_sem, ld30, RdS.len (OS.rd hD) sl27, RdS.idx (OS.rd hD) sl27, RdS.cellN (OS.rd hD), RdS.cells (OS.rd hD), RdS.len (OS.rd howa21_3) sl28, RdS.idx (OS.rd howa21_3) sl28, RdS.cellN (OS.rd howa21_3), RdS.cells (OS.rd howa21_3), RdS.len (OS.rd howb21_3) sl28, RdS.idx (OS.rd howb21_3) sl28, RdS.cellN (OS.rd howb21_3), RdS.cells (OS.rd howb21_3), BoxAt.cell hb21_6, wrap_id, bD0]
       refine op_storeB (cs' := #[.int .i64 (X.p), vhD, vwa21_3, vwb21_3]) st30 hb0_2 rfl rfl rfl (by simp) (allOne_mem (l := [.int .i64 (X.p), vhD, vwa21_3, vwb21_3]) ⟨rfl, (OS.one hD).1, (OS.one howa21_3).1, (OS.one howb21_3).1, trivial⟩) rfl ?_
       intro h23_1 hb0_2 c23_1
       replace hD := OS.chg hD c23_1 (apart_gt hfhD hlhb0_2 (by omega))
       replace howa21_3 := OS.chg howa21_3 c23_1 (apart_gt hfhowa21_3 hlhb0_2 (by omega))
       replace howb21_3 := OS.chg howb21_3 c23_1 (apart_gt hfhowb21_3 hlhb0_2 (by omega))
       replace hb21_6 := BoxAt.chgA hb21_6 c23_1 (apart_gt hfhb21_6 hlhb0_2 (by omega))
       have := c23_1.size
       replace eB := Ext.then eB c23_1 (ge_of hfhb0_2 (by omega))
       try simp -implicitDefEqProofs (disch := first | decide | assumption | omega) only [go_sem, wrap_id, bD0]
       refine hK _ _ ?_
       clear hK K
       refine den_ret ?_
       simp -implicitDefEqProofs (disch := first | decide | assumption | omega) only [go_sem, RdS.len (OS.rd hD) sl27, RdS.idx (OS.rd hD) sl27, RdS.cellN (OS.rd hD), RdS.cells (OS.rd hD), RdS.len (OS.rd howa21_3) sl28, RdS.idx (OS.rd howa21_3) sl28, RdS.cellN (OS.rd howa21_3), RdS.cells (OS.rd howa21_3), RdS.len (OS.rd howb21_3) sl28, RdS.idx (OS.rd howb21_3) sl28, RdS.cellN (OS.rd howb21_3), RdS.cells (OS.rd howb21_3), BoxAt.cell hb0_2, wrap_id, bD0, resP_ct, ld30]
       rw [show pdP X Y = _ from pdP_0 hXY hpp hs4 (fun q hq j' hj' => hq_ q (by omega) j' hj')]
       exact ⟨_, _, _, _, _, _, rfl, hD, howa21_3, howb21_3, Fresh.two hfhD (Fresh.two hfhowa21_3 hfhowb21_3 apJ_howa21_3_howb21_3 (by omega) (by omega)) (Apart.app (apart_lt hlhD hfhowa21_3 (by omega)) (apart_lt hlhD hfhowb21_3 (by omega))) (by omega) (by omega), eB⟩
end Go.Proofs.Ytkdnnfkdgmblgaa

namespace Go.Proofs.Ytkdnnfkdgmblgaa
open Go
theorem mem_tbA {r : Nat → Nat → List Int} {M : Nat} {x : List Int} : ∀ {n : Nat}, x ∈ tbA r M n → ∃ a b, x = r a b
 | 0, h => by cases h
 | n + 1, h => by
  rcases List.mem_append.1 h with h | h
  ·exact mem_tbA h
  ·obtain ⟨b, _, rfl⟩ := List.mem_map.1 h
   exact ⟨n, b, rfl⟩
theorem cnt_spT {ah : Bool} {p sg : Int} {F : List (List Int)} {n below m : Int} (hn : 0 ≤ n ∧ n ≤ 8) (hb : 0 ≤ below ∧ below ≤ 8) (hm : 0 ≤ m ∧ m ≤ 8) : 0 ≤ cnt2 (spT ah p sg F n below m) ∧ cnt2 (spT ah p sg F n below m) ≤ 4096 := by
 have h1 := mul8 hb hm
 have h2 := mul8 hm hb
 refine cntL_bnd (c := 64) (m := 64) (by omega) (fun x hx => ?_) ?_
 ·obtain ⟨a, b, rfl⟩ := mem_tbA hx
  unfold cnt1 spR
  split
  ·rw [roA_len]; omega
  ·rw [roB_len]; omega
 ·rw [spT, tbA_len]
  have hC : (spC ah n m).toNat ≤ 8 := by unfold spC; split <;> omega
  have hO : (spO ah n m).toNat ≤ 8 := by unfold spO; split <;> omega
  exact Nat.mul_le_mul hC hO
theorem cnt_pdR {X Y : Cx} (hX : IsC X) (hY : IsC Y) : (0 ≤ cntL cnt1 (pdR X Y).dims ∧ cntL cnt1 (pdR X Y).dims ≤ 36) ∧ (0 ≤ cntL cnt3 (pdR X Y).ac ∧ cntL cnt3 (pdR X Y).ac ≤ 147456) ∧ 0 ≤ cntL cnt3 (pdR X Y).dn ∧ cntL cnt3 (pdR X Y).dn ≤ 147456 := by
 have lX := hX.len
 have lY := hY.len
 refine ⟨cntL_bnd (c := 6) (m := 6) (by omega) (fun x hx => ?_) (by simp [pdR]; omega), cntL_bnd (c := 24576) (m := 6) (by omega) (fun x hx => ?_) (by simp [pdR]; omega), cntL_bnd (c := 24576) (m := 6) (by omega) (fun x hx => ?_) (by simp [pdR]; omega)⟩
 ·obtain ⟨i, _, rfl⟩ := List.mem_map.1 hx
  unfold cnt1 pdDr
  rw [List.length_map, List.length_range]; omega
 ·obtain ⟨i, _, rfl⟩ := List.mem_map.1 hx
  refine cntL_bnd (c := 4096) (m := 6) (by omega) (fun y hy => ?_) (by simp [pdAr]; omega)
  obtain ⟨j, _, rfl⟩ := List.mem_map.1 hy
  exact cnt_spT (dimsD_nat hX i) (dimP_bnd hX _) (dimsD_nat hY j)
 ·obtain ⟨i, _, rfl⟩ := List.mem_map.1 hx
  refine cntL_bnd (c := 4096) (m := 6) (by omega) (fun y hy => ?_) (by simp [pdBr]; omega)
  obtain ⟨j, _, rfl⟩ := List.mem_map.1 hy
  exact cnt_spT (dimsD_nat hY j) (dimP_bnd hY _) (dimsD_nat hX i)
theorem cnt_pd (X Y : Cx) : (0 ≤ cntL cnt1 (pdP X Y).1.dims ∧ cntL cnt1 (pdP X Y).1.dims ≤ 36) ∧ (0 ≤ cntL cnt3 (pdP X Y).1.ac ∧ cntL cnt3 (pdP X Y).1.ac ≤ 147456) ∧ 0 ≤ cntL cnt3 (pdP X Y).1.dn ∧ cntL cnt3 (pdP X Y).1.dn ≤ 147456 := by
 have hz : (0 ≤ cntL cnt1 dbZ.dims ∧ cntL cnt1 dbZ.dims ≤ 36) ∧ (0 ≤ cntL cnt3 dbZ.ac ∧ cntL cnt3 dbZ.ac ≤ 147456) ∧ 0 ≤ cntL cnt3 dbZ.dn ∧ cntL cnt3 dbZ.dn ≤ 147456 := by simp [dbZ, cntL]
 unfold pdP
 split
 ·rename_i hc
  split
  ·split
   ·split
    ·exact cnt_pdR (isC_t.1 hc.1) (isC_t.1 hc.2)
    ·exact hz
   ·exact hz
  ·exact hz
 ·exact hz
end Go.Proofs.Ytkdnnfkdgmblgaa
