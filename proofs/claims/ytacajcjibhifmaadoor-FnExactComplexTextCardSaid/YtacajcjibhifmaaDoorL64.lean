/-
  Walks: the statement's function.
  Conditions: each theorem's own.
-/
import Derived.Test.YtacajcjibhifmaaDoorK4
import Derived.Test.YtacajcjibhifmaaDoorA2
import Derived.Test.YtacajcjibhifmaaDoorG16
set_option linter.unusedVariables false
set_option linter.unusedSimpArgs false
namespace Go.Proofs.YtacajcjibhifmaaDoor
open Go
set_option maxRecDepth 100000 in
set_option maxHeartbeats 4000000 in
theorem exactComplexText_law (vX : Value) (X : Cx) (h : Heap) (rX : RC h vX X)  : CallA Tryd.prog 3 #[vX] h fun v' h' => v' = .bool (true) ∧ Ext h h' := by
  obtain ⟨vdX, vmX, rfl, hdX, hmX⟩ := rX
  have hledX := RdS.le hdX
  have hlemX := RdS.le hmX
  refine callA_intro TTok (args := [_]) Tryd.func3 (by kernel_rfl) rfl 40 rfl (by simp) [.tmp 2] rfl ?_
  simp only [idxs, Nat.reduceAdd]
  refine den_seq ?_
  refine den_region TTok ?_
  intro K hK
  simp -implicitDefEqProofs (disch := first | decide | assumption | omega) only [go_sem, wrap_id, sV_0, sV_44, sV_45, sV_58, sV_59, sV_cells, bin_sadd, bin_sne, bin_seq, cv_i64, wrap_u8]
  refine op_box (cs := #[.int .i64 (X.p), vdX, vmX]) rfl ?_
  intro h0_0 e0_0 hb0_0 z0_0
  have := Ext.size e0_0
  have eB := e0_0
  have hfhb0_0 : Fresh h.size [h.size] := Fresh.one _
  have hlhb0_0 := one_lt (show h.size < h0_0.size by omega)
  try simp -implicitDefEqProofs (disch := first | decide | assumption | omega) only [go_sem, wrap_id, sV_0, sV_44, sV_45, sV_58, sV_59, sV_cells, bin_sadd, bin_sne, bin_seq, cv_i64, wrap_u8]
  refine hK _ _ ?_
  clear hK K
  refine den_seq ?_
  refine den_region TTok ?_
  intro K hK
  simp -implicitDefEqProofs (disch := first | decide | assumption | omega) only [go_sem, wrap_id, sV_0, sV_44, sV_45, sV_58, sV_59, sV_cells, bin_sadd, bin_sne, bin_seq, cv_i64, wrap_u8]
  refine hK _ _ ?_
  clear hK K
  refine den_seq ?_
  refine den_region TTok ?_
  intro K hK
  simp -implicitDefEqProofs (disch := first | decide | assumption | omega) only [go_sem, ld25, BoxAt.cell hb0_0, wrap_id, sV_0, sV_44, sV_45, sV_58, sV_59, sV_cells, bin_sadd, bin_sne, bin_seq, cv_i64, wrap_u8]
  try simp -implicitDefEqProofs (disch := first | decide | assumption | omega) only [go_sem, wrap_id, sV_0, sV_44, sV_45, sV_58, sV_59, sV_cells, bin_sadd, bin_sne, bin_seq, cv_i64, wrap_u8]
  refine CallA.mono (szC_ok _ X _ _ ⟨_, _, rfl, (RdS.pres hdX (Ext.pres eB)), (RdS.pres hmX (Ext.pres eB))⟩ (by omega) (by omega)) ?_
  intro v_ h2_2
  rintro ⟨rfl, e2_2⟩
  replace hb0_0 := BoxAt.ext hb0_0 e2_2
  have := Ext.size e2_2
  replace eB := Ext.trans eB e2_2
  have := szC_le X (1048576 : Int) (by omega)
  try simp -implicitDefEqProofs (disch := first | decide | assumption | omega) only [go_sem, wrap_id, sV_0, sV_44, sV_45, sV_58, sV_59, sV_cells, bin_sadd, bin_sne, bin_seq, cv_i64, wrap_u8]
  refine hK _ _ ?_
  clear hK K
  refine den_seq ?_
  refine den_seq ?_
  refine den_region TTok ?_
  intro K hK
  simp -implicitDefEqProofs (disch := first | decide | assumption | omega) only [go_sem, wrap_id, sV_0, sV_44, sV_45, sV_58, sV_59, sV_cells, bin_sadd, bin_sne, bin_seq, cv_i64, wrap_u8]
  refine hK _ _ ?_
  clear hK K
  refine den_cond rfl (fun c0 => ?_) (fun c0 => ?_)
  · try simp only [decide_eq_true_eq, decide_eq_false_iff_not, beq_iff_eq, beq_eq_false_iff_ne, bne_iff_ne, ne_eq, Bool.not_eq_true', Bool.not_eq_false', Bool.and_eq_true, Bool.or_eq_true, bne_eq_false_iff_eq] at c0
    refine den_seq ?_
    refine den_region TTok ?_
    intro K hK
    simp -implicitDefEqProofs (disch := first | decide | assumption | omega) only [go_sem, wrap_id, sV_0, sV_44, sV_45, sV_58, sV_59, sV_cells, bin_sadd, bin_sne, bin_seq, cv_i64, wrap_u8]
    refine hK _ _ ?_
    clear hK K
    refine den_ret ?_
    simp (disch := decide) only [resP_1, puts_same, puts_ne]
    exact ⟨by first | rfl | trivial, eB⟩
  · try simp only [decide_eq_true_eq, decide_eq_false_iff_not, beq_iff_eq, beq_eq_false_iff_ne, bne_iff_ne, ne_eq, Bool.not_eq_true', Bool.not_eq_false', Bool.and_eq_true, Bool.or_eq_true, bne_eq_false_iff_eq] at c0
    have hMX := szC_ok' (by omega) (by omega) c0
    have hcnX := szC_cntA (by omega) (by omega) c0
    refine den_skip ?_
    refine den_seq ?_
    refine den_region TTok ?_
    intro K hK
    simp -implicitDefEqProofs (disch := first | decide | assumption | omega) only [go_sem, ld25, BoxAt.cell hb0_0, wrap_id, sV_0, sV_44, sV_45, sV_58, sV_59, sV_cells, bin_sadd, bin_sne, bin_seq, cv_i64, wrap_u8]
    try simp -implicitDefEqProofs (disch := first | decide | assumption | omega) only [go_sem, wrap_id, sV_0, sV_44, sV_45, sV_58, sV_59, sV_cells, bin_sadd, bin_sne, bin_seq, cv_i64, wrap_u8]
    refine CallA.mono (toC_ok _ X _ ⟨_, _, rfl, (RdS.pres hdX (Ext.pres eB)), (RdS.pres hmX (Ext.pres eB))⟩ hMX) ?_
    intro v_ h5_1
    rintro ⟨vd5_1, vm5_1, fd5_1, fm5_1, rfl, hod5_1, hom5_1, hf5_1, e5_1⟩
    replace hb0_0 := BoxAt.ext hb0_0 e5_1
    have := Ext.size e5_1
    replace eB := Ext.trans eB e5_1
    have hfd5_1 := hf5_1.left
    have hfm5_1 := hf5_1.right
    have hlhod5_1 := OS.lt hod5_1
    have hlhom5_1 := OS.lt hom5_1
    have ap1 : Apart fd5_1 fm5_1 := apart_nodup hf5_1
    try simp -implicitDefEqProofs (disch := first | decide | assumption | omega) only [go_sem, wrap_id, sV_0, sV_44, sV_45, sV_58, sV_59, sV_cells, bin_sadd, bin_sne, bin_seq, cv_i64, wrap_u8]
    try simp -implicitDefEqProofs (disch := first | decide | assumption | omega) only [go_sem, wrap_id, sV_0, sV_44, sV_45, sV_58, sV_59, sV_cells, bin_sadd, bin_sne, bin_seq, cv_i64, wrap_u8]
    refine CallA.mono (sCT_ok _ X _ ⟨_, _, rfl, (OS.rd hod5_1), (OS.rd hom5_1)⟩ ) ?_
    intro v_ h5_2
    rintro ⟨rfl, e5_2⟩
    replace hod5_1 := OS.ext hod5_1 e5_2
    replace hom5_1 := OS.ext hom5_1 e5_2
    replace hb0_0 := BoxAt.ext hb0_0 e5_2
    have := Ext.size e5_2
    replace eB := Ext.trans eB e5_2
    try simp -implicitDefEqProofs (disch := first | decide | assumption | omega) only [go_sem, wrap_id, sV_0, sV_44, sV_45, sV_58, sV_59, sV_cells, bin_sadd, bin_sne, bin_seq, cv_i64, wrap_u8]
    refine hK _ _ ?_
    clear hK K
    refine den_seq ?_
    refine den_region TTok ?_
    intro K hK
    simp -implicitDefEqProofs (disch := first | decide | assumption | omega) only [go_sem, ld25, BoxAt.cell hb0_0, wrap_id, sV_0, sV_44, sV_45, sV_58, sV_59, sV_cells, bin_sadd, bin_sne, bin_seq, cv_i64, wrap_u8]
    try simp -implicitDefEqProofs (disch := first | decide | assumption | omega) only [go_sem, wrap_id, sV_0, sV_44, sV_45, sV_58, sV_59, sV_cells, bin_sadd, bin_sne, bin_seq, cv_i64, wrap_u8]
    refine CallA.mono (toC_ok _ X _ ⟨_, _, rfl, (RdS.pres hdX (Ext.pres eB)), (RdS.pres hmX (Ext.pres eB))⟩ hMX) ?_
    intro v_ h6_1
    rintro ⟨vd6_1, vm6_1, fd6_1, fm6_1, rfl, hod6_1, hom6_1, hf6_1, e6_1⟩
    replace hb0_0 := BoxAt.ext hb0_0 e6_1
    have := Ext.size e6_1
    replace eB := Ext.trans eB e6_1
    have hfd6_1 := hf6_1.left
    have hfm6_1 := hf6_1.right
    have hlhod6_1 := OS.lt hod6_1
    have hlhom6_1 := OS.lt hom6_1
    have ap2 : Apart fd6_1 fm6_1 := apart_nodup hf6_1
    try simp -implicitDefEqProofs (disch := first | decide | assumption | omega) only [go_sem, wrap_id, sV_0, sV_44, sV_45, sV_58, sV_59, sV_cells, bin_sadd, bin_sne, bin_seq, cv_i64, wrap_u8]
    refine op_alloc (cs := #[.int .i64 0, .slice none 0 0, .slice none 0 0]) (by kernel_rfl) ?_
    intro h6_2 e6_2 hb6_2 z6_2
    replace hod6_1 := OS.ext hod6_1 e6_2
    replace hom6_1 := OS.ext hom6_1 e6_2
    replace hb0_0 := BoxAt.ext hb0_0 e6_2
    have := Ext.size e6_2
    replace eB := Ext.trans eB e6_2
    have hfhb6_2 : Fresh h6_1.size [h6_1.size] := Fresh.one _
    have hlhb6_2 := one_lt (show h6_1.size < h6_2.size by omega)
    try simp -implicitDefEqProofs (disch := first | decide | assumption | omega) only [go_sem, wrap_id, sV_0, sV_44, sV_45, sV_58, sV_59, sV_cells, bin_sadd, bin_sne, bin_seq, cv_i64, wrap_u8]
    refine op_storeB (cs' := #[.int .i64 (X.p), vd6_1, vm6_1]) st29 hb6_2 rfl rfl rfl (by simp) (allOne_mem (l := [.int .i64 (X.p), vd6_1, vm6_1]) ⟨rfl, (OS.one hod6_1).1, (OS.one hom6_1).1, trivial⟩) rfl ?_
    intro h6_3 hb6_2 c6_3
    replace hod6_1 := OS.chg hod6_1 c6_3 (apart_lt hlhod6_1 hfhb6_2 (by omega))
    replace hom6_1 := OS.chg hom6_1 c6_3 (apart_lt hlhom6_1 hfhb6_2 (by omega))
    replace hb0_0 := BoxAt.chgA hb0_0 c6_3 (apart_lt hlhb0_0 hfhb6_2 (by omega))
    have := c6_3.size
    replace eB := Ext.then eB c6_3 (ge_of hfhb6_2 (by omega))
    try simp -implicitDefEqProofs (disch := first | decide | assumption | omega) only [go_sem, wrap_id, sV_0, sV_44, sV_45, sV_58, sV_59, sV_cells, bin_sadd, bin_sne, bin_seq, cv_i64, wrap_u8]
    refine hK _ _ ?_
    clear hK K
    refine den_seq ?_
    refine den_region TTok ?_
    intro K hK
    simp -implicitDefEqProofs (disch := first | decide | assumption | omega) only [go_sem, ld29, BoxAt.cell hb6_2, wrap_id, sV_0, sV_44, sV_45, sV_58, sV_59, sV_cells, bin_sadd, bin_sne, bin_seq, cv_i64, wrap_u8]
    try simp -implicitDefEqProofs (disch := first | decide | assumption | omega) only [go_sem, wrap_id, sV_0, sV_44, sV_45, sV_58, sV_59, sV_cells, bin_sadd, bin_sne, bin_seq, cv_i64, wrap_u8]
    refine CallA.mono (iCT_ok _ X _ ⟨_, _, rfl, (OS.rd hod6_1), (OS.rd hom6_1)⟩ ) ?_
    intro v_ h7_1
    rintro ⟨rfl, e7_1⟩
    replace hod6_1 := OS.ext hod6_1 e7_1
    replace hom6_1 := OS.ext hom6_1 e7_1
    replace hb0_0 := BoxAt.ext hb0_0 e7_1
    replace hb6_2 := BoxAt.ext hb6_2 e7_1
    have := Ext.size e7_1
    replace eB := Ext.trans eB e7_1
    try simp -implicitDefEqProofs (disch := first | decide | assumption | omega) only [go_sem, wrap_id, sV_0, sV_44, sV_45, sV_58, sV_59, sV_cells, bin_sadd, bin_sne, bin_seq, cv_i64, wrap_u8]
    refine hK _ _ ?_
    clear hK K
    refine den_seq ?_
    refine den_seq ?_
    refine den_mergeH [(34, .bool (((((txR X).1) != ((txR X).1)) || (((txR X).2) != ((txR X).2)))))] [1, 6] ?_ ?_
      -- a way
    · refine den_region TTok ?_
      intro K hK
      simp -implicitDefEqProofs (disch := first | decide | assumption | (simp (disch := decide) only [slotOf_zero, slotOf_succ, Option.map_some, puts_same, puts_ne, gv_bool, gv_undef, tt, tf, ft, ff, eq_self, if_true, if_false, Bool.false_eq_true, Bool.not_true, Bool.not_false]; done) | omega) only [go_sem, wrap_id, sV_0, sV_44, sV_45, sV_58, sV_59, sV_cells, bin_sadd, bin_sne, bin_seq, cv_i64, wrap_u8]
      refine opsP_F (by simp (disch := decide) only [slotOf_zero, slotOf_succ, Option.map_some, puts_same, puts_ne, gv_bool, gv_undef, tt, tf, ft, ff, eq_self, if_true, if_false, Bool.false_eq_true, Bool.not_true, Bool.not_false]; rfl) (fun g3 => ?_) (fun g3 => ?_)
      · try simp -implicitDefEqProofs (disch := first | decide | assumption | (simp (disch := decide) only [slotOf_zero, slotOf_succ, Option.map_some, puts_same, puts_ne, gv_bool, gv_undef, tt, tf, ft, ff, eq_self, if_true, if_false, Bool.false_eq_true, Bool.not_true, Bool.not_false, g3]; done) | omega) only [go_sem, wrap_id, sV_0, sV_44, sV_45, sV_58, sV_59, sV_cells, bin_sadd, bin_sne, bin_seq, cv_i64, wrap_u8, g3, eq_self, if_true, if_false, Bool.false_eq_true]
        refine hK _ _ ?_
        clear hK K
        refine den_stop ?_
        refine ⟨?_, rfl⟩
        first | (simp (disch := decide) only [go_sem, g3, eq_self, Bool.true_and, Bool.and_true, Bool.false_and, Bool.and_false, Bool.true_or, Bool.or_true, Bool.false_or, Bool.or_false, if_true, if_false, Bool.false_eq_true]; done) | simp [HasL, sel, puts_at, g3]
      · try simp -implicitDefEqProofs (disch := first | decide | assumption | (simp (disch := decide) only [slotOf_zero, slotOf_succ, Option.map_some, puts_same, puts_ne, gv_bool, gv_undef, tt, tf, ft, ff, eq_self, if_true, if_false, Bool.false_eq_true, Bool.not_true, Bool.not_false, g3]; done) | omega) only [go_sem, wrap_id, sV_0, sV_44, sV_45, sV_58, sV_59, sV_cells, bin_sadd, bin_sne, bin_seq, cv_i64, wrap_u8, g3, eq_self, if_true, if_false, Bool.false_eq_true]
        refine hK _ _ ?_
        clear hK K
        refine den_stop ?_
        refine ⟨?_, rfl⟩
        first | (simp (disch := decide) only [go_sem, g3, eq_self, Bool.true_and, Bool.and_true, Bool.false_and, Bool.and_false, Bool.true_or, Bool.or_true, Bool.false_or, Bool.or_false, if_true, if_false, Bool.false_eq_true]; done) | simp [HasL, sel, puts_at, g3]
    intro en4
    simp (disch := decide) only [go_sem]
    refine den_cond rfl (fun c1 => ?_) (fun c1 => ?_)
    · try simp only [decide_eq_true_eq, decide_eq_false_iff_not, beq_iff_eq, beq_eq_false_iff_ne, bne_iff_ne, ne_eq, Bool.not_eq_true', Bool.not_eq_false', Bool.and_eq_true, Bool.or_eq_true, bne_eq_false_iff_eq] at c1
      refine den_seq ?_
      refine den_region TTok ?_
      intro K hK
      simp -implicitDefEqProofs (disch := first | decide | assumption | omega) only [go_sem, wrap_id, sV_0, sV_44, sV_45, sV_58, sV_59, sV_cells, bin_sadd, bin_sne, bin_seq, cv_i64, wrap_u8]
      refine hK _ _ ?_
      clear hK K
      refine den_ret ?_
      simp (disch := decide) only [resP_1, puts_same, puts_ne]
      exact absurd c1 (by first | (simp; done) | (simp; omega) | omega | (simp [eqC_self]; done))
    · try simp only [decide_eq_true_eq, decide_eq_false_iff_not, beq_iff_eq, beq_eq_false_iff_ne, bne_iff_ne, ne_eq, Bool.not_eq_true', Bool.not_eq_false', Bool.and_eq_true, Bool.or_eq_true, bne_eq_false_iff_eq] at c1
      refine den_skip ?_
      refine den_seq ?_
      refine den_seq ?_
      refine den_draw TTok mixed [] [(0, true), (1, true), (2, false), (3, false), (4, true)] (by kernel_rfl) ?_
      intro K hK
      simp -implicitDefEqProofs (disch := first | decide | assumption | omega) only [go_sem, ld29, ld25, BoxAt.cell hb0_0, BoxAt.cell hb6_2, wrap_id, sV_0, sV_44, sV_45, sV_58, sV_59, sV_cells, bin_sadd, bin_sne, bin_seq, cv_i64, wrap_u8]
      try simp -implicitDefEqProofs (disch := first | decide | assumption | omega) only [go_sem, wrap_id, sV_0, sV_44, sV_45, sV_58, sV_59, sV_cells, bin_sadd, bin_sne, bin_seq, cv_i64, wrap_u8]
      refine CallA.mono (toC_ok _ X _ ⟨_, _, rfl, (RdS.pres hdX (Ext.pres eB)), (RdS.pres hmX (Ext.pres eB))⟩ hMX) ?_
      intro v_ h10_2
      rintro ⟨vd10_2, vm10_2, fd10_2, fm10_2, rfl, hod10_2, hom10_2, hf10_2, e10_2⟩
      replace hod6_1 := OS.ext hod6_1 e10_2
      replace hom6_1 := OS.ext hom6_1 e10_2
      replace hb0_0 := BoxAt.ext hb0_0 e10_2
      replace hb6_2 := BoxAt.ext hb6_2 e10_2
      have := Ext.size e10_2
      replace eB := Ext.trans eB e10_2
      have hfd10_2 := hf10_2.left
      have hfm10_2 := hf10_2.right
      have hlhod10_2 := OS.lt hod10_2
      have hlhom10_2 := OS.lt hom10_2
      have ap7 : Apart fd10_2 fm10_2 := apart_nodup hf10_2
      try simp (disch := decide) only [outv_some, outv_none, put_puts]
      refine plK_pres (Ext.pres e10_2) ?_
      try simp -implicitDefEqProofs (disch := first | decide | assumption | omega) only [go_sem, wrap_id, sV_0, sV_44, sV_45, sV_58, sV_59, sV_cells, bin_sadd, bin_sne, bin_seq, cv_i64, wrap_u8]
      try simp -implicitDefEqProofs (disch := first | decide | assumption | omega) only [go_sem, wrap_id, sV_0, sV_44, sV_45, sV_58, sV_59, sV_cells, bin_sadd, bin_sne, bin_seq, cv_i64, wrap_u8]
      refine CallA.mono (eqC_same _ _ X _ ⟨_, _, rfl, (OS.rd hod6_1), (OS.rd hom6_1)⟩ ⟨_, _, rfl, (OS.rd hod10_2), (OS.rd hom10_2)⟩) ?_
      intro v_ h10_3
      rintro ⟨rfl, e10_3⟩
      replace hod6_1 := OS.ext hod6_1 e10_3
      replace hom6_1 := OS.ext hom6_1 e10_3
      replace hod10_2 := OS.ext hod10_2 e10_3
      replace hom10_2 := OS.ext hom10_2 e10_3
      replace hb0_0 := BoxAt.ext hb0_0 e10_3
      replace hb6_2 := BoxAt.ext hb6_2 e10_3
      have := Ext.size e10_3
      replace eB := Ext.trans eB e10_3
      try simp (disch := decide) only [outv_some, outv_none, put_puts]
      refine plK_pres (Ext.pres e10_3) ?_
      try simp -implicitDefEqProofs (disch := first | decide | assumption | omega) only [go_sem, wrap_id, sV_0, sV_44, sV_45, sV_58, sV_59, sV_cells, bin_sadd, bin_sne, bin_seq, cv_i64, wrap_u8]
      refine hK _ _ ?_
      clear hK K
      refine den_cond rfl (fun c2 => ?_) (fun c2 => ?_)
      · try simp only [decide_eq_true_eq, decide_eq_false_iff_not, beq_iff_eq, beq_eq_false_iff_ne, bne_iff_ne, ne_eq, Bool.not_eq_true', Bool.not_eq_false', Bool.and_eq_true, Bool.or_eq_true, bne_eq_false_iff_eq] at c2
        refine den_seq ?_
        refine den_region TTok ?_
        intro K hK
        simp -implicitDefEqProofs (disch := first | decide | assumption | omega) only [go_sem, wrap_id, sV_0, sV_44, sV_45, sV_58, sV_59, sV_cells, bin_sadd, bin_sne, bin_seq, cv_i64, wrap_u8]
        refine hK _ _ ?_
        clear hK K
        refine den_ret ?_
        simp (disch := decide) only [resP_1, puts_same, puts_ne]
        exact absurd c2 (by first | (simp; done) | (simp; omega) | omega | (simp [eqC_self]; done))
      · try simp only [decide_eq_true_eq, decide_eq_false_iff_not, beq_iff_eq, beq_eq_false_iff_ne, bne_iff_ne, ne_eq, Bool.not_eq_true', Bool.not_eq_false', Bool.and_eq_true, Bool.or_eq_true, bne_eq_false_iff_eq] at c2
        refine den_skip ?_
        refine den_seq ?_
        refine den_region TTok ?_
        intro K hK
        simp -implicitDefEqProofs (disch := first | decide | assumption | omega) only [go_sem, wrap_id, sV_0, sV_44, sV_45, sV_58, sV_59, sV_cells, bin_sadd, bin_sne, bin_seq, cv_i64, wrap_u8]
        refine hK _ _ ?_
        clear hK K
        refine den_ret ?_
        simp (disch := decide) only [resP_1, puts_same, puts_ne]
        exact ⟨by first | rfl | trivial, eB⟩

end Go.Proofs.YtacajcjibhifmaaDoor
