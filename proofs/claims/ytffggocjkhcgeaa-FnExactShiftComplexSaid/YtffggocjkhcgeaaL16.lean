/-
  Walks: the statement's function.
  Conditions: each theorem's own.
-/
import Derived.Test.YtffggocjkhcgeaaP16b
set_option linter.unusedVariables false
set_option linter.unusedSimpArgs false
namespace Go.Proofs.Ytffggocjkhcgeaa
open Go
set_option maxRecDepth 100000 in
set_option maxHeartbeats 4000000 in
theorem exactShiftComplex_law (vX : Value) (X : Cx) (k : Int) (h : Heap) (rX : RC h vX X)  : CallA Try.prog 6 #[vX, .int .i64 k] h fun v' h' => v' = .bool (true) ∧ Ext h h' := by
  obtain ⟨vdX, vmX, rfl, hdX, hmX⟩ := rX
  have hledX := RdS.le hdX
  have hlemX := RdS.le hmX
  refine callA_intro TTok (args := [_, _]) Try.func6 (by kernel_rfl) rfl 101 rfl (by simp) [.tmp 4] rfl ?_
  simp only [idxs, Nat.reduceAdd]
  refine den_seq ?_
  refine den_region TTok ?_
  intro K hK
  simp -implicitDefEqProofs (disch := first | decide | assumption | omega) only [go_sem, wrap_id]
  refine op_box (cs := #[.int .i64 (X.p), vdX, vmX]) rfl ?_
  intro h0_0 e0_0 hb0_0 z0_0
  have := Ext.size e0_0
  have eB := e0_0
  have hfhb0_0 : Fresh h.size [h.size] := Fresh.one _
  have hlhb0_0 := one_lt (show h.size < h0_0.size by omega)
  try simp -implicitDefEqProofs (disch := first | decide | assumption | omega) only [go_sem, BoxAt.cell hb0_0, wrap_id]
  refine hK _ _ ?_
  clear hK K
  refine den_seq ?_
  refine den_region TTok ?_
  intro K hK
  simp -implicitDefEqProofs (disch := first | decide | assumption | omega) only [go_sem, BoxAt.cell hb0_0, wrap_id]
  refine hK _ _ ?_
  clear hK K
  refine den_seq ?_
  refine den_region TTok ?_
  intro K hK
  simp -implicitDefEqProofs (disch := first | decide | assumption | omega) only [go_sem, ld25, BoxAt.cell hb0_0, wrap_id]
  try simp -implicitDefEqProofs (disch := first | decide | assumption | omega) only [go_sem, BoxAt.cell hb0_0, wrap_id]
  refine CallA.mono (szC_ok _ X _ _ ⟨_, _, rfl, (RdS.pres hdX (Ext.pres eB)), (RdS.pres hmX (Ext.pres eB))⟩ (by omega) (by omega)) ?_
  intro v_ h2_2
  rintro ⟨rfl, e2_2⟩
  replace hb0_0 := BoxAt.ext hb0_0 e2_2
  have := Ext.size e2_2
  replace eB := Ext.trans eB e2_2
  have := szC_le X (1048576 : Int) (by omega)
  try simp -implicitDefEqProofs (disch := first | decide | assumption | omega) only [go_sem, BoxAt.cell hb0_0, wrap_id]
  refine hK _ _ ?_
  clear hK K
  refine den_seq ?_
  refine den_seq ?_
  refine den_region TTok ?_
  intro K hK
  simp -implicitDefEqProofs (disch := first | decide | assumption | omega) only [go_sem, BoxAt.cell hb0_0, wrap_id]
  refine hK _ _ ?_
  clear hK K
  refine den_cond rfl (fun c0 => ?_) (fun c0 => ?_)
  · try simp only [decide_eq_true_eq, decide_eq_false_iff_not, beq_iff_eq, beq_eq_false_iff_ne, bne_iff_ne, ne_eq, Bool.not_eq_true', Bool.not_eq_false', Bool.and_eq_true, Bool.or_eq_true, bne_eq_false_iff_eq] at c0
    refine den_seq ?_
    refine den_region TTok ?_
    intro K hK
    simp -implicitDefEqProofs (disch := first | decide | assumption | omega) only [go_sem, wrap_id]
    refine hK _ _ ?_
    clear hK K
    refine den_ret ?_
    simp (disch := decide) only [resP_1, puts_same, puts_ne]
    exact ⟨by first | rfl | trivial, eB⟩
  · try simp only [decide_eq_true_eq, decide_eq_false_iff_not, beq_iff_eq, beq_eq_false_iff_ne, bne_iff_ne, ne_eq, Bool.not_eq_true', Bool.not_eq_false', Bool.and_eq_true, Bool.or_eq_true, bne_eq_false_iff_eq] at c0
    have hMX := szC_ok' (by omega) (by omega) c0
    have hcnX := szC_cntA (by omega) (by omega) c0
    have hci := cnt_shift X k
    refine den_skip ?_
    refine den_seq ?_
    refine den_region TTok ?_
    intro K hK
    simp -implicitDefEqProofs (disch := first | decide | assumption | omega) only [go_sem, ld25, BoxAt.cell hb0_0, wrap_id]
    try simp -implicitDefEqProofs (disch := first | decide | assumption | omega) only [go_sem, BoxAt.cell hb0_0, wrap_id]
    refine CallA.mono (toC_ok _ X _ ⟨_, _, rfl, (RdS.pres hdX (Ext.pres eB)), (RdS.pres hmX (Ext.pres eB))⟩ hMX) ?_
    intro v_ h5_1
    rintro ⟨vd5_1, vm5_1, fd5_1, fm5_1, rfl, hod5_1, hom5_1, hf5_1, e5_1⟩
    replace hb0_0 := BoxAt.ext hb0_0 e5_1
    have := Ext.size e5_1
    replace eB := Ext.trans eB e5_1
    have hfd5_1 := hf5_1.left
    have hfm5_1 := hf5_1.right
    have hlhod5_1 := OS.lt hod5_1
    have hlhom5_1 := OS.lt hom5_1
    have ap1 : Apart fd5_1 fm5_1 := apart_nodup hf5_1
    try simp -implicitDefEqProofs (disch := first | decide | assumption | omega) only [go_sem, BoxAt.cell hb0_0, wrap_id]
    try simp -implicitDefEqProofs (disch := first | decide | assumption | omega) only [go_sem, BoxAt.cell hb0_0, wrap_id]
    refine CallA.mono (sSh_ok _ X k _ ⟨_, _, rfl, (OS.rd hod5_1), (OS.rd hom5_1)⟩ ) ?_
    intro v_ h5_3
    rintro ⟨vd5_3_0, vm5_3_0, fd5_3_0, fm5_3_0, rfl, hod5_3_0, hom5_3_0, hf5_3_0, e5_3⟩
    replace hod5_1 := OS.ext hod5_1 e5_3
    replace hom5_1 := OS.ext hom5_1 e5_3
    replace hb0_0 := BoxAt.ext hb0_0 e5_3
    have := Ext.size e5_3
    replace eB := Ext.trans eB e5_3
    have hfd5_3_0 := hf5_3_0.left
    have hfm5_3_0 := hf5_3_0.right
    have hlhod5_3_0 := OS.lt hod5_3_0
    have hlhom5_3_0 := OS.lt hom5_3_0
    have ap2 : Apart fd5_3_0 fm5_3_0 := apart_nodup hf5_3_0
    try simp -implicitDefEqProofs (disch := first | decide | assumption | omega) only [go_sem, BoxAt.cell hb0_0, wrap_id]
    refine op_alloc (cs := #[.int .i64 0, .slice none 0 0, .slice none 0 0]) (by kernel_rfl) ?_
    intro h5_7 e5_7 hb5_7 z5_7
    replace hod5_1 := OS.ext hod5_1 e5_7
    replace hom5_1 := OS.ext hom5_1 e5_7
    replace hod5_3_0 := OS.ext hod5_3_0 e5_7
    replace hom5_3_0 := OS.ext hom5_3_0 e5_7
    replace hb0_0 := BoxAt.ext hb0_0 e5_7
    have := Ext.size e5_7
    replace eB := Ext.trans eB e5_7
    have hfhb5_7 : Fresh h5_3.size [h5_3.size] := Fresh.one _
    have hlhb5_7 := one_lt (show h5_3.size < h5_7.size by omega)
    try simp -implicitDefEqProofs (disch := first | decide | assumption | omega) only [go_sem, BoxAt.cell hb0_0, BoxAt.cell hb5_7, wrap_id]
    refine op_storeB (cs' := #[.int .i64 ((((shP X k).1).p)), vd5_3_0, vm5_3_0]) st30 hb5_7 rfl rfl rfl (by simp) (allOne_mem (l := [.int .i64 ((((shP X k).1).p)), vd5_3_0, vm5_3_0]) ⟨rfl, (OS.one hod5_3_0).1, (OS.one hom5_3_0).1, trivial⟩) rfl ?_
    intro h5_8 hb5_7 c5_8
    replace hod5_1 := OS.chg hod5_1 c5_8 (apart_lt hlhod5_1 hfhb5_7 (by omega))
    replace hom5_1 := OS.chg hom5_1 c5_8 (apart_lt hlhom5_1 hfhb5_7 (by omega))
    replace hod5_3_0 := OS.chg hod5_3_0 c5_8 (apart_lt hlhod5_3_0 hfhb5_7 (by omega))
    replace hom5_3_0 := OS.chg hom5_3_0 c5_8 (apart_lt hlhom5_3_0 hfhb5_7 (by omega))
    replace hb0_0 := BoxAt.chgA hb0_0 c5_8 (apart_lt hlhb0_0 hfhb5_7 (by omega))
    have := c5_8.size
    replace eB := Ext.then eB c5_8 (ge_of hfhb5_7 (by omega))
    try simp -implicitDefEqProofs (disch := first | decide | assumption | omega) only [go_sem, BoxAt.cell hb0_0, BoxAt.cell hb5_7, wrap_id]
    refine hK _ _ ?_
    clear hK K
    refine den_seq ?_
    refine den_region TTok ?_
    intro K hK
    simp -implicitDefEqProofs (disch := first | decide | assumption | omega) only [go_sem, ld25, BoxAt.cell hb0_0, BoxAt.cell hb5_7, wrap_id]
    try simp -implicitDefEqProofs (disch := first | decide | assumption | omega) only [go_sem, BoxAt.cell hb0_0, BoxAt.cell hb5_7, wrap_id]
    refine CallA.mono (toC_ok _ X _ ⟨_, _, rfl, (RdS.pres hdX (Ext.pres eB)), (RdS.pres hmX (Ext.pres eB))⟩ hMX) ?_
    intro v_ h6_1
    rintro ⟨vd6_1, vm6_1, fd6_1, fm6_1, rfl, hod6_1, hom6_1, hf6_1, e6_1⟩
    replace hod5_3_0 := OS.ext hod5_3_0 e6_1
    replace hom5_3_0 := OS.ext hom5_3_0 e6_1
    replace hb0_0 := BoxAt.ext hb0_0 e6_1
    replace hb5_7 := BoxAt.ext hb5_7 e6_1
    have := Ext.size e6_1
    replace eB := Ext.trans eB e6_1
    have hfd6_1 := hf6_1.left
    have hfm6_1 := hf6_1.right
    have hlhod6_1 := OS.lt hod6_1
    have hlhom6_1 := OS.lt hom6_1
    have ap3 : Apart fd6_1 fm6_1 := apart_nodup hf6_1
    try simp -implicitDefEqProofs (disch := first | decide | assumption | omega) only [go_sem, BoxAt.cell hb0_0, BoxAt.cell hb5_7, wrap_id]
    refine op_alloc (cs := #[.int .i64 0, .slice none 0 0, .slice none 0 0]) (by kernel_rfl) ?_
    intro h6_2 e6_2 hb6_2 z6_2
    replace hod5_3_0 := OS.ext hod5_3_0 e6_2
    replace hom5_3_0 := OS.ext hom5_3_0 e6_2
    replace hod6_1 := OS.ext hod6_1 e6_2
    replace hom6_1 := OS.ext hom6_1 e6_2
    replace hb0_0 := BoxAt.ext hb0_0 e6_2
    replace hb5_7 := BoxAt.ext hb5_7 e6_2
    have := Ext.size e6_2
    replace eB := Ext.trans eB e6_2
    have hfhb6_2 : Fresh h6_1.size [h6_1.size] := Fresh.one _
    have hlhb6_2 := one_lt (show h6_1.size < h6_2.size by omega)
    try simp -implicitDefEqProofs (disch := first | decide | assumption | omega) only [go_sem, BoxAt.cell hb0_0, BoxAt.cell hb5_7, BoxAt.cell hb6_2, wrap_id]
    refine op_storeB (cs' := #[.int .i64 (X.p), vd6_1, vm6_1]) st30 hb6_2 rfl rfl rfl (by simp) (allOne_mem (l := [.int .i64 (X.p), vd6_1, vm6_1]) ⟨rfl, (OS.one hod6_1).1, (OS.one hom6_1).1, trivial⟩) rfl ?_
    intro h6_3 hb6_2 c6_3
    replace hod5_3_0 := OS.chg hod5_3_0 c6_3 (apart_lt hlhod5_3_0 hfhb6_2 (by omega))
    replace hom5_3_0 := OS.chg hom5_3_0 c6_3 (apart_lt hlhom5_3_0 hfhb6_2 (by omega))
    replace hod6_1 := OS.chg hod6_1 c6_3 (apart_lt hlhod6_1 hfhb6_2 (by omega))
    replace hom6_1 := OS.chg hom6_1 c6_3 (apart_lt hlhom6_1 hfhb6_2 (by omega))
    replace hb0_0 := BoxAt.chgA hb0_0 c6_3 (apart_lt hlhb0_0 hfhb6_2 (by omega))
    replace hb5_7 := BoxAt.chgA hb5_7 c6_3 (apart_lt hlhb5_7 hfhb6_2 (by omega))
    have := c6_3.size
    replace eB := Ext.then eB c6_3 (ge_of hfhb6_2 (by omega))
    try simp -implicitDefEqProofs (disch := first | decide | assumption | omega) only [go_sem, BoxAt.cell hb0_0, BoxAt.cell hb5_7, BoxAt.cell hb6_2, wrap_id]
    refine hK _ _ ?_
    clear hK K
    refine den_seq ?_
    refine den_region TTok ?_
    intro K hK
    simp -implicitDefEqProofs (disch := first | decide | assumption | omega) only [go_sem, ld30, BoxAt.cell hb0_0, BoxAt.cell hb5_7, BoxAt.cell hb6_2, wrap_id]
    try simp -implicitDefEqProofs (disch := first | decide | assumption | omega) only [go_sem, BoxAt.cell hb0_0, BoxAt.cell hb5_7, BoxAt.cell hb6_2, wrap_id]
    refine CallA.mono (iSh_ok _ X k _ ⟨_, _, rfl, (OS.rd hod6_1), (OS.rd hom6_1)⟩ ) ?_
    intro v_ h7_2
    rintro ⟨vd7_2_0, vm7_2_0, fd7_2_0, fm7_2_0, rfl, hod7_2_0, hom7_2_0, hf7_2_0, e7_2⟩
    replace hod5_3_0 := OS.ext hod5_3_0 e7_2
    replace hom5_3_0 := OS.ext hom5_3_0 e7_2
    replace hod6_1 := OS.ext hod6_1 e7_2
    replace hom6_1 := OS.ext hom6_1 e7_2
    replace hb0_0 := BoxAt.ext hb0_0 e7_2
    replace hb5_7 := BoxAt.ext hb5_7 e7_2
    replace hb6_2 := BoxAt.ext hb6_2 e7_2
    have := Ext.size e7_2
    replace eB := Ext.trans eB e7_2
    have hfd7_2_0 := hf7_2_0.left
    have hfm7_2_0 := hf7_2_0.right
    have hlhod7_2_0 := OS.lt hod7_2_0
    have hlhom7_2_0 := OS.lt hom7_2_0
    have ap4 : Apart fd7_2_0 fm7_2_0 := apart_nodup hf7_2_0
    try simp -implicitDefEqProofs (disch := first | decide | assumption | omega) only [go_sem, BoxAt.cell hb0_0, BoxAt.cell hb5_7, BoxAt.cell hb6_2, wrap_id]
    refine op_alloc (cs := #[.int .i64 0, .slice none 0 0, .slice none 0 0]) (by kernel_rfl) ?_
    intro h7_6 e7_6 hb7_6 z7_6
    replace hod5_3_0 := OS.ext hod5_3_0 e7_6
    replace hom5_3_0 := OS.ext hom5_3_0 e7_6
    replace hod6_1 := OS.ext hod6_1 e7_6
    replace hom6_1 := OS.ext hom6_1 e7_6
    replace hod7_2_0 := OS.ext hod7_2_0 e7_6
    replace hom7_2_0 := OS.ext hom7_2_0 e7_6
    replace hb0_0 := BoxAt.ext hb0_0 e7_6
    replace hb5_7 := BoxAt.ext hb5_7 e7_6
    replace hb6_2 := BoxAt.ext hb6_2 e7_6
    have := Ext.size e7_6
    replace eB := Ext.trans eB e7_6
    have hfhb7_6 : Fresh h7_2.size [h7_2.size] := Fresh.one _
    have hlhb7_6 := one_lt (show h7_2.size < h7_6.size by omega)
    try simp -implicitDefEqProofs (disch := first | decide | assumption | omega) only [go_sem, BoxAt.cell hb0_0, BoxAt.cell hb5_7, BoxAt.cell hb6_2, BoxAt.cell hb7_6, wrap_id]
    refine op_storeB (cs' := #[.int .i64 ((((shP X k).1).p)), vd7_2_0, vm7_2_0]) st30 hb7_6 rfl rfl rfl (by simp) (allOne_mem (l := [.int .i64 ((((shP X k).1).p)), vd7_2_0, vm7_2_0]) ⟨rfl, (OS.one hod7_2_0).1, (OS.one hom7_2_0).1, trivial⟩) rfl ?_
    intro h7_7 hb7_6 c7_7
    replace hod5_3_0 := OS.chg hod5_3_0 c7_7 (apart_lt hlhod5_3_0 hfhb7_6 (by omega))
    replace hom5_3_0 := OS.chg hom5_3_0 c7_7 (apart_lt hlhom5_3_0 hfhb7_6 (by omega))
    replace hod6_1 := OS.chg hod6_1 c7_7 (apart_lt hlhod6_1 hfhb7_6 (by omega))
    replace hom6_1 := OS.chg hom6_1 c7_7 (apart_lt hlhom6_1 hfhb7_6 (by omega))
    replace hod7_2_0 := OS.chg hod7_2_0 c7_7 (apart_lt hlhod7_2_0 hfhb7_6 (by omega))
    replace hom7_2_0 := OS.chg hom7_2_0 c7_7 (apart_lt hlhom7_2_0 hfhb7_6 (by omega))
    replace hb0_0 := BoxAt.chgA hb0_0 c7_7 (apart_lt hlhb0_0 hfhb7_6 (by omega))
    replace hb5_7 := BoxAt.chgA hb5_7 c7_7 (apart_lt hlhb5_7 hfhb7_6 (by omega))
    replace hb6_2 := BoxAt.chgA hb6_2 c7_7 (apart_lt hlhb6_2 hfhb7_6 (by omega))
    have := c7_7.size
    replace eB := Ext.then eB c7_7 (ge_of hfhb7_6 (by omega))
    try simp -implicitDefEqProofs (disch := first | decide | assumption | omega) only [go_sem, BoxAt.cell hb0_0, BoxAt.cell hb5_7, BoxAt.cell hb6_2, BoxAt.cell hb7_6, wrap_id]
    refine hK _ _ ?_
    clear hK K
    refine den_seq ?_
    refine den_seq ?_
    refine den_merge [(44, .bool (((!(true)) || (((shP X k).2) != ((shP X k).2)))))] [1, 2, 6, 7, 8, 9, 10] (fun H => Ext h7_7 H) ?_ ?_
      -- a way
    · refine den_region TTok ?_
      intro K hK
      simp -implicitDefEqProofs (disch := first | decide | assumption | (simp (disch := decide) only [slotOf_zero, slotOf_succ, Option.map_some, puts_same, puts_ne, gv_bool, gv_undef, tt, tf, ft, ff, eq_self, if_true, if_false, Bool.false_eq_true, Bool.not_true, Bool.not_false]; done) | omega) only [go_sem, ld30, BoxAt.cell hb0_0, BoxAt.cell hb5_7, BoxAt.cell hb6_2, BoxAt.cell hb7_6, wrap_id]
      try simp -implicitDefEqProofs (disch := first | decide | assumption | omega) only [go_sem, BoxAt.cell hb0_0, BoxAt.cell hb5_7, BoxAt.cell hb6_2, BoxAt.cell hb7_6, wrap_id]
      refine CallA.mono (eqC_same _ _ ((shP X k).1) _ ⟨_, _, rfl, (OS.rd hod7_2_0), (OS.rd hom7_2_0)⟩ ⟨_, _, rfl, (OS.rd hod5_3_0), (OS.rd hom5_3_0)⟩) ?_
      intro v_ h8_2
      rintro ⟨rfl, e8_2⟩
      replace hod5_3_0 := OS.ext hod5_3_0 e8_2
      replace hom5_3_0 := OS.ext hom5_3_0 e8_2
      replace hod6_1 := OS.ext hod6_1 e8_2
      replace hom6_1 := OS.ext hom6_1 e8_2
      replace hod7_2_0 := OS.ext hod7_2_0 e8_2
      replace hom7_2_0 := OS.ext hom7_2_0 e8_2
      replace hb0_0 := BoxAt.ext hb0_0 e8_2
      replace hb5_7 := BoxAt.ext hb5_7 e8_2
      replace hb6_2 := BoxAt.ext hb6_2 e8_2
      replace hb7_6 := BoxAt.ext hb7_6 e8_2
      have := Ext.size e8_2
      replace eB := Ext.trans eB e8_2
      try simp -implicitDefEqProofs (disch := first | decide | assumption | (simp (disch := decide) only [slotOf_zero, slotOf_succ, Option.map_some, puts_same, puts_ne, gv_bool, gv_undef, tt, tf, ft, ff, eq_self, if_true, if_false, Bool.false_eq_true, Bool.not_true, Bool.not_false]; done) | omega) only [go_sem, BoxAt.cell hb0_0, BoxAt.cell hb5_7, BoxAt.cell hb6_2, BoxAt.cell hb7_6, wrap_id]
      try simp -implicitDefEqProofs (disch := first | decide | assumption | (simp (disch := decide) only [slotOf_zero, slotOf_succ, Option.map_some, puts_same, puts_ne, gv_bool, gv_undef, tt, tf, ft, ff, eq_self, if_true, if_false, Bool.false_eq_true, Bool.not_true, Bool.not_false]; done) | omega) only [go_sem, BoxAt.cell hb0_0, BoxAt.cell hb5_7, BoxAt.cell hb6_2, BoxAt.cell hb7_6, wrap_id]
      refine hK _ _ ?_
      clear hK K
      refine den_stop ?_
      refine ⟨?_, e8_2⟩
      first | (simp (disch := decide) only [go_sem, eq_self, Bool.true_and, Bool.and_true, Bool.false_and, Bool.and_false, Bool.true_or, Bool.or_true, Bool.false_or, Bool.or_false, if_true, if_false, Bool.false_eq_true]; done) | simp [HasL, sel, puts_at]
    intro en5 h6 e7
    replace hod5_3_0 := OS.ext hod5_3_0 e7
    replace hom5_3_0 := OS.ext hom5_3_0 e7
    replace hod6_1 := OS.ext hod6_1 e7
    replace hom6_1 := OS.ext hom6_1 e7
    replace hod7_2_0 := OS.ext hod7_2_0 e7
    replace hom7_2_0 := OS.ext hom7_2_0 e7
    replace hb0_0 := BoxAt.ext hb0_0 e7
    replace hb5_7 := BoxAt.ext hb5_7 e7
    replace hb6_2 := BoxAt.ext hb6_2 e7
    replace hb7_6 := BoxAt.ext hb7_6 e7
    have := Ext.size e7
    replace eB := Ext.trans eB e7
    simp (disch := decide) only [go_sem]
    refine den_cond rfl (fun c1 => ?_) (fun c1 => ?_)
    · try simp only [decide_eq_true_eq, decide_eq_false_iff_not, beq_iff_eq, beq_eq_false_iff_ne, bne_iff_ne, ne_eq, Bool.not_eq_true', Bool.not_eq_false', Bool.and_eq_true, Bool.or_eq_true, bne_eq_false_iff_eq] at c1
      refine den_seq ?_
      refine den_region TTok ?_
      intro K hK
      simp -implicitDefEqProofs (disch := first | decide | assumption | omega) only [go_sem, wrap_id]
      refine hK _ _ ?_
      clear hK K
      refine den_ret ?_
      simp (disch := decide) only [resP_1, puts_same, puts_ne]
      exact absurd c1 (by first | (simp; done) | (simp; omega) | omega | (simp [eqC_self]; done))
    · try simp only [decide_eq_true_eq, decide_eq_false_iff_not, beq_iff_eq, beq_eq_false_iff_ne, bne_iff_ne, ne_eq, Bool.not_eq_true', Bool.not_eq_false', Bool.and_eq_true, Bool.or_eq_true, bne_eq_false_iff_eq] at c1
      refine den_skip ?_
      refine den_seq ?_
      refine den_seq ?_
      refine den_draw TTok mixed [] [(0, true), (1, true), (2, false), (3, false), (4, true)] (by kernel_rfl) ?_
      intro K hK
      simp -implicitDefEqProofs (disch := first | decide | assumption | omega) only [go_sem, ld30, ld25, BoxAt.cell hb0_0, BoxAt.cell hb5_7, BoxAt.cell hb6_2, BoxAt.cell hb7_6, wrap_id]
      try simp -implicitDefEqProofs (disch := first | decide | assumption | omega) only [go_sem, BoxAt.cell hb0_0, BoxAt.cell hb5_7, BoxAt.cell hb6_2, BoxAt.cell hb7_6, wrap_id]
      refine CallA.mono (toC_ok _ X _ ⟨_, _, rfl, (RdS.pres hdX (Ext.pres eB)), (RdS.pres hmX (Ext.pres eB))⟩ hMX) ?_
      intro v_ h10_2
      rintro ⟨vd10_2, vm10_2, fd10_2, fm10_2, rfl, hod10_2, hom10_2, hf10_2, e10_2⟩
      replace hod5_3_0 := OS.ext hod5_3_0 e10_2
      replace hom5_3_0 := OS.ext hom5_3_0 e10_2
      replace hod6_1 := OS.ext hod6_1 e10_2
      replace hom6_1 := OS.ext hom6_1 e10_2
      replace hod7_2_0 := OS.ext hod7_2_0 e10_2
      replace hom7_2_0 := OS.ext hom7_2_0 e10_2
      replace hb0_0 := BoxAt.ext hb0_0 e10_2
      replace hb5_7 := BoxAt.ext hb5_7 e10_2
      replace hb6_2 := BoxAt.ext hb6_2 e10_2
      replace hb7_6 := BoxAt.ext hb7_6 e10_2
      have := Ext.size e10_2
      replace eB := Ext.trans eB e10_2
      have hfd10_2 := hf10_2.left
      have hfm10_2 := hf10_2.right
      have hlhod10_2 := OS.lt hod10_2
      have hlhom10_2 := OS.lt hom10_2
      have ap8 : Apart fd10_2 fm10_2 := apart_nodup hf10_2
      try simp (disch := decide) only [outv_some, outv_none, put_puts]
      refine plK_pres (Ext.pres e10_2) ?_
      try simp -implicitDefEqProofs (disch := first | decide | assumption | omega) only [go_sem, BoxAt.cell hb0_0, BoxAt.cell hb5_7, BoxAt.cell hb6_2, BoxAt.cell hb7_6, wrap_id]
      try simp -implicitDefEqProofs (disch := first | decide | assumption | omega) only [go_sem, BoxAt.cell hb0_0, BoxAt.cell hb5_7, BoxAt.cell hb6_2, BoxAt.cell hb7_6, wrap_id]
      refine CallA.mono (eqC_same _ _ X _ ⟨_, _, rfl, (OS.rd hod6_1), (OS.rd hom6_1)⟩ ⟨_, _, rfl, (OS.rd hod10_2), (OS.rd hom10_2)⟩) ?_
      intro v_ h10_3
      rintro ⟨rfl, e10_3⟩
      replace hod5_3_0 := OS.ext hod5_3_0 e10_3
      replace hom5_3_0 := OS.ext hom5_3_0 e10_3
      replace hod6_1 := OS.ext hod6_1 e10_3
      replace hom6_1 := OS.ext hom6_1 e10_3
      replace hod7_2_0 := OS.ext hod7_2_0 e10_3
      replace hom7_2_0 := OS.ext hom7_2_0 e10_3
      replace hod10_2 := OS.ext hod10_2 e10_3
      replace hom10_2 := OS.ext hom10_2 e10_3
      replace hb0_0 := BoxAt.ext hb0_0 e10_3
      replace hb5_7 := BoxAt.ext hb5_7 e10_3
      replace hb6_2 := BoxAt.ext hb6_2 e10_3
      replace hb7_6 := BoxAt.ext hb7_6 e10_3
      have := Ext.size e10_3
      replace eB := Ext.trans eB e10_3
      try simp (disch := decide) only [outv_some, outv_none, put_puts]
      refine plK_pres (Ext.pres e10_3) ?_
      try simp -implicitDefEqProofs (disch := first | decide | assumption | omega) only [go_sem, BoxAt.cell hb0_0, BoxAt.cell hb5_7, BoxAt.cell hb6_2, BoxAt.cell hb7_6, wrap_id]
      refine hK _ _ ?_
      clear hK K
      refine den_cond rfl (fun c2 => ?_) (fun c2 => ?_)
      · try simp only [decide_eq_true_eq, decide_eq_false_iff_not, beq_iff_eq, beq_eq_false_iff_ne, bne_iff_ne, ne_eq, Bool.not_eq_true', Bool.not_eq_false', Bool.and_eq_true, Bool.or_eq_true, bne_eq_false_iff_eq] at c2
        refine den_seq ?_
        refine den_region TTok ?_
        intro K hK
        simp -implicitDefEqProofs (disch := first | decide | assumption | omega) only [go_sem, wrap_id]
        refine hK _ _ ?_
        clear hK K
        refine den_ret ?_
        simp (disch := decide) only [resP_1, puts_same, puts_ne]
        exact absurd c2 (by first | (simp; done) | (simp; omega) | omega | (simp [eqC_self]; done))
      · try simp only [decide_eq_true_eq, decide_eq_false_iff_not, beq_iff_eq, beq_eq_false_iff_ne, bne_iff_ne, ne_eq, Bool.not_eq_true', Bool.not_eq_false', Bool.and_eq_true, Bool.or_eq_true, bne_eq_false_iff_eq] at c2
        refine den_skip ?_
        refine den_seq ?_
        refine den_region TTok ?_
        intro K hK
        simp -implicitDefEqProofs (disch := first | decide | assumption | omega) only [go_sem, BoxAt.cell hb0_0, BoxAt.cell hb5_7, BoxAt.cell hb6_2, BoxAt.cell hb7_6, wrap_id]
        refine hK _ _ ?_
        clear hK K
        refine den_seq ?_
        refine den_region TTok ?_
        intro K hK
        simp -implicitDefEqProofs (disch := first | decide | assumption | omega) only [go_sem, ld30, BoxAt.cell hb0_0, BoxAt.cell hb5_7, BoxAt.cell hb6_2, BoxAt.cell hb7_6, wrap_id]
        try simp -implicitDefEqProofs (disch := first | decide | assumption | omega) only [go_sem, BoxAt.cell hb0_0, BoxAt.cell hb5_7, BoxAt.cell hb6_2, BoxAt.cell hb7_6, wrap_id]
        refine CallA.mono (markCx_ok _ _ X (1 : Int) _ _ _ hod6_1 hom6_1 (List.nodup_append.2 ⟨hfd6_1.nodup, hfm6_1.nodup, fun b hb c hc e => ap3 b hb (e ▸ hc)⟩) (by omega)) ?_
        intro v_ h13_2
        rintro ⟨rfl, hogd13_2, hogm13_2, cg13_2⟩
        replace hod5_3_0 := OS.chg hod5_3_0 cg13_2 (Apart.app (apart_lt hlhod5_3_0 hfd6_1 (by omega)) (apart_lt hlhod5_3_0 hfm6_1 (by omega)))
        replace hom5_3_0 := OS.chg hom5_3_0 cg13_2 (Apart.app (apart_lt hlhom5_3_0 hfd6_1 (by omega)) (apart_lt hlhom5_3_0 hfm6_1 (by omega)))
        replace hod7_2_0 := OS.chg hod7_2_0 cg13_2 (Apart.app (apart_gt hfd7_2_0 hlhod6_1 (by omega)) (apart_gt hfd7_2_0 hlhom6_1 (by omega)))
        replace hom7_2_0 := OS.chg hom7_2_0 cg13_2 (Apart.app (apart_gt hfm7_2_0 hlhod6_1 (by omega)) (apart_gt hfm7_2_0 hlhom6_1 (by omega)))
        replace hb0_0 := BoxAt.chgA hb0_0 cg13_2 (Apart.app (apart_lt hlhb0_0 hfd6_1 (by omega)) (apart_lt hlhb0_0 hfm6_1 (by omega)))
        replace hb5_7 := BoxAt.chgA hb5_7 cg13_2 (Apart.app (apart_lt hlhb5_7 hfd6_1 (by omega)) (apart_lt hlhb5_7 hfm6_1 (by omega)))
        replace hb6_2 := BoxAt.chgA hb6_2 cg13_2 (Apart.app (apart_gt hfhb6_2 hlhod6_1 (by omega)) (apart_gt hfhb6_2 hlhom6_1 (by omega)))
        replace hb7_6 := BoxAt.chgA hb7_6 cg13_2 (Apart.app (apart_gt hfhb7_6 hlhod6_1 (by omega)) (apart_gt hfhb7_6 hlhom6_1 (by omega)))
        have := cg13_2.size
        replace eB := Ext.then eB cg13_2 (ge_app (ge_of hfd6_1 (by omega)) (ge_of hfm6_1 (by omega)))
        have ap9 : Apart fm6_1 fd6_1 := (Apart.symm ap3)
        have hlhogd13_2 := hlhod6_1
        have ap10 : Apart fd6_1 fm6_1 := (Apart.symm ap9)
        have hlhogm13_2 := hlhom6_1
        try simp -implicitDefEqProofs (disch := first | decide | assumption | omega) only [go_sem, BoxAt.cell hb0_0, BoxAt.cell hb5_7, BoxAt.cell hb6_2, BoxAt.cell hb7_6, wrap_id]
        refine hK _ _ ?_
        clear hK K
        refine den_seq ?_
        refine den_seq ?_
        refine den_merge [(65, .bool ((((decide (((1 : Int) + cnt1 X.dims + cntL cnt2 X.maps) < (0 : Int))) || (!(true))) || (((shP X k).2) != ((shP X k).2)))))] [1, 2, 6, 7, 9] (fun H => Ext h13_2 H) ?_ ?_
          -- a way
        · refine den_region TTok ?_
          intro K hK
          simp -implicitDefEqProofs (disch := first | decide | assumption | (simp (disch := decide) only [slotOf_zero, slotOf_succ, Option.map_some, puts_same, puts_ne, gv_bool, gv_undef, tt, tf, ft, ff, eq_self, if_true, if_false, Bool.false_eq_true, Bool.not_true, Bool.not_false]; done) | omega) only [go_sem, BoxAt.cell hb0_0, BoxAt.cell hb5_7, BoxAt.cell hb7_6, wrap_id]
          refine opsP_F (by simp (disch := decide) only [slotOf_zero, slotOf_succ, Option.map_some, puts_same, puts_ne, gv_bool, gv_undef, tt, tf, ft, ff, eq_self, if_true, if_false, Bool.false_eq_true, Bool.not_true, Bool.not_false]; rfl) (fun g11 => ?_) (fun g11 => ?_)
          · try simp -implicitDefEqProofs (disch := first | decide | assumption | (simp (disch := decide) only [slotOf_zero, slotOf_succ, Option.map_some, puts_same, puts_ne, gv_bool, gv_undef, tt, tf, ft, ff, eq_self, if_true, if_false, Bool.false_eq_true, Bool.not_true, Bool.not_false, g11]; done) | omega) only [go_sem, ld30, BoxAt.cell hb0_0, BoxAt.cell hb5_7, BoxAt.cell hb7_6, wrap_id, g11, eq_self, if_true, if_false, Bool.false_eq_true]
            try simp -implicitDefEqProofs (disch := first | decide | assumption | omega) only [go_sem, BoxAt.cell hb0_0, BoxAt.cell hb5_7, BoxAt.cell hb7_6, wrap_id]
            refine CallA.mono (eqC_same _ _ ((shP X k).1) _ ⟨_, _, rfl, (OS.rd hod7_2_0), (OS.rd hom7_2_0)⟩ ⟨_, _, rfl, (OS.rd hod5_3_0), (OS.rd hom5_3_0)⟩) ?_
            intro v_ h14_5
            rintro ⟨rfl, e14_5⟩
            replace hod5_3_0 := OS.ext hod5_3_0 e14_5
            replace hom5_3_0 := OS.ext hom5_3_0 e14_5
            replace hod7_2_0 := OS.ext hod7_2_0 e14_5
            replace hom7_2_0 := OS.ext hom7_2_0 e14_5
            replace hb0_0 := BoxAt.ext hb0_0 e14_5
            replace hb5_7 := BoxAt.ext hb5_7 e14_5
            replace hb7_6 := BoxAt.ext hb7_6 e14_5
            have := Ext.size e14_5
            replace eB := Ext.trans eB e14_5
            try simp -implicitDefEqProofs (disch := first | decide | assumption | (simp (disch := decide) only [slotOf_zero, slotOf_succ, Option.map_some, puts_same, puts_ne, gv_bool, gv_undef, tt, tf, ft, ff, eq_self, if_true, if_false, Bool.false_eq_true, Bool.not_true, Bool.not_false, g11]; done) | omega) only [go_sem, BoxAt.cell hb0_0, BoxAt.cell hb5_7, BoxAt.cell hb7_6, wrap_id, g11, eq_self, if_true, if_false, Bool.false_eq_true]
            try simp -implicitDefEqProofs (disch := first | decide | assumption | (simp (disch := decide) only [slotOf_zero, slotOf_succ, Option.map_some, puts_same, puts_ne, gv_bool, gv_undef, tt, tf, ft, ff, eq_self, if_true, if_false, Bool.false_eq_true, Bool.not_true, Bool.not_false, g11]; done) | omega) only [go_sem, BoxAt.cell hb0_0, BoxAt.cell hb5_7, BoxAt.cell hb7_6, wrap_id, g11, eq_self, if_true, if_false, Bool.false_eq_true]
            refine hK _ _ ?_
            clear hK K
            refine den_stop ?_
            refine ⟨?_, e14_5⟩
            first | (simp (disch := decide) only [go_sem, g11, eq_self, Bool.true_and, Bool.and_true, Bool.false_and, Bool.and_false, Bool.true_or, Bool.or_true, Bool.false_or, Bool.or_false, if_true, if_false, Bool.false_eq_true]; done) | simp [HasL, sel, puts_at, g11]
          · try simp -implicitDefEqProofs (disch := first | decide | assumption | (simp (disch := decide) only [slotOf_zero, slotOf_succ, Option.map_some, puts_same, puts_ne, gv_bool, gv_undef, tt, tf, ft, ff, eq_self, if_true, if_false, Bool.false_eq_true, Bool.not_true, Bool.not_false, g11]; done) | omega) only [go_sem, BoxAt.cell hb0_0, BoxAt.cell hb5_7, BoxAt.cell hb7_6, wrap_id, g11, eq_self, if_true, if_false, Bool.false_eq_true]
            try simp -implicitDefEqProofs (disch := first | decide | assumption | (simp (disch := decide) only [slotOf_zero, slotOf_succ, Option.map_some, puts_same, puts_ne, gv_bool, gv_undef, tt, tf, ft, ff, eq_self, if_true, if_false, Bool.false_eq_true, Bool.not_true, Bool.not_false, g11]; done) | omega) only [go_sem, BoxAt.cell hb0_0, BoxAt.cell hb5_7, BoxAt.cell hb7_6, wrap_id, g11, eq_self, if_true, if_false, Bool.false_eq_true]
            refine hK _ _ ?_
            clear hK K
            refine den_stop ?_
            refine ⟨?_, Ext.refl _⟩
            first | (simp (disch := decide) only [go_sem, g11, eq_self, Bool.true_and, Bool.and_true, Bool.false_and, Bool.and_false, Bool.true_or, Bool.or_true, Bool.false_or, Bool.or_false, if_true, if_false, Bool.false_eq_true]; done) | simp [HasL, sel, puts_at, g11]
        intro en12 h13 e14
        replace hod5_3_0 := OS.ext hod5_3_0 e14
        replace hom5_3_0 := OS.ext hom5_3_0 e14
        replace hod7_2_0 := OS.ext hod7_2_0 e14
        replace hom7_2_0 := OS.ext hom7_2_0 e14
        replace hb0_0 := BoxAt.ext hb0_0 e14
        replace hb5_7 := BoxAt.ext hb5_7 e14
        replace hb7_6 := BoxAt.ext hb7_6 e14
        have := Ext.size e14
        replace eB := Ext.trans eB e14
        simp (disch := decide) only [go_sem]
        refine den_cond rfl (fun c3 => ?_) (fun c3 => ?_)
        · try simp only [decide_eq_true_eq, decide_eq_false_iff_not, beq_iff_eq, beq_eq_false_iff_ne, bne_iff_ne, ne_eq, Bool.not_eq_true', Bool.not_eq_false', Bool.and_eq_true, Bool.or_eq_true, bne_eq_false_iff_eq] at c3
          refine den_seq ?_
          refine den_region TTok ?_
          intro K hK
          simp -implicitDefEqProofs (disch := first | decide | assumption | omega) only [go_sem, wrap_id]
          refine hK _ _ ?_
          clear hK K
          refine den_ret ?_
          simp (disch := decide) only [resP_1, puts_same, puts_ne]
          exact absurd c3 (by first | (simp; done) | (simp; omega) | omega | (simp [eqC_self]; done))
        · try simp only [decide_eq_true_eq, decide_eq_false_iff_not, beq_iff_eq, beq_eq_false_iff_ne, bne_iff_ne, ne_eq, Bool.not_eq_true', Bool.not_eq_false', Bool.and_eq_true, Bool.or_eq_true, bne_eq_false_iff_eq] at c3
          refine den_skip ?_
          refine den_seq ?_
          refine den_region TTok ?_
          intro K hK
          simp -implicitDefEqProofs (disch := first | decide | assumption | omega) only [go_sem, BoxAt.cell hb0_0, BoxAt.cell hb5_7, BoxAt.cell hb7_6, wrap_id]
          refine hK _ _ ?_
          clear hK K
          refine den_seq ?_
          refine den_region TTok ?_
          intro K hK
          simp -implicitDefEqProofs (disch := first | decide | assumption | omega) only [go_sem, ld30, BoxAt.cell hb0_0, BoxAt.cell hb5_7, BoxAt.cell hb7_6, wrap_id]
          try simp -implicitDefEqProofs (disch := first | decide | assumption | omega) only [go_sem, BoxAt.cell hb0_0, BoxAt.cell hb5_7, BoxAt.cell hb7_6, wrap_id]
          refine CallA.mono (markCx_ok _ _ ((shP X k).1) (1 : Int) _ _ _ hod7_2_0 hom7_2_0 (List.nodup_append.2 ⟨hfd7_2_0.nodup, hfm7_2_0.nodup, fun b hb c hc e => ap4 b hb (e ▸ hc)⟩) (by omega)) ?_
          intro v_ h17_2
          rintro ⟨rfl, hogd17_2, hogm17_2, cg17_2⟩
          replace hod5_3_0 := OS.chg hod5_3_0 cg17_2 (Apart.app (apart_lt hlhod5_3_0 hfd7_2_0 (by omega)) (apart_lt hlhod5_3_0 hfm7_2_0 (by omega)))
          replace hom5_3_0 := OS.chg hom5_3_0 cg17_2 (Apart.app (apart_lt hlhom5_3_0 hfd7_2_0 (by omega)) (apart_lt hlhom5_3_0 hfm7_2_0 (by omega)))
          replace hb0_0 := BoxAt.chgA hb0_0 cg17_2 (Apart.app (apart_lt hlhb0_0 hfd7_2_0 (by omega)) (apart_lt hlhb0_0 hfm7_2_0 (by omega)))
          replace hb5_7 := BoxAt.chgA hb5_7 cg17_2 (Apart.app (apart_lt hlhb5_7 hfd7_2_0 (by omega)) (apart_lt hlhb5_7 hfm7_2_0 (by omega)))
          replace hb7_6 := BoxAt.chgA hb7_6 cg17_2 (Apart.app (apart_gt hfhb7_6 hlhod7_2_0 (by omega)) (apart_gt hfhb7_6 hlhom7_2_0 (by omega)))
          have := cg17_2.size
          replace eB := Ext.then eB cg17_2 (ge_app (ge_of hfd7_2_0 (by omega)) (ge_of hfm7_2_0 (by omega)))
          have ap15 : Apart fm7_2_0 fd7_2_0 := (Apart.symm ap4)
          have hlhogd17_2 := hlhod7_2_0
          have ap16 : Apart fd7_2_0 fm7_2_0 := (Apart.symm ap15)
          have hlhogm17_2 := hlhom7_2_0
          try simp -implicitDefEqProofs (disch := first | decide | assumption | omega) only [go_sem, BoxAt.cell hb0_0, BoxAt.cell hb5_7, BoxAt.cell hb7_6, wrap_id]
          refine hK _ _ ?_
          clear hK K
          refine den_seq ?_
          refine den_region TTok ?_
          intro K hK
          simp -implicitDefEqProofs (disch := first | decide | assumption | omega) only [go_sem, BoxAt.cell hb0_0, BoxAt.cell hb5_7, BoxAt.cell hb7_6, wrap_id]
          refine hK _ _ ?_
          clear hK K
          refine den_seq ?_
          refine den_region TTok ?_
          intro K hK
          simp -implicitDefEqProofs (disch := first | decide | assumption | omega) only [go_sem, ld30, BoxAt.cell hb0_0, BoxAt.cell hb5_7, BoxAt.cell hb7_6, wrap_id]
          try simp -implicitDefEqProofs (disch := first | decide | assumption | omega) only [go_sem, BoxAt.cell hb0_0, BoxAt.cell hb5_7, BoxAt.cell hb7_6, wrap_id]
          refine CallA.mono (heldCx_ok _ _ ((shP X k).1) (1 : Int) _ (OS.rd hogd17_2) (OS.rd hogm17_2) (by omega)) ?_
          intro v_ h19_2
          rintro ⟨rfl, e19_2⟩
          replace hod5_3_0 := OS.ext hod5_3_0 e19_2
          replace hom5_3_0 := OS.ext hom5_3_0 e19_2
          replace hogd17_2 := OS.ext hogd17_2 e19_2
          replace hogm17_2 := OS.ext hogm17_2 e19_2
          replace hb0_0 := BoxAt.ext hb0_0 e19_2
          replace hb5_7 := BoxAt.ext hb5_7 e19_2
          replace hb7_6 := BoxAt.ext hb7_6 e19_2
          have := Ext.size e19_2
          replace eB := Ext.trans eB e19_2
          try simp -implicitDefEqProofs (disch := first | decide | assumption | omega) only [go_sem, BoxAt.cell hb0_0, BoxAt.cell hb5_7, BoxAt.cell hb7_6, wrap_id]
          refine hK _ _ ?_
          clear hK K
          refine den_seq ?_
          refine den_seq ?_
          refine den_region TTok ?_
          intro K hK
          simp -implicitDefEqProofs (disch := first | decide | assumption | omega) only [go_sem, BoxAt.cell hb0_0, BoxAt.cell hb5_7, BoxAt.cell hb7_6, wrap_id]
          refine hK _ _ ?_
          clear hK K
          refine den_cond rfl (fun c4 => ?_) (fun c4 => ?_)
          · try simp only [decide_eq_true_eq, decide_eq_false_iff_not, beq_iff_eq, beq_eq_false_iff_ne, bne_iff_ne, ne_eq, Bool.not_eq_true', Bool.not_eq_false', Bool.and_eq_true, Bool.or_eq_true, bne_eq_false_iff_eq] at c4
            refine den_seq ?_
            refine den_region TTok ?_
            intro K hK
            simp -implicitDefEqProofs (disch := first | decide | assumption | omega) only [go_sem, wrap_id]
            refine hK _ _ ?_
            clear hK K
            refine den_ret ?_
            simp (disch := decide) only [resP_1, puts_same, puts_ne]
            exact absurd c4 (by first | (simp; done) | (simp; omega) | omega | (simp [eqC_self]; done))
          · try simp only [decide_eq_true_eq, decide_eq_false_iff_not, beq_iff_eq, beq_eq_false_iff_ne, bne_iff_ne, ne_eq, Bool.not_eq_true', Bool.not_eq_false', Bool.and_eq_true, Bool.or_eq_true, bne_eq_false_iff_eq] at c4
            refine den_skip ?_
            refine den_seq ?_
            refine den_seq ?_
            refine den_region TTok ?_
            intro K hK
            simp -implicitDefEqProofs (disch := first | decide | assumption | omega) only [go_sem, BoxAt.cell hb0_0, BoxAt.cell hb5_7, BoxAt.cell hb7_6, wrap_id]
            refine hK _ _ ?_
            clear hK K
            refine den_cond rfl (fun c5 => ?_) (fun c5 => ?_)
            · try simp only [decide_eq_true_eq, decide_eq_false_iff_not, beq_iff_eq, beq_eq_false_iff_ne, bne_iff_ne, ne_eq, Bool.not_eq_true', Bool.not_eq_false', Bool.and_eq_true, Bool.or_eq_true, bne_eq_false_iff_eq] at c5
              refine den_seq ?_
              refine den_region TTok ?_
              intro K hK
              simp -implicitDefEqProofs (disch := first | decide | assumption | omega) only [go_sem, wrap_id]
              refine hK _ _ ?_
              clear hK K
              refine den_ret ?_
              simp (disch := decide) only [resP_1, puts_same, puts_ne]
              exact absurd c5 (by first | (simp; done) | (simp; omega) | omega | (simp [eqC_self]; done))
            · try simp only [decide_eq_true_eq, decide_eq_false_iff_not, beq_iff_eq, beq_eq_false_iff_ne, bne_iff_ne, ne_eq, Bool.not_eq_true', Bool.not_eq_false', Bool.and_eq_true, Bool.or_eq_true, bne_eq_false_iff_eq] at c5
              refine den_skip ?_
              refine den_seq ?_
              refine den_region TTok ?_
              intro K hK
              simp -implicitDefEqProofs (disch := first | decide | assumption | omega) only [go_sem, ld25, BoxAt.cell hb0_0, BoxAt.cell hb5_7, BoxAt.cell hb7_6, wrap_id]
              try simp -implicitDefEqProofs (disch := first | decide | assumption | omega) only [go_sem, BoxAt.cell hb0_0, BoxAt.cell hb5_7, BoxAt.cell hb7_6, wrap_id]
              refine CallA.mono (toC_ok _ X _ ⟨_, _, rfl, (RdS.pres hdX (Ext.pres eB)), (RdS.pres hmX (Ext.pres eB))⟩ hMX) ?_
              intro v_ h24_1
              rintro ⟨vd24_1, vm24_1, fd24_1, fm24_1, rfl, hod24_1, hom24_1, hf24_1, e24_1⟩
              replace hod5_3_0 := OS.ext hod5_3_0 e24_1
              replace hom5_3_0 := OS.ext hom5_3_0 e24_1
              replace hogd17_2 := OS.ext hogd17_2 e24_1
              replace hogm17_2 := OS.ext hogm17_2 e24_1
              replace hb0_0 := BoxAt.ext hb0_0 e24_1
              replace hb5_7 := BoxAt.ext hb5_7 e24_1
              replace hb7_6 := BoxAt.ext hb7_6 e24_1
              have := Ext.size e24_1
              replace eB := Ext.trans eB e24_1
              have hfd24_1 := hf24_1.left
              have hfm24_1 := hf24_1.right
              have hlhod24_1 := OS.lt hod24_1
              have hlhom24_1 := OS.lt hom24_1
              have ap17 : Apart fd24_1 fm24_1 := apart_nodup hf24_1
              try simp -implicitDefEqProofs (disch := first | decide | assumption | omega) only [go_sem, BoxAt.cell hb0_0, BoxAt.cell hb5_7, BoxAt.cell hb7_6, wrap_id]
              try simp -implicitDefEqProofs (disch := first | decide | assumption | omega) only [go_sem, BoxAt.cell hb0_0, BoxAt.cell hb5_7, BoxAt.cell hb7_6, wrap_id]
              refine CallA.mono (iSh_ok _ X k _ ⟨_, _, rfl, (OS.rd hod24_1), (OS.rd hom24_1)⟩ ) ?_
              intro v_ h24_3
              rintro ⟨vd24_3_0, vm24_3_0, fd24_3_0, fm24_3_0, rfl, hod24_3_0, hom24_3_0, hf24_3_0, e24_3⟩
              replace hod5_3_0 := OS.ext hod5_3_0 e24_3
              replace hom5_3_0 := OS.ext hom5_3_0 e24_3
              replace hogd17_2 := OS.ext hogd17_2 e24_3
              replace hogm17_2 := OS.ext hogm17_2 e24_3
              replace hod24_1 := OS.ext hod24_1 e24_3
              replace hom24_1 := OS.ext hom24_1 e24_3
              replace hb0_0 := BoxAt.ext hb0_0 e24_3
              replace hb5_7 := BoxAt.ext hb5_7 e24_3
              replace hb7_6 := BoxAt.ext hb7_6 e24_3
              have := Ext.size e24_3
              replace eB := Ext.trans eB e24_3
              have hfd24_3_0 := hf24_3_0.left
              have hfm24_3_0 := hf24_3_0.right
              have hlhod24_3_0 := OS.lt hod24_3_0
              have hlhom24_3_0 := OS.lt hom24_3_0
              have ap18 : Apart fd24_3_0 fm24_3_0 := apart_nodup hf24_3_0
              try simp -implicitDefEqProofs (disch := first | decide | assumption | omega) only [go_sem, BoxAt.cell hb0_0, BoxAt.cell hb5_7, BoxAt.cell hb7_6, wrap_id]
              refine op_alloc (cs := #[.int .i64 0, .slice none 0 0, .slice none 0 0]) (by kernel_rfl) ?_
              intro h24_7 e24_7 hb24_7 z24_7
              replace hod5_3_0 := OS.ext hod5_3_0 e24_7
              replace hom5_3_0 := OS.ext hom5_3_0 e24_7
              replace hogd17_2 := OS.ext hogd17_2 e24_7
              replace hogm17_2 := OS.ext hogm17_2 e24_7
              replace hod24_1 := OS.ext hod24_1 e24_7
              replace hom24_1 := OS.ext hom24_1 e24_7
              replace hod24_3_0 := OS.ext hod24_3_0 e24_7
              replace hom24_3_0 := OS.ext hom24_3_0 e24_7
              replace hb0_0 := BoxAt.ext hb0_0 e24_7
              replace hb5_7 := BoxAt.ext hb5_7 e24_7
              replace hb7_6 := BoxAt.ext hb7_6 e24_7
              have := Ext.size e24_7
              replace eB := Ext.trans eB e24_7
              have hfhb24_7 : Fresh h24_3.size [h24_3.size] := Fresh.one _
              have hlhb24_7 := one_lt (show h24_3.size < h24_7.size by omega)
              try simp -implicitDefEqProofs (disch := first | decide | assumption | omega) only [go_sem, BoxAt.cell hb0_0, BoxAt.cell hb5_7, BoxAt.cell hb7_6, BoxAt.cell hb24_7, wrap_id]
              refine op_storeB (cs' := #[.int .i64 ((((shP X k).1).p)), vd24_3_0, vm24_3_0]) st30 hb24_7 rfl rfl rfl (by simp) (allOne_mem (l := [.int .i64 ((((shP X k).1).p)), vd24_3_0, vm24_3_0]) ⟨rfl, (OS.one hod24_3_0).1, (OS.one hom24_3_0).1, trivial⟩) rfl ?_
              intro h24_8 hb24_7 c24_8
              replace hod5_3_0 := OS.chg hod5_3_0 c24_8 (apart_lt hlhod5_3_0 hfhb24_7 (by omega))
              replace hom5_3_0 := OS.chg hom5_3_0 c24_8 (apart_lt hlhom5_3_0 hfhb24_7 (by omega))
              replace hogd17_2 := OS.chg hogd17_2 c24_8 (apart_lt hlhogd17_2 hfhb24_7 (by omega))
              replace hogm17_2 := OS.chg hogm17_2 c24_8 (apart_lt hlhogm17_2 hfhb24_7 (by omega))
              replace hod24_1 := OS.chg hod24_1 c24_8 (apart_lt hlhod24_1 hfhb24_7 (by omega))
              replace hom24_1 := OS.chg hom24_1 c24_8 (apart_lt hlhom24_1 hfhb24_7 (by omega))
              replace hod24_3_0 := OS.chg hod24_3_0 c24_8 (apart_lt hlhod24_3_0 hfhb24_7 (by omega))
              replace hom24_3_0 := OS.chg hom24_3_0 c24_8 (apart_lt hlhom24_3_0 hfhb24_7 (by omega))
              replace hb0_0 := BoxAt.chgA hb0_0 c24_8 (apart_lt hlhb0_0 hfhb24_7 (by omega))
              replace hb5_7 := BoxAt.chgA hb5_7 c24_8 (apart_lt hlhb5_7 hfhb24_7 (by omega))
              replace hb7_6 := BoxAt.chgA hb7_6 c24_8 (apart_lt hlhb7_6 hfhb24_7 (by omega))
              have := c24_8.size
              replace eB := Ext.then eB c24_8 (ge_of hfhb24_7 (by omega))
              try simp -implicitDefEqProofs (disch := first | decide | assumption | omega) only [go_sem, BoxAt.cell hb0_0, BoxAt.cell hb5_7, BoxAt.cell hb7_6, BoxAt.cell hb24_7, wrap_id]
              refine hK _ _ ?_
              clear hK K
              refine den_seq ?_
              refine den_seq ?_
              refine den_merge [(92, .bool (((!(true)) || (((shP X k).2) != ((shP X k).2)))))] [9, 12] (fun H => Ext h24_8 H) ?_ ?_
                -- a way
              · refine den_region TTok ?_
                intro K hK
                simp -implicitDefEqProofs (disch := first | decide | assumption | (simp (disch := decide) only [slotOf_zero, slotOf_succ, Option.map_some, puts_same, puts_ne, gv_bool, gv_undef, tt, tf, ft, ff, eq_self, if_true, if_false, Bool.false_eq_true, Bool.not_true, Bool.not_false]; done) | omega) only [go_sem, ld30, BoxAt.cell hb5_7, BoxAt.cell hb7_6, BoxAt.cell hb24_7, wrap_id]
                try simp -implicitDefEqProofs (disch := first | decide | assumption | omega) only [go_sem, BoxAt.cell hb5_7, BoxAt.cell hb7_6, BoxAt.cell hb24_7, wrap_id]
                refine CallA.mono (eqC_same _ _ ((shP X k).1) _ ⟨_, _, rfl, (OS.rd hod24_3_0), (OS.rd hom24_3_0)⟩ ⟨_, _, rfl, (OS.rd hod5_3_0), (OS.rd hom5_3_0)⟩) ?_
                intro v_ h25_2
                rintro ⟨rfl, e25_2⟩
                replace hod5_3_0 := OS.ext hod5_3_0 e25_2
                replace hom5_3_0 := OS.ext hom5_3_0 e25_2
                replace hogd17_2 := OS.ext hogd17_2 e25_2
                replace hogm17_2 := OS.ext hogm17_2 e25_2
                replace hod24_3_0 := OS.ext hod24_3_0 e25_2
                replace hom24_3_0 := OS.ext hom24_3_0 e25_2
                replace hb5_7 := BoxAt.ext hb5_7 e25_2
                replace hb7_6 := BoxAt.ext hb7_6 e25_2
                replace hb24_7 := BoxAt.ext hb24_7 e25_2
                have := Ext.size e25_2
                replace eB := Ext.trans eB e25_2
                try simp -implicitDefEqProofs (disch := first | decide | assumption | (simp (disch := decide) only [slotOf_zero, slotOf_succ, Option.map_some, puts_same, puts_ne, gv_bool, gv_undef, tt, tf, ft, ff, eq_self, if_true, if_false, Bool.false_eq_true, Bool.not_true, Bool.not_false]; done) | omega) only [go_sem, BoxAt.cell hb5_7, BoxAt.cell hb7_6, BoxAt.cell hb24_7, wrap_id]
                try simp -implicitDefEqProofs (disch := first | decide | assumption | (simp (disch := decide) only [slotOf_zero, slotOf_succ, Option.map_some, puts_same, puts_ne, gv_bool, gv_undef, tt, tf, ft, ff, eq_self, if_true, if_false, Bool.false_eq_true, Bool.not_true, Bool.not_false]; done) | omega) only [go_sem, BoxAt.cell hb5_7, BoxAt.cell hb7_6, BoxAt.cell hb24_7, wrap_id]
                refine hK _ _ ?_
                clear hK K
                refine den_stop ?_
                refine ⟨?_, e25_2⟩
                first | (simp (disch := decide) only [go_sem, eq_self, Bool.true_and, Bool.and_true, Bool.false_and, Bool.and_false, Bool.true_or, Bool.or_true, Bool.false_or, Bool.or_false, if_true, if_false, Bool.false_eq_true]; done) | simp [HasL, sel, puts_at]
              intro en19 h20 e21
              replace hod5_3_0 := OS.ext hod5_3_0 e21
              replace hom5_3_0 := OS.ext hom5_3_0 e21
              replace hogd17_2 := OS.ext hogd17_2 e21
              replace hogm17_2 := OS.ext hogm17_2 e21
              replace hod24_3_0 := OS.ext hod24_3_0 e21
              replace hom24_3_0 := OS.ext hom24_3_0 e21
              replace hb5_7 := BoxAt.ext hb5_7 e21
              replace hb7_6 := BoxAt.ext hb7_6 e21
              replace hb24_7 := BoxAt.ext hb24_7 e21
              have := Ext.size e21
              replace eB := Ext.trans eB e21
              simp (disch := decide) only [go_sem]
              refine den_cond rfl (fun c6 => ?_) (fun c6 => ?_)
              · try simp only [decide_eq_true_eq, decide_eq_false_iff_not, beq_iff_eq, beq_eq_false_iff_ne, bne_iff_ne, ne_eq, Bool.not_eq_true', Bool.not_eq_false', Bool.and_eq_true, Bool.or_eq_true, bne_eq_false_iff_eq] at c6
                refine den_seq ?_
                refine den_region TTok ?_
                intro K hK
                simp -implicitDefEqProofs (disch := first | decide | assumption | omega) only [go_sem, wrap_id]
                refine hK _ _ ?_
                clear hK K
                refine den_ret ?_
                simp (disch := decide) only [resP_1, puts_same, puts_ne]
                exact absurd c6 (by first | (simp; done) | (simp; omega) | omega | (simp [eqC_self]; done))
              · try simp only [decide_eq_true_eq, decide_eq_false_iff_not, beq_iff_eq, beq_eq_false_iff_ne, bne_iff_ne, ne_eq, Bool.not_eq_true', Bool.not_eq_false', Bool.and_eq_true, Bool.or_eq_true, bne_eq_false_iff_eq] at c6
                refine den_skip ?_
                refine den_seq ?_
                refine den_region TTok ?_
                intro K hK
                simp -implicitDefEqProofs (disch := first | decide | assumption | omega) only [go_sem, BoxAt.cell hb7_6, wrap_id]
                refine hK _ _ ?_
                clear hK K
                refine den_seq ?_
                refine den_region TTok ?_
                intro K hK
                simp -implicitDefEqProofs (disch := first | decide | assumption | omega) only [go_sem, ld30, BoxAt.cell hb7_6, wrap_id]
                try simp -implicitDefEqProofs (disch := first | decide | assumption | omega) only [go_sem, BoxAt.cell hb7_6, wrap_id]
                refine CallA.mono (heldCx_ok _ _ ((shP X k).1) (1 : Int) _ (OS.rd hogd17_2) (OS.rd hogm17_2) (by omega)) ?_
                intro v_ h28_2
                rintro ⟨rfl, e28_2⟩
                replace hogd17_2 := OS.ext hogd17_2 e28_2
                replace hogm17_2 := OS.ext hogm17_2 e28_2
                replace hb7_6 := BoxAt.ext hb7_6 e28_2
                have := Ext.size e28_2
                replace eB := Ext.trans eB e28_2
                try simp -implicitDefEqProofs (disch := first | decide | assumption | omega) only [go_sem, BoxAt.cell hb7_6, wrap_id]
                refine hK _ _ ?_
                clear hK K
                refine den_seq ?_
                refine den_seq ?_
                refine den_region TTok ?_
                intro K hK
                simp -implicitDefEqProofs (disch := first | decide | assumption | omega) only [go_sem, wrap_id]
                refine hK _ _ ?_
                clear hK K
                refine den_cond rfl (fun c7 => ?_) (fun c7 => ?_)
                · try simp only [decide_eq_true_eq, decide_eq_false_iff_not, beq_iff_eq, beq_eq_false_iff_ne, bne_iff_ne, ne_eq, Bool.not_eq_true', Bool.not_eq_false', Bool.and_eq_true, Bool.or_eq_true, bne_eq_false_iff_eq] at c7
                  refine den_seq ?_
                  refine den_region TTok ?_
                  intro K hK
                  simp -implicitDefEqProofs (disch := first | decide | assumption | omega) only [go_sem, wrap_id]
                  refine hK _ _ ?_
                  clear hK K
                  refine den_ret ?_
                  simp (disch := decide) only [resP_1, puts_same, puts_ne]
                  exact absurd c7 (by first | (simp; done) | (simp; omega) | omega | (simp [eqC_self]; done))
                · try simp only [decide_eq_true_eq, decide_eq_false_iff_not, beq_iff_eq, beq_eq_false_iff_ne, bne_iff_ne, ne_eq, Bool.not_eq_true', Bool.not_eq_false', Bool.and_eq_true, Bool.or_eq_true, bne_eq_false_iff_eq] at c7
                  refine den_skip ?_
                  refine den_seq ?_
                  refine den_seq ?_
                  refine den_region TTok ?_
                  intro K hK
                  simp -implicitDefEqProofs (disch := first | decide | assumption | omega) only [go_sem, wrap_id]
                  refine hK _ _ ?_
                  clear hK K
                  refine den_cond rfl (fun c8 => ?_) (fun c8 => ?_)
                  · try simp only [decide_eq_true_eq, decide_eq_false_iff_not, beq_iff_eq, beq_eq_false_iff_ne, bne_iff_ne, ne_eq, Bool.not_eq_true', Bool.not_eq_false', Bool.and_eq_true, Bool.or_eq_true, bne_eq_false_iff_eq] at c8
                    refine den_seq ?_
                    refine den_region TTok ?_
                    intro K hK
                    simp -implicitDefEqProofs (disch := first | decide | assumption | omega) only [go_sem, wrap_id]
                    refine hK _ _ ?_
                    clear hK K
                    refine den_ret ?_
                    simp (disch := decide) only [resP_1, puts_same, puts_ne]
                    exact absurd c8 (by first | (simp; done) | (simp; omega) | omega | (simp [eqC_self]; done))
                  · try simp only [decide_eq_true_eq, decide_eq_false_iff_not, beq_iff_eq, beq_eq_false_iff_ne, bne_iff_ne, ne_eq, Bool.not_eq_true', Bool.not_eq_false', Bool.and_eq_true, Bool.or_eq_true, bne_eq_false_iff_eq] at c8
                    refine den_skip ?_
                    refine den_seq ?_
                    refine den_region TTok ?_
                    intro K hK
                    simp -implicitDefEqProofs (disch := first | decide | assumption | omega) only [go_sem, wrap_id]
                    refine hK _ _ ?_
                    clear hK K
                    refine den_ret ?_
                    simp (disch := decide) only [resP_1, puts_same, puts_ne]
                    exact ⟨by first | rfl | trivial, eB⟩

end Go.Proofs.Ytffggocjkhcgeaa
