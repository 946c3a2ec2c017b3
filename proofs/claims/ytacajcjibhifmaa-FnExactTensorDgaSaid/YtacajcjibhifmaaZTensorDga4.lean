/-
  What the statement FnExactTensorDga uses of the walks, part 4.
  Conditions: each theorem's own.
-/
import Derived.Test.YtacajcjibhifmaaG16
import Derived.Test.YtacajcjibhifmaaG17
import Derived.Test.YtacajcjibhifmaaG14
import Derived.Test.YtacajcjibhifmaaG13
import Derived.Test.YtacajcjibhifmaaG15
import Derived.Test.YtacajcjibhifmaaG18
import Derived.Test.YtacajcjibhifmaaG22
import Derived.Test.YtacajcjibhifmaaZTensorDga1
import Derived.Test.YtacajcjibhifmaaZTensorDga2
import Derived.Test.YtacajcjibhifmaaZTensorDga3
set_option linter.unusedVariables false
set_option linter.unusedSimpArgs false
namespace Go.Proofs.Ytacajcjibhifmaa
open Go
set_option maxRecDepth 100000 in
set_option maxHeartbeats 4000000 in
theorem sTn_ok (X : Dg) (Y : Dg) (h : Heap)  (hBX : DgB X) (hBY : DgB Y) : CallA Try.prog 25 #[.agg (dgA X), .agg (dgA Y)] h fun v' h' => v' = .tuple #[.agg (dgA ((tnP X Y).1)), .int .i64 ((tnP X Y).2)] ∧ Ext h h' := by
 refine callA_intro TTok (args := [_, _]) Try.func25 (by kernel_rfl) rfl 198 rfl (by simp) [.cell 4 34, .tmp 5] rfl ?_
 simp only [idxs, Nat.reduceAdd]
 refine den_seq ?_
 refine den_region TTok ?_
 intro K hK
 simp -implicitDefEqProofs (disch := first | decide | assumption | omega) only [go_sem, wrap_id, cv_u8, cv_i64, Nat.zero_add, wrap_u8, eq_el, ne_el, build_el, Int.toNat_zero, build_dg0]
 refine op_box (cs := dgA X) rfl ?_
 intro h0_0 e0_0 hb0_0 z0_0
 have := Ext.size e0_0
 have eB := e0_0
 have hfhb0_0 : Fresh h.size [h.size] := Fresh.one _
 have hlhb0_0 := one_lt (show h.size < h0_0.size by omega)
 try simp -implicitDefEqProofs (disch := first | decide | assumption | omega) only [go_sem, wrap_id, cv_u8, cv_i64, Nat.zero_add, wrap_u8, eq_el, ne_el, build_el, Int.toNat_zero, build_dg0]
 refine op_box (cs := dgA Y) rfl ?_
 intro h0_1 e0_1 hb0_1 z0_1
 replace hb0_0 := BoxAt.ext hb0_0 e0_1
 have := Ext.size e0_1
 replace eB := Ext.trans eB e0_1
 have hfhb0_1 : Fresh h0_0.size [h0_0.size] := Fresh.one _
 have hlhb0_1 := one_lt (show h0_0.size < h0_1.size by omega)
 try simp -implicitDefEqProofs (disch := first | decide | assumption | omega) only [go_sem, wrap_id, cv_u8, cv_i64, Nat.zero_add, wrap_u8, eq_el, ne_el, build_el, Int.toNat_zero, build_dg0]
 refine op_alloc (cs := dgA dgZ) (by kernel_rfl) ?_
 intro h0_2 e0_2 hb0_2 z0_2
 replace hb0_0 := BoxAt.ext hb0_0 e0_2
 replace hb0_1 := BoxAt.ext hb0_1 e0_2
 have := Ext.size e0_2
 replace eB := Ext.trans eB e0_2
 have hfhb0_2 : Fresh h0_1.size [h0_1.size] := Fresh.one _
 have hlhb0_2 := one_lt (show h0_1.size < h0_2.size by omega)
 try simp -implicitDefEqProofs (disch := first | decide | assumption | omega) only [go_sem, wrap_id, cv_u8, cv_i64, Nat.zero_add, wrap_u8, eq_el, ne_el, build_el, Int.toNat_zero, build_dg0]
 refine hK _ _ ?_
 clear hK K
 refine den_seq ?_
 refine den_block ?_
 refine den_seq ?_
 refine den_merge [(17, .bool (((!((dgB X))) || (!((dgB Y))))))] [2, 3, 4] (fun H => Ext h0_2 H) ?_ ?_
  -- a way
 ·refine den_region TTok ?_
  intro K hK
  simp -implicitDefEqProofs (disch := first | decide | assumption | (simp (disch := decide) only [slotOf_zero, slotOf_succ, Option.map_some, puts_same, puts_ne, gv_bool, gv_undef, tt, tf, ft, ff, eq_self, if_true, if_false, Bool.false_eq_true, Bool.not_true, Bool.not_false]; done) | omega) only [go_sem, BoxAt.dgL hb0_0, BoxAt.dgP hb0_0, BoxAt.dgS hb0_0, BoxAt.dgDeg hb0_0, BoxAt.dgLev hb0_0, BoxAt.dgDeg0 hb0_0, BoxAt.dgLev0 hb0_0, BoxAt.dgDifL hb0_0, BoxAt.dgTabL hb0_0, BoxAt.dgTabL0 hb0_0, BoxAt.dgTabL1 hb0_0, BoxAt.dgTabL1' hb0_0, BoxAt.dgDifB hb0_0, BoxAt.dgTabB hb0_0, wrap_id, cv_u8, cv_i64, Nat.zero_add, wrap_u8, eq_el, ne_el, build_el, Int.toNat_zero, build_dg0]
  try simp -implicitDefEqProofs (disch := first | decide | assumption | omega) only [go_sem, BoxAt.dgL hb0_2, BoxAt.dgP hb0_2, BoxAt.dgS hb0_2, BoxAt.dgDeg hb0_2, BoxAt.dgLev hb0_2, BoxAt.dgDeg0 hb0_2, BoxAt.dgLev0 hb0_2, BoxAt.dgDifL hb0_2, BoxAt.dgTabL hb0_2, BoxAt.dgTabL0 hb0_2, BoxAt.dgTabL1 hb0_2, BoxAt.dgTabL1' hb0_2, BoxAt.dgDifB hb0_2, BoxAt.dgTabB hb0_2, wrap_id, cv_u8, cv_i64, Nat.zero_add, wrap_u8, eq_el, ne_el, build_el, Int.toNat_zero, build_dg0]
  refine CallA.mono (sDg_ok  X _  hBX) ?_
  intro v_ h1_1
  rintro ⟨rfl, e1_1⟩
  replace hb0_0 := BoxAt.ext hb0_0 e1_1
  replace hb0_1 := BoxAt.ext hb0_1 e1_1
  replace hb0_2 := BoxAt.ext hb0_2 e1_1
  have := Ext.size e1_1
  replace eB := Ext.trans eB e1_1
  try simp -implicitDefEqProofs (disch := first | decide | assumption | (simp (disch := decide) only [slotOf_zero, slotOf_succ, Option.map_some, puts_same, puts_ne, gv_bool, gv_undef, tt, tf, ft, ff, eq_self, if_true, if_false, Bool.false_eq_true, Bool.not_true, Bool.not_false]; done) | omega) only [go_sem, wrap_id, cv_u8, cv_i64, Nat.zero_add, wrap_u8, eq_el, ne_el, build_el, Int.toNat_zero, build_dg0]
  refine opsP_F (by simp (disch := decide) only [slotOf_zero, slotOf_succ, Option.map_some, puts_same, puts_ne, gv_bool, gv_undef, tt, tf, ft, ff, eq_self, if_true, if_false, Bool.false_eq_true, Bool.not_true, Bool.not_false]; rfl) (fun g1 => ?_) (fun g1 => ?_)
  ·try simp -implicitDefEqProofs (disch := first | decide | assumption | (simp (disch := decide) only [slotOf_zero, slotOf_succ, Option.map_some, puts_same, puts_ne, gv_bool, gv_undef, tt, tf, ft, ff, eq_self, if_true, if_false, Bool.false_eq_true, Bool.not_true, Bool.not_false, g1]; done) | omega) only [go_sem, BoxAt.dgL hb0_1, BoxAt.dgP hb0_1, BoxAt.dgS hb0_1, BoxAt.dgDeg hb0_1, BoxAt.dgLev hb0_1, BoxAt.dgDeg0 hb0_1, BoxAt.dgLev0 hb0_1, BoxAt.dgDifL hb0_1, BoxAt.dgTabL hb0_1, BoxAt.dgTabL0 hb0_1, BoxAt.dgTabL1 hb0_1, BoxAt.dgTabL1' hb0_1, BoxAt.dgDifB hb0_1, BoxAt.dgTabB hb0_1, wrap_id, cv_u8, cv_i64, Nat.zero_add, wrap_u8, eq_el, ne_el, build_el, Int.toNat_zero, build_dg0, g1, eq_self, if_true, if_false, Bool.false_eq_true]
   try simp -implicitDefEqProofs (disch := first | decide | assumption | omega) only [go_sem, BoxAt.dgL hb0_2, BoxAt.dgP hb0_2, BoxAt.dgS hb0_2, BoxAt.dgDeg hb0_2, BoxAt.dgLev hb0_2, BoxAt.dgDeg0 hb0_2, BoxAt.dgLev0 hb0_2, BoxAt.dgDifL hb0_2, BoxAt.dgTabL hb0_2, BoxAt.dgTabL0 hb0_2, BoxAt.dgTabL1 hb0_2, BoxAt.dgTabL1' hb0_2, BoxAt.dgDifB hb0_2, BoxAt.dgTabB hb0_2, wrap_id, cv_u8, cv_i64, Nat.zero_add, wrap_u8, eq_el, ne_el, build_el, Int.toNat_zero, build_dg0]
   refine CallA.mono (sDg_ok  Y _  hBY) ?_
   intro v_ h1_5
   rintro ⟨rfl, e1_5⟩
   replace hb0_0 := BoxAt.ext hb0_0 e1_5
   replace hb0_1 := BoxAt.ext hb0_1 e1_5
   replace hb0_2 := BoxAt.ext hb0_2 e1_5
   have := Ext.size e1_5
   replace eB := Ext.trans eB e1_5
   try simp -implicitDefEqProofs (disch := first | decide | assumption | (simp (disch := decide) only [slotOf_zero, slotOf_succ, Option.map_some, puts_same, puts_ne, gv_bool, gv_undef, tt, tf, ft, ff, eq_self, if_true, if_false, Bool.false_eq_true, Bool.not_true, Bool.not_false, g1]; done) | omega) only [go_sem, wrap_id, cv_u8, cv_i64, Nat.zero_add, wrap_u8, eq_el, ne_el, build_el, Int.toNat_zero, build_dg0, g1, eq_self, if_true, if_false, Bool.false_eq_true]
   refine hK _ _ ?_
   clear hK K
   refine den_stop ?_
   refine ⟨?_, (Ext.trans e1_1 e1_5)⟩
   first | (simp (disch := decide) only [go_sem, g1, eq_self, Bool.true_and, Bool.and_true, Bool.false_and, Bool.and_false, Bool.true_or, Bool.or_true, Bool.false_or, Bool.or_false, if_true, if_false, Bool.false_eq_true]; done) | simp [HasL, sel, puts_at, g1]
  ·try simp -implicitDefEqProofs (disch := first | decide | assumption | (simp (disch := decide) only [slotOf_zero, slotOf_succ, Option.map_some, puts_same, puts_ne, gv_bool, gv_undef, tt, tf, ft, ff, eq_self, if_true, if_false, Bool.false_eq_true, Bool.not_true, Bool.not_false, g1]; done) | omega) only [go_sem, wrap_id, cv_u8, cv_i64, Nat.zero_add, wrap_u8, eq_el, ne_el, build_el, Int.toNat_zero, build_dg0, g1, eq_self, if_true, if_false, Bool.false_eq_true]
   refine hK _ _ ?_
   clear hK K
   refine den_stop ?_
   refine ⟨?_, e1_1⟩
   first | (simp (disch := decide) only [go_sem, g1, eq_self, Bool.true_and, Bool.and_true, Bool.false_and, Bool.and_false, Bool.true_or, Bool.or_true, Bool.false_or, Bool.or_false, if_true, if_false, Bool.false_eq_true]; done) | simp [HasL, sel, puts_at, g1]
 intro en2 h3 e4
 replace hb0_0 := BoxAt.ext hb0_0 e4
 replace hb0_1 := BoxAt.ext hb0_1 e4
 replace hb0_2 := BoxAt.ext hb0_2 e4
 have := Ext.size e4
 replace eB := Ext.trans eB e4
 simp (disch := decide) only [go_sem]
 refine den_cond rfl (fun c0 => ?_) (fun c0 => ?_)
 ·try simp only [decide_eq_true_eq, decide_eq_false_iff_not, beq_iff_eq, beq_eq_false_iff_ne, bne_iff_ne, ne_eq, Bool.not_eq_true', Bool.not_eq_false', Bool.and_eq_true, Bool.or_eq_true, bne_eq_false_iff_eq, Bool.not_eq_true, Bool.not_eq_false] at c0
  refine den_seq ?_
  refine den_region TTok ?_
  intro K hK
  simp -implicitDefEqProofs (disch := first | decide | assumption | omega) only [go_sem, wrap_id, cv_u8, cv_i64, Nat.zero_add, wrap_u8, eq_el, ne_el, build_el, Int.toNat_zero, build_dg0]
  refine op_storeB (o := 0) (vs := dgA dgZ) (cs' := dgA dgZ) st34 hb0_2 rfl rfl (dgA_sz _) (by rw [dgA_sz]; decide) dgA_one dgA_all ?_
  intro h2_1 hb0_2 c2_1
  have := c2_1.size
  replace eB := Ext.then eB c2_1 (ge_of hfhb0_2 (by omega))
  try simp -implicitDefEqProofs (disch := first | decide | assumption | omega) only [go_sem, wrap_id, cv_u8, cv_i64, Nat.zero_add, wrap_u8, eq_el, ne_el, build_el, Int.toNat_zero, build_dg0]
  refine hK _ _ ?_
  clear hK K
  refine den_ret ?_
  simp -implicitDefEqProofs (disch := first | decide | assumption | omega) only [go_sem, BoxAt.dgL hb0_2, BoxAt.dgP hb0_2, BoxAt.dgS hb0_2, BoxAt.dgDeg hb0_2, BoxAt.dgLev hb0_2, BoxAt.dgDeg0 hb0_2, BoxAt.dgLev0 hb0_2, BoxAt.dgDifL hb0_2, BoxAt.dgTabL hb0_2, BoxAt.dgTabL0 hb0_2, BoxAt.dgTabL1 hb0_2, BoxAt.dgTabL1' hb0_2, BoxAt.dgDifB hb0_2, BoxAt.dgTabB hb0_2, wrap_id, cv_u8, cv_i64, Nat.zero_add, wrap_u8, eq_el, ne_el, build_el, Int.toNat_zero, build_dg0, resP_ct, ld34]
  rw [tnP_1 (by rintro ⟨h1, h2⟩; simp [h1, h2] at c0)]
  exact ⟨by first | rfl | trivial, eB⟩
 ·try simp only [decide_eq_true_eq, decide_eq_false_iff_not, beq_iff_eq, beq_eq_false_iff_ne, bne_iff_ne, ne_eq, Bool.not_eq_true', Bool.not_eq_false', Bool.and_eq_true, Bool.or_eq_true, bne_eq_false_iff_eq, Bool.not_eq_true, Bool.not_eq_false] at c0
  have hbb : dgB X = true ∧ dgB Y = true := by simpa using c0
  have hgX := dgB_t.1 hbb.1
  have hgY := dgB_t.1 hbb.2
  have hfX := hgX.fm
  have hfY := hgY.fm
  have hsX := hfX.s
  have hsY := hfY.s
  have hss := mulQ64 hsX hsY
  have hpb := isP_bnd hfX.p
  have hpG : 0 < X.p ∧ X.p ≤ 7 := ⟨by omega, by omega⟩
  have hBdX := hBX.dif
  have hBtX := hBX.tab
  have hBdY := hBY.dif
  have hBtY := hBY.tab
  have hEn := EQ_n hfX hfY
  refine den_seq ?_
  refine den_region TTok ?_
  intro K hK
  simp -implicitDefEqProofs (disch := first | decide | assumption | omega) only [go_sem, fa34_0, ld2, BoxAt.dgL hb0_0, BoxAt.dgP hb0_0, BoxAt.dgS hb0_0, BoxAt.dgDeg hb0_0, BoxAt.dgLev hb0_0, BoxAt.dgDeg0 hb0_0, BoxAt.dgLev0 hb0_0, BoxAt.dgDifL hb0_0, BoxAt.dgTabL hb0_0, BoxAt.dgTabL0 hb0_0, BoxAt.dgTabL1 hb0_0, BoxAt.dgTabL1' hb0_0, BoxAt.dgDifB hb0_0, BoxAt.dgTabB hb0_0, BoxAt.dgL hb0_1, BoxAt.dgP hb0_1, BoxAt.dgS hb0_1, BoxAt.dgDeg hb0_1, BoxAt.dgLev hb0_1, BoxAt.dgDeg0 hb0_1, BoxAt.dgLev0 hb0_1, BoxAt.dgDifL hb0_1, BoxAt.dgTabL hb0_1, BoxAt.dgTabL0 hb0_1, BoxAt.dgTabL1 hb0_1, BoxAt.dgTabL1' hb0_1, BoxAt.dgDifB hb0_1, BoxAt.dgTabB hb0_1, wrap_id, cv_u8, cv_i64, Nat.zero_add, wrap_u8, eq_el, ne_el, build_el, Int.toNat_zero, build_dg0]
  refine hK _ _ ?_
  clear hK K
  refine den_cond rfl (fun c1 => ?_) (fun c1 => ?_)
  ·try simp only [decide_eq_true_eq, decide_eq_false_iff_not, beq_iff_eq, beq_eq_false_iff_ne, bne_iff_ne, ne_eq, Bool.not_eq_true', Bool.not_eq_false', Bool.and_eq_true, Bool.or_eq_true, bne_eq_false_iff_eq, Bool.not_eq_true, Bool.not_eq_false] at c1
   refine den_seq ?_
   refine den_region TTok ?_
   intro K hK
   simp -implicitDefEqProofs (disch := first | decide | assumption | omega) only [go_sem, wrap_id, cv_u8, cv_i64, Nat.zero_add, wrap_u8, eq_el, ne_el, build_el, Int.toNat_zero, build_dg0]
   refine op_storeB (o := 0) (vs := dgA dgZ) (cs' := dgA dgZ) st34 hb0_2 rfl rfl (dgA_sz _) (by rw [dgA_sz]; decide) dgA_one dgA_all ?_
   intro h4_1 hb0_2 c4_1
   have := c4_1.size
   replace eB := Ext.then eB c4_1 (ge_of hfhb0_2 (by omega))
   try simp -implicitDefEqProofs (disch := first | decide | assumption | omega) only [go_sem, wrap_id, cv_u8, cv_i64, Nat.zero_add, wrap_u8, eq_el, ne_el, build_el, Int.toNat_zero, build_dg0]
   refine hK _ _ ?_
   clear hK K
   refine den_ret ?_
   simp -implicitDefEqProofs (disch := first | decide | assumption | omega) only [go_sem, BoxAt.dgL hb0_2, BoxAt.dgP hb0_2, BoxAt.dgS hb0_2, BoxAt.dgDeg hb0_2, BoxAt.dgLev hb0_2, BoxAt.dgDeg0 hb0_2, BoxAt.dgLev0 hb0_2, BoxAt.dgDifL hb0_2, BoxAt.dgTabL hb0_2, BoxAt.dgTabL0 hb0_2, BoxAt.dgTabL1 hb0_2, BoxAt.dgTabL1' hb0_2, BoxAt.dgDifB hb0_2, BoxAt.dgTabB hb0_2, wrap_id, cv_u8, cv_i64, Nat.zero_add, wrap_u8, eq_el, ne_el, build_el, Int.toNat_zero, build_dg0, resP_ct, ld34]
   rw [tnP_2 hbb (by simpa using c1)]
   exact ⟨by first | rfl | trivial, eB⟩
  ·try simp only [decide_eq_true_eq, decide_eq_false_iff_not, beq_iff_eq, beq_eq_false_iff_ne, bne_iff_ne, ne_eq, Bool.not_eq_true', Bool.not_eq_false', Bool.and_eq_true, Bool.or_eq_true, bne_eq_false_iff_eq, Bool.not_eq_true, Bool.not_eq_false] at c1
   have hpp : X.p = Y.p := by simpa using c1
   refine den_seq ?_
   refine den_region TTok ?_
   intro K hK
   simp -implicitDefEqProofs (disch := first | decide | assumption | omega) only [go_sem, fa34_1, ld2, BoxAt.dgL hb0_0, BoxAt.dgP hb0_0, BoxAt.dgS hb0_0, BoxAt.dgDeg hb0_0, BoxAt.dgLev hb0_0, BoxAt.dgDeg0 hb0_0, BoxAt.dgLev0 hb0_0, BoxAt.dgDifL hb0_0, BoxAt.dgTabL hb0_0, BoxAt.dgTabL0 hb0_0, BoxAt.dgTabL1 hb0_0, BoxAt.dgTabL1' hb0_0, BoxAt.dgDifB hb0_0, BoxAt.dgTabB hb0_0, BoxAt.dgL hb0_1, BoxAt.dgP hb0_1, BoxAt.dgS hb0_1, BoxAt.dgDeg hb0_1, BoxAt.dgLev hb0_1, BoxAt.dgDeg0 hb0_1, BoxAt.dgLev0 hb0_1, BoxAt.dgDifL hb0_1, BoxAt.dgTabL hb0_1, BoxAt.dgTabL0 hb0_1, BoxAt.dgTabL1 hb0_1, BoxAt.dgTabL1' hb0_1, BoxAt.dgDifB hb0_1, BoxAt.dgTabB hb0_1, wrap_id, cv_u8, cv_i64, Nat.zero_add, wrap_u8, eq_el, ne_el, build_el, Int.toNat_zero, build_dg0]
   refine hK _ _ ?_
   clear hK K
   refine den_cond rfl (fun c2 => ?_) (fun c2 => ?_)
   ·try simp only [decide_eq_true_eq, decide_eq_false_iff_not, beq_iff_eq, beq_eq_false_iff_ne, bne_iff_ne, ne_eq, Bool.not_eq_true', Bool.not_eq_false', Bool.and_eq_true, Bool.or_eq_true, bne_eq_false_iff_eq, Bool.not_eq_true, Bool.not_eq_false] at c2
    refine den_seq ?_
    refine den_region TTok ?_
    intro K hK
    simp -implicitDefEqProofs (disch := first | decide | assumption | omega) only [go_sem, wrap_id, cv_u8, cv_i64, Nat.zero_add, wrap_u8, eq_el, ne_el, build_el, Int.toNat_zero, build_dg0]
    refine op_storeB (o := 0) (vs := dgA dgZ) (cs' := dgA dgZ) st34 hb0_2 rfl rfl (dgA_sz _) (by rw [dgA_sz]; decide) dgA_one dgA_all ?_
    intro h6_1 hb0_2 c6_1
    have := c6_1.size
    replace eB := Ext.then eB c6_1 (ge_of hfhb0_2 (by omega))
    try simp -implicitDefEqProofs (disch := first | decide | assumption | omega) only [go_sem, wrap_id, cv_u8, cv_i64, Nat.zero_add, wrap_u8, eq_el, ne_el, build_el, Int.toNat_zero, build_dg0]
    refine hK _ _ ?_
    clear hK K
    refine den_ret ?_
    simp -implicitDefEqProofs (disch := first | decide | assumption | omega) only [go_sem, BoxAt.dgL hb0_2, BoxAt.dgP hb0_2, BoxAt.dgS hb0_2, BoxAt.dgDeg hb0_2, BoxAt.dgLev hb0_2, BoxAt.dgDeg0 hb0_2, BoxAt.dgLev0 hb0_2, BoxAt.dgDifL hb0_2, BoxAt.dgTabL hb0_2, BoxAt.dgTabL0 hb0_2, BoxAt.dgTabL1 hb0_2, BoxAt.dgTabL1' hb0_2, BoxAt.dgDifB hb0_2, BoxAt.dgTabB hb0_2, wrap_id, cv_u8, cv_i64, Nat.zero_add, wrap_u8, eq_el, ne_el, build_el, Int.toNat_zero, build_dg0, resP_ct, ld34]
    rw [tnP_3 hbb hpp (by omega)]
    exact ⟨by first | rfl | trivial, eB⟩
   ·try simp only [decide_eq_true_eq, decide_eq_false_iff_not, beq_iff_eq, beq_eq_false_iff_ne, bne_iff_ne, ne_eq, Bool.not_eq_true', Bool.not_eq_false', Bool.and_eq_true, Bool.or_eq_true, bne_eq_false_iff_eq, Bool.not_eq_true, Bool.not_eq_false] at c2
    have hEl8 : (EQ X Y).length ≤ 8 := by have := c2; omega
    have hEb8 := fun j hj => EQ_b hfX hfY (k := j) hj
    refine den_skip ?_
    refine den_blk ?_
    refine den_seq ?_
    refine den_draw TTok mixed [] [(0, true), (1, true), (2, true), (3, true), (4, false), (5, true), (6, true)] (by kernel_rfl) ?_
    intro K hK
    simp -implicitDefEqProofs (disch := first | decide | assumption | omega) only [go_sem, fa34_0, ld2, BoxAt.dgL hb0_0, BoxAt.dgP hb0_0, BoxAt.dgS hb0_0, BoxAt.dgDeg hb0_0, BoxAt.dgLev hb0_0, BoxAt.dgDeg0 hb0_0, BoxAt.dgLev0 hb0_0, BoxAt.dgDifL hb0_0, BoxAt.dgTabL hb0_0, BoxAt.dgTabL0 hb0_0, BoxAt.dgTabL1 hb0_0, BoxAt.dgTabL1' hb0_0, BoxAt.dgDifB hb0_0, BoxAt.dgTabB hb0_0, BoxAt.dgL hb0_1, BoxAt.dgP hb0_1, BoxAt.dgS hb0_1, BoxAt.dgDeg hb0_1, BoxAt.dgLev hb0_1, BoxAt.dgDeg0 hb0_1, BoxAt.dgLev0 hb0_1, BoxAt.dgDifL hb0_1, BoxAt.dgTabL hb0_1, BoxAt.dgTabL0 hb0_1, BoxAt.dgTabL1 hb0_1, BoxAt.dgTabL1' hb0_1, BoxAt.dgDifB hb0_1, BoxAt.dgTabB hb0_1, wrap_id, cv_u8, cv_i64, Nat.zero_add, wrap_u8, eq_el, ne_el, build_el, Int.toNat_zero, build_dg0]
    try simp -implicitDefEqProofs (disch := first | decide | assumption | omega) only [go_sem, BoxAt.dgL hb0_2, BoxAt.dgP hb0_2, BoxAt.dgS hb0_2, BoxAt.dgDeg hb0_2, BoxAt.dgLev hb0_2, BoxAt.dgDeg0 hb0_2, BoxAt.dgLev0 hb0_2, BoxAt.dgDifL hb0_2, BoxAt.dgTabL hb0_2, BoxAt.dgTabL0 hb0_2, BoxAt.dgTabL1 hb0_2, BoxAt.dgTabL1' hb0_2, BoxAt.dgDifB hb0_2, BoxAt.dgTabB hb0_2, wrap_id, cv_u8, cv_i64, Nat.zero_add, wrap_u8, eq_el, ne_el, build_el, Int.toNat_zero, build_dg0]
    refine CallA.mono (sPq_ok  X Y _  hfX hfY) ?_
    intro vw7_4_0 h7_4
    rintro ⟨zvw7_4_0, fw7_4_0, rfl, how7_4_0, hfw7_4_0, e7_4⟩
    replace hb0_0 := BoxAt.ext hb0_0 e7_4
    replace hb0_1 := BoxAt.ext hb0_1 e7_4
    replace hb0_2 := BoxAt.ext hb0_2 e7_4
    have := Ext.size e7_4
    replace eB := Ext.trans eB e7_4
    have hlhow7_4_0 := OS.lt how7_4_0
    try simp (disch := decide) only [outv_some, outv_none, put_puts]
    refine plK_pres (Ext.pres e7_4) ?_
    try simp -implicitDefEqProofs (disch := first | decide | assumption | omega) only [go_sem, RdS.len (OS.rd how7_4_0) sl55, RdS.idx (OS.rd how7_4_0) sl55, R1.intN (OS.rd how7_4_0), RdS.cells (OS.rd how7_4_0), wrap_id, cv_u8, cv_i64, Nat.zero_add, wrap_u8, eq_el, ne_el, build_el, Int.toNat_zero, build_dg0]
    refine hK _ _ ?_
    clear hK K
    refine den_seq ?_
    obtain ⟨D1, hD1⟩ : ∃ D1, D1 = dgN X.p (X.s * Y.s) := ⟨_, rfl⟩
    have hbD : buildV TT 34 [(0, .int .i64 X.p), (1, .int .i64 (X.s * Y.s))] = some (.agg (dgA D1)) := by rw [hD1]; exact build_dgN _ _
    refine den_region TTok ?_
    intro K hK
    simp -implicitDefEqProofs (disch := first | decide | assumption | omega) only [go_sem, fa34_1, ld2, BoxAt.dgL hb0_0, BoxAt.dgP hb0_0, BoxAt.dgS hb0_0, BoxAt.dgDeg hb0_0, BoxAt.dgLev hb0_0, BoxAt.dgDeg0 hb0_0, BoxAt.dgLev0 hb0_0, BoxAt.dgDifL hb0_0, BoxAt.dgTabL hb0_0, BoxAt.dgTabL0 hb0_0, BoxAt.dgTabL1 hb0_0, BoxAt.dgTabL1' hb0_0, BoxAt.dgDifB hb0_0, BoxAt.dgTabB hb0_0, BoxAt.dgL hb0_1, BoxAt.dgP hb0_1, BoxAt.dgS hb0_1, BoxAt.dgDeg hb0_1, BoxAt.dgLev hb0_1, BoxAt.dgDeg0 hb0_1, BoxAt.dgLev0 hb0_1, BoxAt.dgDifL hb0_1, BoxAt.dgTabL hb0_1, BoxAt.dgTabL0 hb0_1, BoxAt.dgTabL1 hb0_1, BoxAt.dgTabL1' hb0_1, BoxAt.dgDifB hb0_1, BoxAt.dgTabB hb0_1, wrap_id, cv_u8, cv_i64, Nat.zero_add, wrap_u8, eq_el, ne_el, build_el, Int.toNat_zero, build_dg0, hbD]
    refine op_alloc (cs := dgA dgZ) (by kernel_rfl) ?_
    intro h8_7 e8_7 hb8_7 z8_7
    replace how7_4_0 := OS.ext how7_4_0 e8_7
    replace hb0_0 := BoxAt.ext hb0_0 e8_7
    replace hb0_1 := BoxAt.ext hb0_1 e8_7
    replace hb0_2 := BoxAt.ext hb0_2 e8_7
    have := Ext.size e8_7
    replace eB := Ext.trans eB e8_7
    have hfhb8_7 : Fresh h7_4.size [h7_4.size] := Fresh.one _
    have hlhb8_7 := one_lt (show h7_4.size < h8_7.size by omega)
    try simp -implicitDefEqProofs (disch := first | decide | assumption | omega) only [go_sem, BoxAt.dgL hb0_2, BoxAt.dgP hb0_2, BoxAt.dgS hb0_2, BoxAt.dgDeg hb0_2, BoxAt.dgLev hb0_2, BoxAt.dgDeg0 hb0_2, BoxAt.dgLev0 hb0_2, BoxAt.dgDifL hb0_2, BoxAt.dgTabL hb0_2, BoxAt.dgTabL0 hb0_2, BoxAt.dgTabL1 hb0_2, BoxAt.dgTabL1' hb0_2, BoxAt.dgDifB hb0_2, BoxAt.dgTabB hb0_2, wrap_id, cv_u8, cv_i64, Nat.zero_add, wrap_u8, eq_el, ne_el, build_el, Int.toNat_zero, build_dg0, hbD]
    generalize hDA8_8 : dgA D1 = DA8_8
    refine op_storeB (o := 0) (vs := DA8_8) (cs' := DA8_8) st34 hb8_7 rfl rfl (by rw [← hDA8_8]; exact dgA_sz _) (by rw [dgA_sz]; decide) (by rw [← hDA8_8]; exact dgA_one) (by rw [← hDA8_8]; exact dgA_all) ?_
    intro h8_8 hb8_7 c8_8
    subst hDA8_8
    replace how7_4_0 := OS.chg how7_4_0 c8_8 (apart_lt hlhow7_4_0 hfhb8_7 (by omega))
    replace hb0_0 := BoxAt.chgA hb0_0 c8_8 (apart_lt hlhb0_0 hfhb8_7 (by omega))
    replace hb0_1 := BoxAt.chgA hb0_1 c8_8 (apart_lt hlhb0_1 hfhb8_7 (by omega))
    replace hb0_2 := BoxAt.chgA hb0_2 c8_8 (apart_lt hlhb0_2 hfhb8_7 (by omega))
    have := c8_8.size
    replace eB := Ext.then eB c8_8 (ge_of hfhb8_7 (by omega))
    try simp -implicitDefEqProofs (disch := first | decide | assumption | omega) only [go_sem, BoxAt.dgL hb0_2, BoxAt.dgP hb0_2, BoxAt.dgS hb0_2, BoxAt.dgDeg hb0_2, BoxAt.dgLev hb0_2, BoxAt.dgDeg0 hb0_2, BoxAt.dgLev0 hb0_2, BoxAt.dgDifL hb0_2, BoxAt.dgTabL hb0_2, BoxAt.dgTabL0 hb0_2, BoxAt.dgTabL1 hb0_2, BoxAt.dgTabL1' hb0_2, BoxAt.dgDifB hb0_2, BoxAt.dgTabB hb0_2, wrap_id, cv_u8, cv_i64, Nat.zero_add, wrap_u8, eq_el, ne_el, build_el, Int.toNat_zero, build_dg0, hbD]
    refine hK _ _ ?_
    clear hK K
    refine den_seq ?_
    refine den_seq ?_
    refine den_region TTok ?_
    intro K hK
    simp -implicitDefEqProofs (disch := first | decide | assumption | omega) only [go_sem, wrap_id, cv_u8, cv_i64, Nat.zero_add, wrap_u8, eq_el, ne_el, build_el, Int.toNat_zero, build_dg0]
    refine hK _ _ ?_
    clear hK K
    refine den_block ?_
    refine den_sel [9, 2, 3, 4, 6, 7, 8] ?_
    intro env_5
    simp only [go_sem]
    refine den_loopS (σ := Nat) (fun st_ => [(9, .int .i64 (st_ : Int))]) (fun st_ H => (st_ ≤ (EQ X Y).length) ∧ (∀ q, q < st_ → dgK X Y q ≤ 5 ∧ lvK X Y q ≤ 5) ∧ (BoxAt H (h7_4.size) (dgA (tnR X Y st_)) 34) ∧ (Chg [h7_4.size] h8_8 H)) (fun st_ => (EQ X Y).length - st_) 0 ?_ ?_
    ·exact ⟨by omega, fun q h => by omega, by rw [tnR_0, ← hD1]; exact hb8_7, Chg.refl _ _⟩
    ·rintro k h8 ee7 ⟨hk, hft, hbx8, cL6⟩
     replace how7_4_0 := OS.chg how7_4_0 cL6 (apart_lt hlhow7_4_0 hfhb8_7 (by omega))
     replace hb0_0 := BoxAt.chgA hb0_0 cL6 (apart_lt hlhb0_0 hfhb8_7 (by omega))
     replace hb0_1 := BoxAt.chgA hb0_1 cL6 (apart_lt hlhb0_1 hfhb8_7 (by omega))
     replace hb0_2 := BoxAt.chgA hb0_2 cL6 (apart_lt hlhb0_2 hfhb8_7 (by omega))
     have := cL6.size
     replace eB := Ext.then eB cL6 (ge_of hfhb8_7 (by omega))
     have hfhbx8 := hfhb8_7
     have hlhbx8 := hlhb8_7
     simp only [List.cons_append, List.nil_append]
     refine den_seq ?_
     refine den_seq ?_
     refine den_region TTok ?_
     intro K hK
     simp -implicitDefEqProofs (disch := first | decide | assumption | omega) only [go_sem, RdS.len (OS.rd how7_4_0) sl55, RdS.idx (OS.rd how7_4_0) sl55, R1.intN (OS.rd how7_4_0), RdS.cells (OS.rd how7_4_0), wrap_id, cv_u8, cv_i64, Nat.zero_add, wrap_u8, eq_el, ne_el, build_el, Int.toNat_zero, build_dg0]
     refine hK _ _ ?_
     clear hK K
     refine den_cond rfl (fun c3 => ?_) (fun c3 => ?_)
     ·try simp only [decide_eq_true_eq, decide_eq_false_iff_not, beq_iff_eq, beq_eq_false_iff_ne, bne_iff_ne, ne_eq, Bool.not_eq_true', Bool.not_eq_false', Bool.and_eq_true, Bool.or_eq_true, bne_eq_false_iff_eq, Bool.not_eq_true, Bool.not_eq_false] at c3
      refine den_skip ?_
      refine den_seq ?_
      refine den_block ?_
      refine den_seq ?_
      have hijk := ij_b hfX hfY (k := k) (by omega)
      have hik := EQ_i hfX hfY (k := k) (by omega)
      have hjk := EQ_j hfX hfY (k := k) (by omega)
      have hrXk := hfX.row (iQ X Y k) (by omega)
      have hrYk := hfY.row (jQ X Y k) (by omega)
      have hdXk := hrXk.deg
      have hdYk := hrYk.deg
      have hlXk := hrXk.lev
      have hlYk := hrYk.lev
      refine den_draw TTok mixed [] [(0, true), (1, true), (2, true), (3, true), (4, true), (5, true), (6, true), (7, true), (8, true), (9, true), (10, true), (11, true)] (by kernel_rfl) ?_
      intro K hK
      simp -implicitDefEqProofs (disch := first | decide | assumption | omega) only [go_sem, ld2, RdS.len (OS.rd how7_4_0) sl55, RdS.idx (OS.rd how7_4_0) sl55, R1.intN (OS.rd how7_4_0), RdS.cells (OS.rd how7_4_0), wrap_id, cv_u8, cv_i64, Nat.zero_add, wrap_u8, eq_el, ne_el, build_el, Int.toNat_zero, build_dg0, hik, hjk]
      refine hK _ _ ?_
      clear hK K
      refine den_seq ?_
      refine den_seq ?_
      refine den_mergeH [(91, .bool (((decide ((5 : Int) < ((X.deg (iQ X Y k)) + (Y.deg (jQ X Y k))))) || (decide ((5 : Int) < ((X.lev (iQ X Y k)) + (Y.lev (jQ X Y k))))))))] [2, 3, 4, 6, 7, 8, 9, 10, 11] ?_ ?_
       -- a way
      ·refine den_draw TTok mixed [] [(0, true), (1, true), (2, true), (3, true), (4, true), (5, true), (6, true), (7, true), (8, true), (9, true), (10, true), (11, true), (12, true), (13, true), (14, true), (15, true), (16, true), (17, true), (18, true), (19, true), (20, true), (21, true)] (by kernel_rfl) ?_
       intro K hK
       simp -implicitDefEqProofs (disch := first | decide | assumption | (simp (disch := decide) only [slotOf_zero, slotOf_succ, Option.map_some, puts_same, puts_ne, gv_bool, gv_undef, tt, tf, ft, ff, eq_self, if_true, if_false, Bool.false_eq_true, Bool.not_true, Bool.not_false]; done) | omega) only [go_sem, Int.toNat_zero, fa34_2, ia22, ld2, BoxAt.dgL hb0_0, BoxAt.dgP hb0_0, BoxAt.dgS hb0_0, BoxAt.dgDeg hb0_0, BoxAt.dgLev hb0_0, BoxAt.dgDeg0 hb0_0, BoxAt.dgLev0 hb0_0, BoxAt.dgDifL hb0_0, BoxAt.dgTabL hb0_0, BoxAt.dgTabL0 hb0_0, BoxAt.dgTabL1 hb0_0, BoxAt.dgTabL1' hb0_0, BoxAt.dgDifB hb0_0, BoxAt.dgTabB hb0_0, BoxAt.dgL hb0_1, BoxAt.dgP hb0_1, BoxAt.dgS hb0_1, BoxAt.dgDeg hb0_1, BoxAt.dgLev hb0_1, BoxAt.dgDeg0 hb0_1, BoxAt.dgLev0 hb0_1, BoxAt.dgDifL hb0_1, BoxAt.dgTabL hb0_1, BoxAt.dgTabL0 hb0_1, BoxAt.dgTabL1 hb0_1, BoxAt.dgTabL1' hb0_1, BoxAt.dgDifB hb0_1, BoxAt.dgTabB hb0_1, wrap_id, cv_u8, cv_i64, Nat.zero_add, wrap_u8, eq_el, ne_el, build_el, Int.toNat_zero, build_dg0]
       refine plG_F (by simp (disch := decide) only [slotOf_zero, slotOf_succ, Option.map_some, puts_same, puts_ne, gv_bool, gv_undef, tt, tf, ft, ff, eq_self, if_true, if_false, Bool.false_eq_true, Bool.not_true, Bool.not_false]; rfl) (fun g9 => ?_) (fun g9 => ?_)
       ·try simp -implicitDefEqProofs (disch := first | decide | assumption | (simp (disch := decide) only [slotOf_zero, slotOf_succ, Option.map_some, puts_same, puts_ne, gv_bool, gv_undef, tt, tf, ft, ff, eq_self, if_true, if_false, Bool.false_eq_true, Bool.not_true, Bool.not_false, g9]; done) | omega) only [go_sem, Int.toNat_zero, fa34_3, ia22, ld2, BoxAt.dgL hb0_0, BoxAt.dgP hb0_0, BoxAt.dgS hb0_0, BoxAt.dgDeg hb0_0, BoxAt.dgLev hb0_0, BoxAt.dgDeg0 hb0_0, BoxAt.dgLev0 hb0_0, BoxAt.dgDifL hb0_0, BoxAt.dgTabL hb0_0, BoxAt.dgTabL0 hb0_0, BoxAt.dgTabL1 hb0_0, BoxAt.dgTabL1' hb0_0, BoxAt.dgDifB hb0_0, BoxAt.dgTabB hb0_0, BoxAt.dgL hb0_1, BoxAt.dgP hb0_1, BoxAt.dgS hb0_1, BoxAt.dgDeg hb0_1, BoxAt.dgLev hb0_1, BoxAt.dgDeg0 hb0_1, BoxAt.dgLev0 hb0_1, BoxAt.dgDifL hb0_1, BoxAt.dgTabL hb0_1, BoxAt.dgTabL0 hb0_1, BoxAt.dgTabL1 hb0_1, BoxAt.dgTabL1' hb0_1, BoxAt.dgDifB hb0_1, BoxAt.dgTabB hb0_1, wrap_id, cv_u8, cv_i64, Nat.zero_add, wrap_u8, eq_el, ne_el, build_el, Int.toNat_zero, build_dg0, g9, eq_self, if_true, if_false, Bool.false_eq_true]
        refine hK _ _ ?_
        clear hK K
        refine den_stop ?_
        refine ⟨?_, rfl⟩
        first | (simp (disch := decide) only [go_sem, g9, eq_self, Bool.true_and, Bool.and_true, Bool.false_and, Bool.and_false, Bool.true_or, Bool.or_true, Bool.false_or, Bool.or_false, if_true, if_false, Bool.false_eq_true]; done) | simp [HasL, sel, puts_at, g9]
       ·try simp -implicitDefEqProofs (disch := first | decide | assumption | (simp (disch := decide) only [slotOf_zero, slotOf_succ, Option.map_some, puts_same, puts_ne, gv_bool, gv_undef, tt, tf, ft, ff, eq_self, if_true, if_false, Bool.false_eq_true, Bool.not_true, Bool.not_false, g9]; done) | omega) only [go_sem, wrap_id, cv_u8, cv_i64, Nat.zero_add, wrap_u8, eq_el, ne_el, build_el, Int.toNat_zero, build_dg0, g9, eq_self, if_true, if_false, Bool.false_eq_true]
        refine hK _ _ ?_
        clear hK K
        refine den_stop ?_
        refine ⟨?_, rfl⟩
        first | (simp (disch := decide) only [go_sem, g9, eq_self, Bool.true_and, Bool.and_true, Bool.false_and, Bool.and_false, Bool.true_or, Bool.or_true, Bool.false_or, Bool.or_false, if_true, if_false, Bool.false_eq_true]; done) | simp [HasL, sel, puts_at, g9]
      intro en10
      simp (disch := decide) only [go_sem]
      refine den_cond rfl (fun c4 => ?_) (fun c4 => ?_)
      ·try simp only [decide_eq_true_eq, decide_eq_false_iff_not, beq_iff_eq, beq_eq_false_iff_ne, bne_iff_ne, ne_eq, Bool.not_eq_true', Bool.not_eq_false', Bool.and_eq_true, Bool.or_eq_true, bne_eq_false_iff_eq, Bool.not_eq_true, Bool.not_eq_false] at c4
       refine den_seq ?_
       refine den_region TTok ?_
       intro K hK
       simp -implicitDefEqProofs (disch := first | decide | assumption | omega) only [go_sem, wrap_id, cv_u8, cv_i64, Nat.zero_add, wrap_u8, eq_el, ne_el, build_el, Int.toNat_zero, build_dg0]
       refine op_storeB (o := 0) (vs := dgA dgZ) (cs' := dgA dgZ) st34 hb0_2 rfl rfl (dgA_sz _) (by rw [dgA_sz]; decide) dgA_one dgA_all ?_
       intro h14_1 hb0_2 c14_1
       have := c14_1.size
       replace eB := Ext.then eB c14_1 (ge_of hfhb0_2 (by omega))
       try simp -implicitDefEqProofs (disch := first | decide | assumption | omega) only [go_sem, wrap_id, cv_u8, cv_i64, Nat.zero_add, wrap_u8, eq_el, ne_el, build_el, Int.toNat_zero, build_dg0]
       refine hK _ _ ?_
       clear hK K
       refine den_ret ?_
       simp -implicitDefEqProofs (disch := first | decide | assumption | omega) only [go_sem, BoxAt.dgL hb0_2, BoxAt.dgP hb0_2, BoxAt.dgS hb0_2, BoxAt.dgDeg hb0_2, BoxAt.dgLev hb0_2, BoxAt.dgDeg0 hb0_2, BoxAt.dgLev0 hb0_2, BoxAt.dgDifL hb0_2, BoxAt.dgTabL hb0_2, BoxAt.dgTabL0 hb0_2, BoxAt.dgTabL1 hb0_2, BoxAt.dgTabL1' hb0_2, BoxAt.dgDifB hb0_2, BoxAt.dgTabB hb0_2, wrap_id, cv_u8, cv_i64, Nat.zero_add, wrap_u8, eq_el, ne_el, build_el, Int.toNat_zero, build_dg0, resP_ct, ld34]
       rw [tnP_4 hbb hpp (by omega) (k := k) (by omega) (by have h1 := c4; unfold dgK lvK; omega)]
       exact ⟨by first | rfl | trivial, eB⟩
      ·try simp only [decide_eq_true_eq, decide_eq_false_iff_not, beq_iff_eq, beq_eq_false_iff_ne, bne_iff_ne, ne_eq, Bool.not_eq_true', Bool.not_eq_false', Bool.and_eq_true, Bool.or_eq_true, bne_eq_false_iff_eq, Bool.not_eq_true, Bool.not_eq_false] at c4
       have hfk : dgK X Y k ≤ 5 ∧ lvK X Y k ≤ 5 := by have h1 := c4; simp at h1; unfold dgK lvK; omega
       refine den_skip ?_
       refine den_seq ?_
       refine den_draw TTok mixed [12] [(0, true), (1, true), (2, true), (3, true), (4, true), (5, true), (6, true), (7, true), (8, true), (9, true), (10, true), (11, true), (12, false)] (by kernel_rfl) ?_
       intro K hK
       simp -implicitDefEqProofs (disch := first | decide | assumption | omega) only [go_sem, Int.toNat_zero, fa34_2, ia22, ld2, BoxAt.dgL hb0_0, BoxAt.dgP hb0_0, BoxAt.dgS hb0_0, BoxAt.dgDeg hb0_0, BoxAt.dgLev hb0_0, BoxAt.dgDeg0 hb0_0, BoxAt.dgLev0 hb0_0, BoxAt.dgDifL hb0_0, BoxAt.dgTabL hb0_0, BoxAt.dgTabL0 hb0_0, BoxAt.dgTabL1 hb0_0, BoxAt.dgTabL1' hb0_0, BoxAt.dgDifB hb0_0, BoxAt.dgTabB hb0_0, BoxAt.dgL hb0_1, BoxAt.dgP hb0_1, BoxAt.dgS hb0_1, BoxAt.dgDeg hb0_1, BoxAt.dgLev hb0_1, BoxAt.dgDeg0 hb0_1, BoxAt.dgLev0 hb0_1, BoxAt.dgDifL hb0_1, BoxAt.dgTabL hb0_1, BoxAt.dgTabL0 hb0_1, BoxAt.dgTabL1 hb0_1, BoxAt.dgTabL1' hb0_1, BoxAt.dgDifB hb0_1, BoxAt.dgTabB hb0_1, BoxAt.dgL hbx8, BoxAt.dgP hbx8, BoxAt.dgS hbx8, BoxAt.dgDeg hbx8, BoxAt.dgLev hbx8, BoxAt.dgDeg0 hbx8, BoxAt.dgLev0 hbx8, BoxAt.dgDifL hbx8, BoxAt.dgTabL hbx8, BoxAt.dgTabL0 hbx8, BoxAt.dgTabL1 hbx8, BoxAt.dgTabL1' hbx8, BoxAt.dgDifB hbx8, BoxAt.dgTabB hbx8, wrap_id, cv_u8, cv_i64, Nat.zero_add, wrap_u8, eq_el, ne_el, build_el, Int.toNat_zero, build_dg0]
       refine op_storeB (o := 2 + k) (vs := #[.int .i64 ((X.deg (iQ X Y k)) + (Y.deg (jQ X Y k)))]) (cs' := dgA ({ tnR X Y k with deg := (upd ((tnR X Y k).deg) k ((X.deg (iQ X Y k)) + (Y.deg (jQ X Y k)))) })) st2 hbx8 rfl rfl rfl (by rw [dgA_sz]; omega) i64_one (dg_degI (X := tnR X Y k) (by omega)) ?_
       intro h15_12 hbx8 c15_12
       obtain ⟨DS15_12, hDS15_12⟩ : ∃ D : Dg, D = ({ tnR X Y k with deg := (upd ((tnR X Y k).deg) k ((X.deg (iQ X Y k)) + (Y.deg (jQ X Y k)))) }) := ⟨_, rfl⟩
       rw [← hDS15_12] at hbx8
       replace how7_4_0 := OS.chg how7_4_0 c15_12 (apart_lt hlhow7_4_0 hfhbx8 (by omega))
       replace hb0_0 := BoxAt.chgA hb0_0 c15_12 (apart_lt hlhb0_0 hfhbx8 (by omega))
       replace hb0_1 := BoxAt.chgA hb0_1 c15_12 (apart_lt hlhb0_1 hfhbx8 (by omega))
       replace hb0_2 := BoxAt.chgA hb0_2 c15_12 (apart_lt hlhb0_2 hfhbx8 (by omega))
       have := c15_12.size
       replace eB := Ext.then eB c15_12 (ge_of hfhbx8 (by omega))
       replace cL6 := Chg.step cL6 c15_12 Sub.refl
       try simp (disch := decide) only [outv_some, outv_none, put_puts]
       refine plK_last (by decide) ?_
       try simp -implicitDefEqProofs (disch := first | decide | assumption | omega) only [go_sem, BoxAt.dgL hb0_2, BoxAt.dgP hb0_2, BoxAt.dgS hb0_2, BoxAt.dgDeg hb0_2, BoxAt.dgLev hb0_2, BoxAt.dgDeg0 hb0_2, BoxAt.dgLev0 hb0_2, BoxAt.dgDifL hb0_2, BoxAt.dgTabL hb0_2, BoxAt.dgTabL0 hb0_2, BoxAt.dgTabL1 hb0_2, BoxAt.dgTabL1' hb0_2, BoxAt.dgDifB hb0_2, BoxAt.dgTabB hb0_2, wrap_id, cv_u8, cv_i64, Nat.zero_add, wrap_u8, eq_el, ne_el, build_el, Int.toNat_zero, build_dg0]
       refine hK _ _ ?_
       clear hK K
       refine den_seq ?_
       refine den_draw TTok mixed [12] [(0, true), (1, true), (2, true), (3, true), (4, true), (5, true), (6, true), (7, true), (8, true), (9, true), (10, true), (11, true), (12, false)] (by kernel_rfl) ?_
       intro K hK
       simp -implicitDefEqProofs (disch := first | decide | assumption | omega) only [go_sem, Int.toNat_zero, fa34_3, ia22, ld2, BoxAt.dgL hb0_0, BoxAt.dgP hb0_0, BoxAt.dgS hb0_0, BoxAt.dgDeg hb0_0, BoxAt.dgLev hb0_0, BoxAt.dgDeg0 hb0_0, BoxAt.dgLev0 hb0_0, BoxAt.dgDifL hb0_0, BoxAt.dgTabL hb0_0, BoxAt.dgTabL0 hb0_0, BoxAt.dgTabL1 hb0_0, BoxAt.dgTabL1' hb0_0, BoxAt.dgDifB hb0_0, BoxAt.dgTabB hb0_0, BoxAt.dgL hb0_1, BoxAt.dgP hb0_1, BoxAt.dgS hb0_1, BoxAt.dgDeg hb0_1, BoxAt.dgLev hb0_1, BoxAt.dgDeg0 hb0_1, BoxAt.dgLev0 hb0_1, BoxAt.dgDifL hb0_1, BoxAt.dgTabL hb0_1, BoxAt.dgTabL0 hb0_1, BoxAt.dgTabL1 hb0_1, BoxAt.dgTabL1' hb0_1, BoxAt.dgDifB hb0_1, BoxAt.dgTabB hb0_1, BoxAt.dgL hbx8, BoxAt.dgP hbx8, BoxAt.dgS hbx8, BoxAt.dgDeg hbx8, BoxAt.dgLev hbx8, BoxAt.dgDeg0 hbx8, BoxAt.dgLev0 hbx8, BoxAt.dgDifL hbx8, BoxAt.dgTabL hbx8, BoxAt.dgTabL0 hbx8, BoxAt.dgTabL1 hbx8, BoxAt.dgTabL1' hbx8, BoxAt.dgDifB hbx8, BoxAt.dgTabB hbx8, wrap_id, cv_u8, cv_i64, Nat.zero_add, wrap_u8, eq_el, ne_el, build_el, Int.toNat_zero, build_dg0]
       refine op_storeB (o := 10 + k) (vs := #[.int .i64 ((X.lev (iQ X Y k)) + (Y.lev (jQ X Y k)))]) (cs' := dgA ({ DS15_12 with lev := (upd DS15_12.lev k ((X.lev (iQ X Y k)) + (Y.lev (jQ X Y k)))) })) st2 hbx8 rfl rfl rfl (by rw [dgA_sz]; omega) i64_one (dg_levI (X := DS15_12) (by omega)) ?_
       intro h16_12 hbx8 c16_12
       obtain ⟨DS16_12, hDS16_12⟩ : ∃ D : Dg, D = ({ DS15_12 with lev := (upd DS15_12.lev k ((X.lev (iQ X Y k)) + (Y.lev (jQ X Y k)))) }) := ⟨_, rfl⟩
       rw [← hDS16_12] at hbx8
       replace how7_4_0 := OS.chg how7_4_0 c16_12 (apart_lt hlhow7_4_0 hfhbx8 (by omega))
       replace hb0_0 := BoxAt.chgA hb0_0 c16_12 (apart_lt hlhb0_0 hfhbx8 (by omega))
       replace hb0_1 := BoxAt.chgA hb0_1 c16_12 (apart_lt hlhb0_1 hfhbx8 (by omega))
       replace hb0_2 := BoxAt.chgA hb0_2 c16_12 (apart_lt hlhb0_2 hfhbx8 (by omega))
       have := c16_12.size
       replace eB := Ext.then eB c16_12 (ge_of hfhbx8 (by omega))
       replace cL6 := Chg.step cL6 c16_12 Sub.refl
       try simp (disch := decide) only [outv_some, outv_none, put_puts]
       refine plK_last (by decide) ?_
       try simp -implicitDefEqProofs (disch := first | decide | assumption | omega) only [go_sem, BoxAt.dgL hb0_2, BoxAt.dgP hb0_2, BoxAt.dgS hb0_2, BoxAt.dgDeg hb0_2, BoxAt.dgLev hb0_2, BoxAt.dgDeg0 hb0_2, BoxAt.dgLev0 hb0_2, BoxAt.dgDifL hb0_2, BoxAt.dgTabL hb0_2, BoxAt.dgTabL0 hb0_2, BoxAt.dgTabL1 hb0_2, BoxAt.dgTabL1' hb0_2, BoxAt.dgDifB hb0_2, BoxAt.dgTabB hb0_2, wrap_id, cv_u8, cv_i64, Nat.zero_add, wrap_u8, eq_el, ne_el, build_el, Int.toNat_zero, build_dg0]
       refine hK _ _ ?_
       clear hK K
       refine den_seq ?_
       have htm := tm2 (X.deg (iQ X Y k))
       refine den_region TTok ?_
       intro K hK
       simp -implicitDefEqProofs (disch := first | decide | assumption | omega) only [go_sem, Int.toNat_zero, fa34_2, ia22, ld2, BoxAt.dgL hb0_0, BoxAt.dgP hb0_0, BoxAt.dgS hb0_0, BoxAt.dgDeg hb0_0, BoxAt.dgLev hb0_0, BoxAt.dgDeg0 hb0_0, BoxAt.dgLev0 hb0_0, BoxAt.dgDifL hb0_0, BoxAt.dgTabL hb0_0, BoxAt.dgTabL0 hb0_0, BoxAt.dgTabL1 hb0_0, BoxAt.dgTabL1' hb0_0, BoxAt.dgDifB hb0_0, BoxAt.dgTabB hb0_0, wrap_id, cv_u8, cv_i64, Nat.zero_add, wrap_u8, eq_el, ne_el, build_el, Int.toNat_zero, build_dg0]
       refine hK _ _ ?_
       clear hK K
       refine den_seq ?_
       refine den_draw TTok mixed [24] [(0, true), (1, true), (2, true), (3, true), (4, true), (5, true), (6, true), (7, true), (8, true), (11, true), (12, true), (13, true), (15, true), (16, true), (17, true), (18, true), (19, true), (22, true), (9, false), (10, false), (14, false), (20, false), (21, false), (23, true), (24, false)] (by kernel_rfl) ?_
       intro K hK
       simp -implicitDefEqProofs (disch := first | decide | assumption | omega) only [go_sem, Int.toNat_zero, fa34_4, ia31, RdS.len (OS.rd how7_4_0) sl55, RdS.idx (OS.rd how7_4_0) sl55, R1.intN (OS.rd how7_4_0), RdS.cells (OS.rd how7_4_0), BoxAt.dgL hb0_0, BoxAt.dgP hb0_0, BoxAt.dgS hb0_0, BoxAt.dgDeg hb0_0, BoxAt.dgLev hb0_0, BoxAt.dgDeg0 hb0_0, BoxAt.dgLev0 hb0_0, BoxAt.dgDifL hb0_0, BoxAt.dgTabL hb0_0, BoxAt.dgTabL0 hb0_0, BoxAt.dgTabL1 hb0_0, BoxAt.dgTabL1' hb0_0, BoxAt.dgDifB hb0_0, BoxAt.dgTabB hb0_0, BoxAt.dgL hb0_1, BoxAt.dgP hb0_1, BoxAt.dgS hb0_1, BoxAt.dgDeg hb0_1, BoxAt.dgLev hb0_1, BoxAt.dgDeg0 hb0_1, BoxAt.dgLev0 hb0_1, BoxAt.dgDifL hb0_1, BoxAt.dgTabL hb0_1, BoxAt.dgTabL0 hb0_1, BoxAt.dgTabL1 hb0_1, BoxAt.dgTabL1' hb0_1, BoxAt.dgDifB hb0_1, BoxAt.dgTabB hb0_1, BoxAt.dgL hbx8, BoxAt.dgP hbx8, BoxAt.dgS hbx8, BoxAt.dgDeg hbx8, BoxAt.dgLev hbx8, BoxAt.dgDeg0 hbx8, BoxAt.dgLev0 hbx8, BoxAt.dgDifL hbx8, BoxAt.dgTabL hbx8, BoxAt.dgTabL0 hbx8, BoxAt.dgTabL1 hbx8, BoxAt.dgTabL1' hbx8, BoxAt.dgDifB hbx8, BoxAt.dgTabB hbx8, wrap_id, cv_u8, cv_i64, Nat.zero_add, wrap_u8, eq_el, ne_el, build_el, Int.toNat_zero, build_dg0]
       try simp -implicitDefEqProofs (disch := first | decide | assumption | omega) only [go_sem, BoxAt.dgL hb0_2, BoxAt.dgP hb0_2, BoxAt.dgS hb0_2, BoxAt.dgDeg hb0_2, BoxAt.dgLev hb0_2, BoxAt.dgDeg0 hb0_2, BoxAt.dgLev0 hb0_2, BoxAt.dgDifL hb0_2, BoxAt.dgTabL hb0_2, BoxAt.dgTabL0 hb0_2, BoxAt.dgTabL1 hb0_2, BoxAt.dgTabL1' hb0_2, BoxAt.dgDifB hb0_2, BoxAt.dgTabB hb0_2, wrap_id, cv_u8, cv_i64, Nat.zero_add, wrap_u8, eq_el, ne_el, build_el, Int.toNat_zero, build_dg0]
       refine CallA.mono (sUni_ok  (jQ X Y k : Int) _  (by omega)) ?_
       intro v_ h18_9
       rintro ⟨rfl, e18_9⟩
       replace how7_4_0 := OS.ext how7_4_0 e18_9
       replace hb0_0 := BoxAt.ext hb0_0 e18_9
       replace hb0_1 := BoxAt.ext hb0_1 e18_9
       replace hb0_2 := BoxAt.ext hb0_2 e18_9
       replace hbx8 := BoxAt.ext hbx8 e18_9
       have := Ext.size e18_9
       replace eB := Ext.trans eB e18_9
       replace cL6 := Chg.stepE cL6 e18_9
       try simp (disch := decide) only [outv_some, outv_none, put_puts]
       refine plK_pres (Ext.pres e18_9) ?_
       try simp -implicitDefEqProofs (disch := first | decide | assumption | omega) only [go_sem, BoxAt.dgL hb0_2, BoxAt.dgP hb0_2, BoxAt.dgS hb0_2, BoxAt.dgDeg hb0_2, BoxAt.dgLev hb0_2, BoxAt.dgDeg0 hb0_2, BoxAt.dgLev0 hb0_2, BoxAt.dgDifL hb0_2, BoxAt.dgTabL hb0_2, BoxAt.dgTabL0 hb0_2, BoxAt.dgTabL1 hb0_2, BoxAt.dgTabL1' hb0_2, BoxAt.dgDifB hb0_2, BoxAt.dgTabB hb0_2, wrap_id, cv_u8, cv_i64, Nat.zero_add, wrap_u8, eq_el, ne_el, build_el, Int.toNat_zero, build_dg0]
       try simp -implicitDefEqProofs (disch := first | decide | assumption | omega) only [go_sem, BoxAt.dgL hb0_2, BoxAt.dgP hb0_2, BoxAt.dgS hb0_2, BoxAt.dgDeg hb0_2, BoxAt.dgLev hb0_2, BoxAt.dgDeg0 hb0_2, BoxAt.dgLev0 hb0_2, BoxAt.dgDifL hb0_2, BoxAt.dgTabL hb0_2, BoxAt.dgTabL0 hb0_2, BoxAt.dgTabL1 hb0_2, BoxAt.dgTabL1' hb0_2, BoxAt.dgDifB hb0_2, BoxAt.dgTabB hb0_2, wrap_id, cv_u8, cv_i64, Nat.zero_add, wrap_u8, eq_el, ne_el, build_el, Int.toNat_zero, build_dg0]
       refine CallA.mono (sPj_ok _ X.p (EQ X Y) (X.dif (iQ X Y k)) (e8 (jQ X Y k)) (1 : Int) _ (OS.rd how7_4_0) hpG (hBdX _) (e8_by _) (by omega) hEl8 hEb8) ?_
       intro v_ h18_10
       rintro ⟨rfl, e18_10⟩
       replace how7_4_0 := OS.ext how7_4_0 e18_10
       replace hb0_0 := BoxAt.ext hb0_0 e18_10
       replace hb0_1 := BoxAt.ext hb0_1 e18_10
       replace hb0_2 := BoxAt.ext hb0_2 e18_10
       replace hbx8 := BoxAt.ext hbx8 e18_10
       have := Ext.size e18_10
       replace eB := Ext.trans eB e18_10
       replace cL6 := Chg.stepE cL6 e18_10
       try simp (disch := decide) only [outv_some, outv_none, put_puts]
       refine plK_pres (Ext.pres e18_10) ?_
       try simp -implicitDefEqProofs (disch := first | decide | assumption | omega) only [go_sem, BoxAt.dgL hb0_2, BoxAt.dgP hb0_2, BoxAt.dgS hb0_2, BoxAt.dgDeg hb0_2, BoxAt.dgLev hb0_2, BoxAt.dgDeg0 hb0_2, BoxAt.dgLev0 hb0_2, BoxAt.dgDifL hb0_2, BoxAt.dgTabL hb0_2, BoxAt.dgTabL0 hb0_2, BoxAt.dgTabL1 hb0_2, BoxAt.dgTabL1' hb0_2, BoxAt.dgDifB hb0_2, BoxAt.dgTabB hb0_2, wrap_id, cv_u8, cv_i64, Nat.zero_add, wrap_u8, eq_el, ne_el, build_el, Int.toNat_zero, build_dg0]
       try simp -implicitDefEqProofs (disch := first | decide | assumption | omega) only [go_sem, BoxAt.dgL hb0_2, BoxAt.dgP hb0_2, BoxAt.dgS hb0_2, BoxAt.dgDeg hb0_2, BoxAt.dgLev hb0_2, BoxAt.dgDeg0 hb0_2, BoxAt.dgLev0 hb0_2, BoxAt.dgDifL hb0_2, BoxAt.dgTabL hb0_2, BoxAt.dgTabL0 hb0_2, BoxAt.dgTabL1 hb0_2, BoxAt.dgTabL1' hb0_2, BoxAt.dgDifB hb0_2, BoxAt.dgTabB hb0_2, wrap_id, cv_u8, cv_i64, Nat.zero_add, wrap_u8, eq_el, ne_el, build_el, Int.toNat_zero, build_dg0]
       refine CallA.mono (sUni_ok  (iQ X Y k : Int) _  (by omega)) ?_
       intro v_ h18_14
       rintro ⟨rfl, e18_14⟩
       replace how7_4_0 := OS.ext how7_4_0 e18_14
       replace hb0_0 := BoxAt.ext hb0_0 e18_14
       replace hb0_1 := BoxAt.ext hb0_1 e18_14
       replace hb0_2 := BoxAt.ext hb0_2 e18_14
       replace hbx8 := BoxAt.ext hbx8 e18_14
       have := Ext.size e18_14
       replace eB := Ext.trans eB e18_14
       replace cL6 := Chg.stepE cL6 e18_14
       try simp (disch := decide) only [outv_some, outv_none, put_puts]
       refine plK_pres (Ext.pres e18_14) ?_
       try simp -implicitDefEqProofs (disch := first | decide | assumption | omega) only [go_sem, BoxAt.dgL hb0_2, BoxAt.dgP hb0_2, BoxAt.dgS hb0_2, BoxAt.dgDeg hb0_2, BoxAt.dgLev hb0_2, BoxAt.dgDeg0 hb0_2, BoxAt.dgLev0 hb0_2, BoxAt.dgDifL hb0_2, BoxAt.dgTabL hb0_2, BoxAt.dgTabL0 hb0_2, BoxAt.dgTabL1 hb0_2, BoxAt.dgTabL1' hb0_2, BoxAt.dgDifB hb0_2, BoxAt.dgTabB hb0_2, wrap_id, cv_u8, cv_i64, Nat.zero_add, wrap_u8, eq_el, ne_el, build_el, Int.toNat_zero, build_dg0]
       try simp -implicitDefEqProofs (disch := first | decide | assumption | omega) only [go_sem, BoxAt.dgL hb0_2, BoxAt.dgP hb0_2, BoxAt.dgS hb0_2, BoxAt.dgDeg hb0_2, BoxAt.dgLev hb0_2, BoxAt.dgDeg0 hb0_2, BoxAt.dgLev0 hb0_2, BoxAt.dgDifL hb0_2, BoxAt.dgTabL hb0_2, BoxAt.dgTabL0 hb0_2, BoxAt.dgTabL1 hb0_2, BoxAt.dgTabL1' hb0_2, BoxAt.dgDifB hb0_2, BoxAt.dgTabB hb0_2, wrap_id, cv_u8, cv_i64, Nat.zero_add, wrap_u8, eq_el, ne_el, build_el, Int.toNat_zero, build_dg0]
       refine CallA.mono (sPj_ok _ X.p (EQ X Y) (e8 (iQ X Y k)) (Y.dif (jQ X Y k)) ((1 : Int) - ((2 : Int) * (Int.tmod (X.deg (iQ X Y k)) (2 : Int)))) _ (OS.rd how7_4_0) hpG (e8_by _) (hBdY _) (by omega) hEl8 hEb8) ?_
       intro v_ h18_20
       rintro ⟨rfl, e18_20⟩
       replace how7_4_0 := OS.ext how7_4_0 e18_20
       replace hb0_0 := BoxAt.ext hb0_0 e18_20
       replace hb0_1 := BoxAt.ext hb0_1 e18_20
       replace hb0_2 := BoxAt.ext hb0_2 e18_20
       replace hbx8 := BoxAt.ext hbx8 e18_20
       have := Ext.size e18_20
       replace eB := Ext.trans eB e18_20
       replace cL6 := Chg.stepE cL6 e18_20
       try simp (disch := decide) only [outv_some, outv_none, put_puts]
       refine plK_pres (Ext.pres e18_20) ?_
       try simp -implicitDefEqProofs (disch := first | decide | assumption | omega) only [go_sem, BoxAt.dgL hb0_2, BoxAt.dgP hb0_2, BoxAt.dgS hb0_2, BoxAt.dgDeg hb0_2, BoxAt.dgLev hb0_2, BoxAt.dgDeg0 hb0_2, BoxAt.dgLev0 hb0_2, BoxAt.dgDifL hb0_2, BoxAt.dgTabL hb0_2, BoxAt.dgTabL0 hb0_2, BoxAt.dgTabL1 hb0_2, BoxAt.dgTabL1' hb0_2, BoxAt.dgDifB hb0_2, BoxAt.dgTabB hb0_2, wrap_id, cv_u8, cv_i64, Nat.zero_add, wrap_u8, eq_el, ne_el, build_el, Int.toNat_zero, build_dg0]
       try simp -implicitDefEqProofs (disch := first | decide | assumption | omega) only [go_sem, BoxAt.dgL hb0_2, BoxAt.dgP hb0_2, BoxAt.dgS hb0_2, BoxAt.dgDeg hb0_2, BoxAt.dgLev hb0_2, BoxAt.dgDeg0 hb0_2, BoxAt.dgLev0 hb0_2, BoxAt.dgDifL hb0_2, BoxAt.dgTabL hb0_2, BoxAt.dgTabL0 hb0_2, BoxAt.dgTabL1 hb0_2, BoxAt.dgTabL1' hb0_2, BoxAt.dgDifB hb0_2, BoxAt.dgTabB hb0_2, wrap_id, cv_u8, cv_i64, Nat.zero_add, wrap_u8, eq_el, ne_el, build_el, Int.toNat_zero, build_dg0]
       refine CallA.mono (sAdd8_ok  X.p (pjN X.p (EQ X Y) (1 : Int) (X.dif (iQ X Y k)) (e8 (jQ X Y k)) (EQ X Y).length) (pjN X.p (EQ X Y) ((1 : Int) - ((2 : Int) * (Int.tmod (X.deg (iQ X Y k)) (2 : Int)))) (e8 (iQ X Y k)) (Y.dif (jQ X Y k)) (EQ X Y).length) (1 : Int) _  hpG (pjN_by hpG) (pjN_by hpG) (by omega)) ?_
       intro v_ h18_21
       rintro ⟨rfl, e18_21⟩
       replace how7_4_0 := OS.ext how7_4_0 e18_21
       replace hb0_0 := BoxAt.ext hb0_0 e18_21
       replace hb0_1 := BoxAt.ext hb0_1 e18_21
       replace hb0_2 := BoxAt.ext hb0_2 e18_21
       replace hbx8 := BoxAt.ext hbx8 e18_21
       have := Ext.size e18_21
       replace eB := Ext.trans eB e18_21
       replace cL6 := Chg.stepE cL6 e18_21
       try simp (disch := decide) only [outv_some, outv_none, put_puts]
       refine plK_pres (Ext.pres e18_21) ?_
       try simp -implicitDefEqProofs (disch := first | decide | assumption | omega) only [go_sem, Int.toNat_zero, ia31, BoxAt.dgL hbx8, BoxAt.dgP hbx8, BoxAt.dgS hbx8, BoxAt.dgDeg hbx8, BoxAt.dgLev hbx8, BoxAt.dgDeg0 hbx8, BoxAt.dgLev0 hbx8, BoxAt.dgDifL hbx8, BoxAt.dgTabL hbx8, BoxAt.dgTabL0 hbx8, BoxAt.dgTabL1 hbx8, BoxAt.dgTabL1' hbx8, BoxAt.dgDifB hbx8, BoxAt.dgTabB hbx8, wrap_id, cv_u8, cv_i64, Nat.zero_add, wrap_u8, eq_el, ne_el, build_el, Int.toNat_zero, build_dg0]
       generalize hEA18_24 : elA (plusN X.p (pjN X.p (EQ X Y) (1 : Int) (X.dif (iQ X Y k)) (e8 (jQ X Y k)) (EQ X Y).length) (pjN X.p (EQ X Y) ((1 : Int) - ((2 : Int) * (Int.tmod (X.deg (iQ X Y k)) (2 : Int)))) (e8 (iQ X Y k)) (Y.dif (jQ X Y k)) (EQ X Y).length) (1 : Int) 8) = EA18_24
       refine op_storeB (o := 18 + k * 8) (vs := EA18_24) (cs' := dgA ({ DS16_12 with dif := (updF DS16_12.dif k (plusN X.p (pjN X.p (EQ X Y) (1 : Int) (X.dif (iQ X Y k)) (e8 (jQ X Y k)) (EQ X Y).length) (pjN X.p (EQ X Y) ((1 : Int) - ((2 : Int) * (Int.tmod (X.deg (iQ X Y k)) (2 : Int)))) (e8 (iQ X Y k)) (Y.dif (jQ X Y k)) (EQ X Y).length) (1 : Int) 8)) })) st30 hbx8 rfl rfl (by rw [← hEA18_24]; exact elA_sz _) (by rw [dgA_sz]; omega) (by rw [← hEA18_24]; exact elA_one) (by rw [← hEA18_24]; exact dg_difI (X := DS16_12) (by omega)) ?_
       intro h18_24 hbx8 c18_24
       subst hEA18_24
       obtain ⟨DS18_24, hDS18_24⟩ : ∃ D : Dg, D = ({ DS16_12 with dif := (updF DS16_12.dif k (plusN X.p (pjN X.p (EQ X Y) (1 : Int) (X.dif (iQ X Y k)) (e8 (jQ X Y k)) (EQ X Y).length) (pjN X.p (EQ X Y) ((1 : Int) - ((2 : Int) * (Int.tmod (X.deg (iQ X Y k)) (2 : Int)))) (e8 (iQ X Y k)) (Y.dif (jQ X Y k)) (EQ X Y).length) (1 : Int) 8)) }) := ⟨_, rfl⟩
       rw [← hDS18_24] at hbx8
       replace how7_4_0 := OS.chg how7_4_0 c18_24 (apart_lt hlhow7_4_0 hfhbx8 (by omega))
       replace hb0_0 := BoxAt.chgA hb0_0 c18_24 (apart_lt hlhb0_0 hfhbx8 (by omega))
       replace hb0_1 := BoxAt.chgA hb0_1 c18_24 (apart_lt hlhb0_1 hfhbx8 (by omega))
       replace hb0_2 := BoxAt.chgA hb0_2 c18_24 (apart_lt hlhb0_2 hfhbx8 (by omega))
       have := c18_24.size
       replace eB := Ext.then eB c18_24 (ge_of hfhbx8 (by omega))
       replace cL6 := Chg.step cL6 c18_24 Sub.refl
       try simp (disch := decide) only [outv_some, outv_none, put_puts]
       refine plK_last (by decide) ?_
       try simp -implicitDefEqProofs (disch := first | decide | assumption | omega) only [go_sem, BoxAt.dgL hb0_2, BoxAt.dgP hb0_2, BoxAt.dgS hb0_2, BoxAt.dgDeg hb0_2, BoxAt.dgLev hb0_2, BoxAt.dgDeg0 hb0_2, BoxAt.dgLev0 hb0_2, BoxAt.dgDifL hb0_2, BoxAt.dgTabL hb0_2, BoxAt.dgTabL0 hb0_2, BoxAt.dgTabL1 hb0_2, BoxAt.dgTabL1' hb0_2, BoxAt.dgDifB hb0_2, BoxAt.dgTabB hb0_2, wrap_id, cv_u8, cv_i64, Nat.zero_add, wrap_u8, eq_el, ne_el, build_el, Int.toNat_zero, build_dg0]
       refine hK _ _ ?_
       clear hK K
       refine den_seq ?_
       refine den_region TTok ?_
       intro K hK
       simp -implicitDefEqProofs (disch := first | decide | assumption | omega) only [go_sem, wrap_id, cv_u8, cv_i64, Nat.zero_add, wrap_u8, eq_el, ne_el, build_el, Int.toNat_zero, build_dg0]
       refine hK _ _ ?_
       clear hK K
       refine den_block ?_
       have hQ0 : DS18_24 = tnC X Y k 0 := by rw [hDS18_24, hDS16_12, hDS15_12]; exact tnC_0 X Y k
       refine den_sel [13, 2, 3, 4, 6, 7, 8, 9, 10, 11] ?_
       intro env_13
       simp only [go_sem]
       refine den_loopS (σ := Nat) (fun st_ => [(13, .int .i64 (st_ : Int))]) (fun st_ H => (st_ ≤ (EQ X Y).length) ∧ (BoxAt H (h7_4.size) (dgA (tnC X Y k st_)) 34) ∧ (Chg [h7_4.size] h18_24 H)) (fun st_ => (EQ X Y).length - st_) 0 ?_ ?_
       ·exact ⟨by first | (simp; done) | (dsimp only; omega) | (simp; omega), by rw [← hQ0]; exact hbx8, Chg.refl _ _⟩
       ·rintro m h16 ee15 ⟨hi0, hbx8, cL14⟩
        replace how7_4_0 := OS.chg how7_4_0 cL14 (apart_lt hlhow7_4_0 hfhbx8 (by omega))
        replace hb0_0 := BoxAt.chgA hb0_0 cL14 (apart_lt hlhb0_0 hfhbx8 (by omega))
        replace hb0_1 := BoxAt.chgA hb0_1 cL14 (apart_lt hlhb0_1 hfhbx8 (by omega))
        replace hb0_2 := BoxAt.chgA hb0_2 cL14 (apart_lt hlhb0_2 hfhbx8 (by omega))
        have := cL14.size
        replace eB := Ext.then eB cL14 (ge_of hfhbx8 (by omega))
        replace cL6 := Chg.step cL6 cL14 Sub.refl
        have hfhbx8 := hfhbx8
        have hlhbx8 := hlhbx8
        simp only [List.cons_append, List.nil_append]
        refine den_seq ?_
        refine den_seq ?_
        refine den_region TTok ?_
        intro K hK
        simp -implicitDefEqProofs (disch := first | decide | assumption | omega) only [go_sem, RdS.len (OS.rd how7_4_0) sl55, RdS.idx (OS.rd how7_4_0) sl55, R1.intN (OS.rd how7_4_0), RdS.cells (OS.rd how7_4_0), wrap_id, cv_u8, cv_i64, Nat.zero_add, wrap_u8, eq_el, ne_el, build_el, Int.toNat_zero, build_dg0]
        refine hK _ _ ?_
        clear hK K
        refine den_cond rfl (fun c5 => ?_) (fun c5 => ?_)
        ·try simp only [decide_eq_true_eq, decide_eq_false_iff_not, beq_iff_eq, beq_eq_false_iff_ne, bne_iff_ne, ne_eq, Bool.not_eq_true', Bool.not_eq_false', Bool.and_eq_true, Bool.or_eq_true, bne_eq_false_iff_eq, Bool.not_eq_true, Bool.not_eq_false] at c5
         refine den_skip ?_
         refine den_seq ?_
         refine den_block ?_
         refine den_seq ?_
         have hijm := ij_b hfX hfY (k := m) (by omega)
         have him := EQ_i hfX hfY (k := m) (by omega)
         have hjm := EQ_j hfX hfY (k := m) (by omega)
         have hrXm := hfX.row (iQ X Y m) (by omega)
         have hrYm := hfY.row (jQ X Y m) (by omega)
         have hdXm := hrXm.deg
         have hdYm := hrYm.deg
         have hlXm := hrXm.lev
         have hlYm := hrYm.lev
         refine den_draw TTok mixed [] [(0, true), (1, true), (2, true), (3, true), (4, true), (5, true), (6, true), (7, true), (8, true), (9, true), (10, true), (11, true)] (by kernel_rfl) ?_
         intro K hK
         simp -implicitDefEqProofs (disch := first | decide | assumption | omega) only [go_sem, ld2, RdS.len (OS.rd how7_4_0) sl55, RdS.idx (OS.rd how7_4_0) sl55, R1.intN (OS.rd how7_4_0), RdS.cells (OS.rd how7_4_0), wrap_id, cv_u8, cv_i64, Nat.zero_add, wrap_u8, eq_el, ne_el, build_el, Int.toNat_zero, build_dg0, him, hjm]
         refine hK _ _ ?_
         clear hK K
         refine den_seq ?_
         have hmul := mul25 hdYk hdXm
         have htm2 := tm2 (Y.deg (jQ X Y k) * X.deg (iQ X Y m))
         refine den_draw TTok mixed [] [(0, true), (1, true), (2, true), (3, true), (4, true), (5, true), (6, true), (7, true), (8, true), (9, true), (10, true), (11, true), (12, true)] (by kernel_rfl) ?_
         intro K hK
         simp -implicitDefEqProofs (disch := first | decide | assumption | omega) only [go_sem, Int.toNat_zero, fa34_2, ia22, ld2, BoxAt.dgL hb0_0, BoxAt.dgP hb0_0, BoxAt.dgS hb0_0, BoxAt.dgDeg hb0_0, BoxAt.dgLev hb0_0, BoxAt.dgDeg0 hb0_0, BoxAt.dgLev0 hb0_0, BoxAt.dgDifL hb0_0, BoxAt.dgTabL hb0_0, BoxAt.dgTabL0 hb0_0, BoxAt.dgTabL1 hb0_0, BoxAt.dgTabL1' hb0_0, BoxAt.dgDifB hb0_0, BoxAt.dgTabB hb0_0, BoxAt.dgL hb0_1, BoxAt.dgP hb0_1, BoxAt.dgS hb0_1, BoxAt.dgDeg hb0_1, BoxAt.dgLev hb0_1, BoxAt.dgDeg0 hb0_1, BoxAt.dgLev0 hb0_1, BoxAt.dgDifL hb0_1, BoxAt.dgTabL hb0_1, BoxAt.dgTabL0 hb0_1, BoxAt.dgTabL1 hb0_1, BoxAt.dgTabL1' hb0_1, BoxAt.dgDifB hb0_1, BoxAt.dgTabB hb0_1, wrap_id, cv_u8, cv_i64, Nat.zero_add, wrap_u8, eq_el, ne_el, build_el, Int.toNat_zero, build_dg0]
         refine hK _ _ ?_
         clear hK K
         refine den_draw TTok mixed [21] [(0, true), (1, true), (2, true), (3, true), (4, true), (5, true), (6, true), (7, true), (8, true), (9, true), (10, true), (11, true), (12, true), (13, true), (14, true), (15, true), (16, true), (18, true), (19, true), (17, false), (20, true), (21, false)] (by kernel_rfl) ?_
         intro K hK
         simp -implicitDefEqProofs (disch := first | decide | assumption | omega) only [go_sem, Int.toNat_zero, fa34_5, ia32, ia31, RdS.len (OS.rd how7_4_0) sl55, RdS.idx (OS.rd how7_4_0) sl55, R1.intN (OS.rd how7_4_0), RdS.cells (OS.rd how7_4_0), BoxAt.dgL hb0_0, BoxAt.dgP hb0_0, BoxAt.dgS hb0_0, BoxAt.dgDeg hb0_0, BoxAt.dgLev hb0_0, BoxAt.dgDeg0 hb0_0, BoxAt.dgLev0 hb0_0, BoxAt.dgDifL hb0_0, BoxAt.dgTabL hb0_0, BoxAt.dgTabL0 hb0_0, BoxAt.dgTabL1 hb0_0, BoxAt.dgTabL1' hb0_0, BoxAt.dgDifB hb0_0, BoxAt.dgTabB hb0_0, BoxAt.dgL hb0_1, BoxAt.dgP hb0_1, BoxAt.dgS hb0_1, BoxAt.dgDeg hb0_1, BoxAt.dgLev hb0_1, BoxAt.dgDeg0 hb0_1, BoxAt.dgLev0 hb0_1, BoxAt.dgDifL hb0_1, BoxAt.dgTabL hb0_1, BoxAt.dgTabL0 hb0_1, BoxAt.dgTabL1 hb0_1, BoxAt.dgTabL1' hb0_1, BoxAt.dgDifB hb0_1, BoxAt.dgTabB hb0_1, BoxAt.dgL hbx8, BoxAt.dgP hbx8, BoxAt.dgS hbx8, BoxAt.dgDeg hbx8, BoxAt.dgLev hbx8, BoxAt.dgDeg0 hbx8, BoxAt.dgLev0 hbx8, BoxAt.dgDifL hbx8, BoxAt.dgTabL hbx8, BoxAt.dgTabL0 hbx8, BoxAt.dgTabL1 hbx8, BoxAt.dgTabL1' hbx8, BoxAt.dgDifB hbx8, BoxAt.dgTabB hbx8, wrap_id, cv_u8, cv_i64, Nat.zero_add, wrap_u8, eq_el, ne_el, build_el, Int.toNat_zero, build_dg0]
         try simp -implicitDefEqProofs (disch := first | decide | assumption | omega) only [go_sem, BoxAt.dgL hb0_2, BoxAt.dgP hb0_2, BoxAt.dgS hb0_2, BoxAt.dgDeg hb0_2, BoxAt.dgLev hb0_2, BoxAt.dgDeg0 hb0_2, BoxAt.dgLev0 hb0_2, BoxAt.dgDifL hb0_2, BoxAt.dgTabL hb0_2, BoxAt.dgTabL0 hb0_2, BoxAt.dgTabL1 hb0_2, BoxAt.dgTabL1' hb0_2, BoxAt.dgDifB hb0_2, BoxAt.dgTabB hb0_2, wrap_id, cv_u8, cv_i64, Nat.zero_add, wrap_u8, eq_el, ne_el, build_el, Int.toNat_zero, build_dg0]
         refine CallA.mono (sPj_ok _ X.p (EQ X Y) ((X.tab (iQ X Y k)) (iQ X Y m)) ((Y.tab (jQ X Y k)) (jQ X Y m)) ((1 : Int) - ((2 : Int) * (Int.tmod ((Y.deg (jQ X Y k)) * (X.deg (iQ X Y m))) (2 : Int)))) _ (OS.rd how7_4_0) hpG (hBtX _ _) (hBtY _ _) (by omega) hEl8 hEb8) ?_
         intro v_ h24_17
         rintro ⟨rfl, e24_17⟩
         replace how7_4_0 := OS.ext how7_4_0 e24_17
         replace hb0_0 := BoxAt.ext hb0_0 e24_17
         replace hb0_1 := BoxAt.ext hb0_1 e24_17
         replace hb0_2 := BoxAt.ext hb0_2 e24_17
         replace hbx8 := BoxAt.ext hbx8 e24_17
         have := Ext.size e24_17
         replace eB := Ext.trans eB e24_17
         replace cL6 := Chg.stepE cL6 e24_17
         replace cL14 := Chg.stepE cL14 e24_17
         try simp (disch := decide) only [outv_some, outv_none, put_puts]
         refine plK_pres (Ext.pres e24_17) ?_
         try simp -implicitDefEqProofs (disch := first | decide | assumption | omega) only [go_sem, Int.toNat_zero, ia31, BoxAt.dgL hbx8, BoxAt.dgP hbx8, BoxAt.dgS hbx8, BoxAt.dgDeg hbx8, BoxAt.dgLev hbx8, BoxAt.dgDeg0 hbx8, BoxAt.dgLev0 hbx8, BoxAt.dgDifL hbx8, BoxAt.dgTabL hbx8, BoxAt.dgTabL0 hbx8, BoxAt.dgTabL1 hbx8, BoxAt.dgTabL1' hbx8, BoxAt.dgDifB hbx8, BoxAt.dgTabB hbx8, wrap_id, cv_u8, cv_i64, Nat.zero_add, wrap_u8, eq_el, ne_el, build_el, Int.toNat_zero, build_dg0]
         generalize hEA24_21 : elA (pjN X.p (EQ X Y) ((1 : Int) - ((2 : Int) * (Int.tmod ((Y.deg (jQ X Y k)) * (X.deg (iQ X Y m))) (2 : Int)))) ((X.tab (iQ X Y k)) (iQ X Y m)) ((Y.tab (jQ X Y k)) (jQ X Y m)) (EQ X Y).length) = EA24_21
         refine op_storeB (o := 82 + k * 64 + m * 8) (vs := EA24_21) (cs' := dgA ({ tnC X Y k m with tab := (updF ((tnC X Y k m).tab) k (updF ((tnC X Y k m).tab k) m (pjN X.p (EQ X Y) ((1 : Int) - ((2 : Int) * (Int.tmod ((Y.deg (jQ X Y k)) * (X.deg (iQ X Y m))) (2 : Int)))) ((X.tab (iQ X Y k)) (iQ X Y m)) ((Y.tab (jQ X Y k)) (jQ X Y m)) (EQ X Y).length))) })) st30 hbx8 rfl rfl (by rw [← hEA24_21]; exact elA_sz _) (by rw [dgA_sz]; omega) (by rw [← hEA24_21]; exact elA_one) (by rw [← hEA24_21]; exact dg_tabI (X := tnC X Y k m) (by omega) (by omega)) ?_
         intro h24_21 hbx8 c24_21
         subst hEA24_21
         obtain ⟨DS24_21, hDS24_21⟩ : ∃ D : Dg, D = ({ tnC X Y k m with tab := (updF ((tnC X Y k m).tab) k (updF ((tnC X Y k m).tab k) m (pjN X.p (EQ X Y) ((1 : Int) - ((2 : Int) * (Int.tmod ((Y.deg (jQ X Y k)) * (X.deg (iQ X Y m))) (2 : Int)))) ((X.tab (iQ X Y k)) (iQ X Y m)) ((Y.tab (jQ X Y k)) (jQ X Y m)) (EQ X Y).length))) }) := ⟨_, rfl⟩
         rw [← hDS24_21] at hbx8
         replace how7_4_0 := OS.chg how7_4_0 c24_21 (apart_lt hlhow7_4_0 hfhbx8 (by omega))
         replace hb0_0 := BoxAt.chgA hb0_0 c24_21 (apart_lt hlhb0_0 hfhbx8 (by omega))
         replace hb0_1 := BoxAt.chgA hb0_1 c24_21 (apart_lt hlhb0_1 hfhbx8 (by omega))
         replace hb0_2 := BoxAt.chgA hb0_2 c24_21 (apart_lt hlhb0_2 hfhbx8 (by omega))
         have := c24_21.size
         replace eB := Ext.then eB c24_21 (ge_of hfhbx8 (by omega))
         replace cL6 := Chg.step cL6 c24_21 Sub.refl
         replace cL14 := Chg.step cL14 c24_21 Sub.refl
         try simp (disch := decide) only [outv_some, outv_none, put_puts]
         refine plK_last (by decide) ?_
         try simp -implicitDefEqProofs (disch := first | decide | assumption | omega) only [go_sem, BoxAt.dgL hb0_2, BoxAt.dgP hb0_2, BoxAt.dgS hb0_2, BoxAt.dgDeg hb0_2, BoxAt.dgLev hb0_2, BoxAt.dgDeg0 hb0_2, BoxAt.dgLev0 hb0_2, BoxAt.dgDifL hb0_2, BoxAt.dgTabL hb0_2, BoxAt.dgTabL0 hb0_2, BoxAt.dgTabL1 hb0_2, BoxAt.dgTabL1' hb0_2, BoxAt.dgDifB hb0_2, BoxAt.dgTabB hb0_2, wrap_id, cv_u8, cv_i64, Nat.zero_add, wrap_u8, eq_el, ne_el, build_el, Int.toNat_zero, build_dg0]
         refine hK _ _ ?_
         clear hK K
         refine den_blk ?_
         refine den_region TTok ?_
         intro K hK
         simp -implicitDefEqProofs (disch := first | decide | assumption | omega) only [go_sem, wrap_id, cv_u8, cv_i64, Nat.zero_add, wrap_u8, eq_el, ne_el, build_el, Int.toNat_zero, build_dg0]
         refine hK _ _ ?_
         clear hK K
         refine den_stop ?_
         have hQ1 : DS24_21 = tnC X Y k (m + 1) := by rw [hDS24_21]; exact tnC_step X Y k m
         rw [hQ1] at hbx8
         exact ⟨m + 1, by simp [HasL, puts_at], ⟨by first | omega | (dsimp only; omega), hbx8, cL14⟩, by first | omega | (dsimp only; omega)⟩
        ·try simp only [decide_eq_true_eq, decide_eq_false_iff_not, beq_iff_eq, beq_eq_false_iff_ne, bne_iff_ne, ne_eq, Bool.not_eq_true', Bool.not_eq_false', Bool.and_eq_true, Bool.or_eq_true, bne_eq_false_iff_eq, Bool.not_eq_true, Bool.not_eq_false] at c5
         refine den_exit ?_
         refine denX_code ?_
         refine denX_stop ?_
         refine denX_hit ?_
         refine den_blk ?_
         refine den_region TTok ?_
         intro K hK
         simp -implicitDefEqProofs (disch := first | decide | assumption | omega) only [go_sem, wrap_id, cv_u8, cv_i64, Nat.zero_add, wrap_u8, eq_el, ne_el, build_el, Int.toNat_zero, build_dg0]
         refine hK _ _ ?_
         clear hK K
         refine den_stop ?_
         rw [show m = (EQ X Y).length by omega, tnC_end] at hbx8
         exact ⟨k + 1, by simp [HasL, puts_at], ⟨by first | omega | (dsimp only; omega), fun q hq => by
 by_cases hqk : q < k
 ·exact hft q hqk
 ·rw [show q = k by omega]; exact hfk, hbx8, cL6⟩, by first | omega | (dsimp only; omega)⟩
     ·try simp only [decide_eq_true_eq, decide_eq_false_iff_not, beq_iff_eq, beq_eq_false_iff_ne, bne_iff_ne, ne_eq, Bool.not_eq_true', Bool.not_eq_false', Bool.and_eq_true, Bool.or_eq_true, bne_eq_false_iff_eq, Bool.not_eq_true, Bool.not_eq_false] at c3
      refine den_exit ?_
      refine denX_code ?_
      refine denX_stop ?_
      refine denX_hit ?_
      refine den_seq ?_
      obtain ⟨D2, hD2⟩ : ∃ D2, D2 = tnR X Y k := ⟨_, rfl⟩
      rw [← hD2] at hbx8
      refine den_region TTok ?_
      intro K hK
      simp -implicitDefEqProofs (disch := first | decide | assumption | omega) only [go_sem, BoxAt.dgL hbx8, BoxAt.dgP hbx8, BoxAt.dgS hbx8, BoxAt.dgDeg hbx8, BoxAt.dgLev hbx8, BoxAt.dgDeg0 hbx8, BoxAt.dgLev0 hbx8, BoxAt.dgDifL hbx8, BoxAt.dgTabL hbx8, BoxAt.dgTabL0 hbx8, BoxAt.dgTabL1 hbx8, BoxAt.dgTabL1' hbx8, BoxAt.dgDifB hbx8, BoxAt.dgTabB hbx8, wrap_id, cv_u8, cv_i64, Nat.zero_add, wrap_u8, eq_el, ne_el, build_el, Int.toNat_zero, build_dg0]
      generalize hDA25_1 : dgA D2 = DA25_1
      refine op_storeB (o := 0) (vs := DA25_1) (cs' := DA25_1) st34 hb0_2 rfl rfl (by rw [← hDA25_1]; exact dgA_sz _) (by rw [dgA_sz]; decide) (by rw [← hDA25_1]; exact dgA_one) (by rw [← hDA25_1]; exact dgA_all) ?_
      intro h25_1 hb0_2 c25_1
      subst hDA25_1
      replace hbx8 := BoxAt.chgA hbx8 c25_1 (apart_gt hfhbx8 hlhb0_2 (by omega))
      have := c25_1.size
      replace eB := Ext.then eB c25_1 (ge_of hfhb0_2 (by omega))
      try simp -implicitDefEqProofs (disch := first | decide | assumption | omega) only [go_sem, wrap_id, cv_u8, cv_i64, Nat.zero_add, wrap_u8, eq_el, ne_el, build_el, Int.toNat_zero, build_dg0]
      refine hK _ _ ?_
      clear hK K
      refine den_ret ?_
      simp -implicitDefEqProofs (disch := first | decide | assumption | omega) only [go_sem, BoxAt.dgL hb0_2, BoxAt.dgP hb0_2, BoxAt.dgS hb0_2, BoxAt.dgDeg hb0_2, BoxAt.dgLev hb0_2, BoxAt.dgDeg0 hb0_2, BoxAt.dgLev0 hb0_2, BoxAt.dgDifL hb0_2, BoxAt.dgTabL hb0_2, BoxAt.dgTabL0 hb0_2, BoxAt.dgTabL1 hb0_2, BoxAt.dgTabL1' hb0_2, BoxAt.dgDifB hb0_2, BoxAt.dgTabB hb0_2, wrap_id, cv_u8, cv_i64, Nat.zero_add, wrap_u8, eq_el, ne_el, build_el, Int.toNat_zero, build_dg0, resP_ct, ld34]
      rw [tnP_0 hbb hpp (by omega) (fun q hq => hft q (by omega)), show (EQ X Y).length = k by omega, ← hD2]
      exact ⟨by first | rfl | trivial, eB⟩
end Go.Proofs.Ytacajcjibhifmaa

namespace Go.Proofs.Ytacajcjibhifmaa
open Go
/-- How far the sort has come. -/
def isS (f : Int × Int → Int) (L : List (Int × Int)) (i : Nat) : List (Int × Int) := bkf f (L.take i) 0 11 ++ L.drop i
theorem isS_1 {f : Int × Int → Int} {L : List (Int × Int)} (hf : ∀ q ∈ L, 0 ≤ f q ∧ f q < 11) (h : 0 < L.length) : isS f L 1 = L := by
 match L, h, hf with
 | x :: r, _, hf =>
  have hx := hf x (by simp)
  have e : 11 = ((f x).toNat + 1) + (10 - (f x).toNat) := by omega
  rw [isS, show (x :: r).take 1 = [] ++ [x] from rfl, e, bkf_add, bkf_in (by omega), bkf_out (.inl (by omega)), bkf_nil, bkf_nil]
  rfl
theorem isS_end {f : Int × Int → Int} {L : List (Int × Int)} {i : Nat} (h : L.length ≤ i) : isS f L i = bkf f L 0 11 := by
 rw [isS, List.take_of_length_le h, List.drop_eq_nil_of_le h, List.append_nil]
theorem tk_len {f : Int × Int → Int} {L : List (Int × Int)} {i : Nat} (hf : ∀ q ∈ L, 0 ≤ f q ∧ f q < 11) (h : i ≤ L.length) : (bkf f (L.take i) 0 11).length = i := by
 rw [bkf_len (fun q hq => hf q (List.mem_of_mem_take hq)), List.length_take]; omega
def xS (L : List (Int × Int)) (i : Nat) : Int × Int := L.getD i (0, 0)
theorem xS_mem {L : List (Int × Int)} {i : Nat} (h : i < L.length) : xS L i ∈ L := by
 rw [xS, List.getD_eq_getElem?_getD, List.getElem?_eq_getElem h]; exact List.getElem_mem h
/-- The element i on its way, now at place j. -/
def inS (f : Int × Int → Int) (L : List (Int × Int)) (i j : Nat) : List (Int × Int) := stI (bkf f (L.take i) 0 11) (xS L i) (L.drop (i + 1)) j
theorem inS_0 {f : Int × Int → Int} {L : List (Int × Int)} {i : Nat} (hf : ∀ q ∈ L, 0 ≤ f q ∧ f q < 11) (h : i < L.length) : isS f L i = inS f L i i := by
 have := stI_full (bkf f (L.take i) 0 11) (xS L i) (L.drop (i + 1))
 rw [tk_len hf (by omega)] at this
 rw [inS, this, isS, List.drop_eq_getElem_cons h, xS, List.getD_eq_getElem?_getD, List.getElem?_eq_getElem h]; rfl
theorem inS_len {f : Int × Int → Int} {L : List (Int × Int)} {i j : Nat} (hf : ∀ q ∈ L, 0 ≤ f q ∧ f q < 11) (h : i < L.length) : (inS f L i j).length = L.length := by
 rw [inS, stI_len, tk_len hf (by omega), List.length_drop]; omega
theorem inS_x {f : Int × Int → Int} {L : List (Int × Int)} {i j : Nat} (hf : ∀ q ∈ L, 0 ≤ f q ∧ f q < 11) (h : i < L.length) (hj : j ≤ i) : (inS f L i j).getD j (0, 0) = xS L i := stI_x (by rw [tk_len hf (by omega)]; exact hj)
def pS (f : Int × Int → Int) (L : List (Int × Int)) (i j : Nat) : Int × Int := (bkf f (L.take i) 0 11).getD (j - 1) (0, 0)
theorem inS_p {f : Int × Int → Int} {L : List (Int × Int)} {i j : Nat} (hf : ∀ q ∈ L, 0 ≤ f q ∧ f q < 11) (h : i < L.length) (hj : j ≤ i) (h0 : 0 < j) : (inS f L i j).getD (j - 1) (0, 0) = pS f L i j := stI_p (by rw [tk_len hf (by omega)]; exact hj) h0
theorem pS_mem {f : Int × Int → Int} {L : List (Int × Int)} {i j : Nat} (hf : ∀ q ∈ L, 0 ≤ f q ∧ f q < 11) (h : i < L.length) (hj : j ≤ i) (h0 : 0 < j) : pS f L i j ∈ L := by
 have hl := tk_len hf (i := i) (by omega)
 have h1 : j - 1 < (bkf f (L.take i) 0 11).length := by omega
 have hm : (bkf f (L.take i) 0 11)[j - 1] ∈ bkf f (L.take i) 0 11 := List.getElem_mem h1
 rw [pS, List.getD_eq_getElem?_getD, List.getElem?_eq_getElem h1]
 exact List.mem_of_mem_take (bkf_mem.1 hm).1
theorem inS_step {f : Int × Int → Int} {L : List (Int × Int)} {i j : Nat} (hf : ∀ q ∈ L, 0 ≤ f q ∧ f q < 11) (h : i < L.length) (hj : j ≤ i) (h0 : 0 < j) : ((inS f L i j).set j (pS f L i j)).set (j - 1) (xS L i) = inS f L i (j - 1) := stI_swap (by rw [tk_len hf (by omega)]; exact hj) h0
theorem inS_stepI {f : Int × Int → Int} {L : List (Int × Int)} {i j : Nat} (hf : ∀ q ∈ L, 0 ≤ f q ∧ f q < 11) (h : i < L.length) (hj : j ≤ i) (h0 : 0 < j) : ((inS f L i j).set j (pS f L i j)).set ((j : Int) - 1).toNat (xS L i) = inS f L i (j - 1) := by
 rw [show ((j : Int) - 1).toNat = j - 1 by omega]; exact inS_step hf h hj h0
theorem inS_pI {f : Int × Int → Int} {L : List (Int × Int)} {i j : Nat} (hf : ∀ q ∈ L, 0 ≤ f q ∧ f q < 11) (h : i < L.length) (hj : j ≤ i) (h0 : 0 < j) : (inS f L i j).getD ((j : Int) - 1).toNat (0, 0) = pS f L i j := by
 rw [show ((j : Int) - 1).toNat = j - 1 by omega]; exact inS_p hf h hj h0
/-- Where it stops. -/
def uS (f : Int × Int → Int) (L : List (Int × Int)) (i : Nat) : Nat := (bkf f (L.take i) 0 ((f (xS L i)).toNat + 1)).length
theorem uS_le {f : Int × Int → Int} {L : List (Int × Int)} {i : Nat} (hf : ∀ q ∈ L, 0 ≤ f q ∧ f q < 11) (h : i < L.length) : uS f L i ≤ i := by
 have := stI_u (f := f) (P := L.take i) (hf _ (xS_mem h))
 rw [tk_len hf (by omega)] at this; exact this
theorem uS_gt {f : Int × Int → Int} {L : List (Int × Int)} {i j : Nat} (hf : ∀ q ∈ L, 0 ≤ f q ∧ f q < 11) (h : i < L.length) (hj : j ≤ i) (h0 : 0 < j) : f (xS L i) < f (pS f L i j) ↔ uS f L i ≤ j - 1 := stI_gt (hf _ (xS_mem h)) (by rw [tk_len hf (by omega)]; omega)
theorem uS_stop {f : Int × Int → Int} {L : List (Int × Int)} {i j : Nat} (hf : ∀ q ∈ L, 0 ≤ f q ∧ f q < 11) (h : i < L.length) (hj : j ≤ i) (hu : uS f L i ≤ j) (c : ¬ ((0 : Int) < (j : Int) ∧ f (xS L i) - f (pS f L i j) < 0)) : j = uS f L i := by
 by_cases h0 : 0 < j
 ·have h2 := uS_gt hf h hj h0
  have h3 : ¬ (f (xS L i) - f (pS f L i j) < 0) := fun hh => c ⟨by omega, hh⟩
  omega
 ·omega
theorem inS_end {f : Int × Int → Int} {L : List (Int × Int)} {i : Nat} (hf : ∀ q ∈ L, 0 ≤ f q ∧ f q < 11) (h : i < L.length) : inS f L i (uS f L i) = isS f L (i + 1) := by
 rw [inS, uS, stI_end (hf _ (xS_mem h)), isS, List.take_succ_eq_append_getElem h, xS, List.getD_eq_getElem?_getD, List.getElem?_eq_getElem h]; rfl

set_option maxRecDepth 100000 in
theorem ins_ok (vL : Value) (L : List (Int × Int)) (fp : List Nat) (h : Heap) (g : FuncId) (cs : Array Value) (f : Int × Int → Int) (hf : ∀ q ∈ L, 0 ≤ f q ∧ f q < 11) (hc : ∀ x ∈ L, ∀ y ∈ L, ∀ h', Chg fp h h' → CallA Try.prog g (#[.agg #[.int .i64 x.1, .int .i64 x.2], .agg #[.int .i64 y.1, .int .i64 y.2]] ++ cs) h' fun u h'' => u = .int .i64 (f x - f y) ∧ Ext h' h'') (hL : OQ h vL L fp) (hfr : Fresh 0 fp) (hn0 : 1 ≤ L.length) (hn : L.length ≤ 8) : CallA Try.prog 108 #[vL, .int .i64 0, .int .i64 (L.length : Int), .func (.func g) #[] cs] h fun u h' => u = .tuple #[] ∧ OQ h' vL (bkf f L 0 11) fp ∧ Chg fp h h' := by
 refine callA_intro TTok (args := [_, _, _, _]) Try.func108 (by kernel_rfl) rfl 53 rfl (by simp) [] rfl ?_
 simp only [idxs, Nat.reduceAdd]
 have hlhL := OQ.lt hL
 have cA : Chg fp h h := Chg.refl _ _
 refine den_seq ?_
 refine den_region TTok ?_
 intro K hK
 simp -implicitDefEqProofs (disch := first | decide | assumption | omega) only [go_sem, wrap_id]
 refine hK _ _ ?_
 clear hK K
 refine den_block ?_
 refine den_sel [8, 0, 1, 2, 3] ?_
 intro env_1
 simp only [go_sem]
 refine den_loopS (σ := Nat) (fun st_ => [(8, .int .i64 (st_ : Int))]) (fun st_ H => (1 ≤ st_) ∧ (st_ ≤ L.length) ∧ (OQ H vL (isS f L st_) fp) ∧ (Chg fp h H)) (fun st_ => L.length - st_) 1 ?_ ?_
 ·exact ⟨by omega, by omega, by rw [isS_1 hf (by omega)]; exact hL, Chg.refl _ _⟩
 ·rintro i h4 ee3 ⟨hi0, hi1, hS, cL2⟩
  have := cL2.size
  replace cA := Chg.step cA cL2 Sub.refl
  have sbhS : Sub fp h.size fp := Sub.refl
  have hfhS := hfr
  have sb5 : Sub fp h.size fp := Sub.trans sbhS Sub.refl (by omega)
  have hlhS := hlhL
  simp only [List.cons_append, List.nil_append]
  refine den_seq ?_
  refine den_seq ?_
  refine den_region TTok ?_
  intro K hK
  simp -implicitDefEqProofs (disch := first | decide | assumption | omega) only [go_sem, wrap_id]
  refine hK _ _ ?_
  clear hK K
  refine den_cond rfl (fun c0 => ?_) (fun c0 => ?_)
  ·try simp only [decide_eq_true_eq, decide_eq_false_iff_not, beq_iff_eq, beq_eq_false_iff_ne, bne_iff_ne, ne_eq, Bool.not_eq_true', Bool.not_eq_false', Bool.and_eq_true, Bool.or_eq_true, bne_eq_false_iff_eq] at c0
   refine den_skip ?_
   refine den_seq ?_
   refine den_block ?_
   refine den_seq ?_
   refine den_region TTok ?_
   intro K hK
   simp -implicitDefEqProofs (disch := first | decide | assumption | omega) only [go_sem, wrap_id]
   refine hK _ _ ?_
   clear hK K
   refine den_block ?_
   refine den_sel [9, 0, 1, 2, 3, 8] ?_
   intro env_6
   simp only [go_sem]
   refine den_loopS (σ := Nat) (fun st_ => [(9, .int .i64 (st_ : Int))]) (fun st_ H => (st_ ≤ i) ∧ (uS f L i ≤ st_) ∧ (OQ H vL (inS f L i st_) fp) ∧ (Chg fp h4 H)) (fun st_ => st_) i ?_ ?_
   ·exact ⟨by omega, uS_le hf (by omega), by rw [← inS_0 hf (by omega)]; exact hS, Chg.refl _ _⟩
   ·rintro j h9 ee8 ⟨hi0, hi1, hT, cL7⟩
    have := cL7.size
    replace cA := Chg.step cA cL7 sb5
    replace cL2 := Chg.step cL2 cL7 sbhS
    have sbhT : Sub fp h4.size fp := Sub.refl
    have hfhT := hfhS
    have sb10 : Sub fp h.size fp := Sub.trans sbhT sb5 (by omega)
    have sb11 : Sub fp h.size fp := Sub.trans sbhT sbhS (by omega)
    have hlhT := hlhS
    simp only [List.cons_append, List.nil_append]
    refine den_seq ?_
    refine den_seq ?_
    have hsl := inS_len (i := i) (j := j) hf (by omega)
    have hsx := inS_x (i := i) (j := j) hf (by omega) (by omega)
    have hsp : 0 < j → (inS f L i j).getD ((j : Int) - 1).toNat (0, 0) = pS f L i j := fun h0 => inS_pI hf (by omega) (by omega) h0
    refine den_merge [(34, .bool (((decide ((0 : Int) < (j : Int))) && (decide ((f (xS L i) - f (pS f L i j)) < (0 : Int))))))] [0, 1, 2, 3, 8, 9] (fun H => Ext h9 H) ?_ ?_
     -- a way
    ·refine den_draw TTok mixed [] [(0, true), (1, true), (2, true), (3, true), (4, true), (5, true), (6, true), (7, true), (8, true), (9, true), (10, true), (11, true), (12, true), (13, true), (14, false), (15, true), (16, true)] (by kernel_rfl) ?_
     intro K hK
     simp -implicitDefEqProofs (disch := first | decide | assumption | (simp (disch := decide) only [slotOf_zero, slotOf_succ, Option.map_some, puts_same, puts_ne, gv_bool, gv_undef, tt, tf, ft, ff, eq_self, if_true, if_false, Bool.false_eq_true, Bool.not_true, Bool.not_false]; done) | omega) only [go_sem, wrap_id, hsx, hsp]
     refine plG_T (by simp (disch := decide) only [slotOf_zero, slotOf_succ, Option.map_some, puts_same, puts_ne, gv_bool, gv_undef, tt, tf, ft, ff, eq_self, if_true, if_false, Bool.false_eq_true, Bool.not_true, Bool.not_false]; rfl) (fun g12 => ?_) (fun g12 => ?_)
     ·have hj0 : 0 < j := by simpa using g12
      try simp -implicitDefEqProofs (disch := first | decide | assumption | (simp (disch := decide) only [slotOf_zero, slotOf_succ, Option.map_some, puts_same, puts_ne, gv_bool, gv_undef, tt, tf, ft, ff, eq_self, if_true, if_false, Bool.false_eq_true, Bool.not_true, Bool.not_false, g12]; done) | omega) only [go_sem, ld98, OQ.len hT, OQ.idx hT, OQ.ld hT, wrap_id, g12, eq_self, if_true, if_false, Bool.false_eq_true, hsx, hsp]
      try simp -implicitDefEqProofs (disch := first | decide | assumption | omega) only [go_sem, wrap_id, hsx, hsp]
      refine CallA.mono (hc (xS L i) (xS_mem (by omega)) (pS f L i j) (pS_mem hf (by omega) (by omega) (by omega)) _ cA) ?_
      intro v_ h4_14
      rintro ⟨rfl, e4_14⟩
      replace hT := OQ.ext hT e4_14
      have := Ext.size e4_14
      replace cA := Chg.stepE cA e4_14
      replace cL2 := Chg.stepE cL2 e4_14
      replace cL7 := Chg.stepE cL7 e4_14
      try simp (disch := decide) only [outv_some, outv_none, put_puts]
      refine plK_pres (Ext.pres e4_14) ?_
      try simp -implicitDefEqProofs (disch := first | decide | assumption | (simp (disch := decide) only [slotOf_zero, slotOf_succ, Option.map_some, puts_same, puts_ne, gv_bool, gv_undef, tt, tf, ft, ff, eq_self, if_true, if_false, Bool.false_eq_true, Bool.not_true, Bool.not_false, g12]; done) | omega) only [go_sem, wrap_id, g12, eq_self, if_true, if_false, Bool.false_eq_true, hsx, hsp]
      refine hK _ _ ?_
      clear hK K
      refine den_stop ?_
      refine ⟨?_, e4_14⟩
      first | (simp (disch := decide) only [go_sem, g12, eq_self, Bool.true_and, Bool.and_true, Bool.false_and, Bool.and_false, Bool.true_or, Bool.or_true, Bool.false_or, Bool.or_false, if_true, if_false, Bool.false_eq_true]; done) | simp [HasL, sel, puts_at, g12]
     ·try simp -implicitDefEqProofs (disch := first | decide | assumption | (simp (disch := decide) only [slotOf_zero, slotOf_succ, Option.map_some, puts_same, puts_ne, gv_bool, gv_undef, tt, tf, ft, ff, eq_self, if_true, if_false, Bool.false_eq_true, Bool.not_true, Bool.not_false, g12]; done) | omega) only [go_sem, wrap_id, g12, eq_self, if_true, if_false, Bool.false_eq_true, hsx, hsp]
      refine hK _ _ ?_
      clear hK K
      refine den_stop ?_
      refine ⟨?_, Ext.refl _⟩
      first | (simp (disch := decide) only [go_sem, g12, eq_self, Bool.true_and, Bool.and_true, Bool.false_and, Bool.and_false, Bool.true_or, Bool.or_true, Bool.false_or, Bool.or_false, if_true, if_false, Bool.false_eq_true]; done) | simp [HasL, sel, puts_at, g12]
    intro en13 h14 e15
    replace hT := OQ.ext hT e15
    have := Ext.size e15
    replace cA := Chg.stepE cA e15
    replace cL2 := Chg.stepE cL2 e15
    replace cL7 := Chg.stepE cL7 e15
    simp (disch := decide) only [go_sem]
    refine den_cond rfl (fun c1 => ?_) (fun c1 => ?_)
    ·try simp only [decide_eq_true_eq, decide_eq_false_iff_not, beq_iff_eq, beq_eq_false_iff_ne, bne_iff_ne, ne_eq, Bool.not_eq_true', Bool.not_eq_false', Bool.and_eq_true, Bool.or_eq_true, bne_eq_false_iff_eq] at c1
     refine den_skip ?_
     refine den_seq ?_
     refine den_block ?_
     have hj0 : 0 < j := by have h1 := c1; simp at h1; omega
     refine den_draw TTok mixed [15, 17] [(0, true), (1, true), (2, true), (3, true), (4, true), (5, true), (6, true), (7, true), (8, true), (9, true), (10, true), (11, true), (12, true), (13, true), (14, true), (15, false), (16, true), (17, false)] (by kernel_rfl) ?_
     intro K hK
     simp -implicitDefEqProofs (disch := first | decide | assumption | omega) only [go_sem, ld98, OQ.len hT, OQ.idx hT, OQ.ld hT, wrap_id, hsx, hsp]
     refine op_storeQ (j := j) (q := pS f L i j) hT (by first | omega | (simp; omega)) rfl rfl ?_
     intro h6_15 ho6_15 c6_15
     have hsz6_15 := c6_15.size
     have := c6_15.size
     replace cA := Chg.step cA c6_15 sb10
     replace cL2 := Chg.step cL2 c6_15 sb11
     replace cL7 := Chg.step cL7 c6_15 sbhT
     have hlho6_15 := hlhT
     have hlenho6_15 : ((inS f L i j).set j (pS f L i j)).length = (inS f L i j).length := List.length_set
     try simp (disch := decide) only [outv_some, outv_none, put_puts]
     refine plK_last (by decide) ?_
     try simp -implicitDefEqProofs (disch := first | decide | assumption | omega) only [go_sem, OQ.len ho6_15, OQ.idx ho6_15, OQ.ld ho6_15, wrap_id, hsx, hsp]
     refine op_storeQ (j := (((j : Int) - (1 : Int))).toNat) (q := xS L i) ho6_15 (by first | omega | (simp; omega)) rfl rfl ?_
     intro h6_17 ho6_17 c6_17
     have hsz6_17 := c6_17.size
     have := c6_17.size
     replace cA := Chg.step cA c6_17 sb10
     replace cL2 := Chg.step cL2 c6_17 sb11
     replace cL7 := Chg.step cL7 c6_17 sbhT
     have hlho6_17 := hlho6_15
     have hlenho6_17 : (((inS f L i j).set j (pS f L i j)).set ((((j : Int) - (1 : Int))).toNat) (xS L i)).length = ((inS f L i j).set j (pS f L i j)).length := List.length_set
     try simp (disch := decide) only [outv_some, outv_none, put_puts]
     refine plK_last (by decide) ?_
     try simp -implicitDefEqProofs (disch := first | decide | assumption | omega) only [go_sem, wrap_id, hsx, hsp]
     refine hK _ _ ?_
     clear hK K
     refine den_blk ?_
     refine den_region TTok ?_
     intro K hK
     simp -implicitDefEqProofs (disch := first | decide | assumption | omega) only [go_sem, wrap_id]
     refine hK _ _ ?_
     clear hK K
     refine den_stop ?_
     rw [inS_stepI hf (by omega) (by omega) (by omega)] at ho6_17
     exact ⟨j - 1, by simp [HasL, puts_at, show ((j - 1 : Nat) : Int) = (j : Int) - 1 by omega], ⟨by first | omega | (dsimp only; omega), by have h1 := c1; simp at h1; have h2 := (uS_gt (j := j) hf (show i < L.length by omega) (by omega) (by omega)).1 (by omega); first | omega | (dsimp only; omega), ho6_17, cL7⟩, by first | omega | (dsimp only; omega)⟩
    ·try simp only [decide_eq_true_eq, decide_eq_false_iff_not, beq_iff_eq, beq_eq_false_iff_ne, bne_iff_ne, ne_eq, Bool.not_eq_true', Bool.not_eq_false', Bool.and_eq_true, Bool.or_eq_true, bne_eq_false_iff_eq] at c1
     refine den_exit ?_
     refine denX_code ?_
     refine denX_stop ?_
     refine denX_hit ?_
     refine den_blk ?_
     refine den_region TTok ?_
     intro K hK
     simp -implicitDefEqProofs (disch := first | decide | assumption | omega) only [go_sem, wrap_id]
     refine hK _ _ ?_
     clear hK K
     refine den_stop ?_
     rw [uS_stop (j := j) hf (show i < L.length by omega) (by omega) (by omega) (by simpa using c1), inS_end hf (by omega)] at hT
     exact ⟨i + 1, by simp [HasL, puts_at], ⟨by first | omega | (dsimp only; omega), by first | omega | (dsimp only; omega), hT, cL2⟩, by first | omega | (dsimp only; omega)⟩
  ·try simp only [decide_eq_true_eq, decide_eq_false_iff_not, beq_iff_eq, beq_eq_false_iff_ne, bne_iff_ne, ne_eq, Bool.not_eq_true', Bool.not_eq_false', Bool.and_eq_true, Bool.or_eq_true, bne_eq_false_iff_eq] at c0
   refine den_exit ?_
   refine denX_code ?_
   refine denX_stop ?_
   refine denX_hit ?_
   refine den_nil ?_
   simp (disch := decide) only [resP_0, puts_same, puts_ne]
   rw [isS_end (by omega)] at hS
   exact ⟨by first | rfl | trivial, hS, cA⟩

set_option maxRecDepth 100000 in
theorem stb_ok (vL : Value) (L : List (Int × Int)) (fp : List Nat) (h : Heap) (g : FuncId) (cs : Array Value) (f : Int × Int → Int) (hf : ∀ q ∈ L, 0 ≤ f q ∧ f q < 11) (hc : ∀ x ∈ L, ∀ y ∈ L, ∀ h', Chg fp h h' → CallA Try.prog g (#[.agg #[.int .i64 x.1, .int .i64 x.2], .agg #[.int .i64 y.1, .int .i64 y.2]] ++ cs) h' fun u h'' => u = .int .i64 (f x - f y) ∧ Ext h' h'') (hL : OQ h vL L fp) (hfr : Fresh 0 fp) (hn0 : 1 ≤ L.length) (hn : L.length ≤ 8) : CallA Try.prog 91 #[vL, .int .i64 (L.length : Int), .func (.func g) #[] cs] h fun u h' => u = .tuple #[] ∧ OQ h' vL (bkf f L 0 11) fp ∧ Chg fp h h' := by
 refine callA_intro TTok (args := [_, _, _]) Try.func91 (by kernel_rfl) rfl 63 rfl (by simp) [] rfl ?_
 simp only [idxs, Nat.reduceAdd]
 have hlhL := OQ.lt hL
 have cA : Chg fp h h := Chg.refl _ _
 refine den_seq ?_
 refine den_region TTok ?_
 intro K hK
 simp -implicitDefEqProofs (disch := first | decide | assumption | omega) only [go_sem, wrap_id]
 refine hK _ _ ?_
 clear hK K
 refine den_seq ?_
 refine den_region TTok ?_
 intro K hK
 simp -implicitDefEqProofs (disch := first | decide | assumption | omega) only [go_sem, wrap_id]
 refine hK _ _ ?_
 clear hK K
 refine den_seq ?_
 refine den_block ?_
 refine den_sel [7, 8, 0, 1, 2, 6] ?_
 intro env_1
 simp only [go_sem]
 refine den_loopP (σ := Nat) (fun st_ => [(7, .int .i64 0), (8, .int .i64 20)]) (fun st_ => (st_ = 0)) (fun st_ => 0) 0 ?_ ?_
 ·exact ⟨rfl, rfl⟩
 ·rintro z ee2 hi0
  simp only [List.cons_append, List.nil_append]
  refine den_seq ?_
  refine den_seq ?_
  refine den_region TTok ?_
  intro K hK
  simp -implicitDefEqProofs (disch := first | decide | assumption | omega) only [go_sem, wrap_id]
  refine hK _ _ ?_
  clear hK K
  refine den_cond rfl (fun c0 => ?_) (fun c0 => ?_)
  ·try simp only [decide_eq_true_eq, decide_eq_false_iff_not, beq_iff_eq, beq_eq_false_iff_ne, bne_iff_ne, ne_eq, Bool.not_eq_true', Bool.not_eq_false', Bool.and_eq_true, Bool.or_eq_true, bne_eq_false_iff_eq] at c0
   exact absurd c0 (by omega)
  ·try simp only [decide_eq_true_eq, decide_eq_false_iff_not, beq_iff_eq, beq_eq_false_iff_ne, bne_iff_ne, ne_eq, Bool.not_eq_true', Bool.not_eq_false', Bool.and_eq_true, Bool.or_eq_true, bne_eq_false_iff_eq] at c0
   refine den_exit ?_
   refine denX_code ?_
   refine denX_stop ?_
   refine denX_hit ?_
   refine den_seq ?_
   refine den_region TTok ?_
   intro K hK
   simp -implicitDefEqProofs (disch := first | decide | assumption | omega) only [go_sem, OQ.len hL, OQ.idx hL, OQ.ld hL, wrap_id]
   try simp -implicitDefEqProofs (disch := first | decide | assumption | omega) only [go_sem, wrap_id]
   refine CallA.mono (ins_ok _ L fp _ g cs f hf (fun x hx y hy h' c' => hc x hx y hy h' (cA.trans c')) hL hfr hn0 hn) ?_
   intro v_ h6_4
   rintro ⟨rfl, ho6_4, c6_4⟩
   have := c6_4.size
   replace cA := Chg.step cA c6_4 Sub.refl
   have hlho6_4 := hlhL
   try simp -implicitDefEqProofs (disch := first | decide | assumption | omega) only [go_sem, wrap_id]
   refine hK _ _ ?_
   clear hK K
   refine den_block ?_
   refine den_sel [6, 0, 1, 2] ?_
   intro env_4
   simp only [go_sem]
   refine den_loopP (σ := Nat) (fun st_ => [(6, .int .i64 20)]) (fun st_ => (st_ = 0)) (fun st_ => 0) 0 ?_ ?_
   ·exact ⟨rfl, rfl⟩
   ·rintro z ee5 hi0
    simp only [List.cons_append, List.nil_append]
    refine den_seq ?_
    refine den_seq ?_
    refine den_region TTok ?_
    intro K hK
    simp -implicitDefEqProofs (disch := first | decide | assumption | omega) only [go_sem, wrap_id]
    refine hK _ _ ?_
    clear hK K
    refine den_cond rfl (fun c1 => ?_) (fun c1 => ?_)
    ·try simp only [decide_eq_true_eq, decide_eq_false_iff_not, beq_iff_eq, beq_eq_false_iff_ne, bne_iff_ne, ne_eq, Bool.not_eq_true', Bool.not_eq_false', Bool.and_eq_true, Bool.or_eq_true, bne_eq_false_iff_eq] at c1
     exact absurd c1 (by omega)
    ·try simp only [decide_eq_true_eq, decide_eq_false_iff_not, beq_iff_eq, beq_eq_false_iff_ne, bne_iff_ne, ne_eq, Bool.not_eq_true', Bool.not_eq_false', Bool.and_eq_true, Bool.or_eq_true, bne_eq_false_iff_eq] at c1
     refine den_exit ?_
     refine denX_code ?_
     refine denX_stop ?_
     refine denX_hit ?_
     refine den_nil ?_
     simp (disch := decide) only [resP_0, puts_same, puts_ne]
     exact ⟨by first | rfl | trivial, ho6_4, cA⟩

set_option maxRecDepth 100000 in
theorem srt_ok (vL : Value) (L : List (Int × Int)) (fp : List Nat) (h : Heap) (g : FuncId) (cs : Array Value) (f : Int × Int → Int) (hf : ∀ q ∈ L, 0 ≤ f q ∧ f q < 11) (hc : ∀ x ∈ L, ∀ y ∈ L, ∀ h', Chg fp h h' → CallA Try.prog g (#[.agg #[.int .i64 x.1, .int .i64 x.2], .agg #[.int .i64 y.1, .int .i64 y.2]] ++ cs) h' fun u h'' => u = .int .i64 (f x - f y) ∧ Ext h' h'') (hL : OQ h vL L fp) (hfr : Fresh 0 fp) (hn0 : 1 ≤ L.length) (hn : L.length ≤ 8) : CallA Try.prog 63 #[vL, .func (.func g) #[] cs] h fun u h' => u = .tuple #[] ∧ OQ h' vL (bkf f L 0 11) fp ∧ Chg fp h h' := by
 refine callA_intro TTok (args := [_, _]) Try.func63 (by kernel_rfl) rfl 9 rfl (by simp) [] rfl ?_
 simp only [idxs, Nat.reduceAdd]
 have hlhL := OQ.lt hL
 have cA : Chg fp h h := Chg.refl _ _
 refine den_region TTok ?_
 intro K hK
 simp -implicitDefEqProofs (disch := first | decide | assumption | omega) only [go_sem, OQ.len hL, OQ.idx hL, OQ.ld hL, wrap_id]
 try simp -implicitDefEqProofs (disch := first | decide | assumption | omega) only [go_sem, wrap_id]
 refine CallA.mono (stb_ok _ L fp _ g cs f hf (fun x hx y hy h' c' => hc x hx y hy h' (cA.trans c')) hL hfr hn0 hn) ?_
 intro v_ h0_4
 rintro ⟨rfl, ho0_4, c0_4⟩
 have := c0_4.size
 replace cA := Chg.step cA c0_4 Sub.refl
 have hlho0_4 := hlhL
 try simp -implicitDefEqProofs (disch := first | decide | assumption | omega) only [go_sem, wrap_id]
 refine hK _ _ ?_
 clear hK K
 refine den_nil ?_
 simp (disch := decide) only [resP_0, puts_same, puts_ne]
 exact ⟨by first | rfl | trivial, ho0_4, cA⟩

set_option maxRecDepth 100000 in
theorem szQ_ok (vL : Value) (L : List (Int × Int)) (fp : List Nat) (h : Heap) (hL : OQ h vL L fp) : CallA Try.prog 65 #[vL] h fun u h' => u = .int .i64 (L.length : Int) ∧ Ext h h' := by
 refine callA_intro TTok (args := [_]) Try.func65 (by kernel_rfl) rfl 5 rfl (by simp) [.tmp 2] rfl ?_
 simp only [idxs, Nat.reduceAdd]
 refine den_seq ?_
 refine den_region TTok ?_
 intro K hK
 simp -implicitDefEqProofs (disch := first | decide | assumption | omega) only [go_sem, wrap_id]
 refine hK _ _ ?_
 clear hK K
 refine den_seq ?_
 refine den_region TTok ?_
 intro K hK
 simp -implicitDefEqProofs (disch := first | decide | assumption | omega) only [go_sem, OQ.len hL, OQ.idx hL, OQ.ld hL, wrap_id]
 refine hK _ _ ?_
 clear hK K
 refine den_ret ?_
 simp (disch := decide) only [resP_1, puts_same, puts_ne]
 exact ⟨by first | rfl | trivial, (Ext.refl _)⟩
end Go.Proofs.Ytacajcjibhifmaa

namespace Go.Proofs.Ytacajcjibhifmaa
open Go
set_option maxRecDepth 100000 in
theorem tdeg_ok (X Y : Dg) (q : Int × Int) (bX bY : Nat) (h : Heap) (hbX : BoxAt h bX (dgA X) 34) (hbY : BoxAt h bY (dgA Y) 34) (hbq : 0 ≤ q.1 ∧ q.1 < 8 ∧ 0 ≤ q.2 ∧ q.2 < 8) (hxq : 0 ≤ X.deg q.1.toNat ∧ X.deg q.1.toNat ≤ 5) (hyq : 0 ≤ Y.deg q.2.toNat ∧ Y.deg q.2.toNat ≤ 5) : CallA Try.prog 62 #[.agg #[.int .i64 q.1, .int .i64 q.2], .pointer (some ⟨bX, 0, none⟩), .pointer (some ⟨bY, 0, none⟩)] h fun u h' => u = .int .i64 (dgQ X Y q) ∧ Ext h h' := by
 refine callA_intro TTok (args := [_, _, _]) Try.func62 (by kernel_rfl) rfl 16 rfl (by simp) [.tmp 4] rfl ?_
 simp only [idxs, Nat.reduceAdd]
 refine den_seq ?_
 refine den_region TTok ?_
 intro K hK
 simp -implicitDefEqProofs (disch := first | decide | assumption | omega) only [go_sem, wrap_id, cv_u8, cv_i64, Nat.zero_add, wrap_u8, eq_el, ne_el, build_el, Int.toNat_zero]
 refine op_box (cs := #[.int .i64 (q.1), .int .i64 (q.2)]) rfl ?_
 intro h0_0 e0_0 hb0_0 z0_0
 replace hbX := BoxAt.ext hbX e0_0
 replace hbY := BoxAt.ext hbY e0_0
 have := Ext.size e0_0
 have eB := e0_0
 have hfhb0_0 : Fresh h.size [h.size] := Fresh.one _
 have hlhb0_0 := one_lt (show h.size < h0_0.size by omega)
 try simp -implicitDefEqProofs (disch := first | decide | assumption | omega) only [go_sem, wrap_id, cv_u8, cv_i64, Nat.zero_add, wrap_u8, eq_el, ne_el, build_el, Int.toNat_zero]
 refine hK _ _ ?_
 clear hK K
 refine den_seq ?_
 refine den_draw TTok mixed [] [(0, true), (1, true), (2, true), (3, true), (4, true), (5, true), (6, true), (7, true), (8, true), (9, true), (10, true), (11, true)] (by kernel_rfl) ?_
 intro K hK
 simp -implicitDefEqProofs (disch := first | decide | assumption | omega) only [go_sem, Int.toNat_zero, fa34_2, fa98_0, fa98_1, ia22, ld2, BoxAt.dgL hbX, BoxAt.dgP hbX, BoxAt.dgS hbX, BoxAt.dgDeg hbX, BoxAt.dgLev hbX, BoxAt.dgDeg0 hbX, BoxAt.dgLev0 hbX, BoxAt.dgDifL hbX, BoxAt.dgTabL hbX, BoxAt.dgTabL0 hbX, BoxAt.dgTabL1 hbX, BoxAt.dgTabL1' hbX, BoxAt.dgDifB hbX, BoxAt.dgTabB hbX, BoxAt.dgL hbY, BoxAt.dgP hbY, BoxAt.dgS hbY, BoxAt.dgDeg hbY, BoxAt.dgLev hbY, BoxAt.dgDeg0 hbY, BoxAt.dgLev0 hbY, BoxAt.dgDifL hbY, BoxAt.dgTabL hbY, BoxAt.dgTabL0 hbY, BoxAt.dgTabL1 hbY, BoxAt.dgTabL1' hbY, BoxAt.dgDifB hbY, BoxAt.dgTabB hbY, BoxAt.cell hb0_0, wrap_id, cv_u8, cv_i64, Nat.zero_add, wrap_u8, eq_el, ne_el, build_el, Int.toNat_zero]
 refine hK _ _ ?_
 clear hK K
 refine den_ret ?_
 simp (disch := decide) only [resP_1, puts_same, puts_ne]
 exact ⟨by first | rfl | trivial, eB⟩

set_option maxRecDepth 100000 in
theorem tcmp_ok (X Y : Dg) (x y : Int × Int) (bX bY bF : Nat) (h : Heap) (hbX : BoxAt h bX (dgA X) 34) (hbY : BoxAt h bY (dgA Y) 34) (hbF : BoxAt h bF #[.func (.func 62) #[] #[.pointer (some ⟨bX, 0, none⟩), .pointer (some ⟨bY, 0, none⟩)]] 99) (hbx : 0 ≤ x.1 ∧ x.1 < 8 ∧ 0 ≤ x.2 ∧ x.2 < 8) (hxx : 0 ≤ X.deg x.1.toNat ∧ X.deg x.1.toNat ≤ 5) (hyx : 0 ≤ Y.deg x.2.toNat ∧ Y.deg x.2.toNat ≤ 5) (hby : 0 ≤ y.1 ∧ y.1 < 8 ∧ 0 ≤ y.2 ∧ y.2 < 8) (hxy : 0 ≤ X.deg y.1.toNat ∧ X.deg y.1.toNat ≤ 5) (hyy : 0 ≤ Y.deg y.2.toNat ∧ Y.deg y.2.toNat ≤ 5) : CallA Try.prog 64 #[.agg #[.int .i64 x.1, .int .i64 x.2], .agg #[.int .i64 y.1, .int .i64 y.2], .pointer (some ⟨bF, 0, none⟩)] h fun u h' => u = .int .i64 (dgQ X Y x - dgQ X Y y) ∧ Ext h h' := by
 have hdx : 0 ≤ dgQ X Y x ∧ dgQ X Y x ≤ 10 := by unfold dgQ; omega
 have hdy : 0 ≤ dgQ X Y y ∧ dgQ X Y y ≤ 10 := by unfold dgQ; omega
 refine callA_intro TTok (args := [_, _, _]) Try.func64 (by kernel_rfl) rfl 13 rfl (by simp) [.tmp 5] rfl ?_
 simp only [idxs, Nat.reduceAdd]
 refine den_seq ?_
 refine den_region TTok ?_
 intro K hK
 simp -implicitDefEqProofs (disch := first | decide | assumption | omega) only [go_sem, wrap_id, cv_u8, cv_i64, Nat.zero_add, wrap_u8, eq_el, ne_el, build_el, Int.toNat_zero]
 refine op_box (cs := #[.int .i64 (x.1), .int .i64 (x.2)]) rfl ?_
 intro h0_0 e0_0 hb0_0 z0_0
 replace hbX := BoxAt.ext hbX e0_0
 replace hbY := BoxAt.ext hbY e0_0
 replace hbF := BoxAt.ext hbF e0_0
 have := Ext.size e0_0
 have eB := e0_0
 have hfhb0_0 : Fresh h.size [h.size] := Fresh.one _
 have hlhb0_0 := one_lt (show h.size < h0_0.size by omega)
 try simp -implicitDefEqProofs (disch := first | decide | assumption | omega) only [go_sem, wrap_id, cv_u8, cv_i64, Nat.zero_add, wrap_u8, eq_el, ne_el, build_el, Int.toNat_zero]
 refine op_box (cs := #[.int .i64 (y.1), .int .i64 (y.2)]) rfl ?_
 intro h0_1 e0_1 hb0_1 z0_1
 replace hbX := BoxAt.ext hbX e0_1
 replace hbY := BoxAt.ext hbY e0_1
 replace hbF := BoxAt.ext hbF e0_1
 replace hb0_0 := BoxAt.ext hb0_0 e0_1
 have := Ext.size e0_1
 replace eB := Ext.trans eB e0_1
 have hfhb0_1 : Fresh h0_0.size [h0_0.size] := Fresh.one _
 have hlhb0_1 := one_lt (show h0_0.size < h0_1.size by omega)
 try simp -implicitDefEqProofs (disch := first | decide | assumption | omega) only [go_sem, wrap_id, cv_u8, cv_i64, Nat.zero_add, wrap_u8, eq_el, ne_el, build_el, Int.toNat_zero]
 refine hK _ _ ?_
 clear hK K
 refine den_seq ?_
 refine den_draw TTok mixed [] [(0, true), (1, true), (3, true), (4, true), (2, false), (5, false), (6, true), (7, true)] (by kernel_rfl) ?_
 intro K hK
 simp -implicitDefEqProofs (disch := first | decide | assumption | omega) only [go_sem, ld99, ld98, BoxAt.cell hbF, BoxAt.cell hb0_0, BoxAt.cell hb0_1, wrap_id, cv_u8, cv_i64, Nat.zero_add, wrap_u8, eq_el, ne_el, build_el, Int.toNat_zero]
 try simp -implicitDefEqProofs (disch := first | decide | assumption | omega) only [go_sem, wrap_id, cv_u8, cv_i64, Nat.zero_add, wrap_u8, eq_el, ne_el, build_el, Int.toNat_zero]
 refine CallA.mono (tdeg_ok X Y x _ _ _ hbX hbY hbx hxx hyx) ?_
 intro v_ h1_2
 rintro ⟨rfl, e1_2⟩
 replace hbX := BoxAt.ext hbX e1_2
 replace hbY := BoxAt.ext hbY e1_2
 replace hbF := BoxAt.ext hbF e1_2
 replace hb0_0 := BoxAt.ext hb0_0 e1_2
 replace hb0_1 := BoxAt.ext hb0_1 e1_2
 have := Ext.size e1_2
 replace eB := Ext.trans eB e1_2
 try simp (disch := decide) only [outv_some, outv_none, put_puts]
 refine plK_pres (Ext.pres e1_2) ?_
 try simp -implicitDefEqProofs (disch := first | decide | assumption | omega) only [go_sem, wrap_id, cv_u8, cv_i64, Nat.zero_add, wrap_u8, eq_el, ne_el, build_el, Int.toNat_zero]
 try simp -implicitDefEqProofs (disch := first | decide | assumption | omega) only [go_sem, wrap_id, cv_u8, cv_i64, Nat.zero_add, wrap_u8, eq_el, ne_el, build_el, Int.toNat_zero]
 refine CallA.mono (tdeg_ok X Y y _ _ _ hbX hbY hby hxy hyy) ?_
 intro v_ h1_5
 rintro ⟨rfl, e1_5⟩
 replace hbX := BoxAt.ext hbX e1_5
 replace hbY := BoxAt.ext hbY e1_5
 replace hbF := BoxAt.ext hbF e1_5
 replace hb0_0 := BoxAt.ext hb0_0 e1_5
 replace hb0_1 := BoxAt.ext hb0_1 e1_5
 have := Ext.size e1_5
 replace eB := Ext.trans eB e1_5
 try simp (disch := decide) only [outv_some, outv_none, put_puts]
 refine plK_pres (Ext.pres e1_5) ?_
 try simp -implicitDefEqProofs (disch := first | decide | assumption | omega) only [go_sem, wrap_id, cv_u8, cv_i64, Nat.zero_add, wrap_u8, eq_el, ne_el, build_el, Int.toNat_zero]
 refine hK _ _ ?_
 clear hK K
 refine den_ret ?_
 simp (disch := decide) only [resP_1, puts_same, puts_ne]
 exact ⟨by first | rfl | trivial, eB⟩

theorem tdegK_ok (X Y : Dg) (i j : Nat) (bX bY : Nat) (h : Heap) (hbX : BoxAt h bX (dgA X) 34) (hbY : BoxAt h bY (dgA Y) 34) (hi : i < 8) (hj : j < 8) (h1 : 0 ≤ X.deg i ∧ X.deg i ≤ 5) (h2 : 0 ≤ Y.deg j ∧ Y.deg j ≤ 5) : CallA Try.prog 62 #[.agg #[.int .i64 (i : Int), .int .i64 (j : Int)], .pointer (some ⟨bX, 0, none⟩), .pointer (some ⟨bY, 0, none⟩)] h fun u h' => u = .int .i64 (X.deg i + Y.deg j) ∧ Ext h h' := by
 have := tdeg_ok X Y ((i : Int), (j : Int)) bX bY h hbX hbY ⟨by show (0 : Int) ≤ (i : Int); omega, by show (i : Int) < 8; omega, by show (0 : Int) ≤ (j : Int); omega, by show (j : Int) < 8; omega⟩ (by simpa using h1) (by simpa using h2)
 rw [dgQ_at] at this
 exact this
/-- The pairs of two elements. -/
def jnN (p : Int) (L : List (Int × Int)) (u v : Nat → Int) (n : Nat) : Nat → Int := fun q => if q < n then (u (L.getD q (0, 0)).1.toNat * v (L.getD q (0, 0)).2.toNat) % p else 0
theorem jnN_0 (p : Int) (L : List (Int × Int)) (u v : Nat → Int) : jnN p L u v 0 = z8 := by funext q; simp [jnN, z8]
theorem jnN_step (p : Int) (L : List (Int × Int)) (u v : Nat → Int) (n : Nat) : upd (jnN p L u v n) n ((u (L.getD n (0, 0)).1.toNat * v (L.getD n (0, 0)).2.toNat) % p) = jnN p L u v (n + 1) := by
 funext q
 unfold upd jnN
 by_cases h : q = n
 ·subst h; rw [if_pos rfl, if_pos (by omega)]
 ·rw [if_neg h]
  by_cases h2 : q < n
  ·rw [if_pos h2, if_pos (by omega)]
  ·rw [if_neg h2, if_neg (by omega)]
theorem jnN_by {p : Int} (hp : 0 < p ∧ p ≤ 7) {L : List (Int × Int)} {u v : Nat → Int} {n : Nat} : By (jnN p L u v n) := fun q => by
 unfold jnN
 split
 ·have h1 := Int.emod_nonneg (u (L.getD q (0, 0)).1.toNat * v (L.getD q (0, 0)).2.toNat) (show p ≠ 0 by omega)
  have h2 := Int.emod_lt_of_pos (u (L.getD q (0, 0)).1.toNat * v (L.getD q (0, 0)).2.toNat) hp.1
  omega
 ·omega

set_option maxRecDepth 100000 in
set_option maxHeartbeats 4000000 in
theorem tjn_ok (X : Dg) (u v : Nat → Int) (L : List (Int × Int)) (fL : List Nat) (vL : Value) (bX bL : Nat) (h : Heap) (hbX : BoxAt h bX (dgA X) 34) (hbL : BoxAt h bL #[vL] 96) (hL : OQ h vL L fL) (hp : 0 < X.p ∧ X.p ≤ 7) (hu : By u) (hv : By v) (hn : L.length ≤ 8) (hLb : ∀ k, k < L.length → 0 ≤ (L.getD k (0, 0)).1 ∧ (L.getD k (0, 0)).1 < 8 ∧ 0 ≤ (L.getD k (0, 0)).2 ∧ (L.getD k (0, 0)).2 < 8) : CallA Try.prog 66 #[.agg (elA u), .agg (elA v), .pointer (some ⟨bL, 0, none⟩), .pointer (some ⟨bX, 0, none⟩)] h fun w h' => w = .agg (elA (jnN X.p L u v L.length)) ∧ Ext h h' := by
 have hlhbX := one_lt hbX.lt
 have hlhbL := one_lt hbL.lt
 have hlhL := OQ.lt hL
 refine callA_intro TTok (args := [_, _, _, _]) Try.func66 (by kernel_rfl) rfl 37 rfl (by simp) [.cell 6 30] rfl ?_
 simp only [idxs, Nat.reduceAdd]
 refine den_seq ?_
 refine den_region TTok ?_
 intro K hK
 simp -implicitDefEqProofs (disch := first | decide | assumption | omega) only [go_sem, wrap_id, cv_u8, cv_i64, Nat.zero_add, wrap_u8, eq_el, ne_el, build_el, Int.toNat_zero]
 refine op_box (cs := elA u) rfl ?_
 intro h0_0 e0_0 hb0_0 z0_0
 replace hL := OQ.ext hL e0_0
 replace hbX := BoxAt.ext hbX e0_0
 replace hbL := BoxAt.ext hbL e0_0
 have := Ext.size e0_0
 have eB := e0_0
 have hfhb0_0 : Fresh h.size [h.size] := Fresh.one _
 have hlhb0_0 := one_lt (show h.size < h0_0.size by omega)
 try simp -implicitDefEqProofs (disch := first | decide | assumption | omega) only [go_sem, wrap_id, cv_u8, cv_i64, Nat.zero_add, wrap_u8, eq_el, ne_el, build_el, Int.toNat_zero]
 refine op_box (cs := elA v) rfl ?_
 intro h0_1 e0_1 hb0_1 z0_1
 replace hL := OQ.ext hL e0_1
 replace hbX := BoxAt.ext hbX e0_1
 replace hbL := BoxAt.ext hbL e0_1
 replace hb0_0 := BoxAt.ext hb0_0 e0_1
 have := Ext.size e0_1
 replace eB := Ext.trans eB e0_1
 have hfhb0_1 : Fresh h0_0.size [h0_0.size] := Fresh.one _
 have hlhb0_1 := one_lt (show h0_0.size < h0_1.size by omega)
 try simp -implicitDefEqProofs (disch := first | decide | assumption | omega) only [go_sem, wrap_id, cv_u8, cv_i64, Nat.zero_add, wrap_u8, eq_el, ne_el, build_el, Int.toNat_zero]
 refine op_alloc (cs := elA z8) (by kernel_rfl) ?_
 intro h0_2 e0_2 hb0_2 z0_2
 replace hL := OQ.ext hL e0_2
 replace hbX := BoxAt.ext hbX e0_2
 replace hbL := BoxAt.ext hbL e0_2
 replace hb0_0 := BoxAt.ext hb0_0 e0_2
 replace hb0_1 := BoxAt.ext hb0_1 e0_2
 have := Ext.size e0_2
 replace eB := Ext.trans eB e0_2
 have hfhb0_2 : Fresh h0_1.size [h0_1.size] := Fresh.one _
 have hlhb0_2 := one_lt (show h0_1.size < h0_2.size by omega)
 try simp -implicitDefEqProofs (disch := first | decide | assumption | omega) only [go_sem, BoxAt.elC hb0_2, BoxAt.elL hb0_2, wrap_id, cv_u8, cv_i64, Nat.zero_add, wrap_u8, eq_el, ne_el, build_el, Int.toNat_zero]
 refine hK _ _ ?_
 clear hK K
 refine den_seq ?_
 refine den_region TTok ?_
 intro K hK
 simp -implicitDefEqProofs (disch := first | decide | assumption | omega) only [go_sem, wrap_id, cv_u8, cv_i64, Nat.zero_add, wrap_u8, eq_el, ne_el, build_el, Int.toNat_zero]
 refine op_alloc (cs := elA z8) (by kernel_rfl) ?_
 intro h1_1 e1_1 hb1_1 z1_1
 replace hL := OQ.ext hL e1_1
 replace hbX := BoxAt.ext hbX e1_1
 replace hbL := BoxAt.ext hbL e1_1
 replace hb0_0 := BoxAt.ext hb0_0 e1_1
 replace hb0_1 := BoxAt.ext hb0_1 e1_1
 replace hb0_2 := BoxAt.ext hb0_2 e1_1
 have := Ext.size e1_1
 replace eB := Ext.trans eB e1_1
 have hfhb1_1 : Fresh h0_2.size [h0_2.size] := Fresh.one _
 have hlhb1_1 := one_lt (show h0_2.size < h1_1.size by omega)
 try simp -implicitDefEqProofs (disch := first | decide | assumption | omega) only [go_sem, BoxAt.elC hb0_2, BoxAt.elL hb0_2, wrap_id, cv_u8, cv_i64, Nat.zero_add, wrap_u8, eq_el, ne_el, build_el, Int.toNat_zero]
 refine op_storeB (o := 0) (vs := elA z8) (cs' := elA z8) st30 hb1_1 rfl rfl (elA_sz _) (by rw [elA_sz]; decide) elA_one elA_all ?_
 intro h1_2 hb1_1 c1_2
 replace hL := OQ.chg hL c1_2 (apart_lt hlhL hfhb1_1 (by omega))
 replace hbX := BoxAt.chgA hbX c1_2 (apart_lt hlhbX hfhb1_1 (by omega))
 replace hbL := BoxAt.chgA hbL c1_2 (apart_lt hlhbL hfhb1_1 (by omega))
 replace hb0_0 := BoxAt.chgA hb0_0 c1_2 (apart_lt hlhb0_0 hfhb1_1 (by omega))
 replace hb0_1 := BoxAt.chgA hb0_1 c1_2 (apart_lt hlhb0_1 hfhb1_1 (by omega))
 replace hb0_2 := BoxAt.chgA hb0_2 c1_2 (apart_lt hlhb0_2 hfhb1_1 (by omega))
 have := c1_2.size
 replace eB := Ext.then eB c1_2 (ge_of hfhb1_1 (by omega))
 try simp -implicitDefEqProofs (disch := first | decide | assumption | omega) only [go_sem, BoxAt.elC hb0_2, BoxAt.elL hb0_2, wrap_id, cv_u8, cv_i64, Nat.zero_add, wrap_u8, eq_el, ne_el, build_el, Int.toNat_zero]
 refine hK _ _ ?_
 clear hK K
 refine den_seq ?_
 refine den_seq ?_
 refine den_region TTok ?_
 intro K hK
 simp -implicitDefEqProofs (disch := first | decide | assumption | omega) only [go_sem, ld96, OQ.len hL, OQ.idx hL, OQ.ld hL, BoxAt.cell hbL, wrap_id, cv_u8, cv_i64, Nat.zero_add, wrap_u8, eq_el, ne_el, build_el, Int.toNat_zero]
 refine hK _ _ ?_
 clear hK K
 refine den_block ?_
 refine den_sel [13, 3, 4, 5, 6, 7, 11, 12] ?_
 intro env_1
 simp only [go_sem]
 refine den_loopS (σ := Nat) (fun st_ => [(13, .int .i64 (st_ : Int))]) (fun st_ H => (st_ ≤ L.length) ∧ (BoxAt H (h0_2.size) (elA (jnN X.p L u v st_)) 30) ∧ (Chg [h0_2.size] h1_2 H)) (fun st_ => L.length - st_) 0 ?_ ?_
 ·exact ⟨by first | (simp; done) | (dsimp only; omega) | (simp; omega), by rw [jnN_0]; exact hb1_1, Chg.refl _ _⟩
 ·rintro k h4 ee3 ⟨hi0, hbx7, cL2⟩
  replace hL := OQ.chg hL cL2 (apart_lt hlhL hfhb1_1 (by omega))
  replace hbX := BoxAt.chgA hbX cL2 (apart_lt hlhbX hfhb1_1 (by omega))
  replace hbL := BoxAt.chgA hbL cL2 (apart_lt hlhbL hfhb1_1 (by omega))
  replace hb0_0 := BoxAt.chgA hb0_0 cL2 (apart_lt hlhb0_0 hfhb1_1 (by omega))
  replace hb0_1 := BoxAt.chgA hb0_1 cL2 (apart_lt hlhb0_1 hfhb1_1 (by omega))
  replace hb0_2 := BoxAt.chgA hb0_2 cL2 (apart_lt hlhb0_2 hfhb1_1 (by omega))
  have := cL2.size
  replace eB := Ext.then eB cL2 (ge_of hfhb1_1 (by omega))
  have hfhbx7 := hfhb1_1
  have hlhbx7 := hlhb1_1
  simp only [List.cons_append, List.nil_append]
  refine den_seq ?_
  refine den_region TTok ?_
  intro K hK
  simp -implicitDefEqProofs (disch := first | decide | assumption | omega) only [go_sem, wrap_id, cv_u8, cv_i64, Nat.zero_add, wrap_u8, eq_el, ne_el, build_el, Int.toNat_zero]
  refine hK _ _ ?_
  clear hK K
  refine den_seq ?_
  refine den_cond rfl (fun c0 => ?_) (fun c0 => ?_)
  ·try simp only [decide_eq_true_eq, decide_eq_false_iff_not, beq_iff_eq, beq_eq_false_iff_ne, bne_iff_ne, ne_eq, Bool.not_eq_true', Bool.not_eq_false', Bool.and_eq_true, Bool.or_eq_true, bne_eq_false_iff_eq] at c0
   refine den_skip ?_
   refine den_seq ?_
   refine den_block ?_
   refine den_seq ?_
   refine den_region TTok ?_
   intro K hK
   simp -implicitDefEqProofs (disch := first | decide | assumption | omega) only [go_sem, ld98, OQ.len hL, OQ.idx hL, OQ.ld hL, wrap_id, cv_u8, cv_i64, Nat.zero_add, wrap_u8, eq_el, ne_el, build_el, Int.toNat_zero]
   refine op_alloc (cs := #[.int .i64 0, .int .i64 0]) (by kernel_rfl) ?_
   intro h4_3 e4_3 hb4_3 z4_3
   replace hL := OQ.ext hL e4_3
   replace hbX := BoxAt.ext hbX e4_3
   replace hbL := BoxAt.ext hbL e4_3
   replace hb0_0 := BoxAt.ext hb0_0 e4_3
   replace hb0_1 := BoxAt.ext hb0_1 e4_3
   replace hb0_2 := BoxAt.ext hb0_2 e4_3
   replace hbx7 := BoxAt.ext hbx7 e4_3
   have := Ext.size e4_3
   replace eB := Ext.trans eB e4_3
   replace cL2 := Chg.stepE cL2 e4_3
   have hfhb4_3 : Fresh h4.size [h4.size] := Fresh.one _
   have hlhb4_3 := one_lt (show h4.size < h4_3.size by omega)
   try simp -implicitDefEqProofs (disch := first | decide | assumption | omega) only [go_sem, wrap_id, cv_u8, cv_i64, Nat.zero_add, wrap_u8, eq_el, ne_el, build_el, Int.toNat_zero]
   refine op_storeB (cs' := #[.int .i64 ((((L).getD k (0, 0)).1)), .int .i64 ((((L).getD k (0, 0)).2))]) st98 hb4_3 rfl rfl rfl (by simp) (allOne_mem (l := [.int .i64 ((((L).getD k (0, 0)).1)), .int .i64 ((((L).getD k (0, 0)).2))]) ⟨rfl, rfl, trivial⟩) rfl ?_
   intro h4_5 hb4_3 c4_5
   replace hL := OQ.chg hL c4_5 (apart_lt hlhL hfhb4_3 (by omega))
   replace hbX := BoxAt.chgA hbX c4_5 (apart_lt hlhbX hfhb4_3 (by omega))
   replace hbL := BoxAt.chgA hbL c4_5 (apart_lt hlhbL hfhb4_3 (by omega))
   replace hb0_0 := BoxAt.chgA hb0_0 c4_5 (apart_lt hlhb0_0 hfhb4_3 (by omega))
   replace hb0_1 := BoxAt.chgA hb0_1 c4_5 (apart_lt hlhb0_1 hfhb4_3 (by omega))
   replace hb0_2 := BoxAt.chgA hb0_2 c4_5 (apart_lt hlhb0_2 hfhb4_3 (by omega))
   replace hbx7 := BoxAt.chgA hbx7 c4_5 (apart_lt hlhbx7 hfhb4_3 (by omega))
   have := c4_5.size
   replace eB := Ext.then eB c4_5 (ge_of hfhb4_3 (by omega))
   replace cL2 := Chg.step cL2 c4_5 (Sub.fresh hfhb4_3 (by omega))
   try simp -implicitDefEqProofs (disch := first | decide | assumption | omega) only [go_sem, BoxAt.elC hb0_2, BoxAt.elL hb0_2, wrap_id, cv_u8, cv_i64, Nat.zero_add, wrap_u8, eq_el, ne_el, build_el, Int.toNat_zero]
   refine hK _ _ ?_
   clear hK K
   have hqk := hLb k (by omega)
   have huk := hu (L.getD k (0, 0)).1.toNat
   have hvk := hv (L.getD k (0, 0)).2.toNat
   have hmul := by_mul hu hv (L.getD k (0, 0)).1.toNat (L.getD k (0, 0)).2.toNat
   have hte : Int.tmod (u (L.getD k (0, 0)).1.toNat * v (L.getD k (0, 0)).2.toNat) X.p = (u (L.getD k (0, 0)).1.toNat * v (L.getD k (0, 0)).2.toNat) % X.p := Int.tmod_eq_emod_of_nonneg hmul.1
   have hm0 := Int.emod_nonneg (u (L.getD k (0, 0)).1.toNat * v (L.getD k (0, 0)).2.toNat) (show X.p ≠ 0 by omega)
   have hm1 := Int.emod_lt_of_pos (u (L.getD k (0, 0)).1.toNat * v (L.getD k (0, 0)).2.toNat) hp.1
   refine den_draw TTok mixed [17] [(0, true), (1, true), (2, true), (3, true), (4, true), (5, true), (6, true), (7, true), (8, true), (9, true), (10, true), (11, true), (12, true), (13, true), (14, true), (15, true), (16, true), (17, false)] (by kernel_rfl) ?_
   intro K hK
   simp -implicitDefEqProofs (disch := first | decide | assumption | omega) only [go_sem, Int.toNat_zero, T2, T5, fa34_0, fa98_0, fa98_1, ia30, ld2, ld5, BoxAt.dgL hbX, BoxAt.dgP hbX, BoxAt.dgS hbX, BoxAt.dgDeg hbX, BoxAt.dgLev hbX, BoxAt.dgDeg0 hbX, BoxAt.dgLev0 hbX, BoxAt.dgDifL hbX, BoxAt.dgTabL hbX, BoxAt.dgTabL0 hbX, BoxAt.dgTabL1 hbX, BoxAt.dgTabL1' hbX, BoxAt.dgDifB hbX, BoxAt.dgTabB hbX, BoxAt.elC hb0_0, BoxAt.elL hb0_0, BoxAt.elC hb0_1, BoxAt.elL hb0_1, BoxAt.elC hbx7, BoxAt.elL hbx7, BoxAt.cell hb4_3, wrap_id, cv_u8, cv_i64, Nat.zero_add, wrap_u8, eq_el, ne_el, build_el, Int.toNat_zero, hte]
   refine op_storeB (o := k) (vs := #[.int .u8 ((u (L.getD k (0, 0)).1.toNat * v (L.getD k (0, 0)).2.toNat) % X.p)]) (cs' := elA (upd (jnN X.p L u v k) k ((u (L.getD k (0, 0)).1.toNat * v (L.getD k (0, 0)).2.toNat) % X.p))) st5 hbx7 rfl rfl rfl (by show _ + 1 ≤ 8; omega) u8_one (elA_upd (by omega)) ?_
   intro h5_17 hbx7 c5_17
   replace hL := OQ.chg hL c5_17 (apart_lt hlhL hfhbx7 (by omega))
   replace hbX := BoxAt.chgA hbX c5_17 (apart_lt hlhbX hfhbx7 (by omega))
   replace hbL := BoxAt.chgA hbL c5_17 (apart_lt hlhbL hfhbx7 (by omega))
   replace hb0_0 := BoxAt.chgA hb0_0 c5_17 (apart_lt hlhb0_0 hfhbx7 (by omega))
   replace hb0_1 := BoxAt.chgA hb0_1 c5_17 (apart_lt hlhb0_1 hfhbx7 (by omega))
   replace hb0_2 := BoxAt.chgA hb0_2 c5_17 (apart_lt hlhb0_2 hfhbx7 (by omega))
   replace hb4_3 := BoxAt.chgA hb4_3 c5_17 (apart_gt hfhb4_3 hlhbx7 (by omega))
   have := c5_17.size
   replace eB := Ext.then eB c5_17 (ge_of hfhbx7 (by omega))
   replace cL2 := Chg.step cL2 c5_17 Sub.refl
   try simp (disch := decide) only [outv_some, outv_none, put_puts]
   refine plK_last (by decide) ?_
   try simp -implicitDefEqProofs (disch := first | decide | assumption | omega) only [go_sem, BoxAt.elC hb0_2, BoxAt.elL hb0_2, wrap_id, cv_u8, cv_i64, Nat.zero_add, wrap_u8, eq_el, ne_el, build_el, Int.toNat_zero, hte]
   refine hK _ _ ?_
   clear hK K
   refine den_blk ?_
   refine den_region TTok ?_
   intro K hK
   simp -implicitDefEqProofs (disch := first | decide | assumption | omega) only [go_sem, wrap_id, cv_u8, cv_i64, Nat.zero_add, wrap_u8, eq_el, ne_el, build_el, Int.toNat_zero]
   refine hK _ _ ?_
   clear hK K
   refine den_stop ?_
   rw [jnN_step] at hbx7
   exact ⟨k + 1, by simp [HasL, puts_at], ⟨by first | omega | (dsimp only; omega), hbx7, cL2⟩, by first | omega | (dsimp only; omega)⟩
  ·try simp only [decide_eq_true_eq, decide_eq_false_iff_not, beq_iff_eq, beq_eq_false_iff_ne, bne_iff_ne, ne_eq, Bool.not_eq_true', Bool.not_eq_false', Bool.and_eq_true, Bool.or_eq_true, bne_eq_false_iff_eq] at c0
   refine den_exit ?_
   refine denX_code ?_
   refine denX_stop ?_
   refine denX_hit ?_
   refine den_seq ?_
   refine den_region TTok ?_
   intro K hK
   simp -implicitDefEqProofs (disch := first | decide | assumption | omega) only [go_sem, BoxAt.elC hbx7, BoxAt.elL hbx7, wrap_id, cv_u8, cv_i64, Nat.zero_add, wrap_u8, eq_el, ne_el, build_el, Int.toNat_zero]
   refine op_storeB (o := 0) (vs := elA (jnN X.p L u v k)) (cs' := elA (jnN X.p L u v k)) st30 hb0_2 rfl rfl (elA_sz _) (by rw [elA_sz]; decide) elA_one elA_all ?_
   intro h7_1 hb0_2 c7_1
   replace hL := OQ.chg hL c7_1 (apart_lt hlhL hfhb0_2 (by omega))
   replace hbX := BoxAt.chgA hbX c7_1 (apart_lt hlhbX hfhb0_2 (by omega))
   replace hbL := BoxAt.chgA hbL c7_1 (apart_lt hlhbL hfhb0_2 (by omega))
   replace hb0_0 := BoxAt.chgA hb0_0 c7_1 (apart_lt hlhb0_0 hfhb0_2 (by omega))
   replace hb0_1 := BoxAt.chgA hb0_1 c7_1 (apart_lt hlhb0_1 hfhb0_2 (by omega))
   replace hbx7 := BoxAt.chgA hbx7 c7_1 (apart_gt hfhbx7 hlhb0_2 (by omega))
   have := c7_1.size
   replace eB := Ext.then eB c7_1 (ge_of hfhb0_2 (by omega))
   try simp -implicitDefEqProofs (disch := first | decide | assumption | omega) only [go_sem, BoxAt.elC hb0_2, BoxAt.elL hb0_2, wrap_id, cv_u8, cv_i64, Nat.zero_add, wrap_u8, eq_el, ne_el, build_el, Int.toNat_zero]
   refine hK _ _ ?_
   clear hK K
   refine den_ret ?_
   simp -implicitDefEqProofs (disch := first | decide | assumption | omega) only [go_sem, BoxAt.elC hb0_2, BoxAt.elL hb0_2, wrap_id, cv_u8, cv_i64, Nat.zero_add, wrap_u8, eq_el, ne_el, build_el, Int.toNat_zero, resP_c1, ld30]
   rw [show k = L.length by omega]
   exact ⟨by first | rfl | trivial, eB⟩
end Go.Proofs.Ytacajcjibhifmaa

namespace Go.Proofs.Ytacajcjibhifmaa
open Go
theorem em1 (x y s p : Int) : (x % p + s * (y % p)) % p = (x + s * y) % p := by
 rw [Int.add_emod, Int.emod_emod_of_dvd _ (Int.dvd_refl p), Int.mul_emod, Int.emod_emod_of_dvd _ (Int.dvd_refl p), ← Int.mul_emod, ← Int.add_emod]
section
variable {X Y : Dg} (hX : IsFm X) (hY : IsFm Y)
include hX hY
theorem pj_at {p k : Int} {u v : Nat → Int} {q : Nat} (hq : q < (EQ X Y).length) : pjN p (EQ X Y) k u v (EQ X Y).length q = (k * u (iQ X Y q) * v (jQ X Y q)) % p := by
 rw [pjN, if_pos hq, EQ_i hX hY hq, EQ_j hX hY hq, Int.toNat_natCast, Int.toNat_natCast]
omit hX hY in
theorem pj_out {p k : Int} {u v : Nat → Int} {q : Nat} (hq : ¬ q < (EQ X Y).length) : pjN p (EQ X Y) k u v (EQ X Y).length q = 0 := by rw [pjN, if_neg hq]
omit hX hY in
theorem jn_at {p : Int} {u v : Nat → Int} {q : Nat} (hq : q < (EQ X Y).length) : jnN p (srQ X Y) u v (srQ X Y).length q = (u (iQ X Y q) * v (jQ X Y q)) % p := by
 rw [jnN, ← EQ_len, if_pos hq]; rfl
omit hX hY in
theorem jn_out {p : Int} {u v : Nat → Int} {q : Nat} (hq : ¬ q < (EQ X Y).length) : jnN p (srQ X Y) u v (srQ X Y).length q = 0 := by
 rw [jnN, ← EQ_len, if_neg hq]
theorem df_eq {k : Nat} (hn : (EQ X Y).length ≤ 8) : plusN X.p (jnN X.p (srQ X Y) (X.dif (iQ X Y k)) (e8 (jQ X Y k)) (srQ X Y).length) (jnN X.p (srQ X Y) (e8 (iQ X Y k)) (Y.dif (jQ X Y k)) (srQ X Y).length) (1 - (X.deg (iQ X Y k)).tmod 2 * 2) 8 = dfQ X Y k := by
 funext q
 unfold dfQ plusN
 by_cases h8 : q < 8
 ·rw [if_pos h8, if_pos h8]
  by_cases hq : q < (EQ X Y).length
  ·rw [jn_at hq, jn_at hq, pj_at hX hY hq, pj_at hX hY hq, em1, em1, sg1Q, Int.one_mul, Int.one_mul, Int.mul_assoc, Int.mul_comm ((X.deg (iQ X Y k)).tmod 2) 2]
  ·rw [jn_out hq, jn_out hq, pj_out hq, pj_out hq, Int.mul_zero, Int.mul_zero]
 ·rw [if_neg h8, if_neg h8, jn_out (by omega), pj_out (by omega)]
theorem tb_eq {k m : Nat} (hn : (EQ X Y).length ≤ 8) : plusN X.p z8 (jnN X.p (srQ X Y) (X.tab (iQ X Y k) (iQ X Y m)) (Y.tab (jQ X Y k) (jQ X Y m)) (srQ X Y).length) (1 - (Y.deg (jQ X Y k) * X.deg (iQ X Y m)).tmod 2 * 2) 8 = tbQ X Y k m := by
 funext q
 unfold tbQ plusN
 by_cases h8 : q < 8
 ·rw [if_pos h8]
  by_cases hq : q < (EQ X Y).length
  ·rw [jn_at hq, pj_at hX hY hq, show z8 q = 0 % X.p by rw [Int.zero_emod]; rfl, em1, sg2Q, Int.zero_add, Int.mul_assoc, Int.mul_comm ((Y.deg (jQ X Y k) * X.deg (iQ X Y m)).tmod 2) 2]
  ·rw [jn_out hq, pj_out hq, Int.mul_zero, show z8 q = 0 from rfl, Int.add_zero, Int.zero_emod]
 ·rw [if_neg h8, pj_out (by omega)]; rfl
theorem prL_len : (prL X Y).length = (srQ X Y).length := (bkf_len (fun q hq => dgQ_b hX hY hq)).symm
theorem qbA {x : Int × Int} (h : x ∈ prL X Y) : (0 ≤ x.1 ∧ x.1 < 8 ∧ 0 ≤ x.2 ∧ x.2 < 8) ∧ (0 ≤ X.deg x.1.toNat ∧ X.deg x.1.toNat ≤ 5) ∧ 0 ≤ Y.deg x.2.toNat ∧ Y.deg x.2.toNat ≤ 5 := by
 have hs := hX.s
 have ht := hY.s
 have h1 := prL_at hX hY h
 exact ⟨by omega, (hX.row x.1.toNat (by omega)).deg, (hY.row x.2.toNat (by omega)).deg⟩
theorem atB8 {k : Nat} (h : k < (srQ X Y).length) : 0 ≤ ((srQ X Y).getD k (0, 0)).1 ∧ ((srQ X Y).getD k (0, 0)).1 < 8 ∧ 0 ≤ ((srQ X Y).getD k (0, 0)).2 ∧ ((srQ X Y).getD k (0, 0)).2 < 8 := by
 have hs := hX.s
 have ht := hY.s
 have := atQ_b hX hY h
 unfold atQ at this
 omega
theorem at_i {k : Nat} (h : k < (srQ X Y).length) : ((srQ X Y).getD k (0, 0)).1 = (iQ X Y k : Int) := by
 have := atB8 hX hY h
 unfold iQ atQ; omega
theorem at_j {k : Nat} (h : k < (srQ X Y).length) : ((srQ X Y).getD k (0, 0)).2 = (jQ X Y k : Int) := by
 have := atB8 hX hY h
 unfold jQ atQ; omega
end
theorem mulQ1 {x y : Int} (hx : 1 ≤ x) (hy : 1 ≤ y) : 1 ≤ x * y := by
 have h := Int.mul_le_mul hx hy (by omega) (show (0 : Int) ≤ x by omega)
 omega
theorem prI_le {n i : Nat} (hn : n ≤ 8) (hi : i ≤ 8) : (prI n i).length ≤ 64 := by
 rw [prI_len]
 have := Nat.mul_le_mul hi hn
 omega
theorem prIR_le {n i j : Nat} (hn : n ≤ 8) (hi : i ≤ 8) (hj : j ≤ 8) : (prI n i ++ prR i j).length ≤ 72 := by
 rw [List.length_append, prR_len]
 have := prI_le hn hi
 omega

set_option maxRecDepth 100000 in
set_option maxHeartbeats 4000000 in
theorem iTn_ok (X : Dg) (Y : Dg) (h : Heap)  (hBX : DgB X) (hBY : DgB Y) : CallA Try.prog 24 #[.agg (dgA X), .agg (dgA Y)] h fun v' h' => v' = .tuple #[.agg (dgA ((tnP X Y).1)), .int .i64 ((tnP X Y).2)] ∧ Ext h h' := by
 refine callA_intro TTok (args := [_, _]) Try.func24 (by kernel_rfl) rfl 193 rfl (by simp) [.cell 4 34, .tmp 5] rfl ?_
 simp only [idxs, Nat.reduceAdd]
 refine den_seq ?_
 refine den_region TTok ?_
 intro K hK
 simp -implicitDefEqProofs (disch := first | decide | assumption | omega) only [go_sem, wrap_id, cv_u8, cv_i64, Nat.zero_add, wrap_u8, eq_el, ne_el, build_el, Int.toNat_zero, build_dg0, build_q]
 refine op_box (cs := dgA X) rfl ?_
 intro h0_0 e0_0 hb0_0 z0_0
 have := Ext.size e0_0
 have eB := e0_0
 have hfhb0_0 : Fresh h.size [h.size] := Fresh.one _
 have hlhb0_0 := one_lt (show h.size < h0_0.size by omega)
 try simp -implicitDefEqProofs (disch := first | decide | assumption | omega) only [go_sem, wrap_id, cv_u8, cv_i64, Nat.zero_add, wrap_u8, eq_el, ne_el, build_el, Int.toNat_zero, build_dg0, build_q]
 refine op_box (cs := dgA Y) rfl ?_
 intro h0_1 e0_1 hb0_1 z0_1
 replace hb0_0 := BoxAt.ext hb0_0 e0_1
 have := Ext.size e0_1
 replace eB := Ext.trans eB e0_1
 have hfhb0_1 : Fresh h0_0.size [h0_0.size] := Fresh.one _
 have hlhb0_1 := one_lt (show h0_0.size < h0_1.size by omega)
 try simp -implicitDefEqProofs (disch := first | decide | assumption | omega) only [go_sem, wrap_id, cv_u8, cv_i64, Nat.zero_add, wrap_u8, eq_el, ne_el, build_el, Int.toNat_zero, build_dg0, build_q]
 refine op_alloc (cs := dgA dgZ) (by kernel_rfl) ?_
 intro h0_2 e0_2 hb0_2 z0_2
 replace hb0_0 := BoxAt.ext hb0_0 e0_2
 replace hb0_1 := BoxAt.ext hb0_1 e0_2
 have := Ext.size e0_2
 replace eB := Ext.trans eB e0_2
 have hfhb0_2 : Fresh h0_1.size [h0_1.size] := Fresh.one _
 have hlhb0_2 := one_lt (show h0_1.size < h0_2.size by omega)
 try simp -implicitDefEqProofs (disch := first | decide | assumption | omega) only [go_sem, wrap_id, cv_u8, cv_i64, Nat.zero_add, wrap_u8, eq_el, ne_el, build_el, Int.toNat_zero, build_dg0, build_q]
 refine hK _ _ ?_
 clear hK K
 refine den_seq ?_
 refine den_block ?_
 refine den_seq ?_
 refine den_merge [(17, .bool (((!((dgB X))) || (!((dgB Y))))))] [2, 3, 4] (fun H => Ext h0_2 H) ?_ ?_
  -- a way
 ·refine den_region TTok ?_
  intro K hK
  simp -implicitDefEqProofs (disch := first | decide | assumption | (simp (disch := decide) only [slotOf_zero, slotOf_succ, Option.map_some, puts_same, puts_ne, gv_bool, gv_undef, tt, tf, ft, ff, eq_self, if_true, if_false, Bool.false_eq_true, Bool.not_true, Bool.not_false]; done) | omega) only [go_sem, BoxAt.dgL hb0_0, BoxAt.dgP hb0_0, BoxAt.dgS hb0_0, BoxAt.dgDeg hb0_0, BoxAt.dgLev hb0_0, BoxAt.dgDeg0 hb0_0, BoxAt.dgLev0 hb0_0, BoxAt.dgDifL hb0_0, BoxAt.dgTabL hb0_0, BoxAt.dgTabL0 hb0_0, BoxAt.dgTabL1 hb0_0, BoxAt.dgTabL1' hb0_0, BoxAt.dgDifB hb0_0, BoxAt.dgTabB hb0_0, wrap_id, cv_u8, cv_i64, Nat.zero_add, wrap_u8, eq_el, ne_el, build_el, Int.toNat_zero, build_dg0, build_q]
  try simp -implicitDefEqProofs (disch := first | decide | assumption | omega) only [go_sem, BoxAt.dgL hb0_2, BoxAt.dgP hb0_2, BoxAt.dgS hb0_2, BoxAt.dgDeg hb0_2, BoxAt.dgLev hb0_2, BoxAt.dgDeg0 hb0_2, BoxAt.dgLev0 hb0_2, BoxAt.dgDifL hb0_2, BoxAt.dgTabL hb0_2, BoxAt.dgTabL0 hb0_2, BoxAt.dgTabL1 hb0_2, BoxAt.dgTabL1' hb0_2, BoxAt.dgDifB hb0_2, BoxAt.dgTabB hb0_2, wrap_id, cv_u8, cv_i64, Nat.zero_add, wrap_u8, eq_el, ne_el, build_el, Int.toNat_zero, build_dg0, build_q]
  refine CallA.mono (iDg_ok  X _  hBX) ?_
  intro v_ h1_1
  rintro ⟨rfl, e1_1⟩
  replace hb0_0 := BoxAt.ext hb0_0 e1_1
  replace hb0_1 := BoxAt.ext hb0_1 e1_1
  replace hb0_2 := BoxAt.ext hb0_2 e1_1
  have := Ext.size e1_1
  replace eB := Ext.trans eB e1_1
  try simp -implicitDefEqProofs (disch := first | decide | assumption | (simp (disch := decide) only [slotOf_zero, slotOf_succ, Option.map_some, puts_same, puts_ne, gv_bool, gv_undef, tt, tf, ft, ff, eq_self, if_true, if_false, Bool.false_eq_true, Bool.not_true, Bool.not_false]; done) | omega) only [go_sem, wrap_id, cv_u8, cv_i64, Nat.zero_add, wrap_u8, eq_el, ne_el, build_el, Int.toNat_zero, build_dg0, build_q]
  refine opsP_F (by simp (disch := decide) only [slotOf_zero, slotOf_succ, Option.map_some, puts_same, puts_ne, gv_bool, gv_undef, tt, tf, ft, ff, eq_self, if_true, if_false, Bool.false_eq_true, Bool.not_true, Bool.not_false]; rfl) (fun g1 => ?_) (fun g1 => ?_)
  ·try simp -implicitDefEqProofs (disch := first | decide | assumption | (simp (disch := decide) only [slotOf_zero, slotOf_succ, Option.map_some, puts_same, puts_ne, gv_bool, gv_undef, tt, tf, ft, ff, eq_self, if_true, if_false, Bool.false_eq_true, Bool.not_true, Bool.not_false, g1]; done) | omega) only [go_sem, BoxAt.dgL hb0_1, BoxAt.dgP hb0_1, BoxAt.dgS hb0_1, BoxAt.dgDeg hb0_1, BoxAt.dgLev hb0_1, BoxAt.dgDeg0 hb0_1, BoxAt.dgLev0 hb0_1, BoxAt.dgDifL hb0_1, BoxAt.dgTabL hb0_1, BoxAt.dgTabL0 hb0_1, BoxAt.dgTabL1 hb0_1, BoxAt.dgTabL1' hb0_1, BoxAt.dgDifB hb0_1, BoxAt.dgTabB hb0_1, wrap_id, cv_u8, cv_i64, Nat.zero_add, wrap_u8, eq_el, ne_el, build_el, Int.toNat_zero, build_dg0, build_q, g1, eq_self, if_true, if_false, Bool.false_eq_true]
   try simp -implicitDefEqProofs (disch := first | decide | assumption | omega) only [go_sem, BoxAt.dgL hb0_2, BoxAt.dgP hb0_2, BoxAt.dgS hb0_2, BoxAt.dgDeg hb0_2, BoxAt.dgLev hb0_2, BoxAt.dgDeg0 hb0_2, BoxAt.dgLev0 hb0_2, BoxAt.dgDifL hb0_2, BoxAt.dgTabL hb0_2, BoxAt.dgTabL0 hb0_2, BoxAt.dgTabL1 hb0_2, BoxAt.dgTabL1' hb0_2, BoxAt.dgDifB hb0_2, BoxAt.dgTabB hb0_2, wrap_id, cv_u8, cv_i64, Nat.zero_add, wrap_u8, eq_el, ne_el, build_el, Int.toNat_zero, build_dg0, build_q]
   refine CallA.mono (iDg_ok  Y _  hBY) ?_
   intro v_ h1_5
   rintro ⟨rfl, e1_5⟩
   replace hb0_0 := BoxAt.ext hb0_0 e1_5
   replace hb0_1 := BoxAt.ext hb0_1 e1_5
   replace hb0_2 := BoxAt.ext hb0_2 e1_5
   have := Ext.size e1_5
   replace eB := Ext.trans eB e1_5
   try simp -implicitDefEqProofs (disch := first | decide | assumption | (simp (disch := decide) only [slotOf_zero, slotOf_succ, Option.map_some, puts_same, puts_ne, gv_bool, gv_undef, tt, tf, ft, ff, eq_self, if_true, if_false, Bool.false_eq_true, Bool.not_true, Bool.not_false, g1]; done) | omega) only [go_sem, wrap_id, cv_u8, cv_i64, Nat.zero_add, wrap_u8, eq_el, ne_el, build_el, Int.toNat_zero, build_dg0, build_q, g1, eq_self, if_true, if_false, Bool.false_eq_true]
   refine hK _ _ ?_
   clear hK K
   refine den_stop ?_
   refine ⟨?_, (Ext.trans e1_1 e1_5)⟩
   first | (simp (disch := decide) only [go_sem, g1, eq_self, Bool.true_and, Bool.and_true, Bool.false_and, Bool.and_false, Bool.true_or, Bool.or_true, Bool.false_or, Bool.or_false, if_true, if_false, Bool.false_eq_true]; done) | simp [HasL, sel, puts_at, g1]
  ·try simp -implicitDefEqProofs (disch := first | decide | assumption | (simp (disch := decide) only [slotOf_zero, slotOf_succ, Option.map_some, puts_same, puts_ne, gv_bool, gv_undef, tt, tf, ft, ff, eq_self, if_true, if_false, Bool.false_eq_true, Bool.not_true, Bool.not_false, g1]; done) | omega) only [go_sem, wrap_id, cv_u8, cv_i64, Nat.zero_add, wrap_u8, eq_el, ne_el, build_el, Int.toNat_zero, build_dg0, build_q, g1, eq_self, if_true, if_false, Bool.false_eq_true]
   refine hK _ _ ?_
   clear hK K
   refine den_stop ?_
   refine ⟨?_, e1_1⟩
   first | (simp (disch := decide) only [go_sem, g1, eq_self, Bool.true_and, Bool.and_true, Bool.false_and, Bool.and_false, Bool.true_or, Bool.or_true, Bool.false_or, Bool.or_false, if_true, if_false, Bool.false_eq_true]; done) | simp [HasL, sel, puts_at, g1]
 intro en2 h3 e4
 replace hb0_0 := BoxAt.ext hb0_0 e4
 replace hb0_1 := BoxAt.ext hb0_1 e4
 replace hb0_2 := BoxAt.ext hb0_2 e4
 have := Ext.size e4
 replace eB := Ext.trans eB e4
 simp (disch := decide) only [go_sem]
 refine den_cond rfl (fun c0 => ?_) (fun c0 => ?_)
 ·try simp only [decide_eq_true_eq, decide_eq_false_iff_not, beq_iff_eq, beq_eq_false_iff_ne, bne_iff_ne, ne_eq, Bool.not_eq_true', Bool.not_eq_false', Bool.and_eq_true, Bool.or_eq_true, bne_eq_false_iff_eq, Bool.not_eq_true, Bool.not_eq_false] at c0
  refine den_seq ?_
  refine den_region TTok ?_
  intro K hK
  simp -implicitDefEqProofs (disch := first | decide | assumption | omega) only [go_sem, wrap_id, cv_u8, cv_i64, Nat.zero_add, wrap_u8, eq_el, ne_el, build_el, Int.toNat_zero, build_dg0, build_q]
  refine op_storeB (o := 0) (vs := dgA dgZ) (cs' := dgA dgZ) st34 hb0_2 rfl rfl (dgA_sz _) (by rw [dgA_sz]; decide) dgA_one dgA_all ?_
  intro h2_1 hb0_2 c2_1
  have := c2_1.size
  replace eB := Ext.then eB c2_1 (ge_of hfhb0_2 (by omega))
  try simp -implicitDefEqProofs (disch := first | decide | assumption | omega) only [go_sem, wrap_id, cv_u8, cv_i64, Nat.zero_add, wrap_u8, eq_el, ne_el, build_el, Int.toNat_zero, build_dg0, build_q]
  refine hK _ _ ?_
  clear hK K
  refine den_ret ?_
  simp -implicitDefEqProofs (disch := first | decide | assumption | omega) only [go_sem, BoxAt.dgL hb0_2, BoxAt.dgP hb0_2, BoxAt.dgS hb0_2, BoxAt.dgDeg hb0_2, BoxAt.dgLev hb0_2, BoxAt.dgDeg0 hb0_2, BoxAt.dgLev0 hb0_2, BoxAt.dgDifL hb0_2, BoxAt.dgTabL hb0_2, BoxAt.dgTabL0 hb0_2, BoxAt.dgTabL1 hb0_2, BoxAt.dgTabL1' hb0_2, BoxAt.dgDifB hb0_2, BoxAt.dgTabB hb0_2, wrap_id, cv_u8, cv_i64, Nat.zero_add, wrap_u8, eq_el, ne_el, build_el, Int.toNat_zero, build_dg0, build_q, resP_ct, ld34]
  rw [tnP_1 (by rintro ⟨h1, h2⟩; simp [h1, h2] at c0)]
  exact ⟨by first | rfl | trivial, eB⟩
 ·try simp only [decide_eq_true_eq, decide_eq_false_iff_not, beq_iff_eq, beq_eq_false_iff_ne, bne_iff_ne, ne_eq, Bool.not_eq_true', Bool.not_eq_false', Bool.and_eq_true, Bool.or_eq_true, bne_eq_false_iff_eq, Bool.not_eq_true, Bool.not_eq_false] at c0
  have hbb : dgB X = true ∧ dgB Y = true := by simpa using c0
  have hgX := dgB_t.1 hbb.1
  have hgY := dgB_t.1 hbb.2
  have hfX := hgX.fm
  have hfY := hgY.fm
  have hsX := hfX.s
  have hsY := hfY.s
  have hss := mulQ64 hsX hsY
  have hpb := isP_bnd hfX.p
  have hpG : 0 < X.p ∧ X.p ≤ 7 := ⟨by omega, by omega⟩
  have hBdX := hBX.dif
  have hBtX := hBX.tab
  have hBdY := hBY.dif
  have hBtY := hBY.tab
  have hEn := EQ_n hfX hfY
  have hel := EQ_len X Y
  have hm1 := mulQ1 hsX.1 hsY.1
  refine den_seq ?_
  refine den_region TTok ?_
  intro K hK
  simp -implicitDefEqProofs (disch := first | decide | assumption | omega) only [go_sem, fa34_0, ld2, BoxAt.dgL hb0_0, BoxAt.dgP hb0_0, BoxAt.dgS hb0_0, BoxAt.dgDeg hb0_0, BoxAt.dgLev hb0_0, BoxAt.dgDeg0 hb0_0, BoxAt.dgLev0 hb0_0, BoxAt.dgDifL hb0_0, BoxAt.dgTabL hb0_0, BoxAt.dgTabL0 hb0_0, BoxAt.dgTabL1 hb0_0, BoxAt.dgTabL1' hb0_0, BoxAt.dgDifB hb0_0, BoxAt.dgTabB hb0_0, BoxAt.dgL hb0_1, BoxAt.dgP hb0_1, BoxAt.dgS hb0_1, BoxAt.dgDeg hb0_1, BoxAt.dgLev hb0_1, BoxAt.dgDeg0 hb0_1, BoxAt.dgLev0 hb0_1, BoxAt.dgDifL hb0_1, BoxAt.dgTabL hb0_1, BoxAt.dgTabL0 hb0_1, BoxAt.dgTabL1 hb0_1, BoxAt.dgTabL1' hb0_1, BoxAt.dgDifB hb0_1, BoxAt.dgTabB hb0_1, wrap_id, cv_u8, cv_i64, Nat.zero_add, wrap_u8, eq_el, ne_el, build_el, Int.toNat_zero, build_dg0, build_q]
  refine hK _ _ ?_
  clear hK K
  refine den_cond rfl (fun c1 => ?_) (fun c1 => ?_)
  ·try simp only [decide_eq_true_eq, decide_eq_false_iff_not, beq_iff_eq, beq_eq_false_iff_ne, bne_iff_ne, ne_eq, Bool.not_eq_true', Bool.not_eq_false', Bool.and_eq_true, Bool.or_eq_true, bne_eq_false_iff_eq, Bool.not_eq_true, Bool.not_eq_false] at c1
   refine den_seq ?_
   refine den_region TTok ?_
   intro K hK
   simp -implicitDefEqProofs (disch := first | decide | assumption | omega) only [go_sem, wrap_id, cv_u8, cv_i64, Nat.zero_add, wrap_u8, eq_el, ne_el, build_el, Int.toNat_zero, build_dg0, build_q]
   refine op_storeB (o := 0) (vs := dgA dgZ) (cs' := dgA dgZ) st34 hb0_2 rfl rfl (dgA_sz _) (by rw [dgA_sz]; decide) dgA_one dgA_all ?_
   intro h4_1 hb0_2 c4_1
   have := c4_1.size
   replace eB := Ext.then eB c4_1 (ge_of hfhb0_2 (by omega))
   try simp -implicitDefEqProofs (disch := first | decide | assumption | omega) only [go_sem, wrap_id, cv_u8, cv_i64, Nat.zero_add, wrap_u8, eq_el, ne_el, build_el, Int.toNat_zero, build_dg0, build_q]
   refine hK _ _ ?_
   clear hK K
   refine den_ret ?_
   simp -implicitDefEqProofs (disch := first | decide | assumption | omega) only [go_sem, BoxAt.dgL hb0_2, BoxAt.dgP hb0_2, BoxAt.dgS hb0_2, BoxAt.dgDeg hb0_2, BoxAt.dgLev hb0_2, BoxAt.dgDeg0 hb0_2, BoxAt.dgLev0 hb0_2, BoxAt.dgDifL hb0_2, BoxAt.dgTabL hb0_2, BoxAt.dgTabL0 hb0_2, BoxAt.dgTabL1 hb0_2, BoxAt.dgTabL1' hb0_2, BoxAt.dgDifB hb0_2, BoxAt.dgTabB hb0_2, wrap_id, cv_u8, cv_i64, Nat.zero_add, wrap_u8, eq_el, ne_el, build_el, Int.toNat_zero, build_dg0, build_q, resP_ct, ld34]
   rw [tnP_2 hbb (by simpa using c1)]
   exact ⟨by first | rfl | trivial, eB⟩
  ·try simp only [decide_eq_true_eq, decide_eq_false_iff_not, beq_iff_eq, beq_eq_false_iff_ne, bne_iff_ne, ne_eq, Bool.not_eq_true', Bool.not_eq_false', Bool.and_eq_true, Bool.or_eq_true, bne_eq_false_iff_eq, Bool.not_eq_true, Bool.not_eq_false] at c1
   have hpp : X.p = Y.p := by simpa using c1
   refine den_seq ?_
   refine den_region TTok ?_
   intro K hK
   simp -implicitDefEqProofs (disch := first | decide | assumption | omega) only [go_sem, fa34_1, ld2, BoxAt.dgL hb0_0, BoxAt.dgP hb0_0, BoxAt.dgS hb0_0, BoxAt.dgDeg hb0_0, BoxAt.dgLev hb0_0, BoxAt.dgDeg0 hb0_0, BoxAt.dgLev0 hb0_0, BoxAt.dgDifL hb0_0, BoxAt.dgTabL hb0_0, BoxAt.dgTabL0 hb0_0, BoxAt.dgTabL1 hb0_0, BoxAt.dgTabL1' hb0_0, BoxAt.dgDifB hb0_0, BoxAt.dgTabB hb0_0, BoxAt.dgL hb0_1, BoxAt.dgP hb0_1, BoxAt.dgS hb0_1, BoxAt.dgDeg hb0_1, BoxAt.dgLev hb0_1, BoxAt.dgDeg0 hb0_1, BoxAt.dgLev0 hb0_1, BoxAt.dgDifL hb0_1, BoxAt.dgTabL hb0_1, BoxAt.dgTabL0 hb0_1, BoxAt.dgTabL1 hb0_1, BoxAt.dgTabL1' hb0_1, BoxAt.dgDifB hb0_1, BoxAt.dgTabB hb0_1, wrap_id, cv_u8, cv_i64, Nat.zero_add, wrap_u8, eq_el, ne_el, build_el, Int.toNat_zero, build_dg0, build_q]
   refine hK _ _ ?_
   clear hK K
   refine den_cond rfl (fun c2 => ?_) (fun c2 => ?_)
   ·try simp only [decide_eq_true_eq, decide_eq_false_iff_not, beq_iff_eq, beq_eq_false_iff_ne, bne_iff_ne, ne_eq, Bool.not_eq_true', Bool.not_eq_false', Bool.and_eq_true, Bool.or_eq_true, bne_eq_false_iff_eq, Bool.not_eq_true, Bool.not_eq_false] at c2
    refine den_seq ?_
    refine den_region TTok ?_
    intro K hK
    simp -implicitDefEqProofs (disch := first | decide | assumption | omega) only [go_sem, wrap_id, cv_u8, cv_i64, Nat.zero_add, wrap_u8, eq_el, ne_el, build_el, Int.toNat_zero, build_dg0, build_q]
    refine op_storeB (o := 0) (vs := dgA dgZ) (cs' := dgA dgZ) st34 hb0_2 rfl rfl (dgA_sz _) (by rw [dgA_sz]; decide) dgA_one dgA_all ?_
    intro h6_1 hb0_2 c6_1
    have := c6_1.size
    replace eB := Ext.then eB c6_1 (ge_of hfhb0_2 (by omega))
    try simp -implicitDefEqProofs (disch := first | decide | assumption | omega) only [go_sem, wrap_id, cv_u8, cv_i64, Nat.zero_add, wrap_u8, eq_el, ne_el, build_el, Int.toNat_zero, build_dg0, build_q]
    refine hK _ _ ?_
    clear hK K
    refine den_ret ?_
    simp -implicitDefEqProofs (disch := first | decide | assumption | omega) only [go_sem, BoxAt.dgL hb0_2, BoxAt.dgP hb0_2, BoxAt.dgS hb0_2, BoxAt.dgDeg hb0_2, BoxAt.dgLev hb0_2, BoxAt.dgDeg0 hb0_2, BoxAt.dgLev0 hb0_2, BoxAt.dgDifL hb0_2, BoxAt.dgTabL hb0_2, BoxAt.dgTabL0 hb0_2, BoxAt.dgTabL1 hb0_2, BoxAt.dgTabL1' hb0_2, BoxAt.dgDifB hb0_2, BoxAt.dgTabB hb0_2, wrap_id, cv_u8, cv_i64, Nat.zero_add, wrap_u8, eq_el, ne_el, build_el, Int.toNat_zero, build_dg0, build_q, resP_ct, ld34]
    rw [tnP_3 hbb hpp (by omega)]
    exact ⟨by first | rfl | trivial, eB⟩
   ·try simp only [decide_eq_true_eq, decide_eq_false_iff_not, beq_iff_eq, beq_eq_false_iff_ne, bne_iff_ne, ne_eq, Bool.not_eq_true', Bool.not_eq_false', Bool.and_eq_true, Bool.or_eq_true, bne_eq_false_iff_eq, Bool.not_eq_true, Bool.not_eq_false] at c2
    have hEl8 : (EQ X Y).length ≤ 8 := by have := c2; omega
    refine den_skip ?_
    refine den_blk ?_
    refine den_seq ?_
    refine den_region TTok ?_
    intro K hK
    simp -implicitDefEqProofs (disch := first | decide | assumption | omega) only [go_sem, BoxAt.dgL hb0_2, BoxAt.dgP hb0_2, BoxAt.dgS hb0_2, BoxAt.dgDeg hb0_2, BoxAt.dgLev hb0_2, BoxAt.dgDeg0 hb0_2, BoxAt.dgLev0 hb0_2, BoxAt.dgDifL hb0_2, BoxAt.dgTabL hb0_2, BoxAt.dgTabL0 hb0_2, BoxAt.dgTabL1 hb0_2, BoxAt.dgTabL1' hb0_2, BoxAt.dgDifB hb0_2, BoxAt.dgTabB hb0_2, wrap_id, cv_u8, cv_i64, Nat.zero_add, wrap_u8, eq_el, ne_el, build_el, Int.toNat_zero, build_dg0, build_q]
    refine op_bs0Q ?_
    intro v7_0 h7_0 ho7_0 e7_0
    replace hb0_0 := BoxAt.ext hb0_0 e7_0
    replace hb0_1 := BoxAt.ext hb0_1 e7_0
    replace hb0_2 := BoxAt.ext hb0_2 e7_0
    have := Ext.size e7_0
    replace eB := Ext.trans eB e7_0
    have hfho7_0 : Fresh h3.size [h3.size] := Fresh.one _
    have hlho7_0 := OQ.lt ho7_0
    try simp -implicitDefEqProofs (disch := first | decide | assumption | omega) only [go_sem, BoxAt.dgL hb0_2, BoxAt.dgP hb0_2, BoxAt.dgS hb0_2, BoxAt.dgDeg hb0_2, BoxAt.dgLev hb0_2, BoxAt.dgDeg0 hb0_2, BoxAt.dgLev0 hb0_2, BoxAt.dgDifL hb0_2, BoxAt.dgTabL hb0_2, BoxAt.dgTabL0 hb0_2, BoxAt.dgTabL1 hb0_2, BoxAt.dgTabL1' hb0_2, BoxAt.dgDifB hb0_2, BoxAt.dgTabB hb0_2, wrap_id, cv_u8, cv_i64, Nat.zero_add, wrap_u8, eq_el, ne_el, build_el, Int.toNat_zero, build_dg0, build_q]
    refine op_alloc (cs := #[.slice none 0 0]) (by kernel_rfl) ?_
    intro h7_1 e7_1 hb7_1 z7_1
    replace ho7_0 := OQ.ext ho7_0 e7_1
    replace hb0_0 := BoxAt.ext hb0_0 e7_1
    replace hb0_1 := BoxAt.ext hb0_1 e7_1
    replace hb0_2 := BoxAt.ext hb0_2 e7_1
    have := Ext.size e7_1
    replace eB := Ext.trans eB e7_1
    have hfhb7_1 : Fresh h7_0.size [h7_0.size] := Fresh.one _
    have hlhb7_1 := one_lt (show h7_0.size < h7_1.size by omega)
    try simp -implicitDefEqProofs (disch := first | decide | assumption | omega) only [go_sem, BoxAt.dgL hb0_2, BoxAt.dgP hb0_2, BoxAt.dgS hb0_2, BoxAt.dgDeg hb0_2, BoxAt.dgLev hb0_2, BoxAt.dgDeg0 hb0_2, BoxAt.dgLev0 hb0_2, BoxAt.dgDifL hb0_2, BoxAt.dgTabL hb0_2, BoxAt.dgTabL0 hb0_2, BoxAt.dgTabL1 hb0_2, BoxAt.dgTabL1' hb0_2, BoxAt.dgDifB hb0_2, BoxAt.dgTabB hb0_2, wrap_id, cv_u8, cv_i64, Nat.zero_add, wrap_u8, eq_el, ne_el, build_el, Int.toNat_zero, build_dg0, build_q]
    refine op_storeB (cs' := #[v7_0]) st96 hb7_1 rfl (OQ.one ho7_0).2 rfl (by simp) (allOne_mem (l := [v7_0]) ⟨(OQ.one ho7_0).1, trivial⟩) rfl ?_
    intro h7_2 hb7_1 c7_2
    replace ho7_0 := OQ.chg ho7_0 c7_2 (apart_lt hlho7_0 hfhb7_1 (by omega))
    replace hb0_0 := BoxAt.chgA hb0_0 c7_2 (apart_lt hlhb0_0 hfhb7_1 (by omega))
    replace hb0_1 := BoxAt.chgA hb0_1 c7_2 (apart_lt hlhb0_1 hfhb7_1 (by omega))
    replace hb0_2 := BoxAt.chgA hb0_2 c7_2 (apart_lt hlhb0_2 hfhb7_1 (by omega))
    have := c7_2.size
    replace eB := Ext.then eB c7_2 (ge_of hfhb7_1 (by omega))
    try simp -implicitDefEqProofs (disch := first | decide | assumption | omega) only [go_sem, BoxAt.dgL hb0_2, BoxAt.dgP hb0_2, BoxAt.dgS hb0_2, BoxAt.dgDeg hb0_2, BoxAt.dgLev hb0_2, BoxAt.dgDeg0 hb0_2, BoxAt.dgLev0 hb0_2, BoxAt.dgDifL hb0_2, BoxAt.dgTabL hb0_2, BoxAt.dgTabL0 hb0_2, BoxAt.dgTabL1 hb0_2, BoxAt.dgTabL1' hb0_2, BoxAt.dgDifB hb0_2, BoxAt.dgTabB hb0_2, wrap_id, cv_u8, cv_i64, Nat.zero_add, wrap_u8, eq_el, ne_el, build_el, Int.toNat_zero, build_dg0, build_q]
    refine hK _ _ ?_
    clear hK K
    refine den_seq ?_
    refine den_seq ?_
    refine den_region TTok ?_
    intro K hK
    simp -implicitDefEqProofs (disch := first | decide | assumption | omega) only [go_sem, fa34_1, ld2, BoxAt.dgL hb0_0, BoxAt.dgP hb0_0, BoxAt.dgS hb0_0, BoxAt.dgDeg hb0_0, BoxAt.dgLev hb0_0, BoxAt.dgDeg0 hb0_0, BoxAt.dgLev0 hb0_0, BoxAt.dgDifL hb0_0, BoxAt.dgTabL hb0_0, BoxAt.dgTabL0 hb0_0, BoxAt.dgTabL1 hb0_0, BoxAt.dgTabL1' hb0_0, BoxAt.dgDifB hb0_0, BoxAt.dgTabB hb0_0, wrap_id, cv_u8, cv_i64, Nat.zero_add, wrap_u8, eq_el, ne_el, build_el, Int.toNat_zero, build_dg0, build_q]
    refine hK _ _ ?_
    clear hK K
    refine den_block ?_
    refine den_sel [45, 2, 3, 4, 6, 44] ?_
    intro env_5
    simp only [go_sem]
    refine den_loopS (σ := Nat × Value × List Nat) (fun st_ => [(45, .int .i64 (st_.1 : Int))]) (fun st_ H => ((st_.1 : Int) ≤ X.s) ∧ (OQ H st_.2.1 (prI Y.s.toNat st_.1) st_.2.2) ∧ (Fresh (h3.size) st_.2.2) ∧ (Sub ([h3.size] ++ ([h7_0.size])) h7_2.size st_.2.2) ∧ (BoxAt H (h7_0.size) #[st_.2.1] 96) ∧ (Apart st_.2.2 [h7_0.size]) ∧ (Chg ([h3.size] ++ ([h7_0.size])) h7_2 H)) (fun st_ => X.s.toNat - st_.1) (0, v7_0, [h3.size]) ?_ ?_
    ·exact ⟨by omega, by exact ho7_0, hfho7_0, (Sub.left Sub.refl), by simpa using hb7_1, (apart_lt hlho7_0 hfhb7_1 (by omega)), Chg.refl _ _⟩
    ·rintro ⟨i, vhL, fphL⟩ h8 ee7 ⟨hi0, hL, hfhL, sbhL, hbx6, ap_hL_hbx6, cL6⟩
     dsimp only at hi0 hL hfhL sbhL hbx6 ap_hL_hbx6 cL6
     replace hb0_0 := BoxAt.chgA hb0_0 cL6 (Apart.app (apart_lt hlhb0_0 hfho7_0 (by omega)) (apart_lt hlhb0_0 hfhb7_1 (by omega)))
     replace hb0_1 := BoxAt.chgA hb0_1 cL6 (Apart.app (apart_lt hlhb0_1 hfho7_0 (by omega)) (apart_lt hlhb0_1 hfhb7_1 (by omega)))
     replace hb0_2 := BoxAt.chgA hb0_2 cL6 (Apart.app (apart_lt hlhb0_2 hfho7_0 (by omega)) (apart_lt hlhb0_2 hfhb7_1 (by omega)))
     have := cL6.size
     replace eB := Ext.then eB cL6 (ge_app (ge_of hfho7_0 (by omega)) (ge_of hfhb7_1 (by omega)))
     have hlhL := OQ.lt hL
     have hfhbx6 := hfhb7_1
     have hlhbx6 := hlhb7_1
     simp only [List.cons_append, List.nil_append]
     have hll := prI_le (n := Y.s.toNat) (i := i) (by omega) (by omega)
     refine den_seq ?_
     refine den_region TTok ?_
     intro K hK
     simp -implicitDefEqProofs (disch := first | decide | assumption | omega) only [go_sem, wrap_id, cv_u8, cv_i64, Nat.zero_add, wrap_u8, eq_el, ne_el, build_el, Int.toNat_zero, build_dg0, build_q]
     refine hK _ _ ?_
     clear hK K
     refine den_seq ?_
     refine den_cond rfl (fun c3 => ?_) (fun c3 => ?_)
     ·try simp only [decide_eq_true_eq, decide_eq_false_iff_not, beq_iff_eq, beq_eq_false_iff_ne, bne_iff_ne, ne_eq, Bool.not_eq_true', Bool.not_eq_false', Bool.and_eq_true, Bool.or_eq_true, bne_eq_false_iff_eq, Bool.not_eq_true, Bool.not_eq_false] at c3
      refine den_skip ?_
      refine den_seq ?_
      refine den_block ?_
      refine den_seq ?_
      refine den_region TTok ?_
      intro K hK
      simp -implicitDefEqProofs (disch := first | decide | assumption | omega) only [go_sem, wrap_id, cv_u8, cv_i64, Nat.zero_add, wrap_u8, eq_el, ne_el, build_el, Int.toNat_zero, build_dg0, build_q]
      refine hK _ _ ?_
      clear hK K
      refine den_seq ?_
      refine den_region TTok ?_
      intro K hK
      simp -implicitDefEqProofs (disch := first | decide | assumption | omega) only [go_sem, fa34_1, ld2, BoxAt.dgL hb0_1, BoxAt.dgP hb0_1, BoxAt.dgS hb0_1, BoxAt.dgDeg hb0_1, BoxAt.dgLev hb0_1, BoxAt.dgDeg0 hb0_1, BoxAt.dgLev0 hb0_1, BoxAt.dgDifL hb0_1, BoxAt.dgTabL hb0_1, BoxAt.dgTabL0 hb0_1, BoxAt.dgTabL1 hb0_1, BoxAt.dgTabL1' hb0_1, BoxAt.dgDifB hb0_1, BoxAt.dgTabB hb0_1, wrap_id, cv_u8, cv_i64, Nat.zero_add, wrap_u8, eq_el, ne_el, build_el, Int.toNat_zero, build_dg0, build_q]
      refine hK _ _ ?_
      clear hK K
      refine den_block ?_
      refine den_sel [50, 2, 3, 4, 6, 7, 44, 45, 49] ?_
      intro env_9
      simp only [go_sem]
      refine den_loopS (σ := Nat × Value × List Nat) (fun st_ => [(50, .int .i64 (st_.1 : Int))]) (fun st_ H => ((st_.1 : Int) ≤ Y.s) ∧ (OQ H st_.2.1 (prI Y.s.toNat i ++ prR i st_.1) st_.2.2) ∧ (Fresh (h3.size) st_.2.2) ∧ (Sub (fphL ++ ([h7_0.size])) h8.size st_.2.2) ∧ (BoxAt H (h7_0.size) #[st_.2.1] 96) ∧ (Apart st_.2.2 [h7_0.size]) ∧ (Chg (fphL ++ ([h7_0.size])) h8 H)) (fun st_ => Y.s.toNat - st_.1) (0, vhL, fphL) ?_ ?_
      ·exact ⟨by omega, by rw [prR_zero, List.append_nil]; exact hL, hfhL, (Sub.left Sub.refl), by simpa using hbx6, ap_hL_hbx6, Chg.refl _ _⟩
      ·rintro ⟨j, vhM, fphM⟩ h12 ee11 ⟨hi0, hM, hfhM, sbhM, hbx6, ap_hM_hbx6, cL10⟩
       dsimp only at hi0 hM hfhM sbhM hbx6 ap_hM_hbx6 cL10
       replace hb0_0 := BoxAt.chgA hb0_0 cL10 (Apart.app (apart_lt hlhb0_0 hfhL (by omega)) (apart_lt hlhb0_0 hfhbx6 (by omega)))
       replace hb0_1 := BoxAt.chgA hb0_1 cL10 (Apart.app (apart_lt hlhb0_1 hfhL (by omega)) (apart_lt hlhb0_1 hfhbx6 (by omega)))
       replace hb0_2 := BoxAt.chgA hb0_2 cL10 (Apart.app (apart_lt hlhb0_2 hfhL (by omega)) (apart_lt hlhb0_2 hfhbx6 (by omega)))
       have := cL10.size
       replace eB := Ext.then eB cL10 (ge_app (ge_of hfhL (by omega)) (ge_of hfhbx6 (by omega)))
       replace cL6 := Chg.step cL6 cL10 (Sub.app sbhL (Sub.right Sub.refl))
       have sb13 : Sub ([h3.size] ++ ([h7_0.size])) h7_2.size fphM := Sub.trans sbhM (Sub.app sbhL (Sub.right Sub.refl)) (by omega)
       have hlhM := OQ.lt hM
       have hfhbx6 := hfhbx6
       have hlhbx6 := hlhbx6
       simp only [List.cons_append, List.nil_append]
       have hlm := prIR_le (n := Y.s.toNat) (i := i) (j := j) (by omega) (by omega) (by omega)
       refine den_seq ?_
       refine den_region TTok ?_
       intro K hK
       simp -implicitDefEqProofs (disch := first | decide | assumption | omega) only [go_sem, wrap_id, cv_u8, cv_i64, Nat.zero_add, wrap_u8, eq_el, ne_el, build_el, Int.toNat_zero, build_dg0, build_q]
       refine hK _ _ ?_
       clear hK K
       refine den_seq ?_
       refine den_cond rfl (fun c4 => ?_) (fun c4 => ?_)
       ·try simp only [decide_eq_true_eq, decide_eq_false_iff_not, beq_iff_eq, beq_eq_false_iff_ne, bne_iff_ne, ne_eq, Bool.not_eq_true', Bool.not_eq_false', Bool.and_eq_true, Bool.or_eq_true, bne_eq_false_iff_eq, Bool.not_eq_true, Bool.not_eq_false] at c4
        refine den_skip ?_
        refine den_seq ?_
        refine den_block ?_
        refine den_seq ?_
        refine den_region TTok ?_
        intro K hK
        simp -implicitDefEqProofs (disch := first | decide | assumption | omega) only [go_sem, wrap_id, cv_u8, cv_i64, Nat.zero_add, wrap_u8, eq_el, ne_el, build_el, Int.toNat_zero, build_dg0, build_q]
        refine hK _ _ ?_
        clear hK K
        refine den_region TTok ?_
        intro K hK
        simp -implicitDefEqProofs (disch := first | decide | assumption | omega) only [go_sem, ld96, OQ.len hM, OQ.idx hM, OQ.ld hM, BoxAt.cell hbx6, wrap_id, cv_u8, cv_i64, Nat.zero_add, wrap_u8, eq_el, ne_el, build_el, Int.toNat_zero, build_dg0, build_q]
        refine op_bs1Q (q := ((i : Int), (j : Int))) rfl ?_
        try simp -implicitDefEqProofs (disch := first | decide | assumption | omega) only [go_sem, BoxAt.dgL hb0_2, BoxAt.dgP hb0_2, BoxAt.dgS hb0_2, BoxAt.dgDeg hb0_2, BoxAt.dgLev hb0_2, BoxAt.dgDeg0 hb0_2, BoxAt.dgLev0 hb0_2, BoxAt.dgDifL hb0_2, BoxAt.dgTabL hb0_2, BoxAt.dgTabL0 hb0_2, BoxAt.dgTabL1 hb0_2, BoxAt.dgTabL1' hb0_2, BoxAt.dgDifB hb0_2, BoxAt.dgTabB hb0_2, wrap_id, cv_u8, cv_i64, Nat.zero_add, wrap_u8, eq_el, ne_el, build_el, Int.toNat_zero, build_dg0, build_q]
        refine op_append1Q (q := ((i : Int), (j : Int))) hM (by first | omega | (simp; omega)) rfl rfl ?_
        intro v14_5 h14_5 fp14_5 ho14_5 hn14_5 hs14_5 c14_5
        have hsz14_5 := c14_5.size
        have hfho14_5 : Fresh h3.size fp14_5 := Fresh.appd hfhM (Fresh.nil h12.size) (by omega) (by omega) hn14_5 hs14_5
        have sb14 : Sub ([h3.size] ++ ([h7_0.size])) h7_2.size fp14_5 := Sub.grow sb13 Sub.nil (by omega) hs14_5
        have sb15 : Sub (fphL ++ ([h7_0.size])) h8.size fp14_5 := Sub.grow sbhM Sub.nil (by omega) hs14_5
        replace hb0_0 := BoxAt.chgA hb0_0 c14_5 (apart_lt hlhb0_0 hfhM (by omega))
        replace hb0_1 := BoxAt.chgA hb0_1 c14_5 (apart_lt hlhb0_1 hfhM (by omega))
        replace hb0_2 := BoxAt.chgA hb0_2 c14_5 (apart_lt hlhb0_2 hfhM (by omega))
        replace hbx6 := BoxAt.chgA hbx6 c14_5 (Apart.symm ap_hM_hbx6)
        have := c14_5.size
        replace eB := Ext.then eB c14_5 (ge_of hfhM (by omega))
        replace cL6 := Chg.step cL6 c14_5 sb13
        replace cL10 := Chg.step cL10 c14_5 sbhM
        have ap16 : Apart [h7_0.size] fp14_5 := Apart.grow hlhbx6 (by omega) (Apart.symm ap_hM_hbx6) (Apart.nil _) hs14_5
        have hlho14_5 := OQ.lt ho14_5
        try simp -implicitDefEqProofs (disch := first | decide | assumption | omega) only [go_sem, BoxAt.dgL hb0_2, BoxAt.dgP hb0_2, BoxAt.dgS hb0_2, BoxAt.dgDeg hb0_2, BoxAt.dgLev hb0_2, BoxAt.dgDeg0 hb0_2, BoxAt.dgLev0 hb0_2, BoxAt.dgDifL hb0_2, BoxAt.dgTabL hb0_2, BoxAt.dgTabL0 hb0_2, BoxAt.dgTabL1 hb0_2, BoxAt.dgTabL1' hb0_2, BoxAt.dgDifB hb0_2, BoxAt.dgTabB hb0_2, wrap_id, cv_u8, cv_i64, Nat.zero_add, wrap_u8, eq_el, ne_el, build_el, Int.toNat_zero, build_dg0, build_q]
        refine op_storeB (cs' := #[v14_5]) st96 hbx6 rfl (OQ.one ho14_5).2 rfl (by simp) (allOne_mem (l := [v14_5]) ⟨(OQ.one ho14_5).1, trivial⟩) rfl ?_
        intro h14_6 hbx6 c14_6
        replace ho14_5 := OQ.chg ho14_5 c14_6 (Apart.symm ap16)
        replace hb0_0 := BoxAt.chgA hb0_0 c14_6 (apart_lt hlhb0_0 hfhbx6 (by omega))
        replace hb0_1 := BoxAt.chgA hb0_1 c14_6 (apart_lt hlhb0_1 hfhbx6 (by omega))
        replace hb0_2 := BoxAt.chgA hb0_2 c14_6 (apart_lt hlhb0_2 hfhbx6 (by omega))
        have := c14_6.size
        replace eB := Ext.then eB c14_6 (ge_of hfhbx6 (by omega))
        replace cL6 := Chg.step cL6 c14_6 (Sub.right Sub.refl)
        replace cL10 := Chg.step cL10 c14_6 (Sub.right Sub.refl)
        try simp -implicitDefEqProofs (disch := first | decide | assumption | omega) only [go_sem, BoxAt.dgL hb0_2, BoxAt.dgP hb0_2, BoxAt.dgS hb0_2, BoxAt.dgDeg hb0_2, BoxAt.dgLev hb0_2, BoxAt.dgDeg0 hb0_2, BoxAt.dgLev0 hb0_2, BoxAt.dgDifL hb0_2, BoxAt.dgTabL hb0_2, BoxAt.dgTabL0 hb0_2, BoxAt.dgTabL1 hb0_2, BoxAt.dgTabL1' hb0_2, BoxAt.dgDifB hb0_2, BoxAt.dgTabB hb0_2, wrap_id, cv_u8, cv_i64, Nat.zero_add, wrap_u8, eq_el, ne_el, build_el, Int.toNat_zero, build_dg0, build_q]
        refine hK _ _ ?_
        clear hK K
        refine den_blk ?_
        refine den_region TTok ?_
        intro K hK
        simp -implicitDefEqProofs (disch := first | decide | assumption | omega) only [go_sem, wrap_id, cv_u8, cv_i64, Nat.zero_add, wrap_u8, eq_el, ne_el, build_el, Int.toNat_zero, build_dg0, build_q]
        refine hK _ _ ?_
        clear hK K
        refine den_stop ?_
        rw [List.append_assoc, prR_step] at ho14_5
        exact ⟨(j + 1, v14_5, fp14_5), by simp [HasL, puts_at], ⟨by first | omega | (dsimp only; omega), ho14_5, hfho14_5, sb15, hbx6, (Apart.symm ap16), cL10⟩, by first | omega | (dsimp only; omega)⟩
       ·try simp only [decide_eq_true_eq, decide_eq_false_iff_not, beq_iff_eq, beq_eq_false_iff_ne, bne_iff_ne, ne_eq, Bool.not_eq_true', Bool.not_eq_false', Bool.and_eq_true, Bool.or_eq_true, bne_eq_false_iff_eq, Bool.not_eq_true, Bool.not_eq_false] at c4
        refine den_exit ?_
        refine denX_code ?_
        refine denX_stop ?_
        refine denX_hit ?_
        refine den_blk ?_
        refine den_region TTok ?_
        intro K hK
        simp -implicitDefEqProofs (disch := first | decide | assumption | omega) only [go_sem, wrap_id, cv_u8, cv_i64, Nat.zero_add, wrap_u8, eq_el, ne_el, build_el, Int.toNat_zero, build_dg0, build_q]
        refine hK _ _ ?_
        clear hK K
        refine den_stop ?_
        rw [show j = Y.s.toNat by omega, prI_step] at hM
        exact ⟨(i + 1, vhM, fphM), by simp [HasL, puts_at], ⟨by first | omega | (dsimp only; omega), hM, hfhM, sb13, hbx6, ap_hM_hbx6, cL6⟩, by first | omega | (dsimp only; omega)⟩
     ·try simp only [decide_eq_true_eq, decide_eq_false_iff_not, beq_iff_eq, beq_eq_false_iff_ne, bne_iff_ne, ne_eq, Bool.not_eq_true', Bool.not_eq_false', Bool.and_eq_true, Bool.or_eq_true, bne_eq_false_iff_eq, Bool.not_eq_true, Bool.not_eq_false] at c3
      refine den_exit ?_
      refine denX_code ?_
      refine denX_stop ?_
      refine denX_hit ?_
      refine den_seq ?_
      rw [show i = X.s.toNat by omega] at hL
      change OQ _ _ (prL X Y) _ at hL
      have hlp := prL_len hfX hfY
      refine den_region TTok ?_
      intro K hK
      simp -implicitDefEqProofs (disch := first | decide | assumption | omega) only [go_sem, BoxAt.dgL hb0_0, BoxAt.dgP hb0_0, BoxAt.dgS hb0_0, BoxAt.dgDeg hb0_0, BoxAt.dgLev hb0_0, BoxAt.dgDeg0 hb0_0, BoxAt.dgLev0 hb0_0, BoxAt.dgDifL hb0_0, BoxAt.dgTabL hb0_0, BoxAt.dgTabL0 hb0_0, BoxAt.dgTabL1 hb0_0, BoxAt.dgTabL1' hb0_0, BoxAt.dgDifB hb0_0, BoxAt.dgTabB hb0_0, BoxAt.dgL hb0_1, BoxAt.dgP hb0_1, BoxAt.dgS hb0_1, BoxAt.dgDeg hb0_1, BoxAt.dgLev hb0_1, BoxAt.dgDeg0 hb0_1, BoxAt.dgLev0 hb0_1, BoxAt.dgDifL hb0_1, BoxAt.dgTabL hb0_1, BoxAt.dgTabL0 hb0_1, BoxAt.dgTabL1 hb0_1, BoxAt.dgTabL1' hb0_1, BoxAt.dgDifB hb0_1, BoxAt.dgTabB hb0_1, wrap_id, cv_u8, cv_i64, Nat.zero_add, wrap_u8, eq_el, ne_el, build_el, Int.toNat_zero, build_dg0, build_q]
      refine op_alloc (cs := #[.nilFunc]) (by kernel_rfl) ?_
      intro h17_1 e17_1 hb17_1 z17_1
      replace hL := OQ.ext hL e17_1
      replace hb0_0 := BoxAt.ext hb0_0 e17_1
      replace hb0_1 := BoxAt.ext hb0_1 e17_1
      replace hb0_2 := BoxAt.ext hb0_2 e17_1
      replace hbx6 := BoxAt.ext hbx6 e17_1
      have := Ext.size e17_1
      replace eB := Ext.trans eB e17_1
      have hfhb17_1 : Fresh h8.size [h8.size] := Fresh.one _
      have hlhb17_1 := one_lt (show h8.size < h17_1.size by omega)
      try simp -implicitDefEqProofs (disch := first | decide | assumption | omega) only [go_sem, BoxAt.dgL hb0_2, BoxAt.dgP hb0_2, BoxAt.dgS hb0_2, BoxAt.dgDeg hb0_2, BoxAt.dgLev hb0_2, BoxAt.dgDeg0 hb0_2, BoxAt.dgLev0 hb0_2, BoxAt.dgDifL hb0_2, BoxAt.dgTabL hb0_2, BoxAt.dgTabL0 hb0_2, BoxAt.dgTabL1 hb0_2, BoxAt.dgTabL1' hb0_2, BoxAt.dgDifB hb0_2, BoxAt.dgTabB hb0_2, wrap_id, cv_u8, cv_i64, Nat.zero_add, wrap_u8, eq_el, ne_el, build_el, Int.toNat_zero, build_dg0, build_q]
      refine op_storeB (cs' := #[(.func (.func 62) #[] #[.pointer (some ⟨h.size, 0, none⟩), .pointer (some ⟨h0_0.size, 0, none⟩)])]) st99 hb17_1 rfl rfl rfl (by simp) (allOne_mem (l := [(.func (.func 62) #[] #[.pointer (some ⟨h.size, 0, none⟩), .pointer (some ⟨h0_0.size, 0, none⟩)])]) ⟨rfl, trivial⟩) rfl ?_
      intro h17_2 hb17_1 c17_2
      replace hL := OQ.chg hL c17_2 (apart_lt hlhL hfhb17_1 (by omega))
      replace hb0_0 := BoxAt.chgA hb0_0 c17_2 (apart_lt hlhb0_0 hfhb17_1 (by omega))
      replace hb0_1 := BoxAt.chgA hb0_1 c17_2 (apart_lt hlhb0_1 hfhb17_1 (by omega))
      replace hb0_2 := BoxAt.chgA hb0_2 c17_2 (apart_lt hlhb0_2 hfhb17_1 (by omega))
      replace hbx6 := BoxAt.chgA hbx6 c17_2 (apart_lt hlhbx6 hfhb17_1 (by omega))
      have := c17_2.size
      replace eB := Ext.then eB c17_2 (ge_of hfhb17_1 (by omega))
      try simp -implicitDefEqProofs (disch := first | decide | assumption | omega) only [go_sem, BoxAt.dgL hb0_2, BoxAt.dgP hb0_2, BoxAt.dgS hb0_2, BoxAt.dgDeg hb0_2, BoxAt.dgLev hb0_2, BoxAt.dgDeg0 hb0_2, BoxAt.dgLev0 hb0_2, BoxAt.dgDifL hb0_2, BoxAt.dgTabL hb0_2, BoxAt.dgTabL0 hb0_2, BoxAt.dgTabL1 hb0_2, BoxAt.dgTabL1' hb0_2, BoxAt.dgDifB hb0_2, BoxAt.dgTabB hb0_2, wrap_id, cv_u8, cv_i64, Nat.zero_add, wrap_u8, eq_el, ne_el, build_el, Int.toNat_zero, build_dg0, build_q]
      refine hK _ _ ?_
      clear hK K
      refine den_seq ?_
      refine den_region TTok ?_
      intro K hK
      simp -implicitDefEqProofs (disch := first | decide | assumption | omega) only [go_sem, ld96, OQ.len hL, OQ.idx hL, OQ.ld hL, BoxAt.cell hbx6, BoxAt.cell hb17_1, wrap_id, cv_u8, cv_i64, Nat.zero_add, wrap_u8, eq_el, ne_el, build_el, Int.toNat_zero, build_dg0, build_q]
      try simp -implicitDefEqProofs (disch := first | decide | assumption | omega) only [go_sem, BoxAt.dgL hb0_2, BoxAt.dgP hb0_2, BoxAt.dgS hb0_2, BoxAt.dgDeg hb0_2, BoxAt.dgLev hb0_2, BoxAt.dgDeg0 hb0_2, BoxAt.dgLev0 hb0_2, BoxAt.dgDifL hb0_2, BoxAt.dgTabL hb0_2, BoxAt.dgTabL0 hb0_2, BoxAt.dgTabL1 hb0_2, BoxAt.dgTabL1' hb0_2, BoxAt.dgDifB hb0_2, BoxAt.dgTabB hb0_2, wrap_id, cv_u8, cv_i64, Nat.zero_add, wrap_u8, eq_el, ne_el, build_el, Int.toNat_zero, build_dg0, build_q]
      refine CallA.mono (srt_ok _ (prL X Y) fphL _ _ _ (dgQ X Y) (fun q hq => dgQ_b hfX hfY hq) (fun x hx y hy h' c' => tcmp_ok X Y x y _ _ _ h' (BoxAt.chgA hb0_0 c' (apart_lt hlhb0_0 hfhL (by omega))) (BoxAt.chgA hb0_1 c' (apart_lt hlhb0_1 hfhL (by omega))) (BoxAt.chgA hb17_1 c' (apart_gt hfhb17_1 hlhL (by omega))) (qbA hfX hfY hx).1 (qbA hfX hfY hx).2.1 (qbA hfX hfY hx).2.2 (qbA hfX hfY hy).1 (qbA hfX hfY hy).2.1 (qbA hfX hfY hy).2.2) hL (hfhL.mono (Nat.zero_le _)) (by omega) (by omega)) ?_
      intro v_ h18_2
      rintro ⟨rfl, ho18_2, c18_2⟩
      change OQ _ _ (srQ X Y) _ at ho18_2
      replace hb0_0 := BoxAt.chgA hb0_0 c18_2 (apart_lt hlhb0_0 hfhL (by omega))
      replace hb0_1 := BoxAt.chgA hb0_1 c18_2 (apart_lt hlhb0_1 hfhL (by omega))
      replace hb0_2 := BoxAt.chgA hb0_2 c18_2 (apart_lt hlhb0_2 hfhL (by omega))
      replace hbx6 := BoxAt.chgA hbx6 c18_2 (Apart.symm ap_hL_hbx6)
      replace hb17_1 := BoxAt.chgA hb17_1 c18_2 (apart_gt hfhb17_1 hlhL (by omega))
      have := c18_2.size
      replace eB := Ext.then eB c18_2 (ge_of hfhL (by omega))
      have ap17 : Apart [h7_0.size] fphL := (Apart.symm ap_hL_hbx6)
      have ap18 : Apart [h8.size] fphL := (apart_gt hfhb17_1 hlhL (by omega))
      have hlho18_2 := hlhL
      try simp -implicitDefEqProofs (disch := first | decide | assumption | omega) only [go_sem, BoxAt.dgL hb0_2, BoxAt.dgP hb0_2, BoxAt.dgS hb0_2, BoxAt.dgDeg hb0_2, BoxAt.dgLev hb0_2, BoxAt.dgDeg0 hb0_2, BoxAt.dgLev0 hb0_2, BoxAt.dgDifL hb0_2, BoxAt.dgTabL hb0_2, BoxAt.dgTabL0 hb0_2, BoxAt.dgTabL1 hb0_2, BoxAt.dgTabL1' hb0_2, BoxAt.dgDifB hb0_2, BoxAt.dgTabB hb0_2, wrap_id, cv_u8, cv_i64, Nat.zero_add, wrap_u8, eq_el, ne_el, build_el, Int.toNat_zero, build_dg0, build_q]
      refine hK _ _ ?_
      clear hK K
      refine den_seq ?_
      obtain ⟨D1, hD1⟩ : ∃ D1, D1 = dgN X.p ((srQ X Y).length : Int) := ⟨_, rfl⟩
      have hbD : buildV TT 34 [(0, .int .i64 X.p), (1, .int .i64 ((srQ X Y).length : Int))] = some (.agg (dgA D1)) := by rw [hD1]; exact build_dgN _ _
      refine den_sel [2, 3, 4, 6, 9] ?_
      intro env_19
      simp only [go_sem]
      refine den_drawTJ (σ := Nat) TTok (fun st_ => [(10, .pointer (some ⟨st_, 0, none⟩))]) (fun st_ H => (BoxAt H st_ (dgA D1) 34) ∧ (Fresh h18_2.size [st_]) ∧ (Ext h18_2 H)) mixed [6] [(0, true), (1, true), (2, true)] (.fork 3 [(4, true), (5, false), (6, false)] .fin 5 [(3, false), (4, true), (6, false)] .fin) (by kernel_rfl) ?_ ?_
      ·intro K hK
       have cJ20 := Ext.refl h18_2
       simp -implicitDefEqProofs (disch := first | decide | assumption | omega) only [go_sem, fa34_0, ld96, ld2, OQ.len ho18_2, OQ.idx ho18_2, OQ.ld ho18_2, BoxAt.dgL hb0_0, BoxAt.dgP hb0_0, BoxAt.dgS hb0_0, BoxAt.dgDeg hb0_0, BoxAt.dgLev hb0_0, BoxAt.dgDeg0 hb0_0, BoxAt.dgLev0 hb0_0, BoxAt.dgDifL hb0_0, BoxAt.dgTabL hb0_0, BoxAt.dgTabL0 hb0_0, BoxAt.dgTabL1 hb0_0, BoxAt.dgTabL1' hb0_0, BoxAt.dgDifB hb0_0, BoxAt.dgTabB hb0_0, BoxAt.cell hbx6, wrap_id, cv_u8, cv_i64, Nat.zero_add, wrap_u8, eq_el, ne_el, build_el, Int.toNat_zero, build_dg0, build_q, hbD]
       refine And.intro ?_ ?_
       ·simp -implicitDefEqProofs (disch := first | decide | assumption | omega) only [go_sem, BoxAt.dgL hb0_2, BoxAt.dgP hb0_2, BoxAt.dgS hb0_2, BoxAt.dgDeg hb0_2, BoxAt.dgLev hb0_2, BoxAt.dgDeg0 hb0_2, BoxAt.dgLev0 hb0_2, BoxAt.dgDifL hb0_2, BoxAt.dgTabL hb0_2, BoxAt.dgTabL0 hb0_2, BoxAt.dgTabL1 hb0_2, BoxAt.dgTabL1' hb0_2, BoxAt.dgDifB hb0_2, BoxAt.dgTabB hb0_2, wrap_id, cv_u8, cv_i64, Nat.zero_add, wrap_u8, eq_el, ne_el, build_el, Int.toNat_zero, build_dg0, build_q, hbD]
        try simp -implicitDefEqProofs (disch := first | decide | assumption | omega) only [go_sem, BoxAt.dgL hb0_2, BoxAt.dgP hb0_2, BoxAt.dgS hb0_2, BoxAt.dgDeg hb0_2, BoxAt.dgLev hb0_2, BoxAt.dgDeg0 hb0_2, BoxAt.dgLev0 hb0_2, BoxAt.dgDifL hb0_2, BoxAt.dgTabL hb0_2, BoxAt.dgTabL0 hb0_2, BoxAt.dgTabL1 hb0_2, BoxAt.dgTabL1' hb0_2, BoxAt.dgDifB hb0_2, BoxAt.dgTabB hb0_2, wrap_id, cv_u8, cv_i64, Nat.zero_add, wrap_u8, eq_el, ne_el, build_el, Int.toNat_zero, build_dg0, build_q, hbD]
        refine CallA.mono (szQ_ok _ _ _ _ ho18_2) ?_
        intro v_ h19_3
        rintro ⟨rfl, e19_3⟩
        replace ho18_2 := OQ.ext ho18_2 e19_3
        replace hb0_0 := BoxAt.ext hb0_0 e19_3
        replace hb0_1 := BoxAt.ext hb0_1 e19_3
        replace hb0_2 := BoxAt.ext hb0_2 e19_3
        replace hbx6 := BoxAt.ext hbx6 e19_3
        replace hb17_1 := BoxAt.ext hb17_1 e19_3
        have := Ext.size e19_3
        replace eB := Ext.trans eB e19_3
        replace cJ20 := Ext.trans cJ20 e19_3
        try simp (disch := decide) only [outv_some, outv_none, put_puts]
        refine plK_pres (Ext.pres e19_3) ?_
        try simp -implicitDefEqProofs (disch := first | decide | assumption | omega) only [go_sem, wrap_id, cv_u8, cv_i64, Nat.zero_add, wrap_u8, eq_el, ne_el, build_el, Int.toNat_zero, build_dg0, build_q, hbD]
        refine op_alloc (cs := dgA dgZ) (by kernel_rfl) ?_
        intro h19_5 e19_5 hb19_5 z19_5
        replace ho18_2 := OQ.ext ho18_2 e19_5
        replace hb0_0 := BoxAt.ext hb0_0 e19_5
        replace hb0_1 := BoxAt.ext hb0_1 e19_5
        replace hb0_2 := BoxAt.ext hb0_2 e19_5
        replace hbx6 := BoxAt.ext hbx6 e19_5
        replace hb17_1 := BoxAt.ext hb17_1 e19_5
        have := Ext.size e19_5
        replace eB := Ext.trans eB e19_5
        replace cJ20 := Ext.trans cJ20 e19_5
        have hfhb19_5 : Fresh h19_3.size [h19_3.size] := Fresh.one _
        have hlhb19_5 := one_lt (show h19_3.size < h19_5.size by omega)
        try simp (disch := decide) only [outv_some, outv_none, put_puts]
        refine plK_pres (Ext.pres e19_5) ?_
        try simp -implicitDefEqProofs (disch := first | decide | assumption | omega) only [go_sem, BoxAt.dgL hb0_2, BoxAt.dgP hb0_2, BoxAt.dgS hb0_2, BoxAt.dgDeg hb0_2, BoxAt.dgLev hb0_2, BoxAt.dgDeg0 hb0_2, BoxAt.dgLev0 hb0_2, BoxAt.dgDifL hb0_2, BoxAt.dgTabL hb0_2, BoxAt.dgTabL0 hb0_2, BoxAt.dgTabL1 hb0_2, BoxAt.dgTabL1' hb0_2, BoxAt.dgDifB hb0_2, BoxAt.dgTabB hb0_2, wrap_id, cv_u8, cv_i64, Nat.zero_add, wrap_u8, eq_el, ne_el, build_el, Int.toNat_zero, build_dg0, build_q, hbD]
        generalize hDA19_6 : dgA D1 = DA19_6
        refine op_storeB (o := 0) (vs := DA19_6) (cs' := DA19_6) st34 hb19_5 rfl rfl (by rw [← hDA19_6]; exact dgA_sz _) (by rw [dgA_sz]; decide) (by rw [← hDA19_6]; exact dgA_one) (by rw [← hDA19_6]; exact dgA_all) ?_
        intro h19_6 hb19_5 c19_6
        subst hDA19_6
        replace ho18_2 := OQ.chg ho18_2 c19_6 (apart_lt hlho18_2 hfhb19_5 (by omega))
        replace hb0_0 := BoxAt.chgA hb0_0 c19_6 (apart_lt hlhb0_0 hfhb19_5 (by omega))
        replace hb0_1 := BoxAt.chgA hb0_1 c19_6 (apart_lt hlhb0_1 hfhb19_5 (by omega))
        replace hb0_2 := BoxAt.chgA hb0_2 c19_6 (apart_lt hlhb0_2 hfhb19_5 (by omega))
        replace hbx6 := BoxAt.chgA hbx6 c19_6 (apart_lt hlhbx6 hfhb19_5 (by omega))
        replace hb17_1 := BoxAt.chgA hb17_1 c19_6 (apart_lt hlhb17_1 hfhb19_5 (by omega))
        have := c19_6.size
        replace eB := Ext.then eB c19_6 (ge_of hfhb19_5 (by omega))
        replace cJ20 := Ext.then cJ20 c19_6 (ge_of hfhb19_5 (by omega))
        try simp (disch := decide) only [outv_some, outv_none, put_puts]
        refine plK_last (by decide) ?_
        try simp -implicitDefEqProofs (disch := first | decide | assumption | omega) only [go_sem, BoxAt.dgL hb0_2, BoxAt.dgP hb0_2, BoxAt.dgS hb0_2, BoxAt.dgDeg hb0_2, BoxAt.dgLev hb0_2, BoxAt.dgDeg0 hb0_2, BoxAt.dgLev0 hb0_2, BoxAt.dgDifL hb0_2, BoxAt.dgTabL hb0_2, BoxAt.dgTabL0 hb0_2, BoxAt.dgTabL1 hb0_2, BoxAt.dgTabL1' hb0_2, BoxAt.dgDifB hb0_2, BoxAt.dgTabB hb0_2, wrap_id, cv_u8, cv_i64, Nat.zero_add, wrap_u8, eq_el, ne_el, build_el, Int.toNat_zero, build_dg0, build_q, hbD]
        exact hK h19_3.size _ _ (by simp [HasL, puts_at]) ⟨hb19_5, (hfhb19_5.mono (by omega)), cJ20⟩
       ·simp -implicitDefEqProofs (disch := first | decide | assumption | omega) only [go_sem, BoxAt.dgL hb0_2, BoxAt.dgP hb0_2, BoxAt.dgS hb0_2, BoxAt.dgDeg hb0_2, BoxAt.dgLev hb0_2, BoxAt.dgDeg0 hb0_2, BoxAt.dgLev0 hb0_2, BoxAt.dgDifL hb0_2, BoxAt.dgTabL hb0_2, BoxAt.dgTabL0 hb0_2, BoxAt.dgTabL1 hb0_2, BoxAt.dgTabL1' hb0_2, BoxAt.dgDifB hb0_2, BoxAt.dgTabB hb0_2, wrap_id, cv_u8, cv_i64, Nat.zero_add, wrap_u8, eq_el, ne_el, build_el, Int.toNat_zero, build_dg0, build_q, hbD]
        refine op_alloc (cs := dgA dgZ) (by kernel_rfl) ?_
        intro h19_5 e19_5 hb19_5 z19_5
        replace ho18_2 := OQ.ext ho18_2 e19_5
        replace hb0_0 := BoxAt.ext hb0_0 e19_5
        replace hb0_1 := BoxAt.ext hb0_1 e19_5
        replace hb0_2 := BoxAt.ext hb0_2 e19_5
        replace hbx6 := BoxAt.ext hbx6 e19_5
        replace hb17_1 := BoxAt.ext hb17_1 e19_5
        have := Ext.size e19_5
        replace eB := Ext.trans eB e19_5
        replace cJ20 := Ext.trans cJ20 e19_5
        have hfhb19_5 : Fresh h18_2.size [h18_2.size] := Fresh.one _
        have hlhb19_5 := one_lt (show h18_2.size < h19_5.size by omega)
        try simp (disch := decide) only [outv_some, outv_none, put_puts]
        refine plK_pres (Ext.pres e19_5) ?_
        try simp -implicitDefEqProofs (disch := first | decide | assumption | omega) only [go_sem, BoxAt.dgL hb0_2, BoxAt.dgP hb0_2, BoxAt.dgS hb0_2, BoxAt.dgDeg hb0_2, BoxAt.dgLev hb0_2, BoxAt.dgDeg0 hb0_2, BoxAt.dgLev0 hb0_2, BoxAt.dgDifL hb0_2, BoxAt.dgTabL hb0_2, BoxAt.dgTabL0 hb0_2, BoxAt.dgTabL1 hb0_2, BoxAt.dgTabL1' hb0_2, BoxAt.dgDifB hb0_2, BoxAt.dgTabB hb0_2, wrap_id, cv_u8, cv_i64, Nat.zero_add, wrap_u8, eq_el, ne_el, build_el, Int.toNat_zero, build_dg0, build_q, hbD]
        try simp -implicitDefEqProofs (disch := first | decide | assumption | omega) only [go_sem, BoxAt.dgL hb0_2, BoxAt.dgP hb0_2, BoxAt.dgS hb0_2, BoxAt.dgDeg hb0_2, BoxAt.dgLev hb0_2, BoxAt.dgDeg0 hb0_2, BoxAt.dgLev0 hb0_2, BoxAt.dgDifL hb0_2, BoxAt.dgTabL hb0_2, BoxAt.dgTabL0 hb0_2, BoxAt.dgTabL1 hb0_2, BoxAt.dgTabL1' hb0_2, BoxAt.dgDifB hb0_2, BoxAt.dgTabB hb0_2, wrap_id, cv_u8, cv_i64, Nat.zero_add, wrap_u8, eq_el, ne_el, build_el, Int.toNat_zero, build_dg0, build_q, hbD]
        refine CallA.mono (szQ_ok _ _ _ _ ho18_2) ?_
        intro v_ h19_3
        rintro ⟨rfl, e19_3⟩
        replace ho18_2 := OQ.ext ho18_2 e19_3
        replace hb0_0 := BoxAt.ext hb0_0 e19_3
        replace hb0_1 := BoxAt.ext hb0_1 e19_3
        replace hb0_2 := BoxAt.ext hb0_2 e19_3
        replace hbx6 := BoxAt.ext hbx6 e19_3
        replace hb17_1 := BoxAt.ext hb17_1 e19_3
        replace hb19_5 := BoxAt.ext hb19_5 e19_3
        have := Ext.size e19_3
        replace eB := Ext.trans eB e19_3
        replace cJ20 := Ext.trans cJ20 e19_3
        try simp (disch := decide) only [outv_some, outv_none, put_puts]
        refine plK_pres (Ext.pres e19_3) ?_
        try simp -implicitDefEqProofs (disch := first | decide | assumption | omega) only [go_sem, wrap_id, cv_u8, cv_i64, Nat.zero_add, wrap_u8, eq_el, ne_el, build_el, Int.toNat_zero, build_dg0, build_q, hbD]
        generalize hDA19_6 : dgA D1 = DA19_6
        refine op_storeB (o := 0) (vs := DA19_6) (cs' := DA19_6) st34 hb19_5 rfl rfl (by rw [← hDA19_6]; exact dgA_sz _) (by rw [dgA_sz]; decide) (by rw [← hDA19_6]; exact dgA_one) (by rw [← hDA19_6]; exact dgA_all) ?_
        intro h19_6 hb19_5 c19_6
        subst hDA19_6
        replace ho18_2 := OQ.chg ho18_2 c19_6 (apart_lt hlho18_2 hfhb19_5 (by omega))
        replace hb0_0 := BoxAt.chgA hb0_0 c19_6 (apart_lt hlhb0_0 hfhb19_5 (by omega))
        replace hb0_1 := BoxAt.chgA hb0_1 c19_6 (apart_lt hlhb0_1 hfhb19_5 (by omega))
        replace hb0_2 := BoxAt.chgA hb0_2 c19_6 (apart_lt hlhb0_2 hfhb19_5 (by omega))
        replace hbx6 := BoxAt.chgA hbx6 c19_6 (apart_lt hlhbx6 hfhb19_5 (by omega))
        replace hb17_1 := BoxAt.chgA hb17_1 c19_6 (apart_lt hlhb17_1 hfhb19_5 (by omega))
        have := c19_6.size
        replace eB := Ext.then eB c19_6 (ge_of hfhb19_5 (by omega))
        replace cJ20 := Ext.then cJ20 c19_6 (ge_of hfhb19_5 (by omega))
        try simp (disch := decide) only [outv_some, outv_none, put_puts]
        refine plK_last (by decide) ?_
        try simp -implicitDefEqProofs (disch := first | decide | assumption | omega) only [go_sem, BoxAt.dgL hb0_2, BoxAt.dgP hb0_2, BoxAt.dgS hb0_2, BoxAt.dgDeg hb0_2, BoxAt.dgLev hb0_2, BoxAt.dgDeg0 hb0_2, BoxAt.dgLev0 hb0_2, BoxAt.dgDifL hb0_2, BoxAt.dgTabL hb0_2, BoxAt.dgTabL0 hb0_2, BoxAt.dgTabL1 hb0_2, BoxAt.dgTabL1' hb0_2, BoxAt.dgDifB hb0_2, BoxAt.dgTabB hb0_2, wrap_id, cv_u8, cv_i64, Nat.zero_add, wrap_u8, eq_el, ne_el, build_el, Int.toNat_zero, build_dg0, build_q, hbD]
        exact hK h18_2.size _ _ (by simp [HasL, puts_at]) ⟨hb19_5, (hfhb19_5.mono (by omega)), cJ20⟩
      ·rintro bJhb19_5 hj21 ee23 ⟨hb19_5, hfhb19_5, eJ22⟩
       replace ho18_2 := OQ.ext ho18_2 eJ22
       replace hb0_0 := BoxAt.ext hb0_0 eJ22
       replace hb0_1 := BoxAt.ext hb0_1 eJ22
       replace hb0_2 := BoxAt.ext hb0_2 eJ22
       replace hbx6 := BoxAt.ext hbx6 eJ22
       replace hb17_1 := BoxAt.ext hb17_1 eJ22
       have := Ext.size eJ22
       replace eB := Ext.trans eB eJ22
       have hlhb19_5 := one_lt hb19_5.lt
       simp only [List.cons_append, List.nil_append]
       refine den_seq ?_
       refine den_region TTok ?_
       intro K hK
       simp -implicitDefEqProofs (disch := first | decide | assumption | omega) only [go_sem, OQ.len ho18_2, OQ.idx ho18_2, OQ.ld ho18_2, BoxAt.dgL hb0_0, BoxAt.dgP hb0_0, BoxAt.dgS hb0_0, BoxAt.dgDeg hb0_0, BoxAt.dgLev hb0_0, BoxAt.dgDeg0 hb0_0, BoxAt.dgLev0 hb0_0, BoxAt.dgDifL hb0_0, BoxAt.dgTabL hb0_0, BoxAt.dgTabL0 hb0_0, BoxAt.dgTabL1 hb0_0, BoxAt.dgTabL1' hb0_0, BoxAt.dgDifB hb0_0, BoxAt.dgTabB hb0_0, BoxAt.cell hbx6, wrap_id, cv_u8, cv_i64, Nat.zero_add, wrap_u8, eq_el, ne_el, build_el, Int.toNat_zero, build_dg0, build_q]
       refine hK _ _ ?_
       clear hK K
       refine den_seq ?_
       refine den_seq ?_
       refine den_region TTok ?_
       intro K hK
       simp -implicitDefEqProofs (disch := first | decide | assumption | omega) only [go_sem, ld96, OQ.len ho18_2, OQ.idx ho18_2, OQ.ld ho18_2, BoxAt.cell hbx6, wrap_id, cv_u8, cv_i64, Nat.zero_add, wrap_u8, eq_el, ne_el, build_el, Int.toNat_zero, build_dg0, build_q]
       refine hK _ _ ?_
       clear hK K
       refine den_block ?_
       refine den_sel [73, 2, 3, 4, 6, 9, 10, 11, 71, 72] ?_
       intro env_24
       simp only [go_sem]
       refine den_loopS (σ := Nat) (fun st_ => [(73, .int .i64 (st_ : Int))]) (fun st_ H => (st_ ≤ (srQ X Y).length) ∧ (∀ q, q < st_ → dgK X Y q ≤ 5 ∧ lvK X Y q ≤ 5) ∧ (BoxAt H (bJhb19_5) (dgA (tnR X Y st_)) 34) ∧ (Chg [bJhb19_5] hj21 H)) (fun st_ => (srQ X Y).length - st_) 0 ?_ ?_
       ·exact ⟨by omega, fun q h => by omega, by rw [tnR_0, ← srQ_len hfX hfY, ← hD1]; exact hb19_5, Chg.refl _ _⟩
       ·rintro k h27 ee26 ⟨hk, hft, hbx10, cL25⟩
        replace ho18_2 := OQ.chg ho18_2 cL25 (apart_lt hlho18_2 hfhb19_5 (by omega))
        replace hb0_0 := BoxAt.chgA hb0_0 cL25 (apart_lt hlhb0_0 hfhb19_5 (by omega))
        replace hb0_1 := BoxAt.chgA hb0_1 cL25 (apart_lt hlhb0_1 hfhb19_5 (by omega))
        replace hb0_2 := BoxAt.chgA hb0_2 cL25 (apart_lt hlhb0_2 hfhb19_5 (by omega))
        replace hbx6 := BoxAt.chgA hbx6 cL25 (apart_lt hlhbx6 hfhb19_5 (by omega))
        replace hb17_1 := BoxAt.chgA hb17_1 cL25 (apart_lt hlhb17_1 hfhb19_5 (by omega))
        have := cL25.size
        replace eB := Ext.then eB cL25 (ge_of hfhb19_5 (by omega))
        have hfhbx10 := hfhb19_5
        have hlhbx10 := hlhb19_5
        simp only [List.cons_append, List.nil_append]
        refine den_seq ?_
        refine den_region TTok ?_
        intro K hK
        simp -implicitDefEqProofs (disch := first | decide | assumption | omega) only [go_sem, wrap_id, cv_u8, cv_i64, Nat.zero_add, wrap_u8, eq_el, ne_el, build_el, Int.toNat_zero, build_dg0, build_q]
        refine hK _ _ ?_
        clear hK K
        refine den_seq ?_
        refine den_cond rfl (fun c5 => ?_) (fun c5 => ?_)
        ·try simp only [decide_eq_true_eq, decide_eq_false_iff_not, beq_iff_eq, beq_eq_false_iff_ne, bne_iff_ne, ne_eq, Bool.not_eq_true', Bool.not_eq_false', Bool.and_eq_true, Bool.or_eq_true, bne_eq_false_iff_eq, Bool.not_eq_true, Bool.not_eq_false] at c5
         refine den_skip ?_
         refine den_seq ?_
         refine den_block ?_
         refine den_seq ?_
         have hijk := ij_b hfX hfY (k := k) (by omega)
         have hik := EQ_i hfX hfY (k := k) (by omega)
         have hjk := EQ_j hfX hfY (k := k) (by omega)
         have hrXk := hfX.row (iQ X Y k) (by omega)
         have hrYk := hfY.row (jQ X Y k) (by omega)
         have hdXk := hrXk.deg
         have hdYk := hrYk.deg
         have hlXk := hrXk.lev
         have hlYk := hrYk.lev
         have hpik := at_i hfX hfY (k := k) (by omega)
         have hpjk := at_j hfX hfY (k := k) (by omega)
         refine den_region TTok ?_
         intro K hK
         simp -implicitDefEqProofs (disch := first | decide | assumption | omega) only [go_sem, ld98, OQ.len ho18_2, OQ.idx ho18_2, OQ.ld ho18_2, wrap_id, cv_u8, cv_i64, Nat.zero_add, wrap_u8, eq_el, ne_el, build_el, Int.toNat_zero, build_dg0, build_q, hpik, hpjk]
         refine op_alloc (cs := #[.int .i64 0, .int .i64 0]) (by kernel_rfl) ?_
         intro h23_3 e23_3 hb23_3 z23_3
         replace ho18_2 := OQ.ext ho18_2 e23_3
         replace hb0_0 := BoxAt.ext hb0_0 e23_3
         replace hb0_1 := BoxAt.ext hb0_1 e23_3
         replace hb0_2 := BoxAt.ext hb0_2 e23_3
         replace hbx6 := BoxAt.ext hbx6 e23_3
         replace hb17_1 := BoxAt.ext hb17_1 e23_3
         replace hbx10 := BoxAt.ext hbx10 e23_3
         have := Ext.size e23_3
         replace eB := Ext.trans eB e23_3
         replace cL25 := Chg.stepE cL25 e23_3
         have hfhb23_3 : Fresh h27.size [h27.size] := Fresh.one _
         have hlhb23_3 := one_lt (show h27.size < h23_3.size by omega)
         try simp -implicitDefEqProofs (disch := first | decide | assumption | omega) only [go_sem, wrap_id, cv_u8, cv_i64, Nat.zero_add, wrap_u8, eq_el, ne_el, build_el, Int.toNat_zero, build_dg0, build_q, hpik, hpjk]
         refine op_storeB (cs' := #[.int .i64 ((iQ X Y k : Int)), .int .i64 ((jQ X Y k : Int))]) st98 hb23_3 rfl rfl rfl (by simp) (allOne_mem (l := [.int .i64 ((iQ X Y k : Int)), .int .i64 ((jQ X Y k : Int))]) ⟨rfl, rfl, trivial⟩) rfl ?_
         intro h23_5 hb23_3 c23_5
         replace ho18_2 := OQ.chg ho18_2 c23_5 (apart_lt hlho18_2 hfhb23_3 (by omega))
         replace hb0_0 := BoxAt.chgA hb0_0 c23_5 (apart_lt hlhb0_0 hfhb23_3 (by omega))
         replace hb0_1 := BoxAt.chgA hb0_1 c23_5 (apart_lt hlhb0_1 hfhb23_3 (by omega))
         replace hb0_2 := BoxAt.chgA hb0_2 c23_5 (apart_lt hlhb0_2 hfhb23_3 (by omega))
         replace hbx6 := BoxAt.chgA hbx6 c23_5 (apart_lt hlhbx6 hfhb23_3 (by omega))
         replace hb17_1 := BoxAt.chgA hb17_1 c23_5 (apart_lt hlhb17_1 hfhb23_3 (by omega))
         replace hbx10 := BoxAt.chgA hbx10 c23_5 (apart_lt hlhbx10 hfhb23_3 (by omega))
         have := c23_5.size
         replace eB := Ext.then eB c23_5 (ge_of hfhb23_3 (by omega))
         replace cL25 := Chg.step cL25 c23_5 (Sub.fresh hfhb23_3 (by omega))
         try simp -implicitDefEqProofs (disch := first | decide | assumption | omega) only [go_sem, BoxAt.dgL hb0_2, BoxAt.dgP hb0_2, BoxAt.dgS hb0_2, BoxAt.dgDeg hb0_2, BoxAt.dgLev hb0_2, BoxAt.dgDeg0 hb0_2, BoxAt.dgLev0 hb0_2, BoxAt.dgDifL hb0_2, BoxAt.dgTabL hb0_2, BoxAt.dgTabL0 hb0_2, BoxAt.dgTabL1 hb0_2, BoxAt.dgTabL1' hb0_2, BoxAt.dgDifB hb0_2, BoxAt.dgTabB hb0_2, wrap_id, cv_u8, cv_i64, Nat.zero_add, wrap_u8, eq_el, ne_el, build_el, Int.toNat_zero, build_dg0, build_q, hpik, hpjk]
         refine hK _ _ ?_
         clear hK K
         refine den_seq ?_
         refine den_drawB TTok mixed [bJhb19_5] [21] [(0, true), (1, true), (2, true), (3, true), (5, true), (6, true), (7, true), (8, true), (9, true), (10, true), (11, true), (12, true), (13, true), (14, true), (15, true), (16, true), (19, true), (4, false), (17, true), (18, false), (20, true), (21, false)] (by kernel_rfl) ?_
         intro K hK
         have hnb0 : ¬ h.size = bJhb19_5 := fun e => ((apart_lt hlhb0_0 hfhbx10 (by omega)) : Apart [h.size] [bJhb19_5]) _ (List.mem_singleton.2 rfl) (List.mem_singleton.2 e)
         have hnb1 : ¬ h0_0.size = bJhb19_5 := fun e => ((apart_lt hlhb0_1 hfhbx10 (by omega)) : Apart [h0_0.size] [bJhb19_5]) _ (List.mem_singleton.2 rfl) (List.mem_singleton.2 e)
         have hnb2 : ¬ h8.size = bJhb19_5 := fun e => ((apart_lt hlhb17_1 hfhbx10 (by omega)) : Apart [h8.size] [bJhb19_5]) _ (List.mem_singleton.2 rfl) (List.mem_singleton.2 e)
         have hnb3 : ¬ h27.size = bJhb19_5 := fun e => ((apart_gt hfhb23_3 hlhbx10 (by omega)) : Apart [h27.size] [bJhb19_5]) _ (List.mem_singleton.2 rfl) (List.mem_singleton.2 e)
         simp -implicitDefEqProofs (disch := first | decide | assumption | omega) only [go_sem, plGb_none, ldOk, ldA, List.mem_singleton, hnb0, hnb1, hnb2, hnb3, not_false_eq_true, Int.toNat_zero, fa34_2, fa34_3, fa98_0, fa98_1, ia22, ld99, ld2, ld98, BoxAt.dgL hb0_0, BoxAt.dgP hb0_0, BoxAt.dgS hb0_0, BoxAt.dgDeg hb0_0, BoxAt.dgLev hb0_0, BoxAt.dgDeg0 hb0_0, BoxAt.dgLev0 hb0_0, BoxAt.dgDifL hb0_0, BoxAt.dgTabL hb0_0, BoxAt.dgTabL0 hb0_0, BoxAt.dgTabL1 hb0_0, BoxAt.dgTabL1' hb0_0, BoxAt.dgDifB hb0_0, BoxAt.dgTabB hb0_0, BoxAt.dgL hb0_1, BoxAt.dgP hb0_1, BoxAt.dgS hb0_1, BoxAt.dgDeg hb0_1, BoxAt.dgLev hb0_1, BoxAt.dgDeg0 hb0_1, BoxAt.dgLev0 hb0_1, BoxAt.dgDifL hb0_1, BoxAt.dgTabL hb0_1, BoxAt.dgTabL0 hb0_1, BoxAt.dgTabL1 hb0_1, BoxAt.dgTabL1' hb0_1, BoxAt.dgDifB hb0_1, BoxAt.dgTabB hb0_1, BoxAt.cell hb17_1, BoxAt.dgL hbx10, BoxAt.dgP hbx10, BoxAt.dgS hbx10, BoxAt.dgDeg hbx10, BoxAt.dgLev hbx10, BoxAt.dgDeg0 hbx10, BoxAt.dgLev0 hbx10, BoxAt.dgDifL hbx10, BoxAt.dgTabL hbx10, BoxAt.dgTabL0 hbx10, BoxAt.dgTabL1 hbx10, BoxAt.dgTabL1' hbx10, BoxAt.dgDifB hbx10, BoxAt.dgTabB hbx10, BoxAt.cell hb23_3, wrap_id, cv_u8, cv_i64, Nat.zero_add, wrap_u8, eq_el, ne_el, build_el, Int.toNat_zero, build_dg0, build_q]
         try simp -implicitDefEqProofs (disch := first | decide | assumption | omega) only [go_sem, plGb_none, ldOk, ldA, List.mem_singleton, hnb0, hnb1, hnb2, hnb3, not_false_eq_true, BoxAt.dgL hb0_2, BoxAt.dgP hb0_2, BoxAt.dgS hb0_2, BoxAt.dgDeg hb0_2, BoxAt.dgLev hb0_2, BoxAt.dgDeg0 hb0_2, BoxAt.dgLev0 hb0_2, BoxAt.dgDifL hb0_2, BoxAt.dgTabL hb0_2, BoxAt.dgTabL0 hb0_2, BoxAt.dgTabL1 hb0_2, BoxAt.dgTabL1' hb0_2, BoxAt.dgDifB hb0_2, BoxAt.dgTabB hb0_2, wrap_id, cv_u8, cv_i64, Nat.zero_add, wrap_u8, eq_el, ne_el, build_el, Int.toNat_zero, build_dg0, build_q]
         refine CallA.mono (tdegK_ok X Y (iQ X Y k) (jQ X Y k) _ _ _ hb0_0 hb0_1 (by omega) (by omega) hdXk hdYk) ?_
         intro v_ h24_4
         rintro ⟨rfl, e24_4⟩
         replace ho18_2 := OQ.ext ho18_2 e24_4
         replace hb0_0 := BoxAt.ext hb0_0 e24_4
         replace hb0_1 := BoxAt.ext hb0_1 e24_4
         replace hb0_2 := BoxAt.ext hb0_2 e24_4
         replace hbx6 := BoxAt.ext hbx6 e24_4
         replace hb17_1 := BoxAt.ext hb17_1 e24_4
         replace hbx10 := BoxAt.ext hbx10 e24_4
         replace hb23_3 := BoxAt.ext hb23_3 e24_4
         have := Ext.size e24_4
         replace eB := Ext.trans eB e24_4
         replace cL25 := Chg.stepE cL25 e24_4
         try simp (disch := decide) only [outv_some, outv_none, put_puts]
         refine plKb_pres ((Ext.pres e24_4).pb) ?_
         try simp -implicitDefEqProofs (disch := first | decide | assumption | omega) only [go_sem, plGb_none, ldOk, ldA, List.mem_singleton, hnb0, hnb1, hnb2, hnb3, not_false_eq_true, Int.toNat_zero, ia22, BoxAt.dgL hbx10, BoxAt.dgP hbx10, BoxAt.dgS hbx10, BoxAt.dgDeg hbx10, BoxAt.dgLev hbx10, BoxAt.dgDeg0 hbx10, BoxAt.dgLev0 hbx10, BoxAt.dgDifL hbx10, BoxAt.dgTabL hbx10, BoxAt.dgTabL0 hbx10, BoxAt.dgTabL1 hbx10, BoxAt.dgTabL1' hbx10, BoxAt.dgDifB hbx10, BoxAt.dgTabB hbx10, wrap_id, cv_u8, cv_i64, Nat.zero_add, wrap_u8, eq_el, ne_el, build_el, Int.toNat_zero, build_dg0, build_q]
         refine op_storeB (o := 2 + k) (vs := #[.int .i64 ((X.deg (iQ X Y k)) + (Y.deg (jQ X Y k)))]) (cs' := dgA ({ tnR X Y k with deg := (upd ((tnR X Y k).deg) k ((X.deg (iQ X Y k)) + (Y.deg (jQ X Y k)))) })) st2 hbx10 rfl rfl rfl (by rw [dgA_sz]; omega) i64_one (dg_degI (X := tnR X Y k) (by omega)) ?_
         intro h24_18 hbx10 c24_18
         obtain ⟨DS24_18, hDS24_18⟩ : ∃ D : Dg, D = ({ tnR X Y k with deg := (upd ((tnR X Y k).deg) k ((X.deg (iQ X Y k)) + (Y.deg (jQ X Y k)))) }) := ⟨_, rfl⟩
         rw [← hDS24_18] at hbx10
         replace ho18_2 := OQ.chg ho18_2 c24_18 (apart_lt hlho18_2 hfhbx10 (by omega))
         replace hb0_0 := BoxAt.chgA hb0_0 c24_18 (apart_lt hlhb0_0 hfhbx10 (by omega))
         replace hb0_1 := BoxAt.chgA hb0_1 c24_18 (apart_lt hlhb0_1 hfhbx10 (by omega))
         replace hb0_2 := BoxAt.chgA hb0_2 c24_18 (apart_lt hlhb0_2 hfhbx10 (by omega))
         replace hbx6 := BoxAt.chgA hbx6 c24_18 (apart_lt hlhbx6 hfhbx10 (by omega))
         replace hb17_1 := BoxAt.chgA hb17_1 c24_18 (apart_lt hlhb17_1 hfhbx10 (by omega))
         replace hb23_3 := BoxAt.chgA hb23_3 c24_18 (apart_gt hfhb23_3 hlhbx10 (by omega))
         have := c24_18.size
         replace eB := Ext.then eB c24_18 (ge_of hfhbx10 (by omega))
         replace cL25 := Chg.step cL25 c24_18 Sub.refl
         try simp (disch := decide) only [outv_some, outv_none, put_puts]
         refine plKb_pres (Chg.pb c24_18 (fun b hb => by simpa using hb)) ?_
         try simp -implicitDefEqProofs (disch := first | decide | assumption | omega) only [go_sem, plGb_none, ldOk, ldA, List.mem_singleton, hnb0, hnb1, hnb2, hnb3, not_false_eq_true, Int.toNat_zero, ia22, BoxAt.dgL hbx10, BoxAt.dgP hbx10, BoxAt.dgS hbx10, BoxAt.dgDeg hbx10, BoxAt.dgLev hbx10, BoxAt.dgDeg0 hbx10, BoxAt.dgLev0 hbx10, BoxAt.dgDifL hbx10, BoxAt.dgTabL hbx10, BoxAt.dgTabL0 hbx10, BoxAt.dgTabL1 hbx10, BoxAt.dgTabL1' hbx10, BoxAt.dgDifB hbx10, BoxAt.dgTabB hbx10, wrap_id, cv_u8, cv_i64, Nat.zero_add, wrap_u8, eq_el, ne_el, build_el, Int.toNat_zero, build_dg0, build_q]
         refine op_storeB (o := 10 + k) (vs := #[.int .i64 ((X.lev (iQ X Y k)) + (Y.lev (jQ X Y k)))]) (cs' := dgA ({ DS24_18 with lev := (upd DS24_18.lev k ((X.lev (iQ X Y k)) + (Y.lev (jQ X Y k)))) })) st2 hbx10 rfl rfl rfl (by rw [dgA_sz]; omega) i64_one (dg_levI (X := DS24_18) (by omega)) ?_
         intro h24_21 hbx10 c24_21
         obtain ⟨DS24_21, hDS24_21⟩ : ∃ D : Dg, D = ({ DS24_18 with lev := (upd DS24_18.lev k ((X.lev (iQ X Y k)) + (Y.lev (jQ X Y k)))) }) := ⟨_, rfl⟩
         rw [← hDS24_21] at hbx10
         replace ho18_2 := OQ.chg ho18_2 c24_21 (apart_lt hlho18_2 hfhbx10 (by omega))
         replace hb0_0 := BoxAt.chgA hb0_0 c24_21 (apart_lt hlhb0_0 hfhbx10 (by omega))
         replace hb0_1 := BoxAt.chgA hb0_1 c24_21 (apart_lt hlhb0_1 hfhbx10 (by omega))
         replace hb0_2 := BoxAt.chgA hb0_2 c24_21 (apart_lt hlhb0_2 hfhbx10 (by omega))
         replace hbx6 := BoxAt.chgA hbx6 c24_21 (apart_lt hlhbx6 hfhbx10 (by omega))
         replace hb17_1 := BoxAt.chgA hb17_1 c24_21 (apart_lt hlhb17_1 hfhbx10 (by omega))
         replace hb23_3 := BoxAt.chgA hb23_3 c24_21 (apart_gt hfhb23_3 hlhbx10 (by omega))
         have := c24_21.size
         replace eB := Ext.then eB c24_21 (ge_of hfhbx10 (by omega))
         replace cL25 := Chg.step cL25 c24_21 Sub.refl
         try simp (disch := decide) only [outv_some, outv_none, put_puts]
         refine plKb_last (by decide) ?_
         try simp -implicitDefEqProofs (disch := first | decide | assumption | omega) only [go_sem, plGb_none, ldOk, ldA, List.mem_singleton, hnb0, hnb1, hnb2, hnb3, not_false_eq_true, BoxAt.dgL hb0_2, BoxAt.dgP hb0_2, BoxAt.dgS hb0_2, BoxAt.dgDeg hb0_2, BoxAt.dgLev hb0_2, BoxAt.dgDeg0 hb0_2, BoxAt.dgLev0 hb0_2, BoxAt.dgDifL hb0_2, BoxAt.dgTabL hb0_2, BoxAt.dgTabL0 hb0_2, BoxAt.dgTabL1 hb0_2, BoxAt.dgTabL1' hb0_2, BoxAt.dgDifB hb0_2, BoxAt.dgTabB hb0_2, wrap_id, cv_u8, cv_i64, Nat.zero_add, wrap_u8, eq_el, ne_el, build_el, Int.toNat_zero, build_dg0, build_q]
         refine hK _ _ ?_
         clear hK K
         refine den_seq ?_
         refine den_seq ?_
         have hdk : DS24_21.deg k = dgK X Y k := by rw [hDS24_21, hDS24_18]; show upd _ k _ k = _; rw [upd, if_pos rfl]; rfl
         have hlk : DS24_21.lev k = lvK X Y k := by rw [hDS24_21]; show upd _ k _ k = _; rw [upd, if_pos rfl]; rfl
         refine den_mergeH [(109, .bool (((decide ((5 : Int) < (dgK X Y k))) || (decide ((5 : Int) < (lvK X Y k))))))] [2, 3, 4, 6, 9, 10, 11, 12, 13, 71, 72, 73] ?_ ?_
          -- a way
         ·refine den_region TTok ?_
          intro K hK
          simp -implicitDefEqProofs (disch := first | decide | assumption | (simp (disch := decide) only [slotOf_zero, slotOf_succ, Option.map_some, puts_same, puts_ne, gv_bool, gv_undef, tt, tf, ft, ff, eq_self, if_true, if_false, Bool.false_eq_true, Bool.not_true, Bool.not_false]; done) | omega) only [go_sem, Int.toNat_zero, fa34_2, ia22, ld2, BoxAt.dgL hbx10, BoxAt.dgP hbx10, BoxAt.dgS hbx10, BoxAt.dgDeg hbx10, BoxAt.dgLev hbx10, BoxAt.dgDeg0 hbx10, BoxAt.dgLev0 hbx10, BoxAt.dgDifL hbx10, BoxAt.dgTabL hbx10, BoxAt.dgTabL0 hbx10, BoxAt.dgTabL1 hbx10, BoxAt.dgTabL1' hbx10, BoxAt.dgDifB hbx10, BoxAt.dgTabB hbx10, wrap_id, cv_u8, cv_i64, Nat.zero_add, wrap_u8, eq_el, ne_el, build_el, Int.toNat_zero, build_dg0, build_q, hdk, hlk]
          refine opsP_F (by simp (disch := decide) only [slotOf_zero, slotOf_succ, Option.map_some, puts_same, puts_ne, gv_bool, gv_undef, tt, tf, ft, ff, eq_self, if_true, if_false, Bool.false_eq_true, Bool.not_true, Bool.not_false]; rfl) (fun g28 => ?_) (fun g28 => ?_)
          ·try simp -implicitDefEqProofs (disch := first | decide | assumption | (simp (disch := decide) only [slotOf_zero, slotOf_succ, Option.map_some, puts_same, puts_ne, gv_bool, gv_undef, tt, tf, ft, ff, eq_self, if_true, if_false, Bool.false_eq_true, Bool.not_true, Bool.not_false, g28]; done) | omega) only [go_sem, Int.toNat_zero, fa34_3, ia22, ld2, BoxAt.dgL hbx10, BoxAt.dgP hbx10, BoxAt.dgS hbx10, BoxAt.dgDeg hbx10, BoxAt.dgLev hbx10, BoxAt.dgDeg0 hbx10, BoxAt.dgLev0 hbx10, BoxAt.dgDifL hbx10, BoxAt.dgTabL hbx10, BoxAt.dgTabL0 hbx10, BoxAt.dgTabL1 hbx10, BoxAt.dgTabL1' hbx10, BoxAt.dgDifB hbx10, BoxAt.dgTabB hbx10, wrap_id, cv_u8, cv_i64, Nat.zero_add, wrap_u8, eq_el, ne_el, build_el, Int.toNat_zero, build_dg0, build_q, g28, eq_self, if_true, if_false, Bool.false_eq_true, hdk, hlk]
           refine hK _ _ ?_
           clear hK K
           refine den_stop ?_
           refine ⟨?_, rfl⟩
           first | (simp (disch := decide) only [go_sem, g28, eq_self, Bool.true_and, Bool.and_true, Bool.false_and, Bool.and_false, Bool.true_or, Bool.or_true, Bool.false_or, Bool.or_false, if_true, if_false, Bool.false_eq_true]; done) | simp [HasL, sel, puts_at, g28]
          ·try simp -implicitDefEqProofs (disch := first | decide | assumption | (simp (disch := decide) only [slotOf_zero, slotOf_succ, Option.map_some, puts_same, puts_ne, gv_bool, gv_undef, tt, tf, ft, ff, eq_self, if_true, if_false, Bool.false_eq_true, Bool.not_true, Bool.not_false, g28]; done) | omega) only [go_sem, wrap_id, cv_u8, cv_i64, Nat.zero_add, wrap_u8, eq_el, ne_el, build_el, Int.toNat_zero, build_dg0, build_q, g28, eq_self, if_true, if_false, Bool.false_eq_true, hdk, hlk]
           refine hK _ _ ?_
           clear hK K
           refine den_stop ?_
           refine ⟨?_, rfl⟩
           first | (simp (disch := decide) only [go_sem, g28, eq_self, Bool.true_and, Bool.and_true, Bool.false_and, Bool.and_false, Bool.true_or, Bool.or_true, Bool.false_or, Bool.or_false, if_true, if_false, Bool.false_eq_true]; done) | simp [HasL, sel, puts_at, g28]
         intro en29
         simp (disch := decide) only [go_sem]
         refine den_cond rfl (fun c6 => ?_) (fun c6 => ?_)
         ·try simp only [decide_eq_true_eq, decide_eq_false_iff_not, beq_iff_eq, beq_eq_false_iff_ne, bne_iff_ne, ne_eq, Bool.not_eq_true', Bool.not_eq_false', Bool.and_eq_true, Bool.or_eq_true, bne_eq_false_iff_eq, Bool.not_eq_true, Bool.not_eq_false] at c6
          refine den_seq ?_
          refine den_region TTok ?_
          intro K hK
          simp -implicitDefEqProofs (disch := first | decide | assumption | omega) only [go_sem, wrap_id, cv_u8, cv_i64, Nat.zero_add, wrap_u8, eq_el, ne_el, build_el, Int.toNat_zero, build_dg0, build_q]
          refine op_storeB (o := 0) (vs := dgA dgZ) (cs' := dgA dgZ) st34 hb0_2 rfl rfl (dgA_sz _) (by rw [dgA_sz]; decide) dgA_one dgA_all ?_
          intro h26_1 hb0_2 c26_1
          have := c26_1.size
          replace eB := Ext.then eB c26_1 (ge_of hfhb0_2 (by omega))
          try simp -implicitDefEqProofs (disch := first | decide | assumption | omega) only [go_sem, wrap_id, cv_u8, cv_i64, Nat.zero_add, wrap_u8, eq_el, ne_el, build_el, Int.toNat_zero, build_dg0, build_q]
          refine hK _ _ ?_
          clear hK K
          refine den_ret ?_
          simp -implicitDefEqProofs (disch := first | decide | assumption | omega) only [go_sem, BoxAt.dgL hb0_2, BoxAt.dgP hb0_2, BoxAt.dgS hb0_2, BoxAt.dgDeg hb0_2, BoxAt.dgLev hb0_2, BoxAt.dgDeg0 hb0_2, BoxAt.dgLev0 hb0_2, BoxAt.dgDifL hb0_2, BoxAt.dgTabL hb0_2, BoxAt.dgTabL0 hb0_2, BoxAt.dgTabL1 hb0_2, BoxAt.dgTabL1' hb0_2, BoxAt.dgDifB hb0_2, BoxAt.dgTabB hb0_2, wrap_id, cv_u8, cv_i64, Nat.zero_add, wrap_u8, eq_el, ne_el, build_el, Int.toNat_zero, build_dg0, build_q, resP_ct, ld34]
          rw [tnP_4 hbb hpp (by omega) (k := k) (by omega) (by have h1 := c6; omega)]
          exact ⟨by first | rfl | trivial, eB⟩
         ·try simp only [decide_eq_true_eq, decide_eq_false_iff_not, beq_iff_eq, beq_eq_false_iff_ne, bne_iff_ne, ne_eq, Bool.not_eq_true', Bool.not_eq_false', Bool.and_eq_true, Bool.or_eq_true, bne_eq_false_iff_eq, Bool.not_eq_true, Bool.not_eq_false] at c6
          have hfk : dgK X Y k ≤ 5 ∧ lvK X Y k ≤ 5 := by have h1 := c6; simp at h1; omega
          refine den_skip ?_
          refine den_seq ?_
          have htm := tm2 (X.deg (iQ X Y k))
          have hpDe : DS24_21.p = X.p := by rw [hDS24_21, hDS24_18]; rfl
          have hpD : 0 < DS24_21.p ∧ DS24_21.p ≤ 7 := by rw [hpDe]; exact hpG
          refine den_draw TTok mixed [33] [(0, true), (1, true), (2, true), (3, true), (4, true), (5, true), (6, true), (7, true), (8, true), (9, true), (10, true), (13, true), (14, true), (15, true), (16, true), (18, true), (19, true), (20, true), (21, true), (22, true), (24, true), (25, true), (26, true), (27, true), (28, true), (31, true), (11, false), (12, false), (17, false), (23, false), (29, false), (30, false), (32, true), (33, false)] (by kernel_rfl) ?_
          intro K hK
          simp -implicitDefEqProofs (disch := first | decide | assumption | omega) only [go_sem, Int.toNat_zero, fa34_2, fa34_4, fa98_0, fa98_1, ia31, ia22, ld2, BoxAt.dgL hb0_0, BoxAt.dgP hb0_0, BoxAt.dgS hb0_0, BoxAt.dgDeg hb0_0, BoxAt.dgLev hb0_0, BoxAt.dgDeg0 hb0_0, BoxAt.dgLev0 hb0_0, BoxAt.dgDifL hb0_0, BoxAt.dgTabL hb0_0, BoxAt.dgTabL0 hb0_0, BoxAt.dgTabL1 hb0_0, BoxAt.dgTabL1' hb0_0, BoxAt.dgDifB hb0_0, BoxAt.dgTabB hb0_0, BoxAt.dgL hb0_1, BoxAt.dgP hb0_1, BoxAt.dgS hb0_1, BoxAt.dgDeg hb0_1, BoxAt.dgLev hb0_1, BoxAt.dgDeg0 hb0_1, BoxAt.dgLev0 hb0_1, BoxAt.dgDifL hb0_1, BoxAt.dgTabL hb0_1, BoxAt.dgTabL0 hb0_1, BoxAt.dgTabL1 hb0_1, BoxAt.dgTabL1' hb0_1, BoxAt.dgDifB hb0_1, BoxAt.dgTabB hb0_1, BoxAt.dgL hbx10, BoxAt.dgP hbx10, BoxAt.dgS hbx10, BoxAt.dgDeg hbx10, BoxAt.dgLev hbx10, BoxAt.dgDeg0 hbx10, BoxAt.dgLev0 hbx10, BoxAt.dgDifL hbx10, BoxAt.dgTabL hbx10, BoxAt.dgTabL0 hbx10, BoxAt.dgTabL1 hbx10, BoxAt.dgTabL1' hbx10, BoxAt.dgDifB hbx10, BoxAt.dgTabB hbx10, BoxAt.cell hb23_3, wrap_id, cv_u8, cv_i64, Nat.zero_add, wrap_u8, eq_el, ne_el, build_el, Int.toNat_zero, build_dg0, build_q]
          try simp -implicitDefEqProofs (disch := first | decide | assumption | omega) only [go_sem, BoxAt.dgL hb0_2, BoxAt.dgP hb0_2, BoxAt.dgS hb0_2, BoxAt.dgDeg hb0_2, BoxAt.dgLev hb0_2, BoxAt.dgDeg0 hb0_2, BoxAt.dgLev0 hb0_2, BoxAt.dgDifL hb0_2, BoxAt.dgTabL hb0_2, BoxAt.dgTabL0 hb0_2, BoxAt.dgTabL1 hb0_2, BoxAt.dgTabL1' hb0_2, BoxAt.dgDifB hb0_2, BoxAt.dgTabB hb0_2, wrap_id, cv_u8, cv_i64, Nat.zero_add, wrap_u8, eq_el, ne_el, build_el, Int.toNat_zero, build_dg0, build_q]
          refine CallA.mono (iBas_ok  Y (jQ X Y k : Int) _  (by omega)) ?_
          intro v_ h27_11
          rintro ⟨rfl, e27_11⟩
          replace ho18_2 := OQ.ext ho18_2 e27_11
          replace hb0_0 := BoxAt.ext hb0_0 e27_11
          replace hb0_1 := BoxAt.ext hb0_1 e27_11
          replace hb0_2 := BoxAt.ext hb0_2 e27_11
          replace hbx6 := BoxAt.ext hbx6 e27_11
          replace hb17_1 := BoxAt.ext hb17_1 e27_11
          replace hbx10 := BoxAt.ext hbx10 e27_11
          replace hb23_3 := BoxAt.ext hb23_3 e27_11
          have := Ext.size e27_11
          replace eB := Ext.trans eB e27_11
          replace cL25 := Chg.stepE cL25 e27_11
          try simp (disch := decide) only [outv_some, outv_none, put_puts]
          refine plK_pres (Ext.pres e27_11) ?_
          try simp -implicitDefEqProofs (disch := first | decide | assumption | omega) only [go_sem, BoxAt.dgL hb0_2, BoxAt.dgP hb0_2, BoxAt.dgS hb0_2, BoxAt.dgDeg hb0_2, BoxAt.dgLev hb0_2, BoxAt.dgDeg0 hb0_2, BoxAt.dgLev0 hb0_2, BoxAt.dgDifL hb0_2, BoxAt.dgTabL hb0_2, BoxAt.dgTabL0 hb0_2, BoxAt.dgTabL1 hb0_2, BoxAt.dgTabL1' hb0_2, BoxAt.dgDifB hb0_2, BoxAt.dgTabB hb0_2, wrap_id, cv_u8, cv_i64, Nat.zero_add, wrap_u8, eq_el, ne_el, build_el, Int.toNat_zero, build_dg0, build_q]
          try simp -implicitDefEqProofs (disch := first | decide | assumption | omega) only [go_sem, BoxAt.dgL hb0_2, BoxAt.dgP hb0_2, BoxAt.dgS hb0_2, BoxAt.dgDeg hb0_2, BoxAt.dgLev hb0_2, BoxAt.dgDeg0 hb0_2, BoxAt.dgLev0 hb0_2, BoxAt.dgDifL hb0_2, BoxAt.dgTabL hb0_2, BoxAt.dgTabL0 hb0_2, BoxAt.dgTabL1 hb0_2, BoxAt.dgTabL1' hb0_2, BoxAt.dgDifB hb0_2, BoxAt.dgTabB hb0_2, wrap_id, cv_u8, cv_i64, Nat.zero_add, wrap_u8, eq_el, ne_el, build_el, Int.toNat_zero, build_dg0, build_q]
          refine CallA.mono (tjn_ok X (X.dif (iQ X Y k)) (e8 (jQ X Y k)) (srQ X Y) _ _ _ _ _ hb0_0 hbx6 ho18_2 hpG (hBdX _) (e8_by _) (by omega) (fun k hk => atB8 hfX hfY hk)) ?_
          intro v_ h27_12
          rintro ⟨rfl, e27_12⟩
          replace ho18_2 := OQ.ext ho18_2 e27_12
          replace hb0_0 := BoxAt.ext hb0_0 e27_12
          replace hb0_1 := BoxAt.ext hb0_1 e27_12
          replace hb0_2 := BoxAt.ext hb0_2 e27_12
          replace hbx6 := BoxAt.ext hbx6 e27_12
          replace hb17_1 := BoxAt.ext hb17_1 e27_12
          replace hbx10 := BoxAt.ext hbx10 e27_12
          replace hb23_3 := BoxAt.ext hb23_3 e27_12
          have := Ext.size e27_12
          replace eB := Ext.trans eB e27_12
          replace cL25 := Chg.stepE cL25 e27_12
          try simp (disch := decide) only [outv_some, outv_none, put_puts]
          refine plK_pres (Ext.pres e27_12) ?_
          try simp -implicitDefEqProofs (disch := first | decide | assumption | omega) only [go_sem, BoxAt.dgL hb0_2, BoxAt.dgP hb0_2, BoxAt.dgS hb0_2, BoxAt.dgDeg hb0_2, BoxAt.dgLev hb0_2, BoxAt.dgDeg0 hb0_2, BoxAt.dgLev0 hb0_2, BoxAt.dgDifL hb0_2, BoxAt.dgTabL hb0_2, BoxAt.dgTabL0 hb0_2, BoxAt.dgTabL1 hb0_2, BoxAt.dgTabL1' hb0_2, BoxAt.dgDifB hb0_2, BoxAt.dgTabB hb0_2, wrap_id, cv_u8, cv_i64, Nat.zero_add, wrap_u8, eq_el, ne_el, build_el, Int.toNat_zero, build_dg0, build_q]
          try simp -implicitDefEqProofs (disch := first | decide | assumption | omega) only [go_sem, BoxAt.dgL hb0_2, BoxAt.dgP hb0_2, BoxAt.dgS hb0_2, BoxAt.dgDeg hb0_2, BoxAt.dgLev hb0_2, BoxAt.dgDeg0 hb0_2, BoxAt.dgLev0 hb0_2, BoxAt.dgDifL hb0_2, BoxAt.dgTabL hb0_2, BoxAt.dgTabL0 hb0_2, BoxAt.dgTabL1 hb0_2, BoxAt.dgTabL1' hb0_2, BoxAt.dgDifB hb0_2, BoxAt.dgTabB hb0_2, wrap_id, cv_u8, cv_i64, Nat.zero_add, wrap_u8, eq_el, ne_el, build_el, Int.toNat_zero, build_dg0, build_q]
          refine CallA.mono (iBas_ok  X (iQ X Y k : Int) _  (by omega)) ?_
          intro v_ h27_17
          rintro ⟨rfl, e27_17⟩
          replace ho18_2 := OQ.ext ho18_2 e27_17
          replace hb0_0 := BoxAt.ext hb0_0 e27_17
          replace hb0_1 := BoxAt.ext hb0_1 e27_17
          replace hb0_2 := BoxAt.ext hb0_2 e27_17
          replace hbx6 := BoxAt.ext hbx6 e27_17
          replace hb17_1 := BoxAt.ext hb17_1 e27_17
          replace hbx10 := BoxAt.ext hbx10 e27_17
          replace hb23_3 := BoxAt.ext hb23_3 e27_17
          have := Ext.size e27_17
          replace eB := Ext.trans eB e27_17
          replace cL25 := Chg.stepE cL25 e27_17
          try simp (disch := decide) only [outv_some, outv_none, put_puts]
          refine plK_pres (Ext.pres e27_17) ?_
          try simp -implicitDefEqProofs (disch := first | decide | assumption | omega) only [go_sem, BoxAt.dgL hb0_2, BoxAt.dgP hb0_2, BoxAt.dgS hb0_2, BoxAt.dgDeg hb0_2, BoxAt.dgLev hb0_2, BoxAt.dgDeg0 hb0_2, BoxAt.dgLev0 hb0_2, BoxAt.dgDifL hb0_2, BoxAt.dgTabL hb0_2, BoxAt.dgTabL0 hb0_2, BoxAt.dgTabL1 hb0_2, BoxAt.dgTabL1' hb0_2, BoxAt.dgDifB hb0_2, BoxAt.dgTabB hb0_2, wrap_id, cv_u8, cv_i64, Nat.zero_add, wrap_u8, eq_el, ne_el, build_el, Int.toNat_zero, build_dg0, build_q]
          try simp -implicitDefEqProofs (disch := first | decide | assumption | omega) only [go_sem, BoxAt.dgL hb0_2, BoxAt.dgP hb0_2, BoxAt.dgS hb0_2, BoxAt.dgDeg hb0_2, BoxAt.dgLev hb0_2, BoxAt.dgDeg0 hb0_2, BoxAt.dgLev0 hb0_2, BoxAt.dgDifL hb0_2, BoxAt.dgTabL hb0_2, BoxAt.dgTabL0 hb0_2, BoxAt.dgTabL1 hb0_2, BoxAt.dgTabL1' hb0_2, BoxAt.dgDifB hb0_2, BoxAt.dgTabB hb0_2, wrap_id, cv_u8, cv_i64, Nat.zero_add, wrap_u8, eq_el, ne_el, build_el, Int.toNat_zero, build_dg0, build_q]
          refine CallA.mono (tjn_ok X (e8 (iQ X Y k)) (Y.dif (jQ X Y k)) (srQ X Y) _ _ _ _ _ hb0_0 hbx6 ho18_2 hpG (e8_by _) (hBdY _) (by omega) (fun k hk => atB8 hfX hfY hk)) ?_
          intro v_ h27_23
          rintro ⟨rfl, e27_23⟩
          replace ho18_2 := OQ.ext ho18_2 e27_23
          replace hb0_0 := BoxAt.ext hb0_0 e27_23
          replace hb0_1 := BoxAt.ext hb0_1 e27_23
          replace hb0_2 := BoxAt.ext hb0_2 e27_23
          replace hbx6 := BoxAt.ext hbx6 e27_23
          replace hb17_1 := BoxAt.ext hb17_1 e27_23
          replace hbx10 := BoxAt.ext hbx10 e27_23
          replace hb23_3 := BoxAt.ext hb23_3 e27_23
          have := Ext.size e27_23
          replace eB := Ext.trans eB e27_23
          replace cL25 := Chg.stepE cL25 e27_23
          try simp (disch := decide) only [outv_some, outv_none, put_puts]
          refine plK_pres (Ext.pres e27_23) ?_
          try simp -implicitDefEqProofs (disch := first | decide | assumption | omega) only [go_sem, BoxAt.dgL hb0_2, BoxAt.dgP hb0_2, BoxAt.dgS hb0_2, BoxAt.dgDeg hb0_2, BoxAt.dgLev hb0_2, BoxAt.dgDeg0 hb0_2, BoxAt.dgLev0 hb0_2, BoxAt.dgDifL hb0_2, BoxAt.dgTabL hb0_2, BoxAt.dgTabL0 hb0_2, BoxAt.dgTabL1 hb0_2, BoxAt.dgTabL1' hb0_2, BoxAt.dgDifB hb0_2, BoxAt.dgTabB hb0_2, wrap_id, cv_u8, cv_i64, Nat.zero_add, wrap_u8, eq_el, ne_el, build_el, Int.toNat_zero, build_dg0, build_q]
          try simp -implicitDefEqProofs (disch := first | decide | assumption | omega) only [go_sem, BoxAt.dgL hb0_2, BoxAt.dgP hb0_2, BoxAt.dgS hb0_2, BoxAt.dgDeg hb0_2, BoxAt.dgLev hb0_2, BoxAt.dgDeg0 hb0_2, BoxAt.dgLev0 hb0_2, BoxAt.dgDifL hb0_2, BoxAt.dgTabL hb0_2, BoxAt.dgTabL0 hb0_2, BoxAt.dgTabL1 hb0_2, BoxAt.dgTabL1' hb0_2, BoxAt.dgDifB hb0_2, BoxAt.dgTabB hb0_2, wrap_id, cv_u8, cv_i64, Nat.zero_add, wrap_u8, eq_el, ne_el, build_el, Int.toNat_zero, build_dg0, build_q]
          refine CallA.mono (iSign_ok  (X.deg (iQ X Y k)) _  (by omega)) ?_
          intro v_ h27_29
          rintro ⟨rfl, e27_29⟩
          replace ho18_2 := OQ.ext ho18_2 e27_29
          replace hb0_0 := BoxAt.ext hb0_0 e27_29
          replace hb0_1 := BoxAt.ext hb0_1 e27_29
          replace hb0_2 := BoxAt.ext hb0_2 e27_29
          replace hbx6 := BoxAt.ext hbx6 e27_29
          replace hb17_1 := BoxAt.ext hb17_1 e27_29
          replace hbx10 := BoxAt.ext hbx10 e27_29
          replace hb23_3 := BoxAt.ext hb23_3 e27_29
          have := Ext.size e27_29
          replace eB := Ext.trans eB e27_29
          replace cL25 := Chg.stepE cL25 e27_29
          try simp (disch := decide) only [outv_some, outv_none, put_puts]
          refine plK_pres (Ext.pres e27_29) ?_
          try simp -implicitDefEqProofs (disch := first | decide | assumption | omega) only [go_sem, BoxAt.dgL hb0_2, BoxAt.dgP hb0_2, BoxAt.dgS hb0_2, BoxAt.dgDeg hb0_2, BoxAt.dgLev hb0_2, BoxAt.dgDeg0 hb0_2, BoxAt.dgLev0 hb0_2, BoxAt.dgDifL hb0_2, BoxAt.dgTabL hb0_2, BoxAt.dgTabL0 hb0_2, BoxAt.dgTabL1 hb0_2, BoxAt.dgTabL1' hb0_2, BoxAt.dgDifB hb0_2, BoxAt.dgTabB hb0_2, wrap_id, cv_u8, cv_i64, Nat.zero_add, wrap_u8, eq_el, ne_el, build_el, Int.toNat_zero, build_dg0, build_q]
          try simp -implicitDefEqProofs (disch := first | decide | assumption | omega) only [go_sem, BoxAt.dgL hb0_2, BoxAt.dgP hb0_2, BoxAt.dgS hb0_2, BoxAt.dgDeg hb0_2, BoxAt.dgLev hb0_2, BoxAt.dgDeg0 hb0_2, BoxAt.dgLev0 hb0_2, BoxAt.dgDifL hb0_2, BoxAt.dgTabL hb0_2, BoxAt.dgTabL0 hb0_2, BoxAt.dgTabL1 hb0_2, BoxAt.dgTabL1' hb0_2, BoxAt.dgDifB hb0_2, BoxAt.dgTabB hb0_2, wrap_id, cv_u8, cv_i64, Nat.zero_add, wrap_u8, eq_el, ne_el, build_el, Int.toNat_zero, build_dg0, build_q]
          refine CallA.mono (iPls_ok  DS24_21 (jnN X.p (srQ X Y) (X.dif (iQ X Y k)) (e8 (jQ X Y k)) (srQ X Y).length) (jnN X.p (srQ X Y) (e8 (iQ X Y k)) (Y.dif (jQ X Y k)) (srQ X Y).length) (1 - (X.deg (iQ X Y k)).tmod 2 * 2) _  hpD (jnN_by hpG) (jnN_by hpG) (by omega)) ?_
          intro v_ h27_30
          rintro ⟨rfl, e27_30⟩
          replace ho18_2 := OQ.ext ho18_2 e27_30
          replace hb0_0 := BoxAt.ext hb0_0 e27_30
          replace hb0_1 := BoxAt.ext hb0_1 e27_30
          replace hb0_2 := BoxAt.ext hb0_2 e27_30
          replace hbx6 := BoxAt.ext hbx6 e27_30
          replace hb17_1 := BoxAt.ext hb17_1 e27_30
          replace hbx10 := BoxAt.ext hbx10 e27_30
          replace hb23_3 := BoxAt.ext hb23_3 e27_30
          have := Ext.size e27_30
          replace eB := Ext.trans eB e27_30
          replace cL25 := Chg.stepE cL25 e27_30
          try simp (disch := decide) only [outv_some, outv_none, put_puts]
          refine plK_pres (Ext.pres e27_30) ?_
          try simp -implicitDefEqProofs (disch := first | decide | assumption | omega) only [go_sem, Int.toNat_zero, ia31, BoxAt.dgL hbx10, BoxAt.dgP hbx10, BoxAt.dgS hbx10, BoxAt.dgDeg hbx10, BoxAt.dgLev hbx10, BoxAt.dgDeg0 hbx10, BoxAt.dgLev0 hbx10, BoxAt.dgDifL hbx10, BoxAt.dgTabL hbx10, BoxAt.dgTabL0 hbx10, BoxAt.dgTabL1 hbx10, BoxAt.dgTabL1' hbx10, BoxAt.dgDifB hbx10, BoxAt.dgTabB hbx10, wrap_id, cv_u8, cv_i64, Nat.zero_add, wrap_u8, eq_el, ne_el, build_el, Int.toNat_zero, build_dg0, build_q]
          generalize hEA27_33 : elA (plusN DS24_21.p (jnN X.p (srQ X Y) (X.dif (iQ X Y k)) (e8 (jQ X Y k)) (srQ X Y).length) (jnN X.p (srQ X Y) (e8 (iQ X Y k)) (Y.dif (jQ X Y k)) (srQ X Y).length) (1 - (X.deg (iQ X Y k)).tmod 2 * 2) 8) = EA27_33
          refine op_storeB (o := 18 + k * 8) (vs := EA27_33) (cs' := dgA ({ DS24_21 with dif := (updF DS24_21.dif k (plusN DS24_21.p (jnN X.p (srQ X Y) (X.dif (iQ X Y k)) (e8 (jQ X Y k)) (srQ X Y).length) (jnN X.p (srQ X Y) (e8 (iQ X Y k)) (Y.dif (jQ X Y k)) (srQ X Y).length) (1 - (X.deg (iQ X Y k)).tmod 2 * 2) 8)) })) st30 hbx10 rfl rfl (by rw [← hEA27_33]; exact elA_sz _) (by rw [dgA_sz]; omega) (by rw [← hEA27_33]; exact elA_one) (by rw [← hEA27_33]; exact dg_difI (X := DS24_21) (by omega)) ?_
          intro h27_33 hbx10 c27_33
          subst hEA27_33
          obtain ⟨DS27_33, hDS27_33⟩ : ∃ D : Dg, D = ({ DS24_21 with dif := (updF DS24_21.dif k (plusN DS24_21.p (jnN X.p (srQ X Y) (X.dif (iQ X Y k)) (e8 (jQ X Y k)) (srQ X Y).length) (jnN X.p (srQ X Y) (e8 (iQ X Y k)) (Y.dif (jQ X Y k)) (srQ X Y).length) (1 - (X.deg (iQ X Y k)).tmod 2 * 2) 8)) }) := ⟨_, rfl⟩
          rw [← hDS27_33] at hbx10
          replace ho18_2 := OQ.chg ho18_2 c27_33 (apart_lt hlho18_2 hfhbx10 (by omega))
          replace hb0_0 := BoxAt.chgA hb0_0 c27_33 (apart_lt hlhb0_0 hfhbx10 (by omega))
          replace hb0_1 := BoxAt.chgA hb0_1 c27_33 (apart_lt hlhb0_1 hfhbx10 (by omega))
          replace hb0_2 := BoxAt.chgA hb0_2 c27_33 (apart_lt hlhb0_2 hfhbx10 (by omega))
          replace hbx6 := BoxAt.chgA hbx6 c27_33 (apart_lt hlhbx6 hfhbx10 (by omega))
          replace hb17_1 := BoxAt.chgA hb17_1 c27_33 (apart_lt hlhb17_1 hfhbx10 (by omega))
          replace hb23_3 := BoxAt.chgA hb23_3 c27_33 (apart_gt hfhb23_3 hlhbx10 (by omega))
          have := c27_33.size
          replace eB := Ext.then eB c27_33 (ge_of hfhbx10 (by omega))
          replace cL25 := Chg.step cL25 c27_33 Sub.refl
          try simp (disch := decide) only [outv_some, outv_none, put_puts]
          refine plK_last (by decide) ?_
          try simp -implicitDefEqProofs (disch := first | decide | assumption | omega) only [go_sem, BoxAt.dgL hb0_2, BoxAt.dgP hb0_2, BoxAt.dgS hb0_2, BoxAt.dgDeg hb0_2, BoxAt.dgLev hb0_2, BoxAt.dgDeg0 hb0_2, BoxAt.dgLev0 hb0_2, BoxAt.dgDifL hb0_2, BoxAt.dgTabL hb0_2, BoxAt.dgTabL0 hb0_2, BoxAt.dgTabL1 hb0_2, BoxAt.dgTabL1' hb0_2, BoxAt.dgDifB hb0_2, BoxAt.dgTabB hb0_2, wrap_id, cv_u8, cv_i64, Nat.zero_add, wrap_u8, eq_el, ne_el, build_el, Int.toNat_zero, build_dg0, build_q]
          refine hK _ _ ?_
          clear hK K
          refine den_seq ?_
          refine den_region TTok ?_
          intro K hK
          simp -implicitDefEqProofs (disch := first | decide | assumption | omega) only [go_sem, ld96, OQ.len ho18_2, OQ.idx ho18_2, OQ.ld ho18_2, BoxAt.cell hbx6, wrap_id, cv_u8, cv_i64, Nat.zero_add, wrap_u8, eq_el, ne_el, build_el, Int.toNat_zero, build_dg0, build_q]
          refine hK _ _ ?_
          clear hK K
          refine den_block ?_
          have hval0 := df_eq hfX hfY (k := k) (by omega)
          have hQ0 : DS27_33 = tnC X Y k 0 := by rw [hDS27_33, hpDe, hval0, hDS24_21, hDS24_18]; exact tnC_0 X Y k
          refine den_sel [146, 2, 3, 4, 6, 9, 10, 11, 12, 13, 71, 72, 73, 144, 145] ?_
          intro env_32
          simp only [go_sem]
          refine den_loopS (σ := Nat) (fun st_ => [(146, .int .i64 (st_ : Int))]) (fun st_ H => (st_ ≤ (srQ X Y).length) ∧ (BoxAt H (bJhb19_5) (dgA (tnC X Y k st_)) 34) ∧ (Chg [bJhb19_5] h27_33 H)) (fun st_ => (srQ X Y).length - st_) 0 ?_ ?_
          ·exact ⟨by first | (simp; done) | (dsimp only; omega) | (simp; omega), by rw [← hQ0]; exact hbx10, Chg.refl _ _⟩
          ·rintro m h35 ee34 ⟨hi0, hbx10, cL33⟩
           replace ho18_2 := OQ.chg ho18_2 cL33 (apart_lt hlho18_2 hfhbx10 (by omega))
           replace hb0_0 := BoxAt.chgA hb0_0 cL33 (apart_lt hlhb0_0 hfhbx10 (by omega))
           replace hb0_1 := BoxAt.chgA hb0_1 cL33 (apart_lt hlhb0_1 hfhbx10 (by omega))
           replace hb0_2 := BoxAt.chgA hb0_2 cL33 (apart_lt hlhb0_2 hfhbx10 (by omega))
           replace hbx6 := BoxAt.chgA hbx6 cL33 (apart_lt hlhbx6 hfhbx10 (by omega))
           replace hb17_1 := BoxAt.chgA hb17_1 cL33 (apart_lt hlhb17_1 hfhbx10 (by omega))
           replace hb23_3 := BoxAt.chgA hb23_3 cL33 (apart_gt hfhb23_3 hlhbx10 (by omega))
           have := cL33.size
           replace eB := Ext.then eB cL33 (ge_of hfhbx10 (by omega))
           replace cL25 := Chg.step cL25 cL33 Sub.refl
           have hfhbx10 := hfhbx10
           have hlhbx10 := hlhbx10
           simp only [List.cons_append, List.nil_append]
           refine den_seq ?_
           refine den_region TTok ?_
           intro K hK
           simp -implicitDefEqProofs (disch := first | decide | assumption | omega) only [go_sem, wrap_id, cv_u8, cv_i64, Nat.zero_add, wrap_u8, eq_el, ne_el, build_el, Int.toNat_zero, build_dg0, build_q]
           refine hK _ _ ?_
           clear hK K
           refine den_seq ?_
           refine den_cond rfl (fun c7 => ?_) (fun c7 => ?_)
           ·try simp only [decide_eq_true_eq, decide_eq_false_iff_not, beq_iff_eq, beq_eq_false_iff_ne, bne_iff_ne, ne_eq, Bool.not_eq_true', Bool.not_eq_false', Bool.and_eq_true, Bool.or_eq_true, bne_eq_false_iff_eq, Bool.not_eq_true, Bool.not_eq_false] at c7
            refine den_skip ?_
            refine den_seq ?_
            refine den_block ?_
            refine den_seq ?_
            have hijm := ij_b hfX hfY (k := m) (by omega)
            have him := EQ_i hfX hfY (k := m) (by omega)
            have hjm := EQ_j hfX hfY (k := m) (by omega)
            have hrXm := hfX.row (iQ X Y m) (by omega)
            have hrYm := hfY.row (jQ X Y m) (by omega)
            have hdXm := hrXm.deg
            have hdYm := hrYm.deg
            have hlXm := hrXm.lev
            have hlYm := hrYm.lev
            have hpim := at_i hfX hfY (k := m) (by omega)
            have hpjm := at_j hfX hfY (k := m) (by omega)
            refine den_region TTok ?_
            intro K hK
            simp -implicitDefEqProofs (disch := first | decide | assumption | omega) only [go_sem, ld98, OQ.len ho18_2, OQ.idx ho18_2, OQ.ld ho18_2, wrap_id, cv_u8, cv_i64, Nat.zero_add, wrap_u8, eq_el, ne_el, build_el, Int.toNat_zero, build_dg0, build_q, hpim, hpjm]
            refine op_alloc (cs := #[.int .i64 0, .int .i64 0]) (by kernel_rfl) ?_
            intro h30_3 e30_3 hb30_3 z30_3
            replace ho18_2 := OQ.ext ho18_2 e30_3
            replace hb0_0 := BoxAt.ext hb0_0 e30_3
            replace hb0_1 := BoxAt.ext hb0_1 e30_3
            replace hb0_2 := BoxAt.ext hb0_2 e30_3
            replace hbx6 := BoxAt.ext hbx6 e30_3
            replace hb17_1 := BoxAt.ext hb17_1 e30_3
            replace hb23_3 := BoxAt.ext hb23_3 e30_3
            replace hbx10 := BoxAt.ext hbx10 e30_3
            have := Ext.size e30_3
            replace eB := Ext.trans eB e30_3
            replace cL25 := Chg.stepE cL25 e30_3
            replace cL33 := Chg.stepE cL33 e30_3
            have hfhb30_3 : Fresh h35.size [h35.size] := Fresh.one _
            have hlhb30_3 := one_lt (show h35.size < h30_3.size by omega)
            try simp -implicitDefEqProofs (disch := first | decide | assumption | omega) only [go_sem, wrap_id, cv_u8, cv_i64, Nat.zero_add, wrap_u8, eq_el, ne_el, build_el, Int.toNat_zero, build_dg0, build_q, hpim, hpjm]
            refine op_storeB (cs' := #[.int .i64 ((iQ X Y m : Int)), .int .i64 ((jQ X Y m : Int))]) st98 hb30_3 rfl rfl rfl (by simp) (allOne_mem (l := [.int .i64 ((iQ X Y m : Int)), .int .i64 ((jQ X Y m : Int))]) ⟨rfl, rfl, trivial⟩) rfl ?_
            intro h30_5 hb30_3 c30_5
            replace ho18_2 := OQ.chg ho18_2 c30_5 (apart_lt hlho18_2 hfhb30_3 (by omega))
            replace hb0_0 := BoxAt.chgA hb0_0 c30_5 (apart_lt hlhb0_0 hfhb30_3 (by omega))
            replace hb0_1 := BoxAt.chgA hb0_1 c30_5 (apart_lt hlhb0_1 hfhb30_3 (by omega))
            replace hb0_2 := BoxAt.chgA hb0_2 c30_5 (apart_lt hlhb0_2 hfhb30_3 (by omega))
            replace hbx6 := BoxAt.chgA hbx6 c30_5 (apart_lt hlhbx6 hfhb30_3 (by omega))
            replace hb17_1 := BoxAt.chgA hb17_1 c30_5 (apart_lt hlhb17_1 hfhb30_3 (by omega))
            replace hb23_3 := BoxAt.chgA hb23_3 c30_5 (apart_lt hlhb23_3 hfhb30_3 (by omega))
            replace hbx10 := BoxAt.chgA hbx10 c30_5 (apart_lt hlhbx10 hfhb30_3 (by omega))
            have := c30_5.size
            replace eB := Ext.then eB c30_5 (ge_of hfhb30_3 (by omega))
            replace cL25 := Chg.step cL25 c30_5 (Sub.fresh hfhb30_3 (by omega))
            replace cL33 := Chg.step cL33 c30_5 (Sub.fresh hfhb30_3 (by omega))
            try simp -implicitDefEqProofs (disch := first | decide | assumption | omega) only [go_sem, BoxAt.dgL hb0_2, BoxAt.dgP hb0_2, BoxAt.dgS hb0_2, BoxAt.dgDeg hb0_2, BoxAt.dgLev hb0_2, BoxAt.dgDeg0 hb0_2, BoxAt.dgLev0 hb0_2, BoxAt.dgDifL hb0_2, BoxAt.dgTabL hb0_2, BoxAt.dgTabL0 hb0_2, BoxAt.dgTabL1 hb0_2, BoxAt.dgTabL1' hb0_2, BoxAt.dgDifB hb0_2, BoxAt.dgTabB hb0_2, wrap_id, cv_u8, cv_i64, Nat.zero_add, wrap_u8, eq_el, ne_el, build_el, Int.toNat_zero, build_dg0, build_q, hpim, hpjm]
            refine hK _ _ ?_
            clear hK K
            refine den_seq ?_
            have hmul := mul25 hdYk hdXm
            have htm2 := tm2 (Y.deg (jQ X Y k) * X.deg (iQ X Y m))
            refine den_draw TTok mixed [] [(0, true), (1, true), (2, true), (3, true), (4, true), (5, true), (6, true), (7, true), (8, true), (9, true), (10, true), (11, false), (12, true)] (by kernel_rfl) ?_
            intro K hK
            simp -implicitDefEqProofs (disch := first | decide | assumption | omega) only [go_sem, Int.toNat_zero, fa34_2, fa98_0, fa98_1, ia22, ld2, BoxAt.dgL hb0_0, BoxAt.dgP hb0_0, BoxAt.dgS hb0_0, BoxAt.dgDeg hb0_0, BoxAt.dgLev hb0_0, BoxAt.dgDeg0 hb0_0, BoxAt.dgLev0 hb0_0, BoxAt.dgDifL hb0_0, BoxAt.dgTabL hb0_0, BoxAt.dgTabL0 hb0_0, BoxAt.dgTabL1 hb0_0, BoxAt.dgTabL1' hb0_0, BoxAt.dgDifB hb0_0, BoxAt.dgTabB hb0_0, BoxAt.dgL hb0_1, BoxAt.dgP hb0_1, BoxAt.dgS hb0_1, BoxAt.dgDeg hb0_1, BoxAt.dgLev hb0_1, BoxAt.dgDeg0 hb0_1, BoxAt.dgLev0 hb0_1, BoxAt.dgDifL hb0_1, BoxAt.dgTabL hb0_1, BoxAt.dgTabL0 hb0_1, BoxAt.dgTabL1 hb0_1, BoxAt.dgTabL1' hb0_1, BoxAt.dgDifB hb0_1, BoxAt.dgTabB hb0_1, BoxAt.cell hb23_3, BoxAt.cell hb30_3, wrap_id, cv_u8, cv_i64, Nat.zero_add, wrap_u8, eq_el, ne_el, build_el, Int.toNat_zero, build_dg0, build_q]
            try simp -implicitDefEqProofs (disch := first | decide | assumption | omega) only [go_sem, BoxAt.dgL hb0_2, BoxAt.dgP hb0_2, BoxAt.dgS hb0_2, BoxAt.dgDeg hb0_2, BoxAt.dgLev hb0_2, BoxAt.dgDeg0 hb0_2, BoxAt.dgLev0 hb0_2, BoxAt.dgDifL hb0_2, BoxAt.dgTabL hb0_2, BoxAt.dgTabL0 hb0_2, BoxAt.dgTabL1 hb0_2, BoxAt.dgTabL1' hb0_2, BoxAt.dgDifB hb0_2, BoxAt.dgTabB hb0_2, wrap_id, cv_u8, cv_i64, Nat.zero_add, wrap_u8, eq_el, ne_el, build_el, Int.toNat_zero, build_dg0, build_q]
            refine CallA.mono (iSign_ok  ((Y.deg (jQ X Y k)) * (X.deg (iQ X Y m))) _  (by omega)) ?_
            intro v_ h31_11
            rintro ⟨rfl, e31_11⟩
            replace ho18_2 := OQ.ext ho18_2 e31_11
            replace hb0_0 := BoxAt.ext hb0_0 e31_11
            replace hb0_1 := BoxAt.ext hb0_1 e31_11
            replace hb0_2 := BoxAt.ext hb0_2 e31_11
            replace hbx6 := BoxAt.ext hbx6 e31_11
            replace hb17_1 := BoxAt.ext hb17_1 e31_11
            replace hb23_3 := BoxAt.ext hb23_3 e31_11
            replace hbx10 := BoxAt.ext hbx10 e31_11
            replace hb30_3 := BoxAt.ext hb30_3 e31_11
            have := Ext.size e31_11
            replace eB := Ext.trans eB e31_11
            replace cL25 := Chg.stepE cL25 e31_11
            replace cL33 := Chg.stepE cL33 e31_11
            try simp (disch := decide) only [outv_some, outv_none, put_puts]
            refine plK_pres (Ext.pres e31_11) ?_
            try simp -implicitDefEqProofs (disch := first | decide | assumption | omega) only [go_sem, wrap_id, cv_u8, cv_i64, Nat.zero_add, wrap_u8, eq_el, ne_el, build_el, Int.toNat_zero, build_dg0, build_q]
            refine hK _ _ ?_
            clear hK K
            have htm3 := tm2 (Y.deg (jQ X Y k) * X.deg (iQ X Y m))
            refine den_draw TTok mixed [27] [(0, true), (1, true), (2, true), (3, true), (4, true), (5, true), (6, true), (7, true), (8, true), (9, true), (10, true), (11, true), (12, true), (13, true), (14, true), (15, true), (16, true), (17, true), (18, true), (19, true), (20, true), (22, true), (24, true), (25, true), (21, false), (23, false), (26, true), (27, false)] (by kernel_rfl) ?_
            intro K hK
            simp -implicitDefEqProofs (disch := first | decide | assumption | omega) only [go_sem, Int.toNat_zero, fa34_5, fa98_0, fa98_1, ia32, ia31, ld2, BoxAt.dgL hb0_0, BoxAt.dgP hb0_0, BoxAt.dgS hb0_0, BoxAt.dgDeg hb0_0, BoxAt.dgLev hb0_0, BoxAt.dgDeg0 hb0_0, BoxAt.dgLev0 hb0_0, BoxAt.dgDifL hb0_0, BoxAt.dgTabL hb0_0, BoxAt.dgTabL0 hb0_0, BoxAt.dgTabL1 hb0_0, BoxAt.dgTabL1' hb0_0, BoxAt.dgDifB hb0_0, BoxAt.dgTabB hb0_0, BoxAt.dgL hb0_1, BoxAt.dgP hb0_1, BoxAt.dgS hb0_1, BoxAt.dgDeg hb0_1, BoxAt.dgLev hb0_1, BoxAt.dgDeg0 hb0_1, BoxAt.dgLev0 hb0_1, BoxAt.dgDifL hb0_1, BoxAt.dgTabL hb0_1, BoxAt.dgTabL0 hb0_1, BoxAt.dgTabL1 hb0_1, BoxAt.dgTabL1' hb0_1, BoxAt.dgDifB hb0_1, BoxAt.dgTabB hb0_1, BoxAt.cell hb23_3, BoxAt.dgL hbx10, BoxAt.dgP hbx10, BoxAt.dgS hbx10, BoxAt.dgDeg hbx10, BoxAt.dgLev hbx10, BoxAt.dgDeg0 hbx10, BoxAt.dgLev0 hbx10, BoxAt.dgDifL hbx10, BoxAt.dgTabL hbx10, BoxAt.dgTabL0 hbx10, BoxAt.dgTabL1 hbx10, BoxAt.dgTabL1' hbx10, BoxAt.dgDifB hbx10, BoxAt.dgTabB hbx10, BoxAt.cell hb30_3, wrap_id, cv_u8, cv_i64, Nat.zero_add, wrap_u8, eq_el, ne_el, build_el, Int.toNat_zero, build_dg0, build_q]
            try simp -implicitDefEqProofs (disch := first | decide | assumption | omega) only [go_sem, BoxAt.dgL hb0_2, BoxAt.dgP hb0_2, BoxAt.dgS hb0_2, BoxAt.dgDeg hb0_2, BoxAt.dgLev hb0_2, BoxAt.dgDeg0 hb0_2, BoxAt.dgLev0 hb0_2, BoxAt.dgDifL hb0_2, BoxAt.dgTabL hb0_2, BoxAt.dgTabL0 hb0_2, BoxAt.dgTabL1 hb0_2, BoxAt.dgTabL1' hb0_2, BoxAt.dgDifB hb0_2, BoxAt.dgTabB hb0_2, wrap_id, cv_u8, cv_i64, Nat.zero_add, wrap_u8, eq_el, ne_el, build_el, Int.toNat_zero, build_dg0, build_q]
            refine CallA.mono (tjn_ok X ((X.tab (iQ X Y k)) (iQ X Y m)) ((Y.tab (jQ X Y k)) (jQ X Y m)) (srQ X Y) _ _ _ _ _ hb0_0 hbx6 ho18_2 hpG (hBtX _ _) (hBtY _ _) (by omega) (fun k hk => atB8 hfX hfY hk)) ?_
            intro v_ h32_21
            rintro ⟨rfl, e32_21⟩
            replace ho18_2 := OQ.ext ho18_2 e32_21
            replace hb0_0 := BoxAt.ext hb0_0 e32_21
            replace hb0_1 := BoxAt.ext hb0_1 e32_21
            replace hb0_2 := BoxAt.ext hb0_2 e32_21
            replace hbx6 := BoxAt.ext hbx6 e32_21
            replace hb17_1 := BoxAt.ext hb17_1 e32_21
            replace hb23_3 := BoxAt.ext hb23_3 e32_21
            replace hbx10 := BoxAt.ext hbx10 e32_21
            replace hb30_3 := BoxAt.ext hb30_3 e32_21
            have := Ext.size e32_21
            replace eB := Ext.trans eB e32_21
            replace cL25 := Chg.stepE cL25 e32_21
            replace cL33 := Chg.stepE cL33 e32_21
            try simp (disch := decide) only [outv_some, outv_none, put_puts]
            refine plK_pres (Ext.pres e32_21) ?_
            try simp -implicitDefEqProofs (disch := first | decide | assumption | omega) only [go_sem, BoxAt.dgL hb0_2, BoxAt.dgP hb0_2, BoxAt.dgS hb0_2, BoxAt.dgDeg hb0_2, BoxAt.dgLev hb0_2, BoxAt.dgDeg0 hb0_2, BoxAt.dgLev0 hb0_2, BoxAt.dgDifL hb0_2, BoxAt.dgTabL hb0_2, BoxAt.dgTabL0 hb0_2, BoxAt.dgTabL1 hb0_2, BoxAt.dgTabL1' hb0_2, BoxAt.dgDifB hb0_2, BoxAt.dgTabB hb0_2, wrap_id, cv_u8, cv_i64, Nat.zero_add, wrap_u8, eq_el, ne_el, build_el, Int.toNat_zero, build_dg0, build_q]
            try simp -implicitDefEqProofs (disch := first | decide | assumption | omega) only [go_sem, BoxAt.dgL hb0_2, BoxAt.dgP hb0_2, BoxAt.dgS hb0_2, BoxAt.dgDeg hb0_2, BoxAt.dgLev hb0_2, BoxAt.dgDeg0 hb0_2, BoxAt.dgLev0 hb0_2, BoxAt.dgDifL hb0_2, BoxAt.dgTabL hb0_2, BoxAt.dgTabL0 hb0_2, BoxAt.dgTabL1 hb0_2, BoxAt.dgTabL1' hb0_2, BoxAt.dgDifB hb0_2, BoxAt.dgTabB hb0_2, wrap_id, cv_u8, cv_i64, Nat.zero_add, wrap_u8, eq_el, ne_el, build_el, Int.toNat_zero, build_dg0, build_q]
            refine CallA.mono (iPls_ok  (tnC X Y k m) z8 (jnN X.p (srQ X Y) ((X.tab (iQ X Y k)) (iQ X Y m)) ((Y.tab (jQ X Y k)) (jQ X Y m)) (srQ X Y).length) (1 - ((Y.deg (jQ X Y k)) * (X.deg (iQ X Y m))).tmod 2 * 2) _  hpG By.z8 (jnN_by hpG) (by omega)) ?_
            intro v_ h32_23
            rintro ⟨rfl, e32_23⟩
            replace ho18_2 := OQ.ext ho18_2 e32_23
            replace hb0_0 := BoxAt.ext hb0_0 e32_23
            replace hb0_1 := BoxAt.ext hb0_1 e32_23
            replace hb0_2 := BoxAt.ext hb0_2 e32_23
            replace hbx6 := BoxAt.ext hbx6 e32_23
            replace hb17_1 := BoxAt.ext hb17_1 e32_23
            replace hb23_3 := BoxAt.ext hb23_3 e32_23
            replace hbx10 := BoxAt.ext hbx10 e32_23
            replace hb30_3 := BoxAt.ext hb30_3 e32_23
            have := Ext.size e32_23
            replace eB := Ext.trans eB e32_23
            replace cL25 := Chg.stepE cL25 e32_23
            replace cL33 := Chg.stepE cL33 e32_23
            try simp (disch := decide) only [outv_some, outv_none, put_puts]
            refine plK_pres (Ext.pres e32_23) ?_
            try simp -implicitDefEqProofs (disch := first | decide | assumption | omega) only [go_sem, Int.toNat_zero, ia31, BoxAt.dgL hbx10, BoxAt.dgP hbx10, BoxAt.dgS hbx10, BoxAt.dgDeg hbx10, BoxAt.dgLev hbx10, BoxAt.dgDeg0 hbx10, BoxAt.dgLev0 hbx10, BoxAt.dgDifL hbx10, BoxAt.dgTabL hbx10, BoxAt.dgTabL0 hbx10, BoxAt.dgTabL1 hbx10, BoxAt.dgTabL1' hbx10, BoxAt.dgDifB hbx10, BoxAt.dgTabB hbx10, wrap_id, cv_u8, cv_i64, Nat.zero_add, wrap_u8, eq_el, ne_el, build_el, Int.toNat_zero, build_dg0, build_q]
            generalize hEA32_27 : elA (plusN (tnC X Y k m).p z8 (jnN X.p (srQ X Y) ((X.tab (iQ X Y k)) (iQ X Y m)) ((Y.tab (jQ X Y k)) (jQ X Y m)) (srQ X Y).length) (1 - ((Y.deg (jQ X Y k)) * (X.deg (iQ X Y m))).tmod 2 * 2) 8) = EA32_27
            refine op_storeB (o := 82 + k * 64 + m * 8) (vs := EA32_27) (cs' := dgA ({ tnC X Y k m with tab := (updF ((tnC X Y k m).tab) k (updF ((tnC X Y k m).tab k) m (plusN (tnC X Y k m).p z8 (jnN X.p (srQ X Y) ((X.tab (iQ X Y k)) (iQ X Y m)) ((Y.tab (jQ X Y k)) (jQ X Y m)) (srQ X Y).length) (1 - ((Y.deg (jQ X Y k)) * (X.deg (iQ X Y m))).tmod 2 * 2) 8))) })) st30 hbx10 rfl rfl (by rw [← hEA32_27]; exact elA_sz _) (by rw [dgA_sz]; omega) (by rw [← hEA32_27]; exact elA_one) (by rw [← hEA32_27]; exact dg_tabI (X := tnC X Y k m) (by omega) (by omega)) ?_
            intro h32_27 hbx10 c32_27
            subst hEA32_27
            obtain ⟨DS32_27, hDS32_27⟩ : ∃ D : Dg, D = ({ tnC X Y k m with tab := (updF ((tnC X Y k m).tab) k (updF ((tnC X Y k m).tab k) m (plusN (tnC X Y k m).p z8 (jnN X.p (srQ X Y) ((X.tab (iQ X Y k)) (iQ X Y m)) ((Y.tab (jQ X Y k)) (jQ X Y m)) (srQ X Y).length) (1 - ((Y.deg (jQ X Y k)) * (X.deg (iQ X Y m))).tmod 2 * 2) 8))) }) := ⟨_, rfl⟩
            rw [← hDS32_27] at hbx10
            replace ho18_2 := OQ.chg ho18_2 c32_27 (apart_lt hlho18_2 hfhbx10 (by omega))
            replace hb0_0 := BoxAt.chgA hb0_0 c32_27 (apart_lt hlhb0_0 hfhbx10 (by omega))
            replace hb0_1 := BoxAt.chgA hb0_1 c32_27 (apart_lt hlhb0_1 hfhbx10 (by omega))
            replace hb0_2 := BoxAt.chgA hb0_2 c32_27 (apart_lt hlhb0_2 hfhbx10 (by omega))
            replace hbx6 := BoxAt.chgA hbx6 c32_27 (apart_lt hlhbx6 hfhbx10 (by omega))
            replace hb17_1 := BoxAt.chgA hb17_1 c32_27 (apart_lt hlhb17_1 hfhbx10 (by omega))
            replace hb23_3 := BoxAt.chgA hb23_3 c32_27 (apart_gt hfhb23_3 hlhbx10 (by omega))
            replace hb30_3 := BoxAt.chgA hb30_3 c32_27 (apart_gt hfhb30_3 hlhbx10 (by omega))
            have := c32_27.size
            replace eB := Ext.then eB c32_27 (ge_of hfhbx10 (by omega))
            replace cL25 := Chg.step cL25 c32_27 Sub.refl
            replace cL33 := Chg.step cL33 c32_27 Sub.refl
            try simp (disch := decide) only [outv_some, outv_none, put_puts]
            refine plK_last (by decide) ?_
            try simp -implicitDefEqProofs (disch := first | decide | assumption | omega) only [go_sem, BoxAt.dgL hb0_2, BoxAt.dgP hb0_2, BoxAt.dgS hb0_2, BoxAt.dgDeg hb0_2, BoxAt.dgLev hb0_2, BoxAt.dgDeg0 hb0_2, BoxAt.dgLev0 hb0_2, BoxAt.dgDifL hb0_2, BoxAt.dgTabL hb0_2, BoxAt.dgTabL0 hb0_2, BoxAt.dgTabL1 hb0_2, BoxAt.dgTabL1' hb0_2, BoxAt.dgDifB hb0_2, BoxAt.dgTabB hb0_2, wrap_id, cv_u8, cv_i64, Nat.zero_add, wrap_u8, eq_el, ne_el, build_el, Int.toNat_zero, build_dg0, build_q]
            refine hK _ _ ?_
            clear hK K
            refine den_blk ?_
            refine den_region TTok ?_
            intro K hK
            simp -implicitDefEqProofs (disch := first | decide | assumption | omega) only [go_sem, wrap_id, cv_u8, cv_i64, Nat.zero_add, wrap_u8, eq_el, ne_el, build_el, Int.toNat_zero, build_dg0, build_q]
            refine hK _ _ ?_
            clear hK K
            refine den_stop ?_
            have hval1 := tb_eq hfX hfY (k := k) (m := m) (by omega)
            have hQ1 : DS32_27 = tnC X Y k (m + 1) := by rw [hDS32_27, show (tnC X Y k m).p = X.p from rfl, hval1]; exact tnC_step X Y k m
            rw [hQ1] at hbx10
            exact ⟨m + 1, by simp [HasL, puts_at], ⟨by first | omega | (dsimp only; omega), hbx10, cL33⟩, by first | omega | (dsimp only; omega)⟩
           ·try simp only [decide_eq_true_eq, decide_eq_false_iff_not, beq_iff_eq, beq_eq_false_iff_ne, bne_iff_ne, ne_eq, Bool.not_eq_true', Bool.not_eq_false', Bool.and_eq_true, Bool.or_eq_true, bne_eq_false_iff_eq, Bool.not_eq_true, Bool.not_eq_false] at c7
            refine den_exit ?_
            refine denX_code ?_
            refine denX_stop ?_
            refine denX_hit ?_
            refine den_blk ?_
            refine den_region TTok ?_
            intro K hK
            simp -implicitDefEqProofs (disch := first | decide | assumption | omega) only [go_sem, wrap_id, cv_u8, cv_i64, Nat.zero_add, wrap_u8, eq_el, ne_el, build_el, Int.toNat_zero, build_dg0, build_q]
            refine hK _ _ ?_
            clear hK K
            refine den_stop ?_
            rw [show m = (EQ X Y).length by omega, tnC_end] at hbx10
            exact ⟨k + 1, by simp [HasL, puts_at], ⟨by first | omega | (dsimp only; omega), fun q hq => by
 by_cases hqk : q < k
 ·exact hft q hqk
 ·rw [show q = k by omega]; exact hfk, hbx10, cL25⟩, by first | omega | (dsimp only; omega)⟩
        ·try simp only [decide_eq_true_eq, decide_eq_false_iff_not, beq_iff_eq, beq_eq_false_iff_ne, bne_iff_ne, ne_eq, Bool.not_eq_true', Bool.not_eq_false', Bool.and_eq_true, Bool.or_eq_true, bne_eq_false_iff_eq, Bool.not_eq_true, Bool.not_eq_false] at c5
         refine den_exit ?_
         refine denX_code ?_
         refine denX_stop ?_
         refine denX_hit ?_
         refine den_seq ?_
         obtain ⟨D2, hD2⟩ : ∃ D2, D2 = tnR X Y k := ⟨_, rfl⟩
         rw [← hD2] at hbx10
         refine den_region TTok ?_
         intro K hK
         simp -implicitDefEqProofs (disch := first | decide | assumption | omega) only [go_sem, BoxAt.dgL hbx10, BoxAt.dgP hbx10, BoxAt.dgS hbx10, BoxAt.dgDeg hbx10, BoxAt.dgLev hbx10, BoxAt.dgDeg0 hbx10, BoxAt.dgLev0 hbx10, BoxAt.dgDifL hbx10, BoxAt.dgTabL hbx10, BoxAt.dgTabL0 hbx10, BoxAt.dgTabL1 hbx10, BoxAt.dgTabL1' hbx10, BoxAt.dgDifB hbx10, BoxAt.dgTabB hbx10, wrap_id, cv_u8, cv_i64, Nat.zero_add, wrap_u8, eq_el, ne_el, build_el, Int.toNat_zero, build_dg0, build_q]
         generalize hDA35_1 : dgA D2 = DA35_1
         refine op_storeB (o := 0) (vs := DA35_1) (cs' := DA35_1) st34 hb0_2 rfl rfl (by rw [← hDA35_1]; exact dgA_sz _) (by rw [dgA_sz]; decide) (by rw [← hDA35_1]; exact dgA_one) (by rw [← hDA35_1]; exact dgA_all) ?_
         intro h35_1 hb0_2 c35_1
         subst hDA35_1
         replace hbx10 := BoxAt.chgA hbx10 c35_1 (apart_gt hfhbx10 hlhb0_2 (by omega))
         have := c35_1.size
         replace eB := Ext.then eB c35_1 (ge_of hfhb0_2 (by omega))
         try simp -implicitDefEqProofs (disch := first | decide | assumption | omega) only [go_sem, wrap_id, cv_u8, cv_i64, Nat.zero_add, wrap_u8, eq_el, ne_el, build_el, Int.toNat_zero, build_dg0, build_q]
         refine hK _ _ ?_
         clear hK K
         refine den_ret ?_
         simp -implicitDefEqProofs (disch := first | decide | assumption | omega) only [go_sem, BoxAt.dgL hb0_2, BoxAt.dgP hb0_2, BoxAt.dgS hb0_2, BoxAt.dgDeg hb0_2, BoxAt.dgLev hb0_2, BoxAt.dgDeg0 hb0_2, BoxAt.dgLev0 hb0_2, BoxAt.dgDifL hb0_2, BoxAt.dgTabL hb0_2, BoxAt.dgTabL0 hb0_2, BoxAt.dgTabL1 hb0_2, BoxAt.dgTabL1' hb0_2, BoxAt.dgDifB hb0_2, BoxAt.dgTabB hb0_2, wrap_id, cv_u8, cv_i64, Nat.zero_add, wrap_u8, eq_el, ne_el, build_el, Int.toNat_zero, build_dg0, build_q, resP_ct, ld34]
         rw [tnP_0 hbb hpp (by omega) (fun q hq => hft q (by omega)), show (EQ X Y).length = k by omega, ← hD2]
         exact ⟨by first | rfl | trivial, eB⟩
end Go.Proofs.Ytacajcjibhifmaa

namespace Go.Proofs.Ytacajcjibhifmaa
open Go
section
variable {h : Heap} {b : Nat} {t : TypeId} {X : Dg} {f : Nat → Nat → Int} {g : Nat → Nat → Nat → Int}
theorem BoxAt.dgDifE (hb : BoxAt h b (dgA X) t) : loadV TT h 31 ⟨b, 18, none⟩ = some (.agg (el8A X.dif)) := ldArr ld31 hb (fun q => .int .u8 (X.dif (q / 8) (q % 8))) 18 (fun q hq => by rw [dgA_at (by omega), dgF_diff (by omega), show 18 + q - 18 = q by omega])
theorem BoxAt.dgTabE (hb : BoxAt h b (dgA X) t) : loadV TT h 32 ⟨b, 82, none⟩ = some (.agg (el88A X.tab)) := ldArr ld32 hb (fun q => .int .u8 (X.tab (q / 64) (q / 8 % 8) (q % 8))) 82 (fun q hq => by rw [dgA_at (by omega), dgF_table (by omega), show 82 + q - 82 = q by omega])
theorem BoxAt.el8Em (hb : BoxAt h b (el8A f) t) {i : Nat} (hi : i < 8) : loadV TT h 30 ⟨b, i * 8, none⟩ = some (.agg (elA (f i))) := ldArr ld30 hb (fun q => .int .u8 (f i q)) (i * 8) (fun q hq => by rw [el8_at (by omega), show (i * 8 + q) / 8 = i by omega, show (i * 8 + q) % 8 = q by omega])
theorem BoxAt.el88Rm (hb : BoxAt h b (el88A g) t) {i : Nat} (hi : i < 8) : loadV TT h 31 ⟨b, i * 64, none⟩ = some (.agg (el8A (g i))) := ldArr ld31 hb (fun q => .int .u8 (g i (q / 8) (q % 8))) (i * 64) (fun q hq => by rw [el88_at (by omega), show (i * 64 + q) / 64 = i by omega, show (i * 64 + q) / 8 % 8 = q / 8 by omega, show (i * 64 + q) % 8 = q % 8 by omega])
end

attribute [local irreducible] el8A el88A in8A dgA
set_option maxRecDepth 100000 in
theorem eqEl_same (u : Nat → Int) (h : Heap) : CallA Try.prog 101 #[.agg (elA u), .agg (elA u)] h fun v' h' => v' = .bool true ∧ Ext h h' := by
 refine callA_intro TTok (args := [_, _]) Try.func101 (by kernel_rfl) rfl 17 rfl (by simp) [.tmp 4] rfl ?_
 simp only [idxs, Nat.reduceAdd]
 refine den_seq ?_
 refine den_region TTok ?_
 intro K hK
 simp -implicitDefEqProofs (disch := first | decide | assumption | omega) only [go_sem, wrap_id, cv_u8, cv_i64, Nat.zero_add, wrap_u8, eq_el, ne_el, build_el, Int.toNat_zero]
 refine op_box (cs := elA u) rfl ?_
 intro h0_0 e0_0 hb0_0 z0_0
 have := Ext.size e0_0
 have eB := e0_0
 have hfhb0_0 : Fresh h.size [h.size] := Fresh.one _
 have hlhb0_0 := one_lt (show h.size < h0_0.size by omega)
 try simp -implicitDefEqProofs (disch := first | decide | assumption | omega) only [go_sem, wrap_id, cv_u8, cv_i64, Nat.zero_add, wrap_u8, eq_el, ne_el, build_el, Int.toNat_zero]
 refine op_box (cs := elA u) rfl ?_
 intro h0_1 e0_1 hb0_1 z0_1
 replace hb0_0 := BoxAt.ext hb0_0 e0_1
 have := Ext.size e0_1
 replace eB := Ext.trans eB e0_1
 have hfhb0_1 : Fresh h0_0.size [h0_0.size] := Fresh.one _
 have hlhb0_1 := one_lt (show h0_0.size < h0_1.size by omega)
 try simp -implicitDefEqProofs (disch := first | decide | assumption | omega) only [go_sem, wrap_id, cv_u8, cv_i64, Nat.zero_add, wrap_u8, eq_el, ne_el, build_el, Int.toNat_zero]
 refine hK _ _ ?_
 clear hK K
 refine den_seq ?_
 refine den_seq ?_
 refine den_region TTok ?_
 intro K hK
 simp -implicitDefEqProofs (disch := first | decide | assumption | omega) only [go_sem, wrap_id, cv_u8, cv_i64, Nat.zero_add, wrap_u8, eq_el, ne_el, build_el, Int.toNat_zero]
 refine hK _ _ ?_
 clear hK K
 refine den_block ?_
 refine den_sel [5, 2, 3] ?_
 intro env_1
 simp only [go_sem]
 refine den_loopS (σ := Nat) (fun st_ => [(5, .int .i64 (st_ : Int))]) (fun st_ H => (st_ ≤ 8) ∧ (Ext h0_1 H)) (fun st_ => 8 - st_) 0 ?_ ?_
 ·exact ⟨by first | (simp; done) | (dsimp only; omega) | (simp; omega), Ext.refl _⟩
 ·rintro i h4 ee3 ⟨hi0, cL2⟩
  replace hb0_0 := BoxAt.ext hb0_0 cL2
  replace hb0_1 := BoxAt.ext hb0_1 cL2
  have := Ext.size cL2
  replace eB := Ext.trans eB cL2
  simp only [List.cons_append, List.nil_append]
  refine den_seq ?_
  refine den_seq ?_
  refine den_region TTok ?_
  intro K hK
  simp -implicitDefEqProofs (disch := first | decide | assumption | omega) only [go_sem, wrap_id, cv_u8, cv_i64, Nat.zero_add, wrap_u8, eq_el, ne_el, build_el, Int.toNat_zero]
  refine hK _ _ ?_
  clear hK K
  refine den_cond rfl (fun c0 => ?_) (fun c0 => ?_)
  ·try simp only [decide_eq_true_eq, decide_eq_false_iff_not, beq_iff_eq, beq_eq_false_iff_ne, bne_iff_ne, ne_eq, Bool.not_eq_true', Bool.not_eq_false', Bool.and_eq_true, Bool.or_eq_true, bne_eq_false_iff_eq] at c0
   refine den_skip ?_
   refine den_seq ?_
   refine den_block ?_
   refine den_seq ?_
   refine den_draw TTok mixed [] [(0, true), (1, true), (2, true), (3, true), (4, true), (5, true), (6, true)] (by kernel_rfl) ?_
   intro K hK
   simp -implicitDefEqProofs (disch := first | decide | assumption | omega) only [go_sem, Int.toNat_zero, ia30, ld5, BoxAt.elC hb0_0, BoxAt.elL hb0_0, BoxAt.elL2 hb0_0, BoxAt.elC hb0_1, BoxAt.elL hb0_1, BoxAt.elL2 hb0_1, wrap_id, cv_u8, cv_i64, Nat.zero_add, wrap_u8, eq_el, ne_el, build_el, Int.toNat_zero]
   refine hK _ _ ?_
   clear hK K
   refine den_cond rfl (fun c1 => ?_) (fun c1 => ?_)
   ·try simp only [decide_eq_true_eq, decide_eq_false_iff_not, beq_iff_eq, beq_eq_false_iff_ne, bne_iff_ne, ne_eq, Bool.not_eq_true', Bool.not_eq_false', Bool.and_eq_true, Bool.or_eq_true, bne_eq_false_iff_eq] at c1
    exact absurd c1 (by simp)
   ·try simp only [decide_eq_true_eq, decide_eq_false_iff_not, beq_iff_eq, beq_eq_false_iff_ne, bne_iff_ne, ne_eq, Bool.not_eq_true', Bool.not_eq_false', Bool.and_eq_true, Bool.or_eq_true, bne_eq_false_iff_eq] at c1
    refine den_skip ?_
    refine den_blk ?_
    refine den_region TTok ?_
    intro K hK
    simp -implicitDefEqProofs (disch := first | decide | assumption | omega) only [go_sem, wrap_id, cv_u8, cv_i64, Nat.zero_add, wrap_u8, eq_el, ne_el, build_el, Int.toNat_zero]
    refine hK _ _ ?_
    clear hK K
    refine den_stop ?_
    exact ⟨i + 1, by simp [HasL, puts_at], ⟨by first | omega | (dsimp only; omega), cL2⟩, by first | omega | (dsimp only; omega)⟩
  ·try simp only [decide_eq_true_eq, decide_eq_false_iff_not, beq_iff_eq, beq_eq_false_iff_ne, bne_iff_ne, ne_eq, Bool.not_eq_true', Bool.not_eq_false', Bool.and_eq_true, Bool.or_eq_true, bne_eq_false_iff_eq] at c0
   refine den_exit ?_
   refine denX_code ?_
   refine denX_stop ?_
   refine denX_hit ?_
   refine den_seq ?_
   refine den_region TTok ?_
   intro K hK
   simp -implicitDefEqProofs (disch := first | decide | assumption | omega) only [go_sem, wrap_id, cv_u8, cv_i64, Nat.zero_add, wrap_u8, eq_el, ne_el, build_el, Int.toNat_zero]
   refine hK _ _ ?_
   clear hK K
   refine den_ret ?_
   simp (disch := decide) only [resP_1, puts_same, puts_ne]
   exact ⟨by first | rfl | trivial, eB⟩

set_option maxRecDepth 100000 in
theorem eqI8_same (u : Nat → Int) (h : Heap) : CallA Try.prog 79 #[.agg (in8A u), .agg (in8A u)] h fun v' h' => v' = .bool true ∧ Ext h h' := by
 refine callA_intro TTok (args := [_, _]) Try.func79 (by kernel_rfl) rfl 17 rfl (by simp) [.tmp 4] rfl ?_
 simp only [idxs, Nat.reduceAdd]
 refine den_seq ?_
 refine den_region TTok ?_
 intro K hK
 simp -implicitDefEqProofs (disch := first | decide | assumption | omega) only [go_sem, wrap_id, cv_u8, cv_i64, Nat.zero_add, wrap_u8, eq_el, ne_el, build_el, Int.toNat_zero]
 refine op_box (cs := in8A u) rfl ?_
 intro h0_0 e0_0 hb0_0 z0_0
 have := Ext.size e0_0
 have eB := e0_0
 have hfhb0_0 : Fresh h.size [h.size] := Fresh.one _
 have hlhb0_0 := one_lt (show h.size < h0_0.size by omega)
 try simp -implicitDefEqProofs (disch := first | decide | assumption | omega) only [go_sem, wrap_id, cv_u8, cv_i64, Nat.zero_add, wrap_u8, eq_el, ne_el, build_el, Int.toNat_zero]
 refine op_box (cs := in8A u) rfl ?_
 intro h0_1 e0_1 hb0_1 z0_1
 replace hb0_0 := BoxAt.ext hb0_0 e0_1
 have := Ext.size e0_1
 replace eB := Ext.trans eB e0_1
 have hfhb0_1 : Fresh h0_0.size [h0_0.size] := Fresh.one _
 have hlhb0_1 := one_lt (show h0_0.size < h0_1.size by omega)
 try simp -implicitDefEqProofs (disch := first | decide | assumption | omega) only [go_sem, wrap_id, cv_u8, cv_i64, Nat.zero_add, wrap_u8, eq_el, ne_el, build_el, Int.toNat_zero]
 refine hK _ _ ?_
 clear hK K
 refine den_seq ?_
 refine den_seq ?_
 refine den_region TTok ?_
 intro K hK
 simp -implicitDefEqProofs (disch := first | decide | assumption | omega) only [go_sem, wrap_id, cv_u8, cv_i64, Nat.zero_add, wrap_u8, eq_el, ne_el, build_el, Int.toNat_zero]
 refine hK _ _ ?_
 clear hK K
 refine den_block ?_
 refine den_sel [5, 2, 3] ?_
 intro env_1
 simp only [go_sem]
 refine den_loopS (σ := Nat) (fun st_ => [(5, .int .i64 (st_ : Int))]) (fun st_ H => (st_ ≤ 8) ∧ (Ext h0_1 H)) (fun st_ => 8 - st_) 0 ?_ ?_
 ·exact ⟨by first | (simp; done) | (dsimp only; omega) | (simp; omega), Ext.refl _⟩
 ·rintro i h4 ee3 ⟨hi0, cL2⟩
  replace hb0_0 := BoxAt.ext hb0_0 cL2
  replace hb0_1 := BoxAt.ext hb0_1 cL2
  have := Ext.size cL2
  replace eB := Ext.trans eB cL2
  simp only [List.cons_append, List.nil_append]
  refine den_seq ?_
  refine den_seq ?_
  refine den_region TTok ?_
  intro K hK
  simp -implicitDefEqProofs (disch := first | decide | assumption | omega) only [go_sem, wrap_id, cv_u8, cv_i64, Nat.zero_add, wrap_u8, eq_el, ne_el, build_el, Int.toNat_zero]
  refine hK _ _ ?_
  clear hK K
  refine den_cond rfl (fun c0 => ?_) (fun c0 => ?_)
  ·try simp only [decide_eq_true_eq, decide_eq_false_iff_not, beq_iff_eq, beq_eq_false_iff_ne, bne_iff_ne, ne_eq, Bool.not_eq_true', Bool.not_eq_false', Bool.and_eq_true, Bool.or_eq_true, bne_eq_false_iff_eq] at c0
   refine den_skip ?_
   refine den_seq ?_
   refine den_block ?_
   refine den_seq ?_
   refine den_draw TTok mixed [] [(0, true), (1, true), (2, true), (3, true), (4, true), (5, true), (6, true)] (by kernel_rfl) ?_
   intro K hK
   simp -implicitDefEqProofs (disch := first | decide | assumption | omega) only [go_sem, Int.toNat_zero, ia22, ld2, BoxAt.in8C hb0_0, BoxAt.in8L hb0_0, BoxAt.in8C hb0_1, BoxAt.in8L hb0_1, wrap_id, cv_u8, cv_i64, Nat.zero_add, wrap_u8, eq_el, ne_el, build_el, Int.toNat_zero]
   refine hK _ _ ?_
   clear hK K
   refine den_cond rfl (fun c1 => ?_) (fun c1 => ?_)
   ·try simp only [decide_eq_true_eq, decide_eq_false_iff_not, beq_iff_eq, beq_eq_false_iff_ne, bne_iff_ne, ne_eq, Bool.not_eq_true', Bool.not_eq_false', Bool.and_eq_true, Bool.or_eq_true, bne_eq_false_iff_eq] at c1
    exact absurd c1 (by simp)
   ·try simp only [decide_eq_true_eq, decide_eq_false_iff_not, beq_iff_eq, beq_eq_false_iff_ne, bne_iff_ne, ne_eq, Bool.not_eq_true', Bool.not_eq_false', Bool.and_eq_true, Bool.or_eq_true, bne_eq_false_iff_eq] at c1
    refine den_skip ?_
    refine den_blk ?_
    refine den_region TTok ?_
    intro K hK
    simp -implicitDefEqProofs (disch := first | decide | assumption | omega) only [go_sem, wrap_id, cv_u8, cv_i64, Nat.zero_add, wrap_u8, eq_el, ne_el, build_el, Int.toNat_zero]
    refine hK _ _ ?_
    clear hK K
    refine den_stop ?_
    exact ⟨i + 1, by simp [HasL, puts_at], ⟨by first | omega | (dsimp only; omega), cL2⟩, by first | omega | (dsimp only; omega)⟩
  ·try simp only [decide_eq_true_eq, decide_eq_false_iff_not, beq_iff_eq, beq_eq_false_iff_ne, bne_iff_ne, ne_eq, Bool.not_eq_true', Bool.not_eq_false', Bool.and_eq_true, Bool.or_eq_true, bne_eq_false_iff_eq] at c0
   refine den_exit ?_
   refine denX_code ?_
   refine denX_stop ?_
   refine denX_hit ?_
   refine den_seq ?_
   refine den_region TTok ?_
   intro K hK
   simp -implicitDefEqProofs (disch := first | decide | assumption | omega) only [go_sem, wrap_id, cv_u8, cv_i64, Nat.zero_add, wrap_u8, eq_el, ne_el, build_el, Int.toNat_zero]
   refine hK _ _ ?_
   clear hK K
   refine den_ret ?_
   simp (disch := decide) only [resP_1, puts_same, puts_ne]
   exact ⟨by first | rfl | trivial, eB⟩

set_option maxRecDepth 100000 in
theorem eqE8_same (u : Nat → Nat → Int) (h : Heap) : CallA Try.prog 80 #[.agg (el8A u), .agg (el8A u)] h fun v' h' => v' = .bool true ∧ Ext h h' := by
 refine callA_intro TTok (args := [_, _]) Try.func80 (by kernel_rfl) rfl 18 rfl (by simp) [.tmp 4] rfl ?_
 simp only [idxs, Nat.reduceAdd]
 refine den_seq ?_
 refine den_region TTok ?_
 intro K hK
 simp -implicitDefEqProofs (disch := first | decide | assumption | omega) only [go_sem, wrap_id, cv_u8, cv_i64, Nat.zero_add, wrap_u8, eq_el, ne_el, build_el, Int.toNat_zero]
 refine op_box (cs := el8A u) rfl ?_
 intro h0_0 e0_0 hb0_0 z0_0
 have := Ext.size e0_0
 have eB := e0_0
 have hfhb0_0 : Fresh h.size [h.size] := Fresh.one _
 have hlhb0_0 := one_lt (show h.size < h0_0.size by omega)
 try simp -implicitDefEqProofs (disch := first | decide | assumption | omega) only [go_sem, wrap_id, cv_u8, cv_i64, Nat.zero_add, wrap_u8, eq_el, ne_el, build_el, Int.toNat_zero]
 refine op_box (cs := el8A u) rfl ?_
 intro h0_1 e0_1 hb0_1 z0_1
 replace hb0_0 := BoxAt.ext hb0_0 e0_1
 have := Ext.size e0_1
 replace eB := Ext.trans eB e0_1
 have hfhb0_1 : Fresh h0_0.size [h0_0.size] := Fresh.one _
 have hlhb0_1 := one_lt (show h0_0.size < h0_1.size by omega)
 try simp -implicitDefEqProofs (disch := first | decide | assumption | omega) only [go_sem, wrap_id, cv_u8, cv_i64, Nat.zero_add, wrap_u8, eq_el, ne_el, build_el, Int.toNat_zero]
 refine hK _ _ ?_
 clear hK K
 refine den_seq ?_
 refine den_seq ?_
 refine den_region TTok ?_
 intro K hK
 simp -implicitDefEqProofs (disch := first | decide | assumption | omega) only [go_sem, wrap_id, cv_u8, cv_i64, Nat.zero_add, wrap_u8, eq_el, ne_el, build_el, Int.toNat_zero]
 refine hK _ _ ?_
 clear hK K
 refine den_block ?_
 refine den_sel [5, 2, 3] ?_
 intro env_1
 simp only [go_sem]
 refine den_loopS (σ := Nat) (fun st_ => [(5, .int .i64 (st_ : Int))]) (fun st_ H => (st_ ≤ 8) ∧ (Ext h0_1 H)) (fun st_ => 8 - st_) 0 ?_ ?_
 ·exact ⟨by first | (simp; done) | (dsimp only; omega) | (simp; omega), Ext.refl _⟩
 ·rintro i h4 ee3 ⟨hi0, cL2⟩
  replace hb0_0 := BoxAt.ext hb0_0 cL2
  replace hb0_1 := BoxAt.ext hb0_1 cL2
  have := Ext.size cL2
  replace eB := Ext.trans eB cL2
  simp only [List.cons_append, List.nil_append]
  refine den_seq ?_
  refine den_seq ?_
  refine den_region TTok ?_
  intro K hK
  simp -implicitDefEqProofs (disch := first | decide | assumption | omega) only [go_sem, wrap_id, cv_u8, cv_i64, Nat.zero_add, wrap_u8, eq_el, ne_el, build_el, Int.toNat_zero]
  refine hK _ _ ?_
  clear hK K
  refine den_cond rfl (fun c0 => ?_) (fun c0 => ?_)
  ·try simp only [decide_eq_true_eq, decide_eq_false_iff_not, beq_iff_eq, beq_eq_false_iff_ne, bne_iff_ne, ne_eq, Bool.not_eq_true', Bool.not_eq_false', Bool.and_eq_true, Bool.or_eq_true, bne_eq_false_iff_eq] at c0
   refine den_skip ?_
   refine den_seq ?_
   refine den_block ?_
   refine den_seq ?_
   refine den_draw TTok mixed [] [(0, true), (1, true), (2, true), (3, true), (4, true), (5, true), (6, false), (7, true)] (by kernel_rfl) ?_
   intro K hK
   simp -implicitDefEqProofs (disch := first | decide | assumption | omega) only [go_sem, Int.toNat_zero, ia31, BoxAt.el8E hb0_0, BoxAt.el8L hb0_0, BoxAt.el8L2 hb0_0, BoxAt.el8Em hb0_0, BoxAt.el8E hb0_1, BoxAt.el8L hb0_1, BoxAt.el8L2 hb0_1, BoxAt.el8Em hb0_1, wrap_id, cv_u8, cv_i64, Nat.zero_add, wrap_u8, eq_el, ne_el, build_el, Int.toNat_zero]
   try simp -implicitDefEqProofs (disch := first | decide | assumption | omega) only [go_sem, wrap_id, cv_u8, cv_i64, Nat.zero_add, wrap_u8, eq_el, ne_el, build_el, Int.toNat_zero]
   refine CallA.mono (eqEl_same (u i) _) ?_
   intro v_ h4_6
   rintro ⟨rfl, e4_6⟩
   replace hb0_0 := BoxAt.ext hb0_0 e4_6
   replace hb0_1 := BoxAt.ext hb0_1 e4_6
   have := Ext.size e4_6
   replace eB := Ext.trans eB e4_6
   replace cL2 := Ext.trans cL2 e4_6
   try simp (disch := decide) only [outv_some, outv_none, put_puts]
   refine plK_pres (Ext.pres e4_6) ?_
   try simp -implicitDefEqProofs (disch := first | decide | assumption | omega) only [go_sem, wrap_id, cv_u8, cv_i64, Nat.zero_add, wrap_u8, eq_el, ne_el, build_el, Int.toNat_zero]
   refine hK _ _ ?_
   clear hK K
   refine den_cond rfl (fun c1 => ?_) (fun c1 => ?_)
   ·try simp only [decide_eq_true_eq, decide_eq_false_iff_not, beq_iff_eq, beq_eq_false_iff_ne, bne_iff_ne, ne_eq, Bool.not_eq_true', Bool.not_eq_false', Bool.and_eq_true, Bool.or_eq_true, bne_eq_false_iff_eq] at c1
    exact absurd c1 (by simp)
   ·try simp only [decide_eq_true_eq, decide_eq_false_iff_not, beq_iff_eq, beq_eq_false_iff_ne, bne_iff_ne, ne_eq, Bool.not_eq_true', Bool.not_eq_false', Bool.and_eq_true, Bool.or_eq_true, bne_eq_false_iff_eq] at c1
    refine den_skip ?_
    refine den_blk ?_
    refine den_region TTok ?_
    intro K hK
    simp -implicitDefEqProofs (disch := first | decide | assumption | omega) only [go_sem, wrap_id, cv_u8, cv_i64, Nat.zero_add, wrap_u8, eq_el, ne_el, build_el, Int.toNat_zero]
    refine hK _ _ ?_
    clear hK K
    refine den_stop ?_
    exact ⟨i + 1, by simp [HasL, puts_at], ⟨by first | omega | (dsimp only; omega), cL2⟩, by first | omega | (dsimp only; omega)⟩
  ·try simp only [decide_eq_true_eq, decide_eq_false_iff_not, beq_iff_eq, beq_eq_false_iff_ne, bne_iff_ne, ne_eq, Bool.not_eq_true', Bool.not_eq_false', Bool.and_eq_true, Bool.or_eq_true, bne_eq_false_iff_eq] at c0
   refine den_exit ?_
   refine denX_code ?_
   refine denX_stop ?_
   refine denX_hit ?_
   refine den_seq ?_
   refine den_region TTok ?_
   intro K hK
   simp -implicitDefEqProofs (disch := first | decide | assumption | omega) only [go_sem, wrap_id, cv_u8, cv_i64, Nat.zero_add, wrap_u8, eq_el, ne_el, build_el, Int.toNat_zero]
   refine hK _ _ ?_
   clear hK K
   refine den_ret ?_
   simp (disch := decide) only [resP_1, puts_same, puts_ne]
   exact ⟨by first | rfl | trivial, eB⟩

set_option maxRecDepth 100000 in
theorem eqE88_same (u : Nat → Nat → Nat → Int) (h : Heap) : CallA Try.prog 81 #[.agg (el88A u), .agg (el88A u)] h fun v' h' => v' = .bool true ∧ Ext h h' := by
 refine callA_intro TTok (args := [_, _]) Try.func81 (by kernel_rfl) rfl 18 rfl (by simp) [.tmp 4] rfl ?_
 simp only [idxs, Nat.reduceAdd]
 refine den_seq ?_
 refine den_region TTok ?_
 intro K hK
 simp -implicitDefEqProofs (disch := first | decide | assumption | omega) only [go_sem, wrap_id, cv_u8, cv_i64, Nat.zero_add, wrap_u8, eq_el, ne_el, build_el, Int.toNat_zero]
 refine op_box (cs := el88A u) rfl ?_
 intro h0_0 e0_0 hb0_0 z0_0
 have := Ext.size e0_0
 have eB := e0_0
 have hfhb0_0 : Fresh h.size [h.size] := Fresh.one _
 have hlhb0_0 := one_lt (show h.size < h0_0.size by omega)
 try simp -implicitDefEqProofs (disch := first | decide | assumption | omega) only [go_sem, wrap_id, cv_u8, cv_i64, Nat.zero_add, wrap_u8, eq_el, ne_el, build_el, Int.toNat_zero]
 refine op_box (cs := el88A u) rfl ?_
 intro h0_1 e0_1 hb0_1 z0_1
 replace hb0_0 := BoxAt.ext hb0_0 e0_1
 have := Ext.size e0_1
 replace eB := Ext.trans eB e0_1
 have hfhb0_1 : Fresh h0_0.size [h0_0.size] := Fresh.one _
 have hlhb0_1 := one_lt (show h0_0.size < h0_1.size by omega)
 try simp -implicitDefEqProofs (disch := first | decide | assumption | omega) only [go_sem, wrap_id, cv_u8, cv_i64, Nat.zero_add, wrap_u8, eq_el, ne_el, build_el, Int.toNat_zero]
 refine hK _ _ ?_
 clear hK K
 refine den_seq ?_
 refine den_seq ?_
 refine den_region TTok ?_
 intro K hK
 simp -implicitDefEqProofs (disch := first | decide | assumption | omega) only [go_sem, wrap_id, cv_u8, cv_i64, Nat.zero_add, wrap_u8, eq_el, ne_el, build_el, Int.toNat_zero]
 refine hK _ _ ?_
 clear hK K
 refine den_block ?_
 refine den_sel [5, 2, 3] ?_
 intro env_1
 simp only [go_sem]
 refine den_loopS (σ := Nat) (fun st_ => [(5, .int .i64 (st_ : Int))]) (fun st_ H => (st_ ≤ 8) ∧ (Ext h0_1 H)) (fun st_ => 8 - st_) 0 ?_ ?_
 ·exact ⟨by first | (simp; done) | (dsimp only; omega) | (simp; omega), Ext.refl _⟩
 ·rintro i h4 ee3 ⟨hi0, cL2⟩
  replace hb0_0 := BoxAt.ext hb0_0 cL2
  replace hb0_1 := BoxAt.ext hb0_1 cL2
  have := Ext.size cL2
  replace eB := Ext.trans eB cL2
  simp only [List.cons_append, List.nil_append]
  refine den_seq ?_
  refine den_seq ?_
  refine den_region TTok ?_
  intro K hK
  simp -implicitDefEqProofs (disch := first | decide | assumption | omega) only [go_sem, wrap_id, cv_u8, cv_i64, Nat.zero_add, wrap_u8, eq_el, ne_el, build_el, Int.toNat_zero]
  refine hK _ _ ?_
  clear hK K
  refine den_cond rfl (fun c0 => ?_) (fun c0 => ?_)
  ·try simp only [decide_eq_true_eq, decide_eq_false_iff_not, beq_iff_eq, beq_eq_false_iff_ne, bne_iff_ne, ne_eq, Bool.not_eq_true', Bool.not_eq_false', Bool.and_eq_true, Bool.or_eq_true, bne_eq_false_iff_eq] at c0
   refine den_skip ?_
   refine den_seq ?_
   refine den_block ?_
   refine den_seq ?_
   refine den_draw TTok mixed [] [(0, true), (1, true), (2, true), (3, true), (4, true), (5, true), (6, false), (7, true)] (by kernel_rfl) ?_
   intro K hK
   simp -implicitDefEqProofs (disch := first | decide | assumption | omega) only [go_sem, Int.toNat_zero, ia32, BoxAt.el88R hb0_0, BoxAt.el88L hb0_0, BoxAt.el88Rm hb0_0, BoxAt.el88R hb0_1, BoxAt.el88L hb0_1, BoxAt.el88Rm hb0_1, wrap_id, cv_u8, cv_i64, Nat.zero_add, wrap_u8, eq_el, ne_el, build_el, Int.toNat_zero]
   try simp -implicitDefEqProofs (disch := first | decide | assumption | omega) only [go_sem, wrap_id, cv_u8, cv_i64, Nat.zero_add, wrap_u8, eq_el, ne_el, build_el, Int.toNat_zero]
   refine CallA.mono (eqE8_same (u i) _) ?_
   intro v_ h4_6
   rintro ⟨rfl, e4_6⟩
   replace hb0_0 := BoxAt.ext hb0_0 e4_6
   replace hb0_1 := BoxAt.ext hb0_1 e4_6
   have := Ext.size e4_6
   replace eB := Ext.trans eB e4_6
   replace cL2 := Ext.trans cL2 e4_6
   try simp (disch := decide) only [outv_some, outv_none, put_puts]
   refine plK_pres (Ext.pres e4_6) ?_
   try simp -implicitDefEqProofs (disch := first | decide | assumption | omega) only [go_sem, wrap_id, cv_u8, cv_i64, Nat.zero_add, wrap_u8, eq_el, ne_el, build_el, Int.toNat_zero]
   refine hK _ _ ?_
   clear hK K
   refine den_cond rfl (fun c1 => ?_) (fun c1 => ?_)
   ·try simp only [decide_eq_true_eq, decide_eq_false_iff_not, beq_iff_eq, beq_eq_false_iff_ne, bne_iff_ne, ne_eq, Bool.not_eq_true', Bool.not_eq_false', Bool.and_eq_true, Bool.or_eq_true, bne_eq_false_iff_eq] at c1
    exact absurd c1 (by simp)
   ·try simp only [decide_eq_true_eq, decide_eq_false_iff_not, beq_iff_eq, beq_eq_false_iff_ne, bne_iff_ne, ne_eq, Bool.not_eq_true', Bool.not_eq_false', Bool.and_eq_true, Bool.or_eq_true, bne_eq_false_iff_eq] at c1
    refine den_skip ?_
    refine den_blk ?_
    refine den_region TTok ?_
    intro K hK
    simp -implicitDefEqProofs (disch := first | decide | assumption | omega) only [go_sem, wrap_id, cv_u8, cv_i64, Nat.zero_add, wrap_u8, eq_el, ne_el, build_el, Int.toNat_zero]
    refine hK _ _ ?_
    clear hK K
    refine den_stop ?_
    exact ⟨i + 1, by simp [HasL, puts_at], ⟨by first | omega | (dsimp only; omega), cL2⟩, by first | omega | (dsimp only; omega)⟩
  ·try simp only [decide_eq_true_eq, decide_eq_false_iff_not, beq_iff_eq, beq_eq_false_iff_ne, bne_iff_ne, ne_eq, Bool.not_eq_true', Bool.not_eq_false', Bool.and_eq_true, Bool.or_eq_true, bne_eq_false_iff_eq] at c0
   refine den_exit ?_
   refine denX_code ?_
   refine denX_stop ?_
   refine denX_hit ?_
   refine den_seq ?_
   refine den_region TTok ?_
   intro K hK
   simp -implicitDefEqProofs (disch := first | decide | assumption | omega) only [go_sem, wrap_id, cv_u8, cv_i64, Nat.zero_add, wrap_u8, eq_el, ne_el, build_el, Int.toNat_zero]
   refine hK _ _ ?_
   clear hK K
   refine den_ret ?_
   simp (disch := decide) only [resP_1, puts_same, puts_ne]
   exact ⟨by first | rfl | trivial, eB⟩

set_option maxRecDepth 100000 in
theorem eqDg_same (X : Dg) (h : Heap) : CallA Try.prog 32 #[.agg (dgA X), .agg (dgA X)] h fun v' h' => v' = .bool true ∧ Ext h h' := by
 refine callA_intro TTok (args := [_, _]) Try.func32 (by kernel_rfl) rfl 39 rfl (by simp) [.tmp 4] rfl ?_
 simp only [idxs, Nat.reduceAdd]
 refine den_seq ?_
 refine den_region TTok ?_
 intro K hK
 simp -implicitDefEqProofs (disch := first | decide | assumption | omega) only [go_sem, wrap_id, cv_u8, cv_i64, Nat.zero_add, wrap_u8, eq_el, ne_el, build_el, Int.toNat_zero]
 refine op_box (cs := dgA X) rfl ?_
 intro h0_0 e0_0 hb0_0 z0_0
 have := Ext.size e0_0
 have eB := e0_0
 have hfhb0_0 : Fresh h.size [h.size] := Fresh.one _
 have hlhb0_0 := one_lt (show h.size < h0_0.size by omega)
 try simp -implicitDefEqProofs (disch := first | decide | assumption | omega) only [go_sem, wrap_id, cv_u8, cv_i64, Nat.zero_add, wrap_u8, eq_el, ne_el, build_el, Int.toNat_zero]
 refine op_box (cs := dgA X) rfl ?_
 intro h0_1 e0_1 hb0_1 z0_1
 replace hb0_0 := BoxAt.ext hb0_0 e0_1
 have := Ext.size e0_1
 replace eB := Ext.trans eB e0_1
 have hfhb0_1 : Fresh h0_0.size [h0_0.size] := Fresh.one _
 have hlhb0_1 := one_lt (show h0_0.size < h0_1.size by omega)
 try simp -implicitDefEqProofs (disch := first | decide | assumption | omega) only [go_sem, wrap_id, cv_u8, cv_i64, Nat.zero_add, wrap_u8, eq_el, ne_el, build_el, Int.toNat_zero]
 refine hK _ _ ?_
 clear hK K
 refine den_seq ?_
 refine den_seq ?_
 refine den_region TTok ?_
 intro K hK
 simp -implicitDefEqProofs (disch := first | decide | assumption | omega) only [go_sem, fa34_0, ld2, BoxAt.dgL hb0_0, BoxAt.dgP hb0_0, BoxAt.dgS hb0_0, BoxAt.dgDeg hb0_0, BoxAt.dgLev hb0_0, BoxAt.dgDeg0 hb0_0, BoxAt.dgLev0 hb0_0, BoxAt.dgDifL hb0_0, BoxAt.dgTabL hb0_0, BoxAt.dgTabL0 hb0_0, BoxAt.dgTabL1 hb0_0, BoxAt.dgTabL1' hb0_0, BoxAt.dgDifB hb0_0, BoxAt.dgTabB hb0_0, BoxAt.dgLL hb0_0, BoxAt.dgDegL hb0_0, BoxAt.dgLevL hb0_0, BoxAt.dgDifA hb0_0, BoxAt.dgTabA hb0_0, BoxAt.dgDifE hb0_0, BoxAt.dgTabE hb0_0, BoxAt.dgL hb0_1, BoxAt.dgP hb0_1, BoxAt.dgS hb0_1, BoxAt.dgDeg hb0_1, BoxAt.dgLev hb0_1, BoxAt.dgDeg0 hb0_1, BoxAt.dgLev0 hb0_1, BoxAt.dgDifL hb0_1, BoxAt.dgTabL hb0_1, BoxAt.dgTabL0 hb0_1, BoxAt.dgTabL1 hb0_1, BoxAt.dgTabL1' hb0_1, BoxAt.dgDifB hb0_1, BoxAt.dgTabB hb0_1, BoxAt.dgLL hb0_1, BoxAt.dgDegL hb0_1, BoxAt.dgLevL hb0_1, BoxAt.dgDifA hb0_1, BoxAt.dgTabA hb0_1, BoxAt.dgDifE hb0_1, BoxAt.dgTabE hb0_1, wrap_id, cv_u8, cv_i64, Nat.zero_add, wrap_u8, eq_el, ne_el, build_el, Int.toNat_zero]
 refine hK _ _ ?_
 clear hK K
 refine den_cond rfl (fun c0 => ?_) (fun c0 => ?_)
 ·try simp only [decide_eq_true_eq, decide_eq_false_iff_not, beq_iff_eq, beq_eq_false_iff_ne, bne_iff_ne, ne_eq, Bool.not_eq_true', Bool.not_eq_false', Bool.and_eq_true, Bool.or_eq_true, bne_eq_false_iff_eq] at c0
  exact absurd c0 (by simp)
 ·try simp only [decide_eq_true_eq, decide_eq_false_iff_not, beq_iff_eq, beq_eq_false_iff_ne, bne_iff_ne, ne_eq, Bool.not_eq_true', Bool.not_eq_false', Bool.and_eq_true, Bool.or_eq_true, bne_eq_false_iff_eq] at c0
  refine den_skip ?_
  refine den_seq ?_
  refine den_seq ?_
  refine den_region TTok ?_
  intro K hK
  simp -implicitDefEqProofs (disch := first | decide | assumption | omega) only [go_sem, fa34_1, ld2, BoxAt.dgL hb0_0, BoxAt.dgP hb0_0, BoxAt.dgS hb0_0, BoxAt.dgDeg hb0_0, BoxAt.dgLev hb0_0, BoxAt.dgDeg0 hb0_0, BoxAt.dgLev0 hb0_0, BoxAt.dgDifL hb0_0, BoxAt.dgTabL hb0_0, BoxAt.dgTabL0 hb0_0, BoxAt.dgTabL1 hb0_0, BoxAt.dgTabL1' hb0_0, BoxAt.dgDifB hb0_0, BoxAt.dgTabB hb0_0, BoxAt.dgLL hb0_0, BoxAt.dgDegL hb0_0, BoxAt.dgLevL hb0_0, BoxAt.dgDifA hb0_0, BoxAt.dgTabA hb0_0, BoxAt.dgDifE hb0_0, BoxAt.dgTabE hb0_0, BoxAt.dgL hb0_1, BoxAt.dgP hb0_1, BoxAt.dgS hb0_1, BoxAt.dgDeg hb0_1, BoxAt.dgLev hb0_1, BoxAt.dgDeg0 hb0_1, BoxAt.dgLev0 hb0_1, BoxAt.dgDifL hb0_1, BoxAt.dgTabL hb0_1, BoxAt.dgTabL0 hb0_1, BoxAt.dgTabL1 hb0_1, BoxAt.dgTabL1' hb0_1, BoxAt.dgDifB hb0_1, BoxAt.dgTabB hb0_1, BoxAt.dgLL hb0_1, BoxAt.dgDegL hb0_1, BoxAt.dgLevL hb0_1, BoxAt.dgDifA hb0_1, BoxAt.dgTabA hb0_1, BoxAt.dgDifE hb0_1, BoxAt.dgTabE hb0_1, wrap_id, cv_u8, cv_i64, Nat.zero_add, wrap_u8, eq_el, ne_el, build_el, Int.toNat_zero]
  refine hK _ _ ?_
  clear hK K
  refine den_cond rfl (fun c1 => ?_) (fun c1 => ?_)
  ·try simp only [decide_eq_true_eq, decide_eq_false_iff_not, beq_iff_eq, beq_eq_false_iff_ne, bne_iff_ne, ne_eq, Bool.not_eq_true', Bool.not_eq_false', Bool.and_eq_true, Bool.or_eq_true, bne_eq_false_iff_eq] at c1
   exact absurd c1 (by simp)
  ·try simp only [decide_eq_true_eq, decide_eq_false_iff_not, beq_iff_eq, beq_eq_false_iff_ne, bne_iff_ne, ne_eq, Bool.not_eq_true', Bool.not_eq_false', Bool.and_eq_true, Bool.or_eq_true, bne_eq_false_iff_eq] at c1
   refine den_skip ?_
   refine den_seq ?_
   refine den_seq ?_
   refine den_region TTok ?_
   intro K hK
   simp -implicitDefEqProofs (disch := first | decide | assumption | omega) only [go_sem, fa34_2, BoxAt.dgL hb0_0, BoxAt.dgP hb0_0, BoxAt.dgS hb0_0, BoxAt.dgDeg hb0_0, BoxAt.dgLev hb0_0, BoxAt.dgDeg0 hb0_0, BoxAt.dgLev0 hb0_0, BoxAt.dgDifL hb0_0, BoxAt.dgTabL hb0_0, BoxAt.dgTabL0 hb0_0, BoxAt.dgTabL1 hb0_0, BoxAt.dgTabL1' hb0_0, BoxAt.dgDifB hb0_0, BoxAt.dgTabB hb0_0, BoxAt.dgLL hb0_0, BoxAt.dgDegL hb0_0, BoxAt.dgLevL hb0_0, BoxAt.dgDifA hb0_0, BoxAt.dgTabA hb0_0, BoxAt.dgDifE hb0_0, BoxAt.dgTabE hb0_0, BoxAt.dgL hb0_1, BoxAt.dgP hb0_1, BoxAt.dgS hb0_1, BoxAt.dgDeg hb0_1, BoxAt.dgLev hb0_1, BoxAt.dgDeg0 hb0_1, BoxAt.dgLev0 hb0_1, BoxAt.dgDifL hb0_1, BoxAt.dgTabL hb0_1, BoxAt.dgTabL0 hb0_1, BoxAt.dgTabL1 hb0_1, BoxAt.dgTabL1' hb0_1, BoxAt.dgDifB hb0_1, BoxAt.dgTabB hb0_1, BoxAt.dgLL hb0_1, BoxAt.dgDegL hb0_1, BoxAt.dgLevL hb0_1, BoxAt.dgDifA hb0_1, BoxAt.dgTabA hb0_1, BoxAt.dgDifE hb0_1, BoxAt.dgTabE hb0_1, wrap_id, cv_u8, cv_i64, Nat.zero_add, wrap_u8, eq_el, ne_el, build_el, Int.toNat_zero]
   try simp -implicitDefEqProofs (disch := first | decide | assumption | omega) only [go_sem, wrap_id, cv_u8, cv_i64, Nat.zero_add, wrap_u8, eq_el, ne_el, build_el, Int.toNat_zero]
   refine CallA.mono (eqI8_same X.deg _) ?_
   intro v_ h5_4
   rintro ⟨rfl, e5_4⟩
   replace hb0_0 := BoxAt.ext hb0_0 e5_4
   replace hb0_1 := BoxAt.ext hb0_1 e5_4
   have := Ext.size e5_4
   replace eB := Ext.trans eB e5_4
   try simp -implicitDefEqProofs (disch := first | decide | assumption | omega) only [go_sem, wrap_id, cv_u8, cv_i64, Nat.zero_add, wrap_u8, eq_el, ne_el, build_el, Int.toNat_zero]
   refine hK _ _ ?_
   clear hK K
   refine den_cond rfl (fun c2 => ?_) (fun c2 => ?_)
   ·try simp only [decide_eq_true_eq, decide_eq_false_iff_not, beq_iff_eq, beq_eq_false_iff_ne, bne_iff_ne, ne_eq, Bool.not_eq_true', Bool.not_eq_false', Bool.and_eq_true, Bool.or_eq_true, bne_eq_false_iff_eq] at c2
    exact absurd c2 (by simp)
   ·try simp only [decide_eq_true_eq, decide_eq_false_iff_not, beq_iff_eq, beq_eq_false_iff_ne, bne_iff_ne, ne_eq, Bool.not_eq_true', Bool.not_eq_false', Bool.and_eq_true, Bool.or_eq_true, bne_eq_false_iff_eq] at c2
    refine den_skip ?_
    refine den_seq ?_
    refine den_seq ?_
    refine den_region TTok ?_
    intro K hK
    simp -implicitDefEqProofs (disch := first | decide | assumption | omega) only [go_sem, fa34_3, BoxAt.dgL hb0_0, BoxAt.dgP hb0_0, BoxAt.dgS hb0_0, BoxAt.dgDeg hb0_0, BoxAt.dgLev hb0_0, BoxAt.dgDeg0 hb0_0, BoxAt.dgLev0 hb0_0, BoxAt.dgDifL hb0_0, BoxAt.dgTabL hb0_0, BoxAt.dgTabL0 hb0_0, BoxAt.dgTabL1 hb0_0, BoxAt.dgTabL1' hb0_0, BoxAt.dgDifB hb0_0, BoxAt.dgTabB hb0_0, BoxAt.dgLL hb0_0, BoxAt.dgDegL hb0_0, BoxAt.dgLevL hb0_0, BoxAt.dgDifA hb0_0, BoxAt.dgTabA hb0_0, BoxAt.dgDifE hb0_0, BoxAt.dgTabE hb0_0, BoxAt.dgL hb0_1, BoxAt.dgP hb0_1, BoxAt.dgS hb0_1, BoxAt.dgDeg hb0_1, BoxAt.dgLev hb0_1, BoxAt.dgDeg0 hb0_1, BoxAt.dgLev0 hb0_1, BoxAt.dgDifL hb0_1, BoxAt.dgTabL hb0_1, BoxAt.dgTabL0 hb0_1, BoxAt.dgTabL1 hb0_1, BoxAt.dgTabL1' hb0_1, BoxAt.dgDifB hb0_1, BoxAt.dgTabB hb0_1, BoxAt.dgLL hb0_1, BoxAt.dgDegL hb0_1, BoxAt.dgLevL hb0_1, BoxAt.dgDifA hb0_1, BoxAt.dgTabA hb0_1, BoxAt.dgDifE hb0_1, BoxAt.dgTabE hb0_1, wrap_id, cv_u8, cv_i64, Nat.zero_add, wrap_u8, eq_el, ne_el, build_el, Int.toNat_zero]
    try simp -implicitDefEqProofs (disch := first | decide | assumption | omega) only [go_sem, wrap_id, cv_u8, cv_i64, Nat.zero_add, wrap_u8, eq_el, ne_el, build_el, Int.toNat_zero]
    refine CallA.mono (eqI8_same X.lev _) ?_
    intro v_ h7_4
    rintro ⟨rfl, e7_4⟩
    replace hb0_0 := BoxAt.ext hb0_0 e7_4
    replace hb0_1 := BoxAt.ext hb0_1 e7_4
    have := Ext.size e7_4
    replace eB := Ext.trans eB e7_4
    try simp -implicitDefEqProofs (disch := first | decide | assumption | omega) only [go_sem, wrap_id, cv_u8, cv_i64, Nat.zero_add, wrap_u8, eq_el, ne_el, build_el, Int.toNat_zero]
    refine hK _ _ ?_
    clear hK K
    refine den_cond rfl (fun c3 => ?_) (fun c3 => ?_)
    ·try simp only [decide_eq_true_eq, decide_eq_false_iff_not, beq_iff_eq, beq_eq_false_iff_ne, bne_iff_ne, ne_eq, Bool.not_eq_true', Bool.not_eq_false', Bool.and_eq_true, Bool.or_eq_true, bne_eq_false_iff_eq] at c3
     exact absurd c3 (by simp)
    ·try simp only [decide_eq_true_eq, decide_eq_false_iff_not, beq_iff_eq, beq_eq_false_iff_ne, bne_iff_ne, ne_eq, Bool.not_eq_true', Bool.not_eq_false', Bool.and_eq_true, Bool.or_eq_true, bne_eq_false_iff_eq] at c3
     refine den_skip ?_
     refine den_seq ?_
     refine den_seq ?_
     refine den_region TTok ?_
     intro K hK
     simp -implicitDefEqProofs (disch := first | decide | assumption | omega) only [go_sem, fa34_4, BoxAt.dgL hb0_0, BoxAt.dgP hb0_0, BoxAt.dgS hb0_0, BoxAt.dgDeg hb0_0, BoxAt.dgLev hb0_0, BoxAt.dgDeg0 hb0_0, BoxAt.dgLev0 hb0_0, BoxAt.dgDifL hb0_0, BoxAt.dgTabL hb0_0, BoxAt.dgTabL0 hb0_0, BoxAt.dgTabL1 hb0_0, BoxAt.dgTabL1' hb0_0, BoxAt.dgDifB hb0_0, BoxAt.dgTabB hb0_0, BoxAt.dgLL hb0_0, BoxAt.dgDegL hb0_0, BoxAt.dgLevL hb0_0, BoxAt.dgDifA hb0_0, BoxAt.dgTabA hb0_0, BoxAt.dgDifE hb0_0, BoxAt.dgTabE hb0_0, BoxAt.dgL hb0_1, BoxAt.dgP hb0_1, BoxAt.dgS hb0_1, BoxAt.dgDeg hb0_1, BoxAt.dgLev hb0_1, BoxAt.dgDeg0 hb0_1, BoxAt.dgLev0 hb0_1, BoxAt.dgDifL hb0_1, BoxAt.dgTabL hb0_1, BoxAt.dgTabL0 hb0_1, BoxAt.dgTabL1 hb0_1, BoxAt.dgTabL1' hb0_1, BoxAt.dgDifB hb0_1, BoxAt.dgTabB hb0_1, BoxAt.dgLL hb0_1, BoxAt.dgDegL hb0_1, BoxAt.dgLevL hb0_1, BoxAt.dgDifA hb0_1, BoxAt.dgTabA hb0_1, BoxAt.dgDifE hb0_1, BoxAt.dgTabE hb0_1, wrap_id, cv_u8, cv_i64, Nat.zero_add, wrap_u8, eq_el, ne_el, build_el, Int.toNat_zero]
     try simp -implicitDefEqProofs (disch := first | decide | assumption | omega) only [go_sem, wrap_id, cv_u8, cv_i64, Nat.zero_add, wrap_u8, eq_el, ne_el, build_el, Int.toNat_zero]
     refine CallA.mono (eqE8_same X.dif _) ?_
     intro v_ h9_4
     rintro ⟨rfl, e9_4⟩
     replace hb0_0 := BoxAt.ext hb0_0 e9_4
     replace hb0_1 := BoxAt.ext hb0_1 e9_4
     have := Ext.size e9_4
     replace eB := Ext.trans eB e9_4
     try simp -implicitDefEqProofs (disch := first | decide | assumption | omega) only [go_sem, wrap_id, cv_u8, cv_i64, Nat.zero_add, wrap_u8, eq_el, ne_el, build_el, Int.toNat_zero]
     refine hK _ _ ?_
     clear hK K
     refine den_cond rfl (fun c4 => ?_) (fun c4 => ?_)
     ·try simp only [decide_eq_true_eq, decide_eq_false_iff_not, beq_iff_eq, beq_eq_false_iff_ne, bne_iff_ne, ne_eq, Bool.not_eq_true', Bool.not_eq_false', Bool.and_eq_true, Bool.or_eq_true, bne_eq_false_iff_eq] at c4
      exact absurd c4 (by simp)
     ·try simp only [decide_eq_true_eq, decide_eq_false_iff_not, beq_iff_eq, beq_eq_false_iff_ne, bne_iff_ne, ne_eq, Bool.not_eq_true', Bool.not_eq_false', Bool.and_eq_true, Bool.or_eq_true, bne_eq_false_iff_eq] at c4
      refine den_skip ?_
      refine den_seq ?_
      refine den_seq ?_
      refine den_region TTok ?_
      intro K hK
      simp -implicitDefEqProofs (disch := first | decide | assumption | omega) only [go_sem, fa34_5, BoxAt.dgL hb0_0, BoxAt.dgP hb0_0, BoxAt.dgS hb0_0, BoxAt.dgDeg hb0_0, BoxAt.dgLev hb0_0, BoxAt.dgDeg0 hb0_0, BoxAt.dgLev0 hb0_0, BoxAt.dgDifL hb0_0, BoxAt.dgTabL hb0_0, BoxAt.dgTabL0 hb0_0, BoxAt.dgTabL1 hb0_0, BoxAt.dgTabL1' hb0_0, BoxAt.dgDifB hb0_0, BoxAt.dgTabB hb0_0, BoxAt.dgLL hb0_0, BoxAt.dgDegL hb0_0, BoxAt.dgLevL hb0_0, BoxAt.dgDifA hb0_0, BoxAt.dgTabA hb0_0, BoxAt.dgDifE hb0_0, BoxAt.dgTabE hb0_0, BoxAt.dgL hb0_1, BoxAt.dgP hb0_1, BoxAt.dgS hb0_1, BoxAt.dgDeg hb0_1, BoxAt.dgLev hb0_1, BoxAt.dgDeg0 hb0_1, BoxAt.dgLev0 hb0_1, BoxAt.dgDifL hb0_1, BoxAt.dgTabL hb0_1, BoxAt.dgTabL0 hb0_1, BoxAt.dgTabL1 hb0_1, BoxAt.dgTabL1' hb0_1, BoxAt.dgDifB hb0_1, BoxAt.dgTabB hb0_1, BoxAt.dgLL hb0_1, BoxAt.dgDegL hb0_1, BoxAt.dgLevL hb0_1, BoxAt.dgDifA hb0_1, BoxAt.dgTabA hb0_1, BoxAt.dgDifE hb0_1, BoxAt.dgTabE hb0_1, wrap_id, cv_u8, cv_i64, Nat.zero_add, wrap_u8, eq_el, ne_el, build_el, Int.toNat_zero]
      try simp -implicitDefEqProofs (disch := first | decide | assumption | omega) only [go_sem, wrap_id, cv_u8, cv_i64, Nat.zero_add, wrap_u8, eq_el, ne_el, build_el, Int.toNat_zero]
      refine CallA.mono (eqE88_same X.tab _) ?_
      intro v_ h11_4
      rintro ⟨rfl, e11_4⟩
      replace hb0_0 := BoxAt.ext hb0_0 e11_4
      replace hb0_1 := BoxAt.ext hb0_1 e11_4
      have := Ext.size e11_4
      replace eB := Ext.trans eB e11_4
      try simp -implicitDefEqProofs (disch := first | decide | assumption | omega) only [go_sem, wrap_id, cv_u8, cv_i64, Nat.zero_add, wrap_u8, eq_el, ne_el, build_el, Int.toNat_zero]
      refine hK _ _ ?_
      clear hK K
      refine den_cond rfl (fun c5 => ?_) (fun c5 => ?_)
      ·try simp only [decide_eq_true_eq, decide_eq_false_iff_not, beq_iff_eq, beq_eq_false_iff_ne, bne_iff_ne, ne_eq, Bool.not_eq_true', Bool.not_eq_false', Bool.and_eq_true, Bool.or_eq_true, bne_eq_false_iff_eq] at c5
       exact absurd c5 (by simp)
      ·try simp only [decide_eq_true_eq, decide_eq_false_iff_not, beq_iff_eq, beq_eq_false_iff_ne, bne_iff_ne, ne_eq, Bool.not_eq_true', Bool.not_eq_false', Bool.and_eq_true, Bool.or_eq_true, bne_eq_false_iff_eq] at c5
       refine den_skip ?_
       refine den_seq ?_
       refine den_region TTok ?_
       intro K hK
       simp -implicitDefEqProofs (disch := first | decide | assumption | omega) only [go_sem, wrap_id, cv_u8, cv_i64, Nat.zero_add, wrap_u8, eq_el, ne_el, build_el, Int.toNat_zero]
       refine hK _ _ ?_
       clear hK K
       refine den_ret ?_
       simp (disch := decide) only [resP_1, puts_same, puts_ne]
       exact ⟨by first | rfl | trivial, eB⟩
end Go.Proofs.Ytacajcjibhifmaa
