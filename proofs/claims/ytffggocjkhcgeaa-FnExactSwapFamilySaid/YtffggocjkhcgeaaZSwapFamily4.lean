/-
  What the statement FnExactSwapFamily uses of the walks, part 4.
  Conditions: each theorem's own.
-/
import Derived.Test.YtffggocjkhcgeaaG16
import Derived.Test.YtffggocjkhcgeaaG17
import Derived.Test.YtffggocjkhcgeaaG14
import Derived.Test.YtffggocjkhcgeaaG13
import Derived.Test.YtffggocjkhcgeaaG15
import Derived.Test.YtffggocjkhcgeaaG18
import Derived.Test.YtffggocjkhcgeaaG21
import Derived.Test.YtffggocjkhcgeaaZSwapFamily1
import Derived.Test.YtffggocjkhcgeaaZSwapFamily2
import Derived.Test.YtffggocjkhcgeaaZSwapFamily3
set_option linter.unusedVariables false
set_option linter.unusedSimpArgs false
namespace Go.Proofs.Ytffggocjkhcgeaa
open Go
set_option maxRecDepth 100000 in
set_option maxHeartbeats 4000000 in
theorem exactSwapFamily_law (vX vY : Value) (X : Cx) (Y : Cx) (h : Heap) (rX : RC h vX X) (rY : RC h vY Y)  : CallA Try.prog 9 #[vX, vY] h fun v' h' => v' = .bool (true) ∧ Ext h h' := by
 obtain ⟨vdX, vmX, rfl, hdX, hmX⟩ := rX
 have hledX := RdS.le hdX
 have hlemX := RdS.le hmX
 obtain ⟨vdY, vmY, rfl, hdY, hmY⟩ := rY
 have hledY := RdS.le hdY
 have hlemY := RdS.le hmY
 refine callA_intro TTok (args := [_, _]) Try.func9 (by kernel_rfl) rfl 119 rfl (by simp) [.tmp 4] rfl ?_
 simp only [idxs, Nat.reduceAdd]
 refine den_seq ?_
 refine den_region TTok ?_
 intro K hK
 simp -implicitDefEqProofs (disch := first | decide | assumption | omega) only [go_sem, wrap_id]
 refine op_box (cs := #[.int .i64 (X.p), vdX, vmX]) rfl ?_
 intro h0_0 e0_0 hb0_0 z0_0
 have := Ext.size e0_0
 have eB := e0_0
 have hfhb0_0 : Fresh h.size [h.size] := Fresh.one _
 have hlhb0_0 := one_lt (show h.size < h0_0.size by omega)
 try simp -implicitDefEqProofs (disch := first | decide | assumption | omega) only [go_sem, BoxAt.cell hb0_0, wrap_id]
 refine op_box (cs := #[.int .i64 (Y.p), vdY, vmY]) rfl ?_
 intro h0_1 e0_1 hb0_1 z0_1
 replace hb0_0 := BoxAt.ext hb0_0 e0_1
 have := Ext.size e0_1
 replace eB := Ext.trans eB e0_1
 have hfhb0_1 : Fresh h0_0.size [h0_0.size] := Fresh.one _
 have hlhb0_1 := one_lt (show h0_0.size < h0_1.size by omega)
 try simp -implicitDefEqProofs (disch := first | decide | assumption | omega) only [go_sem, BoxAt.cell hb0_0, BoxAt.cell hb0_1, wrap_id]
 refine hK _ _ ?_
 clear hK K
 refine den_seq ?_
 refine den_region TTok ?_
 intro K hK
 simp -implicitDefEqProofs (disch := first | decide | assumption | omega) only [go_sem, BoxAt.cell hb0_0, BoxAt.cell hb0_1, wrap_id]
 refine hK _ _ ?_
 clear hK K
 refine den_seq ?_
 refine den_region TTok ?_
 intro K hK
 simp -implicitDefEqProofs (disch := first | decide | assumption | omega) only [go_sem, ld25, BoxAt.cell hb0_0, BoxAt.cell hb0_1, wrap_id]
 try simp -implicitDefEqProofs (disch := first | decide | assumption | omega) only [go_sem, BoxAt.cell hb0_0, BoxAt.cell hb0_1, wrap_id]
 refine CallA.mono (szC_ok _ X _ _ ⟨_, _, rfl, (RdS.pres hdX (Ext.pres eB)), (RdS.pres hmX (Ext.pres eB))⟩ (by omega) (by omega)) ?_
 intro v_ h2_2
 rintro ⟨rfl, e2_2⟩
 replace hb0_0 := BoxAt.ext hb0_0 e2_2
 replace hb0_1 := BoxAt.ext hb0_1 e2_2
 have := Ext.size e2_2
 replace eB := Ext.trans eB e2_2
 have := szC_le X (1048576 : Int) (by omega)
 try simp -implicitDefEqProofs (disch := first | decide | assumption | omega) only [go_sem, BoxAt.cell hb0_0, BoxAt.cell hb0_1, wrap_id]
 refine hK _ _ ?_
 clear hK K
 refine den_seq ?_
 refine den_seq ?_
 refine den_region TTok ?_
 intro K hK
 simp -implicitDefEqProofs (disch := first | decide | assumption | omega) only [go_sem, BoxAt.cell hb0_0, BoxAt.cell hb0_1, wrap_id]
 refine hK _ _ ?_
 clear hK K
 refine den_cond rfl (fun c0 => ?_) (fun c0 => ?_)
 ·try simp only [decide_eq_true_eq, decide_eq_false_iff_not, beq_iff_eq, beq_eq_false_iff_ne, bne_iff_ne, ne_eq, Bool.not_eq_true', Bool.not_eq_false', Bool.and_eq_true, Bool.or_eq_true, bne_eq_false_iff_eq] at c0
  refine den_seq ?_
  refine den_region TTok ?_
  intro K hK
  simp -implicitDefEqProofs (disch := first | decide | assumption | omega) only [go_sem, wrap_id]
  refine hK _ _ ?_
  clear hK K
  refine den_ret ?_
  simp (disch := decide) only [resP_1, puts_same, puts_ne]
  exact ⟨by first | rfl | trivial, eB⟩
 ·try simp only [decide_eq_true_eq, decide_eq_false_iff_not, beq_iff_eq, beq_eq_false_iff_ne, bne_iff_ne, ne_eq, Bool.not_eq_true', Bool.not_eq_false', Bool.and_eq_true, Bool.or_eq_true, bne_eq_false_iff_eq] at c0
  have hMX := szC_ok' (by omega) (by omega) c0
  have hcnX := szC_cntA (by omega) (by omega) c0
  refine den_skip ?_
  refine den_seq ?_
  refine den_region TTok ?_
  intro K hK
  simp -implicitDefEqProofs (disch := first | decide | assumption | omega) only [go_sem, ld25, BoxAt.cell hb0_0, BoxAt.cell hb0_1, wrap_id]
  try simp -implicitDefEqProofs (disch := first | decide | assumption | omega) only [go_sem, BoxAt.cell hb0_0, BoxAt.cell hb0_1, wrap_id]
  refine CallA.mono (szC_ok _ Y _ _ ⟨_, _, rfl, (RdS.pres hdY (Ext.pres eB)), (RdS.pres hmY (Ext.pres eB))⟩ (by omega) (by omega)) ?_
  intro v_ h5_2
  rintro ⟨rfl, e5_2⟩
  replace hb0_0 := BoxAt.ext hb0_0 e5_2
  replace hb0_1 := BoxAt.ext hb0_1 e5_2
  have := Ext.size e5_2
  replace eB := Ext.trans eB e5_2
  have := szC_le Y (szC X (1048576 : Int)) (by omega)
  try simp -implicitDefEqProofs (disch := first | decide | assumption | omega) only [go_sem, BoxAt.cell hb0_0, BoxAt.cell hb0_1, wrap_id]
  refine hK _ _ ?_
  clear hK K
  refine den_seq ?_
  refine den_seq ?_
  refine den_region TTok ?_
  intro K hK
  simp -implicitDefEqProofs (disch := first | decide | assumption | omega) only [go_sem, BoxAt.cell hb0_0, BoxAt.cell hb0_1, wrap_id]
  refine hK _ _ ?_
  clear hK K
  refine den_cond rfl (fun c1 => ?_) (fun c1 => ?_)
  ·try simp only [decide_eq_true_eq, decide_eq_false_iff_not, beq_iff_eq, beq_eq_false_iff_ne, bne_iff_ne, ne_eq, Bool.not_eq_true', Bool.not_eq_false', Bool.and_eq_true, Bool.or_eq_true, bne_eq_false_iff_eq] at c1
   refine den_seq ?_
   refine den_region TTok ?_
   intro K hK
   simp -implicitDefEqProofs (disch := first | decide | assumption | omega) only [go_sem, wrap_id]
   refine hK _ _ ?_
   clear hK K
   refine den_ret ?_
   simp (disch := decide) only [resP_1, puts_same, puts_ne]
   exact ⟨by first | rfl | trivial, eB⟩
  ·try simp only [decide_eq_true_eq, decide_eq_false_iff_not, beq_iff_eq, beq_eq_false_iff_ne, bne_iff_ne, ne_eq, Bool.not_eq_true', Bool.not_eq_false', Bool.and_eq_true, Bool.or_eq_true, bne_eq_false_iff_eq] at c1
   have hMY := szC_ok' (by omega) (by omega) c1
   have hcnY := szC_cntA (by omega) (by omega) c1
   have hci := cnt_sw X Y
   refine den_skip ?_
   refine den_seq ?_
   refine den_draw TTok mixed [] [(0, true), (2, true), (1, false), (3, false), (4, false), (5, true), (6, true), (7, true), (8, true), (9, true)] (by kernel_rfl) ?_
   intro K hK
   simp -implicitDefEqProofs (disch := first | decide | assumption | omega) only [go_sem, ld25, BoxAt.cell hb0_0, BoxAt.cell hb0_1, wrap_id]
   try simp -implicitDefEqProofs (disch := first | decide | assumption | omega) only [go_sem, BoxAt.cell hb0_0, BoxAt.cell hb0_1, wrap_id]
   refine CallA.mono (toC_ok _ X _ ⟨_, _, rfl, (RdS.pres hdX (Ext.pres eB)), (RdS.pres hmX (Ext.pres eB))⟩ hMX) ?_
   intro v_ h8_1
   rintro ⟨vd8_1, vm8_1, fd8_1, fm8_1, rfl, hod8_1, hom8_1, hf8_1, e8_1⟩
   replace hb0_0 := BoxAt.ext hb0_0 e8_1
   replace hb0_1 := BoxAt.ext hb0_1 e8_1
   have := Ext.size e8_1
   replace eB := Ext.trans eB e8_1
   have hfd8_1 := hf8_1.left
   have hfm8_1 := hf8_1.right
   have hlhod8_1 := OS.lt hod8_1
   have hlhom8_1 := OS.lt hom8_1
   have ap1 : Apart fd8_1 fm8_1 := apart_nodup hf8_1
   try simp (disch := decide) only [outv_some, outv_none, put_puts]
   refine plK_pres (Ext.pres e8_1) ?_
   try simp -implicitDefEqProofs (disch := first | decide | assumption | omega) only [go_sem, BoxAt.cell hb0_0, BoxAt.cell hb0_1, wrap_id]
   try simp -implicitDefEqProofs (disch := first | decide | assumption | omega) only [go_sem, BoxAt.cell hb0_0, BoxAt.cell hb0_1, wrap_id]
   refine CallA.mono (toC_ok _ Y _ ⟨_, _, rfl, (RdS.pres hdY (Ext.pres eB)), (RdS.pres hmY (Ext.pres eB))⟩ hMY) ?_
   intro v_ h8_3
   rintro ⟨vd8_3, vm8_3, fd8_3, fm8_3, rfl, hod8_3, hom8_3, hf8_3, e8_3⟩
   replace hod8_1 := OS.ext hod8_1 e8_3
   replace hom8_1 := OS.ext hom8_1 e8_3
   replace hb0_0 := BoxAt.ext hb0_0 e8_3
   replace hb0_1 := BoxAt.ext hb0_1 e8_3
   have := Ext.size e8_3
   replace eB := Ext.trans eB e8_3
   have hfd8_3 := hf8_3.left
   have hfm8_3 := hf8_3.right
   have hlhod8_3 := OS.lt hod8_3
   have hlhom8_3 := OS.lt hom8_3
   have ap2 : Apart fd8_3 fm8_3 := apart_nodup hf8_3
   try simp (disch := decide) only [outv_some, outv_none, put_puts]
   refine plK_pres (Ext.pres e8_3) ?_
   try simp -implicitDefEqProofs (disch := first | decide | assumption | omega) only [go_sem, BoxAt.cell hb0_0, BoxAt.cell hb0_1, wrap_id]
   try simp -implicitDefEqProofs (disch := first | decide | assumption | omega) only [go_sem, BoxAt.cell hb0_0, BoxAt.cell hb0_1, wrap_id]
   refine CallA.mono (sSw_ok _ _ X Y _ ⟨_, _, rfl, (OS.rd hod8_1), (OS.rd hom8_1)⟩ ⟨_, _, rfl, (OS.rd hod8_3), (OS.rd hom8_3)⟩ ) ?_
   intro v_ h8_4
   rintro ⟨vw8_4_0, fw8_4_0, rfl, how8_4_0, hfw8_4_0, e8_4⟩
   replace hod8_1 := OS.ext hod8_1 e8_4
   replace hom8_1 := OS.ext hom8_1 e8_4
   replace hod8_3 := OS.ext hod8_3 e8_4
   replace hom8_3 := OS.ext hom8_3 e8_4
   replace hb0_0 := BoxAt.ext hb0_0 e8_4
   replace hb0_1 := BoxAt.ext hb0_1 e8_4
   have := Ext.size e8_4
   replace eB := Ext.trans eB e8_4
   have hlhow8_4_0 := OS.lt how8_4_0
   try simp (disch := decide) only [outv_some, outv_none, put_puts]
   refine plK_pres (Ext.pres e8_4) ?_
   try simp -implicitDefEqProofs (disch := first | decide | assumption | omega) only [go_sem, BoxAt.cell hb0_0, BoxAt.cell hb0_1, wrap_id]
   refine hK _ _ ?_
   clear hK K
   refine den_seq ?_
   refine den_region TTok ?_
   intro K hK
   simp -implicitDefEqProofs (disch := first | decide | assumption | omega) only [go_sem, ld25, BoxAt.cell hb0_0, BoxAt.cell hb0_1, wrap_id]
   try simp -implicitDefEqProofs (disch := first | decide | assumption | omega) only [go_sem, BoxAt.cell hb0_0, BoxAt.cell hb0_1, wrap_id]
   refine CallA.mono (toC_ok _ X _ ⟨_, _, rfl, (RdS.pres hdX (Ext.pres eB)), (RdS.pres hmX (Ext.pres eB))⟩ hMX) ?_
   intro v_ h9_1
   rintro ⟨vd9_1, vm9_1, fd9_1, fm9_1, rfl, hod9_1, hom9_1, hf9_1, e9_1⟩
   replace how8_4_0 := OS.ext how8_4_0 e9_1
   replace hb0_0 := BoxAt.ext hb0_0 e9_1
   replace hb0_1 := BoxAt.ext hb0_1 e9_1
   have := Ext.size e9_1
   replace eB := Ext.trans eB e9_1
   have hfd9_1 := hf9_1.left
   have hfm9_1 := hf9_1.right
   have hlhod9_1 := OS.lt hod9_1
   have hlhom9_1 := OS.lt hom9_1
   have ap3 : Apart fd9_1 fm9_1 := apart_nodup hf9_1
   try simp -implicitDefEqProofs (disch := first | decide | assumption | omega) only [go_sem, BoxAt.cell hb0_0, BoxAt.cell hb0_1, wrap_id]
   refine op_alloc (cs := #[.int .i64 0, .slice none 0 0, .slice none 0 0]) (by kernel_rfl) ?_
   intro h9_2 e9_2 hb9_2 z9_2
   replace how8_4_0 := OS.ext how8_4_0 e9_2
   replace hod9_1 := OS.ext hod9_1 e9_2
   replace hom9_1 := OS.ext hom9_1 e9_2
   replace hb0_0 := BoxAt.ext hb0_0 e9_2
   replace hb0_1 := BoxAt.ext hb0_1 e9_2
   have := Ext.size e9_2
   replace eB := Ext.trans eB e9_2
   have hfhb9_2 : Fresh h9_1.size [h9_1.size] := Fresh.one _
   have hlhb9_2 := one_lt (show h9_1.size < h9_2.size by omega)
   try simp -implicitDefEqProofs (disch := first | decide | assumption | omega) only [go_sem, BoxAt.cell hb0_0, BoxAt.cell hb0_1, BoxAt.cell hb9_2, wrap_id]
   refine op_storeB (cs' := #[.int .i64 (X.p), vd9_1, vm9_1]) st30 hb9_2 rfl rfl rfl (by simp) (allOne_mem (l := [.int .i64 (X.p), vd9_1, vm9_1]) ⟨rfl, (OS.one hod9_1).1, (OS.one hom9_1).1, trivial⟩) rfl ?_
   intro h9_3 hb9_2 c9_3
   replace how8_4_0 := OS.chg how8_4_0 c9_3 (apart_lt hlhow8_4_0 hfhb9_2 (by omega))
   replace hod9_1 := OS.chg hod9_1 c9_3 (apart_lt hlhod9_1 hfhb9_2 (by omega))
   replace hom9_1 := OS.chg hom9_1 c9_3 (apart_lt hlhom9_1 hfhb9_2 (by omega))
   replace hb0_0 := BoxAt.chgA hb0_0 c9_3 (apart_lt hlhb0_0 hfhb9_2 (by omega))
   replace hb0_1 := BoxAt.chgA hb0_1 c9_3 (apart_lt hlhb0_1 hfhb9_2 (by omega))
   have := c9_3.size
   replace eB := Ext.then eB c9_3 (ge_of hfhb9_2 (by omega))
   try simp -implicitDefEqProofs (disch := first | decide | assumption | omega) only [go_sem, BoxAt.cell hb0_0, BoxAt.cell hb0_1, BoxAt.cell hb9_2, wrap_id]
   refine hK _ _ ?_
   clear hK K
   refine den_seq ?_
   refine den_region TTok ?_
   intro K hK
   simp -implicitDefEqProofs (disch := first | decide | assumption | omega) only [go_sem, ld25, BoxAt.cell hb0_0, BoxAt.cell hb0_1, BoxAt.cell hb9_2, wrap_id]
   try simp -implicitDefEqProofs (disch := first | decide | assumption | omega) only [go_sem, BoxAt.cell hb0_0, BoxAt.cell hb0_1, BoxAt.cell hb9_2, wrap_id]
   refine CallA.mono (toC_ok _ Y _ ⟨_, _, rfl, (RdS.pres hdY (Ext.pres eB)), (RdS.pres hmY (Ext.pres eB))⟩ hMY) ?_
   intro v_ h10_1
   rintro ⟨vd10_1, vm10_1, fd10_1, fm10_1, rfl, hod10_1, hom10_1, hf10_1, e10_1⟩
   replace how8_4_0 := OS.ext how8_4_0 e10_1
   replace hod9_1 := OS.ext hod9_1 e10_1
   replace hom9_1 := OS.ext hom9_1 e10_1
   replace hb0_0 := BoxAt.ext hb0_0 e10_1
   replace hb0_1 := BoxAt.ext hb0_1 e10_1
   replace hb9_2 := BoxAt.ext hb9_2 e10_1
   have := Ext.size e10_1
   replace eB := Ext.trans eB e10_1
   have hfd10_1 := hf10_1.left
   have hfm10_1 := hf10_1.right
   have hlhod10_1 := OS.lt hod10_1
   have hlhom10_1 := OS.lt hom10_1
   have ap4 : Apart fd10_1 fm10_1 := apart_nodup hf10_1
   try simp -implicitDefEqProofs (disch := first | decide | assumption | omega) only [go_sem, BoxAt.cell hb0_0, BoxAt.cell hb0_1, BoxAt.cell hb9_2, wrap_id]
   refine op_alloc (cs := #[.int .i64 0, .slice none 0 0, .slice none 0 0]) (by kernel_rfl) ?_
   intro h10_2 e10_2 hb10_2 z10_2
   replace how8_4_0 := OS.ext how8_4_0 e10_2
   replace hod9_1 := OS.ext hod9_1 e10_2
   replace hom9_1 := OS.ext hom9_1 e10_2
   replace hod10_1 := OS.ext hod10_1 e10_2
   replace hom10_1 := OS.ext hom10_1 e10_2
   replace hb0_0 := BoxAt.ext hb0_0 e10_2
   replace hb0_1 := BoxAt.ext hb0_1 e10_2
   replace hb9_2 := BoxAt.ext hb9_2 e10_2
   have := Ext.size e10_2
   replace eB := Ext.trans eB e10_2
   have hfhb10_2 : Fresh h10_1.size [h10_1.size] := Fresh.one _
   have hlhb10_2 := one_lt (show h10_1.size < h10_2.size by omega)
   try simp -implicitDefEqProofs (disch := first | decide | assumption | omega) only [go_sem, BoxAt.cell hb0_0, BoxAt.cell hb0_1, BoxAt.cell hb9_2, BoxAt.cell hb10_2, wrap_id]
   refine op_storeB (cs' := #[.int .i64 (Y.p), vd10_1, vm10_1]) st30 hb10_2 rfl rfl rfl (by simp) (allOne_mem (l := [.int .i64 (Y.p), vd10_1, vm10_1]) ⟨rfl, (OS.one hod10_1).1, (OS.one hom10_1).1, trivial⟩) rfl ?_
   intro h10_3 hb10_2 c10_3
   replace how8_4_0 := OS.chg how8_4_0 c10_3 (apart_lt hlhow8_4_0 hfhb10_2 (by omega))
   replace hod9_1 := OS.chg hod9_1 c10_3 (apart_lt hlhod9_1 hfhb10_2 (by omega))
   replace hom9_1 := OS.chg hom9_1 c10_3 (apart_lt hlhom9_1 hfhb10_2 (by omega))
   replace hod10_1 := OS.chg hod10_1 c10_3 (apart_lt hlhod10_1 hfhb10_2 (by omega))
   replace hom10_1 := OS.chg hom10_1 c10_3 (apart_lt hlhom10_1 hfhb10_2 (by omega))
   replace hb0_0 := BoxAt.chgA hb0_0 c10_3 (apart_lt hlhb0_0 hfhb10_2 (by omega))
   replace hb0_1 := BoxAt.chgA hb0_1 c10_3 (apart_lt hlhb0_1 hfhb10_2 (by omega))
   replace hb9_2 := BoxAt.chgA hb9_2 c10_3 (apart_lt hlhb9_2 hfhb10_2 (by omega))
   have := c10_3.size
   replace eB := Ext.then eB c10_3 (ge_of hfhb10_2 (by omega))
   try simp -implicitDefEqProofs (disch := first | decide | assumption | omega) only [go_sem, BoxAt.cell hb0_0, BoxAt.cell hb0_1, BoxAt.cell hb9_2, BoxAt.cell hb10_2, wrap_id]
   refine hK _ _ ?_
   clear hK K
   refine den_seq ?_
   refine den_region TTok ?_
   intro K hK
   simp -implicitDefEqProofs (disch := first | decide | assumption | omega) only [go_sem, ld30, BoxAt.cell hb0_0, BoxAt.cell hb0_1, BoxAt.cell hb9_2, BoxAt.cell hb10_2, wrap_id]
   try simp -implicitDefEqProofs (disch := first | decide | assumption | omega) only [go_sem, BoxAt.cell hb0_0, BoxAt.cell hb0_1, BoxAt.cell hb9_2, BoxAt.cell hb10_2, wrap_id]
   refine CallA.mono (iSw_ok _ _ X Y _ ⟨_, _, rfl, (OS.rd hod9_1), (OS.rd hom9_1)⟩ ⟨_, _, rfl, (OS.rd hod10_1), (OS.rd hom10_1)⟩ ) ?_
   intro v_ h11_2
   rintro ⟨vw11_2_0, fw11_2_0, rfl, how11_2_0, hfw11_2_0, e11_2⟩
   replace how8_4_0 := OS.ext how8_4_0 e11_2
   replace hod9_1 := OS.ext hod9_1 e11_2
   replace hom9_1 := OS.ext hom9_1 e11_2
   replace hod10_1 := OS.ext hod10_1 e11_2
   replace hom10_1 := OS.ext hom10_1 e11_2
   replace hb0_0 := BoxAt.ext hb0_0 e11_2
   replace hb0_1 := BoxAt.ext hb0_1 e11_2
   replace hb9_2 := BoxAt.ext hb9_2 e11_2
   replace hb10_2 := BoxAt.ext hb10_2 e11_2
   have := Ext.size e11_2
   replace eB := Ext.trans eB e11_2
   have hlhow11_2_0 := OS.lt how11_2_0
   try simp -implicitDefEqProofs (disch := first | decide | assumption | omega) only [go_sem, BoxAt.cell hb0_0, BoxAt.cell hb0_1, BoxAt.cell hb9_2, BoxAt.cell hb10_2, wrap_id]
   refine hK _ _ ?_
   clear hK K
   refine den_seq ?_
   refine den_seq ?_
   refine den_mergeH [(53, .bool (((!(true)) || (((swP X Y).2) != ((swP X Y).2)))))] [2, 3, 6, 7, 8, 9, 10, 11] ?_ ?_
    -- a way
   ·refine den_region TTok ?_
    intro K hK
    simp -implicitDefEqProofs (disch := first | decide | assumption | (simp (disch := decide) only [slotOf_zero, slotOf_succ, Option.map_some, puts_same, puts_ne, gv_bool, gv_undef, tt, tf, ft, ff, eq_self, if_true, if_false, Bool.false_eq_true, Bool.not_true, Bool.not_false]; done) | omega) only [go_sem, BoxAt.cell hb0_0, BoxAt.cell hb0_1, BoxAt.cell hb9_2, BoxAt.cell hb10_2, wrap_id]
    try simp -implicitDefEqProofs (disch := first | decide | assumption | omega) only [go_sem, BoxAt.cell hb0_0, BoxAt.cell hb0_1, BoxAt.cell hb9_2, BoxAt.cell hb10_2, wrap_id]
    refine CallA.pure (eqSSS_same _ _ _ _ (OS.rd how11_2_0) (OS.rd how8_4_0)) ?_
    try simp -implicitDefEqProofs (disch := first | decide | assumption | (simp (disch := decide) only [slotOf_zero, slotOf_succ, Option.map_some, puts_same, puts_ne, gv_bool, gv_undef, tt, tf, ft, ff, eq_self, if_true, if_false, Bool.false_eq_true, Bool.not_true, Bool.not_false]; done) | omega) only [go_sem, BoxAt.cell hb0_0, BoxAt.cell hb0_1, BoxAt.cell hb9_2, BoxAt.cell hb10_2, wrap_id]
    try simp -implicitDefEqProofs (disch := first | decide | assumption | (simp (disch := decide) only [slotOf_zero, slotOf_succ, Option.map_some, puts_same, puts_ne, gv_bool, gv_undef, tt, tf, ft, ff, eq_self, if_true, if_false, Bool.false_eq_true, Bool.not_true, Bool.not_false]; done) | omega) only [go_sem, BoxAt.cell hb0_0, BoxAt.cell hb0_1, BoxAt.cell hb9_2, BoxAt.cell hb10_2, wrap_id]
    refine hK _ _ ?_
    clear hK K
    refine den_stop ?_
    refine ⟨?_, rfl⟩
    first | (simp (disch := decide) only [go_sem, eq_self, Bool.true_and, Bool.and_true, Bool.false_and, Bool.and_false, Bool.true_or, Bool.or_true, Bool.false_or, Bool.or_false, if_true, if_false, Bool.false_eq_true]; done) | simp [HasL, sel, puts_at]
   intro en5
   simp (disch := decide) only [go_sem]
   refine den_cond rfl (fun c2 => ?_) (fun c2 => ?_)
   ·try simp only [decide_eq_true_eq, decide_eq_false_iff_not, beq_iff_eq, beq_eq_false_iff_ne, bne_iff_ne, ne_eq, Bool.not_eq_true', Bool.not_eq_false', Bool.and_eq_true, Bool.or_eq_true, bne_eq_false_iff_eq] at c2
    refine den_seq ?_
    refine den_region TTok ?_
    intro K hK
    simp -implicitDefEqProofs (disch := first | decide | assumption | omega) only [go_sem, wrap_id]
    refine hK _ _ ?_
    clear hK K
    refine den_ret ?_
    simp (disch := decide) only [resP_1, puts_same, puts_ne]
    exact absurd c2 (by first | (simp; done) | (simp; omega) | omega | (simp [eqC_self]; done))
   ·try simp only [decide_eq_true_eq, decide_eq_false_iff_not, beq_iff_eq, beq_eq_false_iff_ne, bne_iff_ne, ne_eq, Bool.not_eq_true', Bool.not_eq_false', Bool.and_eq_true, Bool.or_eq_true, bne_eq_false_iff_eq] at c2
    refine den_skip ?_
    refine den_seq ?_
    refine den_seq ?_
    refine den_draw TTok mixed [] [(0, true), (1, true), (2, false), (3, false), (4, true)] (by kernel_rfl) ?_
    intro K hK
    simp -implicitDefEqProofs (disch := first | decide | assumption | omega) only [go_sem, ld30, ld25, BoxAt.cell hb0_0, BoxAt.cell hb0_1, BoxAt.cell hb9_2, BoxAt.cell hb10_2, wrap_id]
    try simp -implicitDefEqProofs (disch := first | decide | assumption | omega) only [go_sem, BoxAt.cell hb0_0, BoxAt.cell hb0_1, BoxAt.cell hb9_2, BoxAt.cell hb10_2, wrap_id]
    refine CallA.mono (toC_ok _ X _ ⟨_, _, rfl, (RdS.pres hdX (Ext.pres eB)), (RdS.pres hmX (Ext.pres eB))⟩ hMX) ?_
    intro v_ h14_2
    rintro ⟨vd14_2, vm14_2, fd14_2, fm14_2, rfl, hod14_2, hom14_2, hf14_2, e14_2⟩
    replace how8_4_0 := OS.ext how8_4_0 e14_2
    replace hod9_1 := OS.ext hod9_1 e14_2
    replace hom9_1 := OS.ext hom9_1 e14_2
    replace hod10_1 := OS.ext hod10_1 e14_2
    replace hom10_1 := OS.ext hom10_1 e14_2
    replace how11_2_0 := OS.ext how11_2_0 e14_2
    replace hb0_0 := BoxAt.ext hb0_0 e14_2
    replace hb0_1 := BoxAt.ext hb0_1 e14_2
    replace hb9_2 := BoxAt.ext hb9_2 e14_2
    replace hb10_2 := BoxAt.ext hb10_2 e14_2
    have := Ext.size e14_2
    replace eB := Ext.trans eB e14_2
    have hfd14_2 := hf14_2.left
    have hfm14_2 := hf14_2.right
    have hlhod14_2 := OS.lt hod14_2
    have hlhom14_2 := OS.lt hom14_2
    have ap8 : Apart fd14_2 fm14_2 := apart_nodup hf14_2
    try simp (disch := decide) only [outv_some, outv_none, put_puts]
    refine plK_pres (Ext.pres e14_2) ?_
    try simp -implicitDefEqProofs (disch := first | decide | assumption | omega) only [go_sem, BoxAt.cell hb0_0, BoxAt.cell hb0_1, BoxAt.cell hb9_2, BoxAt.cell hb10_2, wrap_id]
    try simp -implicitDefEqProofs (disch := first | decide | assumption | omega) only [go_sem, BoxAt.cell hb0_0, BoxAt.cell hb0_1, BoxAt.cell hb9_2, BoxAt.cell hb10_2, wrap_id]
    refine CallA.mono (eqC_same _ _ X _ ⟨_, _, rfl, (OS.rd hod9_1), (OS.rd hom9_1)⟩ ⟨_, _, rfl, (OS.rd hod14_2), (OS.rd hom14_2)⟩) ?_
    intro v_ h14_3
    rintro ⟨rfl, e14_3⟩
    replace how8_4_0 := OS.ext how8_4_0 e14_3
    replace hod9_1 := OS.ext hod9_1 e14_3
    replace hom9_1 := OS.ext hom9_1 e14_3
    replace hod10_1 := OS.ext hod10_1 e14_3
    replace hom10_1 := OS.ext hom10_1 e14_3
    replace how11_2_0 := OS.ext how11_2_0 e14_3
    replace hod14_2 := OS.ext hod14_2 e14_3
    replace hom14_2 := OS.ext hom14_2 e14_3
    replace hb0_0 := BoxAt.ext hb0_0 e14_3
    replace hb0_1 := BoxAt.ext hb0_1 e14_3
    replace hb9_2 := BoxAt.ext hb9_2 e14_3
    replace hb10_2 := BoxAt.ext hb10_2 e14_3
    have := Ext.size e14_3
    replace eB := Ext.trans eB e14_3
    try simp (disch := decide) only [outv_some, outv_none, put_puts]
    refine plK_pres (Ext.pres e14_3) ?_
    try simp -implicitDefEqProofs (disch := first | decide | assumption | omega) only [go_sem, BoxAt.cell hb0_0, BoxAt.cell hb0_1, BoxAt.cell hb9_2, BoxAt.cell hb10_2, wrap_id]
    refine hK _ _ ?_
    clear hK K
    refine den_cond rfl (fun c3 => ?_) (fun c3 => ?_)
    ·try simp only [decide_eq_true_eq, decide_eq_false_iff_not, beq_iff_eq, beq_eq_false_iff_ne, bne_iff_ne, ne_eq, Bool.not_eq_true', Bool.not_eq_false', Bool.and_eq_true, Bool.or_eq_true, bne_eq_false_iff_eq] at c3
     refine den_seq ?_
     refine den_region TTok ?_
     intro K hK
     simp -implicitDefEqProofs (disch := first | decide | assumption | omega) only [go_sem, wrap_id]
     refine hK _ _ ?_
     clear hK K
     refine den_ret ?_
     simp (disch := decide) only [resP_1, puts_same, puts_ne]
     exact absurd c3 (by first | (simp; done) | (simp; omega) | omega | (simp [eqC_self]; done))
    ·try simp only [decide_eq_true_eq, decide_eq_false_iff_not, beq_iff_eq, beq_eq_false_iff_ne, bne_iff_ne, ne_eq, Bool.not_eq_true', Bool.not_eq_false', Bool.and_eq_true, Bool.or_eq_true, bne_eq_false_iff_eq] at c3
     refine den_skip ?_
     refine den_seq ?_
     refine den_seq ?_
     refine den_draw TTok mixed [] [(0, true), (1, true), (2, false), (3, false), (4, true)] (by kernel_rfl) ?_
     intro K hK
     simp -implicitDefEqProofs (disch := first | decide | assumption | omega) only [go_sem, ld30, ld25, BoxAt.cell hb0_0, BoxAt.cell hb0_1, BoxAt.cell hb9_2, BoxAt.cell hb10_2, wrap_id]
     try simp -implicitDefEqProofs (disch := first | decide | assumption | omega) only [go_sem, BoxAt.cell hb0_0, BoxAt.cell hb0_1, BoxAt.cell hb9_2, BoxAt.cell hb10_2, wrap_id]
     refine CallA.mono (toC_ok _ Y _ ⟨_, _, rfl, (RdS.pres hdY (Ext.pres eB)), (RdS.pres hmY (Ext.pres eB))⟩ hMY) ?_
     intro v_ h16_2
     rintro ⟨vd16_2, vm16_2, fd16_2, fm16_2, rfl, hod16_2, hom16_2, hf16_2, e16_2⟩
     replace how8_4_0 := OS.ext how8_4_0 e16_2
     replace hod9_1 := OS.ext hod9_1 e16_2
     replace hom9_1 := OS.ext hom9_1 e16_2
     replace hod10_1 := OS.ext hod10_1 e16_2
     replace hom10_1 := OS.ext hom10_1 e16_2
     replace how11_2_0 := OS.ext how11_2_0 e16_2
     replace hb0_0 := BoxAt.ext hb0_0 e16_2
     replace hb0_1 := BoxAt.ext hb0_1 e16_2
     replace hb9_2 := BoxAt.ext hb9_2 e16_2
     replace hb10_2 := BoxAt.ext hb10_2 e16_2
     have := Ext.size e16_2
     replace eB := Ext.trans eB e16_2
     have hfd16_2 := hf16_2.left
     have hfm16_2 := hf16_2.right
     have hlhod16_2 := OS.lt hod16_2
     have hlhom16_2 := OS.lt hom16_2
     have ap9 : Apart fd16_2 fm16_2 := apart_nodup hf16_2
     try simp (disch := decide) only [outv_some, outv_none, put_puts]
     refine plK_pres (Ext.pres e16_2) ?_
     try simp -implicitDefEqProofs (disch := first | decide | assumption | omega) only [go_sem, BoxAt.cell hb0_0, BoxAt.cell hb0_1, BoxAt.cell hb9_2, BoxAt.cell hb10_2, wrap_id]
     try simp -implicitDefEqProofs (disch := first | decide | assumption | omega) only [go_sem, BoxAt.cell hb0_0, BoxAt.cell hb0_1, BoxAt.cell hb9_2, BoxAt.cell hb10_2, wrap_id]
     refine CallA.mono (eqC_same _ _ Y _ ⟨_, _, rfl, (OS.rd hod10_1), (OS.rd hom10_1)⟩ ⟨_, _, rfl, (OS.rd hod16_2), (OS.rd hom16_2)⟩) ?_
     intro v_ h16_3
     rintro ⟨rfl, e16_3⟩
     replace how8_4_0 := OS.ext how8_4_0 e16_3
     replace hod9_1 := OS.ext hod9_1 e16_3
     replace hom9_1 := OS.ext hom9_1 e16_3
     replace hod10_1 := OS.ext hod10_1 e16_3
     replace hom10_1 := OS.ext hom10_1 e16_3
     replace how11_2_0 := OS.ext how11_2_0 e16_3
     replace hod16_2 := OS.ext hod16_2 e16_3
     replace hom16_2 := OS.ext hom16_2 e16_3
     replace hb0_0 := BoxAt.ext hb0_0 e16_3
     replace hb0_1 := BoxAt.ext hb0_1 e16_3
     replace hb9_2 := BoxAt.ext hb9_2 e16_3
     replace hb10_2 := BoxAt.ext hb10_2 e16_3
     have := Ext.size e16_3
     replace eB := Ext.trans eB e16_3
     try simp (disch := decide) only [outv_some, outv_none, put_puts]
     refine plK_pres (Ext.pres e16_3) ?_
     try simp -implicitDefEqProofs (disch := first | decide | assumption | omega) only [go_sem, BoxAt.cell hb0_0, BoxAt.cell hb0_1, BoxAt.cell hb9_2, BoxAt.cell hb10_2, wrap_id]
     refine hK _ _ ?_
     clear hK K
     refine den_cond rfl (fun c4 => ?_) (fun c4 => ?_)
     ·try simp only [decide_eq_true_eq, decide_eq_false_iff_not, beq_iff_eq, beq_eq_false_iff_ne, bne_iff_ne, ne_eq, Bool.not_eq_true', Bool.not_eq_false', Bool.and_eq_true, Bool.or_eq_true, bne_eq_false_iff_eq] at c4
      refine den_seq ?_
      refine den_region TTok ?_
      intro K hK
      simp -implicitDefEqProofs (disch := first | decide | assumption | omega) only [go_sem, wrap_id]
      refine hK _ _ ?_
      clear hK K
      refine den_ret ?_
      simp (disch := decide) only [resP_1, puts_same, puts_ne]
      exact absurd c4 (by first | (simp; done) | (simp; omega) | omega | (simp [eqC_self]; done))
     ·try simp only [decide_eq_true_eq, decide_eq_false_iff_not, beq_iff_eq, beq_eq_false_iff_ne, bne_iff_ne, ne_eq, Bool.not_eq_true', Bool.not_eq_false', Bool.and_eq_true, Bool.or_eq_true, bne_eq_false_iff_eq] at c4
      refine den_skip ?_
      refine den_seq ?_
      refine den_region TTok ?_
      intro K hK
      simp -implicitDefEqProofs (disch := first | decide | assumption | omega) only [go_sem, BoxAt.cell hb0_0, BoxAt.cell hb0_1, BoxAt.cell hb9_2, BoxAt.cell hb10_2, wrap_id]
      refine hK _ _ ?_
      clear hK K
      refine den_seq ?_
      refine den_region TTok ?_
      intro K hK
      simp -implicitDefEqProofs (disch := first | decide | assumption | omega) only [go_sem, ld30, BoxAt.cell hb0_0, BoxAt.cell hb0_1, BoxAt.cell hb9_2, BoxAt.cell hb10_2, wrap_id]
      try simp -implicitDefEqProofs (disch := first | decide | assumption | omega) only [go_sem, BoxAt.cell hb0_0, BoxAt.cell hb0_1, BoxAt.cell hb9_2, BoxAt.cell hb10_2, wrap_id]
      refine CallA.mono (markCx_ok _ _ X (1 : Int) _ _ _ hod9_1 hom9_1 (List.nodup_append.2 ⟨hfd9_1.nodup, hfm9_1.nodup, fun b hb c hc e => ap3 b hb (e ▸ hc)⟩) (by omega)) ?_
      intro v_ h19_2
      rintro ⟨rfl, hogd19_2, hogm19_2, cg19_2⟩
      replace how8_4_0 := OS.chg how8_4_0 cg19_2 (Apart.app (apart_lt hlhow8_4_0 hfd9_1 (by omega)) (apart_lt hlhow8_4_0 hfm9_1 (by omega)))
      replace hod10_1 := OS.chg hod10_1 cg19_2 (Apart.app (apart_gt hfd10_1 hlhod9_1 (by omega)) (apart_gt hfd10_1 hlhom9_1 (by omega)))
      replace hom10_1 := OS.chg hom10_1 cg19_2 (Apart.app (apart_gt hfm10_1 hlhod9_1 (by omega)) (apart_gt hfm10_1 hlhom9_1 (by omega)))
      replace how11_2_0 := OS.chg how11_2_0 cg19_2 (Apart.app (apart_gt hfw11_2_0 hlhod9_1 (by omega)) (apart_gt hfw11_2_0 hlhom9_1 (by omega)))
      replace hb0_0 := BoxAt.chgA hb0_0 cg19_2 (Apart.app (apart_lt hlhb0_0 hfd9_1 (by omega)) (apart_lt hlhb0_0 hfm9_1 (by omega)))
      replace hb0_1 := BoxAt.chgA hb0_1 cg19_2 (Apart.app (apart_lt hlhb0_1 hfd9_1 (by omega)) (apart_lt hlhb0_1 hfm9_1 (by omega)))
      replace hb9_2 := BoxAt.chgA hb9_2 cg19_2 (Apart.app (apart_gt hfhb9_2 hlhod9_1 (by omega)) (apart_gt hfhb9_2 hlhom9_1 (by omega)))
      replace hb10_2 := BoxAt.chgA hb10_2 cg19_2 (Apart.app (apart_gt hfhb10_2 hlhod9_1 (by omega)) (apart_gt hfhb10_2 hlhom9_1 (by omega)))
      have := cg19_2.size
      replace eB := Ext.then eB cg19_2 (ge_app (ge_of hfd9_1 (by omega)) (ge_of hfm9_1 (by omega)))
      have ap10 : Apart fm9_1 fd9_1 := (Apart.symm ap3)
      have hlhogd19_2 := hlhod9_1
      have ap11 : Apart fd9_1 fm9_1 := (Apart.symm ap10)
      have hlhogm19_2 := hlhom9_1
      try simp -implicitDefEqProofs (disch := first | decide | assumption | omega) only [go_sem, BoxAt.cell hb0_0, BoxAt.cell hb0_1, BoxAt.cell hb9_2, BoxAt.cell hb10_2, wrap_id]
      refine hK _ _ ?_
      clear hK K
      refine den_seq ?_
      refine den_region TTok ?_
      intro K hK
      simp -implicitDefEqProofs (disch := first | decide | assumption | omega) only [go_sem, ld30, BoxAt.cell hb0_0, BoxAt.cell hb0_1, BoxAt.cell hb10_2, wrap_id]
      try simp -implicitDefEqProofs (disch := first | decide | assumption | omega) only [go_sem, BoxAt.cell hb0_0, BoxAt.cell hb0_1, BoxAt.cell hb10_2, wrap_id]
      refine CallA.mono (markCx_ok _ _ Y ((1 : Int) + cnt1 X.dims + cntL cnt2 X.maps) _ _ _ hod10_1 hom10_1 (List.nodup_append.2 ⟨hfd10_1.nodup, hfm10_1.nodup, fun b hb c hc e => ap4 b hb (e ▸ hc)⟩) (by omega)) ?_
      intro v_ h20_2
      rintro ⟨rfl, hogd20_2, hogm20_2, cg20_2⟩
      replace how8_4_0 := OS.chg how8_4_0 cg20_2 (Apart.app (apart_lt hlhow8_4_0 hfd10_1 (by omega)) (apart_lt hlhow8_4_0 hfm10_1 (by omega)))
      replace how11_2_0 := OS.chg how11_2_0 cg20_2 (Apart.app (apart_gt hfw11_2_0 hlhod10_1 (by omega)) (apart_gt hfw11_2_0 hlhom10_1 (by omega)))
      replace hb0_0 := BoxAt.chgA hb0_0 cg20_2 (Apart.app (apart_lt hlhb0_0 hfd10_1 (by omega)) (apart_lt hlhb0_0 hfm10_1 (by omega)))
      replace hb0_1 := BoxAt.chgA hb0_1 cg20_2 (Apart.app (apart_lt hlhb0_1 hfd10_1 (by omega)) (apart_lt hlhb0_1 hfm10_1 (by omega)))
      replace hb10_2 := BoxAt.chgA hb10_2 cg20_2 (Apart.app (apart_gt hfhb10_2 hlhod10_1 (by omega)) (apart_gt hfhb10_2 hlhom10_1 (by omega)))
      have := cg20_2.size
      replace eB := Ext.then eB cg20_2 (ge_app (ge_of hfd10_1 (by omega)) (ge_of hfm10_1 (by omega)))
      have ap12 : Apart fm10_1 fd10_1 := (Apart.symm ap4)
      have hlhogd20_2 := hlhod10_1
      have ap13 : Apart fd10_1 fm10_1 := (Apart.symm ap12)
      have hlhogm20_2 := hlhom10_1
      try simp -implicitDefEqProofs (disch := first | decide | assumption | omega) only [go_sem, BoxAt.cell hb0_0, BoxAt.cell hb0_1, BoxAt.cell hb10_2, wrap_id]
      refine hK _ _ ?_
      clear hK K
      refine den_seq ?_
      refine den_seq ?_
      refine den_mergeH [(82, .bool ((((decide ((((1 : Int) + cnt1 X.dims + cntL cnt2 X.maps) + cnt1 Y.dims + cntL cnt2 Y.maps) < (0 : Int))) || (!(true))) || (((swP X Y).2) != ((swP X Y).2)))))] [2, 3, 6, 7, 10] ?_ ?_
       -- a way
      ·refine den_region TTok ?_
       intro K hK
       simp -implicitDefEqProofs (disch := first | decide | assumption | (simp (disch := decide) only [slotOf_zero, slotOf_succ, Option.map_some, puts_same, puts_ne, gv_bool, gv_undef, tt, tf, ft, ff, eq_self, if_true, if_false, Bool.false_eq_true, Bool.not_true, Bool.not_false]; done) | omega) only [go_sem, BoxAt.cell hb0_0, BoxAt.cell hb0_1, wrap_id]
       refine opsP_F (by simp (disch := decide) only [slotOf_zero, slotOf_succ, Option.map_some, puts_same, puts_ne, gv_bool, gv_undef, tt, tf, ft, ff, eq_self, if_true, if_false, Bool.false_eq_true, Bool.not_true, Bool.not_false]; rfl) (fun g14 => ?_) (fun g14 => ?_)
       ·try simp -implicitDefEqProofs (disch := first | decide | assumption | (simp (disch := decide) only [slotOf_zero, slotOf_succ, Option.map_some, puts_same, puts_ne, gv_bool, gv_undef, tt, tf, ft, ff, eq_self, if_true, if_false, Bool.false_eq_true, Bool.not_true, Bool.not_false, g14]; done) | omega) only [go_sem, BoxAt.cell hb0_0, BoxAt.cell hb0_1, wrap_id, g14, eq_self, if_true, if_false, Bool.false_eq_true]
        try simp -implicitDefEqProofs (disch := first | decide | assumption | omega) only [go_sem, BoxAt.cell hb0_0, BoxAt.cell hb0_1, wrap_id]
        refine CallA.pure (eqSSS_same _ _ _ _ (OS.rd how11_2_0) (OS.rd how8_4_0)) ?_
        try simp -implicitDefEqProofs (disch := first | decide | assumption | (simp (disch := decide) only [slotOf_zero, slotOf_succ, Option.map_some, puts_same, puts_ne, gv_bool, gv_undef, tt, tf, ft, ff, eq_self, if_true, if_false, Bool.false_eq_true, Bool.not_true, Bool.not_false, g14]; done) | omega) only [go_sem, BoxAt.cell hb0_0, BoxAt.cell hb0_1, wrap_id, g14, eq_self, if_true, if_false, Bool.false_eq_true]
        try simp -implicitDefEqProofs (disch := first | decide | assumption | (simp (disch := decide) only [slotOf_zero, slotOf_succ, Option.map_some, puts_same, puts_ne, gv_bool, gv_undef, tt, tf, ft, ff, eq_self, if_true, if_false, Bool.false_eq_true, Bool.not_true, Bool.not_false, g14]; done) | omega) only [go_sem, BoxAt.cell hb0_0, BoxAt.cell hb0_1, wrap_id, g14, eq_self, if_true, if_false, Bool.false_eq_true]
        refine hK _ _ ?_
        clear hK K
        refine den_stop ?_
        refine ⟨?_, rfl⟩
        first | (simp (disch := decide) only [go_sem, g14, eq_self, Bool.true_and, Bool.and_true, Bool.false_and, Bool.and_false, Bool.true_or, Bool.or_true, Bool.false_or, Bool.or_false, if_true, if_false, Bool.false_eq_true]; done) | simp [HasL, sel, puts_at, g14]
       ·try simp -implicitDefEqProofs (disch := first | decide | assumption | (simp (disch := decide) only [slotOf_zero, slotOf_succ, Option.map_some, puts_same, puts_ne, gv_bool, gv_undef, tt, tf, ft, ff, eq_self, if_true, if_false, Bool.false_eq_true, Bool.not_true, Bool.not_false, g14]; done) | omega) only [go_sem, BoxAt.cell hb0_0, BoxAt.cell hb0_1, wrap_id, g14, eq_self, if_true, if_false, Bool.false_eq_true]
        try simp -implicitDefEqProofs (disch := first | decide | assumption | (simp (disch := decide) only [slotOf_zero, slotOf_succ, Option.map_some, puts_same, puts_ne, gv_bool, gv_undef, tt, tf, ft, ff, eq_self, if_true, if_false, Bool.false_eq_true, Bool.not_true, Bool.not_false, g14]; done) | omega) only [go_sem, BoxAt.cell hb0_0, BoxAt.cell hb0_1, wrap_id, g14, eq_self, if_true, if_false, Bool.false_eq_true]
        refine hK _ _ ?_
        clear hK K
        refine den_stop ?_
        refine ⟨?_, rfl⟩
        first | (simp (disch := decide) only [go_sem, g14, eq_self, Bool.true_and, Bool.and_true, Bool.false_and, Bool.and_false, Bool.true_or, Bool.or_true, Bool.false_or, Bool.or_false, if_true, if_false, Bool.false_eq_true]; done) | simp [HasL, sel, puts_at, g14]
      intro en15
      simp (disch := decide) only [go_sem]
      refine den_cond rfl (fun c5 => ?_) (fun c5 => ?_)
      ·try simp only [decide_eq_true_eq, decide_eq_false_iff_not, beq_iff_eq, beq_eq_false_iff_ne, bne_iff_ne, ne_eq, Bool.not_eq_true', Bool.not_eq_false', Bool.and_eq_true, Bool.or_eq_true, bne_eq_false_iff_eq] at c5
       refine den_seq ?_
       refine den_region TTok ?_
       intro K hK
       simp -implicitDefEqProofs (disch := first | decide | assumption | omega) only [go_sem, wrap_id]
       refine hK _ _ ?_
       clear hK K
       refine den_ret ?_
       simp (disch := decide) only [resP_1, puts_same, puts_ne]
       exact absurd c5 (by first | (simp; done) | (simp; omega) | omega | (simp [eqC_self]; done))
      ·try simp only [decide_eq_true_eq, decide_eq_false_iff_not, beq_iff_eq, beq_eq_false_iff_ne, bne_iff_ne, ne_eq, Bool.not_eq_true', Bool.not_eq_false', Bool.and_eq_true, Bool.or_eq_true, bne_eq_false_iff_eq] at c5
       refine den_skip ?_
       refine den_seq ?_
       refine den_region TTok ?_
       intro K hK
       simp -implicitDefEqProofs (disch := first | decide | assumption | omega) only [go_sem, BoxAt.cell hb0_0, BoxAt.cell hb0_1, wrap_id]
       refine hK _ _ ?_
       clear hK K
       refine den_seq ?_
       refine den_region TTok ?_
       intro K hK
       simp -implicitDefEqProofs (disch := first | decide | assumption | omega) only [go_sem, BoxAt.cell hb0_0, BoxAt.cell hb0_1, wrap_id]
       try simp -implicitDefEqProofs (disch := first | decide | assumption | omega) only [go_sem, BoxAt.cell hb0_0, BoxAt.cell hb0_1, wrap_id]
       refine CallA.mono (markSSS_ok _ ((swP X Y).1) (1 : Int) _ _ how11_2_0 hfw11_2_0.nodup (by omega)) ?_
       intro v_ h24_2
       rintro ⟨rfl, hog24_2, cg24_2⟩
       replace how8_4_0 := OS.chg how8_4_0 cg24_2 (apart_lt hlhow8_4_0 hfw11_2_0 (by omega))
       replace hb0_0 := BoxAt.chgA hb0_0 cg24_2 (apart_lt hlhb0_0 hfw11_2_0 (by omega))
       replace hb0_1 := BoxAt.chgA hb0_1 cg24_2 (apart_lt hlhb0_1 hfw11_2_0 (by omega))
       have := cg24_2.size
       replace eB := Ext.then eB cg24_2 (ge_of hfw11_2_0 (by omega))
       have hlhog24_2 := hlhow11_2_0
       try simp -implicitDefEqProofs (disch := first | decide | assumption | omega) only [go_sem, BoxAt.cell hb0_0, BoxAt.cell hb0_1, wrap_id]
       refine hK _ _ ?_
       clear hK K
       refine den_seq ?_
       refine den_region TTok ?_
       intro K hK
       simp -implicitDefEqProofs (disch := first | decide | assumption | omega) only [go_sem, BoxAt.cell hb0_0, BoxAt.cell hb0_1, wrap_id]
       refine hK _ _ ?_
       clear hK K
       refine den_seq ?_
       refine den_region TTok ?_
       intro K hK
       simp -implicitDefEqProofs (disch := first | decide | assumption | omega) only [go_sem, BoxAt.cell hb0_0, BoxAt.cell hb0_1, wrap_id]
       try simp -implicitDefEqProofs (disch := first | decide | assumption | omega) only [go_sem, BoxAt.cell hb0_0, BoxAt.cell hb0_1, wrap_id]
       refine CallA.pure (heldSSS_ok _ ((swP X Y).1) (1 : Int) _ (OS.rd hog24_2) (by omega)) ?_
       try simp -implicitDefEqProofs (disch := first | decide | assumption | omega) only [go_sem, BoxAt.cell hb0_0, BoxAt.cell hb0_1, wrap_id]
       refine hK _ _ ?_
       clear hK K
       refine den_seq ?_
       refine den_seq ?_
       refine den_region TTok ?_
       intro K hK
       simp -implicitDefEqProofs (disch := first | decide | assumption | omega) only [go_sem, BoxAt.cell hb0_0, BoxAt.cell hb0_1, wrap_id]
       refine hK _ _ ?_
       clear hK K
       refine den_cond rfl (fun c6 => ?_) (fun c6 => ?_)
       ·try simp only [decide_eq_true_eq, decide_eq_false_iff_not, beq_iff_eq, beq_eq_false_iff_ne, bne_iff_ne, ne_eq, Bool.not_eq_true', Bool.not_eq_false', Bool.and_eq_true, Bool.or_eq_true, bne_eq_false_iff_eq] at c6
        refine den_seq ?_
        refine den_region TTok ?_
        intro K hK
        simp -implicitDefEqProofs (disch := first | decide | assumption | omega) only [go_sem, wrap_id]
        refine hK _ _ ?_
        clear hK K
        refine den_ret ?_
        simp (disch := decide) only [resP_1, puts_same, puts_ne]
        exact absurd c6 (by first | (simp; done) | (simp; omega) | omega | (simp [eqC_self]; done))
       ·try simp only [decide_eq_true_eq, decide_eq_false_iff_not, beq_iff_eq, beq_eq_false_iff_ne, bne_iff_ne, ne_eq, Bool.not_eq_true', Bool.not_eq_false', Bool.and_eq_true, Bool.or_eq_true, bne_eq_false_iff_eq] at c6
        refine den_skip ?_
        refine den_seq ?_
        refine den_seq ?_
        refine den_region TTok ?_
        intro K hK
        simp -implicitDefEqProofs (disch := first | decide | assumption | omega) only [go_sem, BoxAt.cell hb0_0, BoxAt.cell hb0_1, wrap_id]
        refine hK _ _ ?_
        clear hK K
        refine den_cond rfl (fun c7 => ?_) (fun c7 => ?_)
        ·try simp only [decide_eq_true_eq, decide_eq_false_iff_not, beq_iff_eq, beq_eq_false_iff_ne, bne_iff_ne, ne_eq, Bool.not_eq_true', Bool.not_eq_false', Bool.and_eq_true, Bool.or_eq_true, bne_eq_false_iff_eq] at c7
         refine den_seq ?_
         refine den_region TTok ?_
         intro K hK
         simp -implicitDefEqProofs (disch := first | decide | assumption | omega) only [go_sem, wrap_id]
         refine hK _ _ ?_
         clear hK K
         refine den_ret ?_
         simp (disch := decide) only [resP_1, puts_same, puts_ne]
         exact absurd c7 (by first | (simp; done) | (simp; omega) | omega | (simp [eqC_self]; done))
        ·try simp only [decide_eq_true_eq, decide_eq_false_iff_not, beq_iff_eq, beq_eq_false_iff_ne, bne_iff_ne, ne_eq, Bool.not_eq_true', Bool.not_eq_false', Bool.and_eq_true, Bool.or_eq_true, bne_eq_false_iff_eq] at c7
         refine den_skip ?_
         refine den_seq ?_
         refine den_draw TTok mixed [] [(0, true), (2, true), (1, false), (3, false), (4, false), (5, true), (6, true), (7, true), (8, true), (9, true)] (by kernel_rfl) ?_
         intro K hK
         simp -implicitDefEqProofs (disch := first | decide | assumption | omega) only [go_sem, ld25, BoxAt.cell hb0_0, BoxAt.cell hb0_1, wrap_id]
         try simp -implicitDefEqProofs (disch := first | decide | assumption | omega) only [go_sem, BoxAt.cell hb0_0, BoxAt.cell hb0_1, wrap_id]
         refine CallA.mono (toC_ok _ X _ ⟨_, _, rfl, (RdS.pres hdX (Ext.pres eB)), (RdS.pres hmX (Ext.pres eB))⟩ hMX) ?_
         intro v_ h31_1
         rintro ⟨vd31_1, vm31_1, fd31_1, fm31_1, rfl, hod31_1, hom31_1, hf31_1, e31_1⟩
         replace how8_4_0 := OS.ext how8_4_0 e31_1
         replace hog24_2 := OS.ext hog24_2 e31_1
         replace hb0_0 := BoxAt.ext hb0_0 e31_1
         replace hb0_1 := BoxAt.ext hb0_1 e31_1
         have := Ext.size e31_1
         replace eB := Ext.trans eB e31_1
         have hfd31_1 := hf31_1.left
         have hfm31_1 := hf31_1.right
         have hlhod31_1 := OS.lt hod31_1
         have hlhom31_1 := OS.lt hom31_1
         have ap18 : Apart fd31_1 fm31_1 := apart_nodup hf31_1
         try simp (disch := decide) only [outv_some, outv_none, put_puts]
         refine plK_pres (Ext.pres e31_1) ?_
         try simp -implicitDefEqProofs (disch := first | decide | assumption | omega) only [go_sem, BoxAt.cell hb0_0, BoxAt.cell hb0_1, wrap_id]
         try simp -implicitDefEqProofs (disch := first | decide | assumption | omega) only [go_sem, BoxAt.cell hb0_0, BoxAt.cell hb0_1, wrap_id]
         refine CallA.mono (toC_ok _ Y _ ⟨_, _, rfl, (RdS.pres hdY (Ext.pres eB)), (RdS.pres hmY (Ext.pres eB))⟩ hMY) ?_
         intro v_ h31_3
         rintro ⟨vd31_3, vm31_3, fd31_3, fm31_3, rfl, hod31_3, hom31_3, hf31_3, e31_3⟩
         replace how8_4_0 := OS.ext how8_4_0 e31_3
         replace hog24_2 := OS.ext hog24_2 e31_3
         replace hod31_1 := OS.ext hod31_1 e31_3
         replace hom31_1 := OS.ext hom31_1 e31_3
         replace hb0_0 := BoxAt.ext hb0_0 e31_3
         replace hb0_1 := BoxAt.ext hb0_1 e31_3
         have := Ext.size e31_3
         replace eB := Ext.trans eB e31_3
         have hfd31_3 := hf31_3.left
         have hfm31_3 := hf31_3.right
         have hlhod31_3 := OS.lt hod31_3
         have hlhom31_3 := OS.lt hom31_3
         have ap19 : Apart fd31_3 fm31_3 := apart_nodup hf31_3
         try simp (disch := decide) only [outv_some, outv_none, put_puts]
         refine plK_pres (Ext.pres e31_3) ?_
         try simp -implicitDefEqProofs (disch := first | decide | assumption | omega) only [go_sem, BoxAt.cell hb0_0, BoxAt.cell hb0_1, wrap_id]
         try simp -implicitDefEqProofs (disch := first | decide | assumption | omega) only [go_sem, BoxAt.cell hb0_0, BoxAt.cell hb0_1, wrap_id]
         refine CallA.mono (iSw_ok _ _ X Y _ ⟨_, _, rfl, (OS.rd hod31_1), (OS.rd hom31_1)⟩ ⟨_, _, rfl, (OS.rd hod31_3), (OS.rd hom31_3)⟩ ) ?_
         intro v_ h31_4
         rintro ⟨vw31_4_0, fw31_4_0, rfl, how31_4_0, hfw31_4_0, e31_4⟩
         replace how8_4_0 := OS.ext how8_4_0 e31_4
         replace hog24_2 := OS.ext hog24_2 e31_4
         replace hod31_1 := OS.ext hod31_1 e31_4
         replace hom31_1 := OS.ext hom31_1 e31_4
         replace hod31_3 := OS.ext hod31_3 e31_4
         replace hom31_3 := OS.ext hom31_3 e31_4
         replace hb0_0 := BoxAt.ext hb0_0 e31_4
         replace hb0_1 := BoxAt.ext hb0_1 e31_4
         have := Ext.size e31_4
         replace eB := Ext.trans eB e31_4
         have hlhow31_4_0 := OS.lt how31_4_0
         try simp (disch := decide) only [outv_some, outv_none, put_puts]
         refine plK_pres (Ext.pres e31_4) ?_
         try simp -implicitDefEqProofs (disch := first | decide | assumption | omega) only [go_sem, BoxAt.cell hb0_0, BoxAt.cell hb0_1, wrap_id]
         refine hK _ _ ?_
         clear hK K
         refine den_seq ?_
         refine den_seq ?_
         refine den_mergeH [(110, .bool (((!(true)) || (((swP X Y).2) != ((swP X Y).2)))))] [10, 13] ?_ ?_
          -- a way
         ·refine den_region TTok ?_
          intro K hK
          simp -implicitDefEqProofs (disch := first | decide | assumption | (simp (disch := decide) only [slotOf_zero, slotOf_succ, Option.map_some, puts_same, puts_ne, gv_bool, gv_undef, tt, tf, ft, ff, eq_self, if_true, if_false, Bool.false_eq_true, Bool.not_true, Bool.not_false]; done) | omega) only [go_sem, wrap_id]
          try simp -implicitDefEqProofs (disch := first | decide | assumption | omega) only [go_sem, wrap_id]
          refine CallA.pure (eqSSS_same _ _ _ _ (OS.rd how31_4_0) (OS.rd how8_4_0)) ?_
          try simp -implicitDefEqProofs (disch := first | decide | assumption | (simp (disch := decide) only [slotOf_zero, slotOf_succ, Option.map_some, puts_same, puts_ne, gv_bool, gv_undef, tt, tf, ft, ff, eq_self, if_true, if_false, Bool.false_eq_true, Bool.not_true, Bool.not_false]; done) | omega) only [go_sem, wrap_id]
          try simp -implicitDefEqProofs (disch := first | decide | assumption | (simp (disch := decide) only [slotOf_zero, slotOf_succ, Option.map_some, puts_same, puts_ne, gv_bool, gv_undef, tt, tf, ft, ff, eq_self, if_true, if_false, Bool.false_eq_true, Bool.not_true, Bool.not_false]; done) | omega) only [go_sem, wrap_id]
          refine hK _ _ ?_
          clear hK K
          refine den_stop ?_
          refine ⟨?_, rfl⟩
          first | (simp (disch := decide) only [go_sem, eq_self, Bool.true_and, Bool.and_true, Bool.false_and, Bool.and_false, Bool.true_or, Bool.or_true, Bool.false_or, Bool.or_false, if_true, if_false, Bool.false_eq_true]; done) | simp [HasL, sel, puts_at]
         intro en20
         simp (disch := decide) only [go_sem]
         refine den_cond rfl (fun c8 => ?_) (fun c8 => ?_)
         ·try simp only [decide_eq_true_eq, decide_eq_false_iff_not, beq_iff_eq, beq_eq_false_iff_ne, bne_iff_ne, ne_eq, Bool.not_eq_true', Bool.not_eq_false', Bool.and_eq_true, Bool.or_eq_true, bne_eq_false_iff_eq] at c8
          refine den_seq ?_
          refine den_region TTok ?_
          intro K hK
          simp -implicitDefEqProofs (disch := first | decide | assumption | omega) only [go_sem, wrap_id]
          refine hK _ _ ?_
          clear hK K
          refine den_ret ?_
          simp (disch := decide) only [resP_1, puts_same, puts_ne]
          exact absurd c8 (by first | (simp; done) | (simp; omega) | omega | (simp [eqC_self]; done))
         ·try simp only [decide_eq_true_eq, decide_eq_false_iff_not, beq_iff_eq, beq_eq_false_iff_ne, bne_iff_ne, ne_eq, Bool.not_eq_true', Bool.not_eq_false', Bool.and_eq_true, Bool.or_eq_true, bne_eq_false_iff_eq] at c8
          refine den_skip ?_
          refine den_seq ?_
          refine den_region TTok ?_
          intro K hK
          simp -implicitDefEqProofs (disch := first | decide | assumption | omega) only [go_sem, wrap_id]
          refine hK _ _ ?_
          clear hK K
          refine den_seq ?_
          refine den_region TTok ?_
          intro K hK
          simp -implicitDefEqProofs (disch := first | decide | assumption | omega) only [go_sem, wrap_id]
          try simp -implicitDefEqProofs (disch := first | decide | assumption | omega) only [go_sem, wrap_id]
          refine CallA.pure (heldSSS_ok _ ((swP X Y).1) (1 : Int) _ (OS.rd hog24_2) (by omega)) ?_
          try simp -implicitDefEqProofs (disch := first | decide | assumption | omega) only [go_sem, wrap_id]
          refine hK _ _ ?_
          clear hK K
          refine den_seq ?_
          refine den_seq ?_
          refine den_region TTok ?_
          intro K hK
          simp -implicitDefEqProofs (disch := first | decide | assumption | omega) only [go_sem, wrap_id]
          refine hK _ _ ?_
          clear hK K
          refine den_cond rfl (fun c9 => ?_) (fun c9 => ?_)
          ·try simp only [decide_eq_true_eq, decide_eq_false_iff_not, beq_iff_eq, beq_eq_false_iff_ne, bne_iff_ne, ne_eq, Bool.not_eq_true', Bool.not_eq_false', Bool.and_eq_true, Bool.or_eq_true, bne_eq_false_iff_eq] at c9
           refine den_seq ?_
           refine den_region TTok ?_
           intro K hK
           simp -implicitDefEqProofs (disch := first | decide | assumption | omega) only [go_sem, wrap_id]
           refine hK _ _ ?_
           clear hK K
           refine den_ret ?_
           simp (disch := decide) only [resP_1, puts_same, puts_ne]
           exact absurd c9 (by first | (simp; done) | (simp; omega) | omega | (simp [eqC_self]; done))
          ·try simp only [decide_eq_true_eq, decide_eq_false_iff_not, beq_iff_eq, beq_eq_false_iff_ne, bne_iff_ne, ne_eq, Bool.not_eq_true', Bool.not_eq_false', Bool.and_eq_true, Bool.or_eq_true, bne_eq_false_iff_eq] at c9
           refine den_skip ?_
           refine den_seq ?_
           refine den_seq ?_
           refine den_region TTok ?_
           intro K hK
           simp -implicitDefEqProofs (disch := first | decide | assumption | omega) only [go_sem, wrap_id]
           refine hK _ _ ?_
           clear hK K
           refine den_cond rfl (fun c10 => ?_) (fun c10 => ?_)
           ·try simp only [decide_eq_true_eq, decide_eq_false_iff_not, beq_iff_eq, beq_eq_false_iff_ne, bne_iff_ne, ne_eq, Bool.not_eq_true', Bool.not_eq_false', Bool.and_eq_true, Bool.or_eq_true, bne_eq_false_iff_eq] at c10
            refine den_seq ?_
            refine den_region TTok ?_
            intro K hK
            simp -implicitDefEqProofs (disch := first | decide | assumption | omega) only [go_sem, wrap_id]
            refine hK _ _ ?_
            clear hK K
            refine den_ret ?_
            simp (disch := decide) only [resP_1, puts_same, puts_ne]
            exact absurd c10 (by first | (simp; done) | (simp; omega) | omega | (simp [eqC_self]; done))
           ·try simp only [decide_eq_true_eq, decide_eq_false_iff_not, beq_iff_eq, beq_eq_false_iff_ne, bne_iff_ne, ne_eq, Bool.not_eq_true', Bool.not_eq_false', Bool.and_eq_true, Bool.or_eq_true, bne_eq_false_iff_eq] at c10
            refine den_skip ?_
            refine den_seq ?_
            refine den_region TTok ?_
            intro K hK
            simp -implicitDefEqProofs (disch := first | decide | assumption | omega) only [go_sem, wrap_id]
            refine hK _ _ ?_
            clear hK K
            refine den_ret ?_
            simp (disch := decide) only [resP_1, puts_same, puts_ne]
            exact ⟨by first | rfl | trivial, eB⟩
end Go.Proofs.Ytffggocjkhcgeaa
