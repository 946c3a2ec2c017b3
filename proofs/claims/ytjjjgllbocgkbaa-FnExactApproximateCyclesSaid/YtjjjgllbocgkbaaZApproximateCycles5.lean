/-
  What the statement FnExactApproximateCycles uses of the walks, part 5.
  Conditions: each theorem's own.
-/
import Derived.Test.YtjjjgllbocgkbaaG16
import Derived.Test.YtjjjgllbocgkbaaG17
import Derived.Test.YtjjjgllbocgkbaaG14
import Derived.Test.YtjjjgllbocgkbaaG13
import Derived.Test.YtjjjgllbocgkbaaG15
import Derived.Test.YtjjjgllbocgkbaaG18
import Derived.Test.YtjjjgllbocgkbaaG19
import Derived.Test.YtjjjgllbocgkbaaZApproximateCycles1
import Derived.Test.YtjjjgllbocgkbaaZApproximateCycles2
import Derived.Test.YtjjjgllbocgkbaaZApproximateCycles3
import Derived.Test.YtjjjgllbocgkbaaZApproximateCycles4
set_option linter.unusedVariables false
set_option linter.unusedSimpArgs false
namespace Go.Proofs.Ytjjjgllbocgkbaa
open Go
set_option maxRecDepth 100000 in
set_option maxHeartbeats 4000000 in
theorem exactApproximateCycles_law (vX : Value) (X : Fl) (r : Int) (n : Int) (q : Int) (h : Heap) (rX : RF h vX X)  : CallA Try.prog 8 #[vX, .int .i64 r, .int .i64 n, .int .i64 q] h fun v' h' => v' = .bool (true) ∧ Ext h h' := by
 obtain ⟨vdX, vmX, vvX, rfl, hdX, hmX, hvX⟩ := rX
 have hledX := RdS.le hdX
 have hlemX := RdS.le hmX
 have hlevX := RdS.le hvX
 refine callA_intro TTok (args := [_, _, _, _]) Try.func8 (by kernel_rfl) rfl 111 rfl (by simp) [.tmp 8] rfl ?_
 simp only [idxs, Nat.reduceAdd]
 refine den_seq ?_
 refine den_region TTok ?_
 intro K hK
 simp -implicitDefEqProofs (disch := first | decide | assumption | omega) only [go_sem, wrap_id]
 refine op_box (cs := #[.int .i64 (X.c.p), vdX, vmX, vvX]) rfl ?_
 intro h0_0 e0_0 hb0_0 z0_0
 have := Ext.size e0_0
 have eB := e0_0
 have hfhb0_0 : Fresh h.size [h.size] := Fresh.one _
 have hlhb0_0 := one_lt (show h.size < h0_0.size by omega)
 try simp -implicitDefEqProofs (disch := first | decide | assumption | omega) only [go_sem, wrap_id]
 refine hK _ _ ?_
 clear hK K
 refine den_seq ?_
 refine den_region TTok ?_
 intro K hK
 simp -implicitDefEqProofs (disch := first | decide | assumption | omega) only [go_sem, wrap_id]
 refine hK _ _ ?_
 clear hK K
 refine den_seq ?_
 refine den_region TTok ?_
 intro K hK
 simp -implicitDefEqProofs (disch := first | decide | assumption | omega) only [go_sem, ld28, BoxAt.cell hb0_0, wrap_id]
 try simp -implicitDefEqProofs (disch := first | decide | assumption | omega) only [go_sem, wrap_id]
 refine CallA.mono (szF_ok _ X _ _ ⟨_, _, _, rfl, (RdS.pres hdX (Ext.pres eB)), (RdS.pres hmX (Ext.pres eB)), (RdS.pres hvX (Ext.pres eB))⟩ (by omega) (by omega)) ?_
 intro v_ h2_2
 rintro ⟨rfl, e2_2⟩
 replace hb0_0 := BoxAt.ext hb0_0 e2_2
 have := Ext.size e2_2
 replace eB := Ext.trans eB e2_2
 have := szF_le X (1048576 : Int) (by omega)
 try simp -implicitDefEqProofs (disch := first | decide | assumption | omega) only [go_sem, wrap_id]
 refine hK _ _ ?_
 clear hK K
 refine den_seq ?_
 refine den_seq ?_
 refine den_region TTok ?_
 intro K hK
 simp -implicitDefEqProofs (disch := first | decide | assumption | omega) only [go_sem, wrap_id]
 refine hK _ _ ?_
 clear hK K
 refine den_cond rfl (fun c0 => ?_) (fun c0 => ?_)
 ·try simp only [decide_eq_true_eq, decide_eq_false_iff_not, beq_iff_eq, beq_eq_false_iff_ne, bne_iff_ne, ne_eq, Bool.not_eq_true', Bool.not_eq_false', Bool.and_eq_true, Bool.or_eq_true, bne_eq_false_iff_eq] at c0
  refine den_seq ?_
  refine den_region TTok ?_
  intro K hK
  simp -implicitDefEqProofs (disch := first | decide | assumption | omega) only [go_sem, wrap_id]
  refine hK _ _ ?_
  clear hK K
  refine den_ret ?_
  simp (disch := decide) only [resP_1, puts_same, puts_ne]
  exact ⟨by first | rfl | trivial, eB⟩
 ·try simp only [decide_eq_true_eq, decide_eq_false_iff_not, beq_iff_eq, beq_eq_false_iff_ne, bne_iff_ne, ne_eq, Bool.not_eq_true', Bool.not_eq_false', Bool.and_eq_true, Bool.or_eq_true, bne_eq_false_iff_eq] at c0
  have hMX := szF_ok' (by omega) (by omega) c0
  have hcnX := szF_cntA (by omega) (by omega) c0
  have hci := cnt_apR X r n q
  refine den_skip ?_
  refine den_seq ?_
  refine den_region TTok ?_
  intro K hK
  simp -implicitDefEqProofs (disch := first | decide | assumption | omega) only [go_sem, ld28, BoxAt.cell hb0_0, wrap_id]
  try simp -implicitDefEqProofs (disch := first | decide | assumption | omega) only [go_sem, wrap_id]
  refine CallA.mono (toF_ok _ X _ ⟨_, _, _, rfl, (RdS.pres hdX (Ext.pres eB)), (RdS.pres hmX (Ext.pres eB)), (RdS.pres hvX (Ext.pres eB))⟩ hMX) ?_
  intro v_ h5_1
  rintro ⟨vd5_1, vm5_1, vv5_1, fd5_1, fm5_1, fv5_1, rfl, hod5_1, hom5_1, hov5_1, hf5_1, e5_1⟩
  replace hb0_0 := BoxAt.ext hb0_0 e5_1
  have := Ext.size e5_1
  replace eB := Ext.trans eB e5_1
  have hfd5_1 := hf5_1.left
  have hf5_1r0 := hf5_1.right
  have hfm5_1 := hf5_1r0.left
  have hfv5_1 := hf5_1r0.right
  have hlhod5_1 := OS.lt hod5_1
  have hlhom5_1 := OS.lt hom5_1
  have hlhov5_1 := OS.lt hov5_1
  have ap1 : Apart fd5_1 fm5_1 := Apart.lft (apart_nodup hf5_1)
  have ap2 : Apart fd5_1 fv5_1 := Apart.rgt (apart_nodup hf5_1)
  have ap3 : Apart fm5_1 fv5_1 := apart_nodup hf5_1r0
  try simp -implicitDefEqProofs (disch := first | decide | assumption | omega) only [go_sem, wrap_id]
  try simp -implicitDefEqProofs (disch := first | decide | assumption | omega) only [go_sem, wrap_id]
  refine CallA.mono (sAC_ok _ X r n q _ ⟨_, _, _, rfl, (OS.rd hod5_1), (OS.rd hom5_1), (OS.rd hov5_1)⟩ ) ?_
  intro v_ h5_5
  rintro ⟨vw5_5_0, fw5_5_0, rfl, how5_5_0, hfw5_5_0, e5_5⟩
  replace hod5_1 := OS.ext hod5_1 e5_5
  replace hom5_1 := OS.ext hom5_1 e5_5
  replace hov5_1 := OS.ext hov5_1 e5_5
  replace hb0_0 := BoxAt.ext hb0_0 e5_5
  have := Ext.size e5_5
  replace eB := Ext.trans eB e5_5
  have hlhow5_5_0 := OS.lt how5_5_0
  try simp -implicitDefEqProofs (disch := first | decide | assumption | omega) only [go_sem, wrap_id]
  refine hK _ _ ?_
  clear hK K
  refine den_seq ?_
  refine den_region TTok ?_
  intro K hK
  simp -implicitDefEqProofs (disch := first | decide | assumption | omega) only [go_sem, ld28, BoxAt.cell hb0_0, wrap_id]
  try simp -implicitDefEqProofs (disch := first | decide | assumption | omega) only [go_sem, wrap_id]
  refine CallA.mono (toF_ok _ X _ ⟨_, _, _, rfl, (RdS.pres hdX (Ext.pres eB)), (RdS.pres hmX (Ext.pres eB)), (RdS.pres hvX (Ext.pres eB))⟩ hMX) ?_
  intro v_ h6_1
  rintro ⟨vd6_1, vm6_1, vv6_1, fd6_1, fm6_1, fv6_1, rfl, hod6_1, hom6_1, hov6_1, hf6_1, e6_1⟩
  replace how5_5_0 := OS.ext how5_5_0 e6_1
  replace hb0_0 := BoxAt.ext hb0_0 e6_1
  have := Ext.size e6_1
  replace eB := Ext.trans eB e6_1
  have hfd6_1 := hf6_1.left
  have hf6_1r0 := hf6_1.right
  have hfm6_1 := hf6_1r0.left
  have hfv6_1 := hf6_1r0.right
  have hlhod6_1 := OS.lt hod6_1
  have hlhom6_1 := OS.lt hom6_1
  have hlhov6_1 := OS.lt hov6_1
  have ap4 : Apart fd6_1 fm6_1 := Apart.lft (apart_nodup hf6_1)
  have ap5 : Apart fd6_1 fv6_1 := Apart.rgt (apart_nodup hf6_1)
  have ap6 : Apart fm6_1 fv6_1 := apart_nodup hf6_1r0
  try simp -implicitDefEqProofs (disch := first | decide | assumption | omega) only [go_sem, wrap_id]
  refine op_alloc (cs := #[.int .i64 0, .slice none 0 0, .slice none 0 0, .slice none 0 0]) (by kernel_rfl) ?_
  intro h6_2 e6_2 hb6_2 z6_2
  replace how5_5_0 := OS.ext how5_5_0 e6_2
  replace hod6_1 := OS.ext hod6_1 e6_2
  replace hom6_1 := OS.ext hom6_1 e6_2
  replace hov6_1 := OS.ext hov6_1 e6_2
  replace hb0_0 := BoxAt.ext hb0_0 e6_2
  have := Ext.size e6_2
  replace eB := Ext.trans eB e6_2
  have hfhb6_2 : Fresh h6_1.size [h6_1.size] := Fresh.one _
  have hlhb6_2 := one_lt (show h6_1.size < h6_2.size by omega)
  try simp -implicitDefEqProofs (disch := first | decide | assumption | omega) only [go_sem, wrap_id]
  refine op_storeB (cs' := #[.int .i64 (X.c.p), vd6_1, vm6_1, vv6_1]) st33 hb6_2 rfl rfl rfl (by simp) (allOne_mem (l := [.int .i64 (X.c.p), vd6_1, vm6_1, vv6_1]) ⟨rfl, (OS.one hod6_1).1, (OS.one hom6_1).1, (OS.one hov6_1).1, trivial⟩) rfl ?_
  intro h6_3 hb6_2 c6_3
  replace how5_5_0 := OS.chg how5_5_0 c6_3 (apart_lt hlhow5_5_0 hfhb6_2 (by omega))
  replace hod6_1 := OS.chg hod6_1 c6_3 (apart_lt hlhod6_1 hfhb6_2 (by omega))
  replace hom6_1 := OS.chg hom6_1 c6_3 (apart_lt hlhom6_1 hfhb6_2 (by omega))
  replace hov6_1 := OS.chg hov6_1 c6_3 (apart_lt hlhov6_1 hfhb6_2 (by omega))
  replace hb0_0 := BoxAt.chgA hb0_0 c6_3 (apart_lt hlhb0_0 hfhb6_2 (by omega))
  have := c6_3.size
  replace eB := Ext.then eB c6_3 (ge_of hfhb6_2 (by omega))
  try simp -implicitDefEqProofs (disch := first | decide | assumption | omega) only [go_sem, wrap_id]
  refine hK _ _ ?_
  clear hK K
  refine den_seq ?_
  refine den_region TTok ?_
  intro K hK
  simp -implicitDefEqProofs (disch := first | decide | assumption | omega) only [go_sem, ld33, BoxAt.cell hb6_2, wrap_id]
  try simp -implicitDefEqProofs (disch := first | decide | assumption | omega) only [go_sem, wrap_id]
  refine CallA.mono (iAC_ok _ X r n q _ ⟨_, _, _, rfl, (OS.rd hod6_1), (OS.rd hom6_1), (OS.rd hov6_1)⟩ ) ?_
  intro v_ h7_4
  rintro ⟨vw7_4_0, fw7_4_0, rfl, how7_4_0, hfw7_4_0, e7_4⟩
  replace how5_5_0 := OS.ext how5_5_0 e7_4
  replace hod6_1 := OS.ext hod6_1 e7_4
  replace hom6_1 := OS.ext hom6_1 e7_4
  replace hov6_1 := OS.ext hov6_1 e7_4
  replace hb0_0 := BoxAt.ext hb0_0 e7_4
  replace hb6_2 := BoxAt.ext hb6_2 e7_4
  have := Ext.size e7_4
  replace eB := Ext.trans eB e7_4
  have hlhow7_4_0 := OS.lt how7_4_0
  try simp -implicitDefEqProofs (disch := first | decide | assumption | omega) only [go_sem, wrap_id]
  refine hK _ _ ?_
  clear hK K
  refine den_seq ?_
  refine den_seq ?_
  refine den_mergeH [(52, .bool (((!(true)) || (((apR X r n q).2) != ((apR X r n q).2)))))] [1, 2, 3, 4, 10, 11, 12, 13, 14] ?_ ?_
   -- a way
  ·refine den_region TTok ?_
   intro K hK
   simp -implicitDefEqProofs (disch := first | decide | assumption | (simp (disch := decide) only [slotOf_zero, slotOf_succ, Option.map_some, puts_same, puts_ne, gv_bool, gv_undef, tt, tf, ft, ff, eq_self, if_true, if_false, Bool.false_eq_true, Bool.not_true, Bool.not_false]; done) | omega) only [go_sem, wrap_id]
   try simp -implicitDefEqProofs (disch := first | decide | assumption | omega) only [go_sem, wrap_id]
   refine CallA.pure (eqSS_same _ _ _ _ (OS.rd how7_4_0) (OS.rd how5_5_0)) ?_
   try simp -implicitDefEqProofs (disch := first | decide | assumption | (simp (disch := decide) only [slotOf_zero, slotOf_succ, Option.map_some, puts_same, puts_ne, gv_bool, gv_undef, tt, tf, ft, ff, eq_self, if_true, if_false, Bool.false_eq_true, Bool.not_true, Bool.not_false]; done) | omega) only [go_sem, wrap_id]
   try simp -implicitDefEqProofs (disch := first | decide | assumption | (simp (disch := decide) only [slotOf_zero, slotOf_succ, Option.map_some, puts_same, puts_ne, gv_bool, gv_undef, tt, tf, ft, ff, eq_self, if_true, if_false, Bool.false_eq_true, Bool.not_true, Bool.not_false]; done) | omega) only [go_sem, wrap_id]
   refine hK _ _ ?_
   clear hK K
   refine den_stop ?_
   refine ⟨?_, rfl⟩
   first | (simp (disch := decide) only [go_sem, eq_self, Bool.true_and, Bool.and_true, Bool.false_and, Bool.and_false, Bool.true_or, Bool.or_true, Bool.false_or, Bool.or_false, if_true, if_false, Bool.false_eq_true]; done) | simp [HasL, sel, puts_at]
  intro en7
  simp (disch := decide) only [go_sem]
  refine den_cond rfl (fun c1 => ?_) (fun c1 => ?_)
  ·try simp only [decide_eq_true_eq, decide_eq_false_iff_not, beq_iff_eq, beq_eq_false_iff_ne, bne_iff_ne, ne_eq, Bool.not_eq_true', Bool.not_eq_false', Bool.and_eq_true, Bool.or_eq_true, bne_eq_false_iff_eq] at c1
   refine den_seq ?_
   refine den_region TTok ?_
   intro K hK
   simp -implicitDefEqProofs (disch := first | decide | assumption | omega) only [go_sem, wrap_id]
   refine hK _ _ ?_
   clear hK K
   refine den_ret ?_
   simp (disch := decide) only [resP_1, puts_same, puts_ne]
   exact absurd c1 (by first | (simp; done) | (simp; omega) | omega | (simp [eqC_self]; done))
  ·try simp only [decide_eq_true_eq, decide_eq_false_iff_not, beq_iff_eq, beq_eq_false_iff_ne, bne_iff_ne, ne_eq, Bool.not_eq_true', Bool.not_eq_false', Bool.and_eq_true, Bool.or_eq_true, bne_eq_false_iff_eq] at c1
   refine den_skip ?_
   refine den_seq ?_
   refine den_seq ?_
   refine den_draw TTok mixed [] [(0, true), (1, true), (2, false), (3, false), (4, true)] (by kernel_rfl) ?_
   intro K hK
   simp -implicitDefEqProofs (disch := first | decide | assumption | omega) only [go_sem, ld33, ld28, BoxAt.cell hb0_0, BoxAt.cell hb6_2, wrap_id]
   try simp -implicitDefEqProofs (disch := first | decide | assumption | omega) only [go_sem, wrap_id]
   refine CallA.mono (toF_ok _ X _ ⟨_, _, _, rfl, (RdS.pres hdX (Ext.pres eB)), (RdS.pres hmX (Ext.pres eB)), (RdS.pres hvX (Ext.pres eB))⟩ hMX) ?_
   intro v_ h10_2
   rintro ⟨vd10_2, vm10_2, vv10_2, fd10_2, fm10_2, fv10_2, rfl, hod10_2, hom10_2, hov10_2, hf10_2, e10_2⟩
   replace how5_5_0 := OS.ext how5_5_0 e10_2
   replace hod6_1 := OS.ext hod6_1 e10_2
   replace hom6_1 := OS.ext hom6_1 e10_2
   replace hov6_1 := OS.ext hov6_1 e10_2
   replace how7_4_0 := OS.ext how7_4_0 e10_2
   replace hb0_0 := BoxAt.ext hb0_0 e10_2
   replace hb6_2 := BoxAt.ext hb6_2 e10_2
   have := Ext.size e10_2
   replace eB := Ext.trans eB e10_2
   have hfd10_2 := hf10_2.left
   have hf10_2r0 := hf10_2.right
   have hfm10_2 := hf10_2r0.left
   have hfv10_2 := hf10_2r0.right
   have hlhod10_2 := OS.lt hod10_2
   have hlhom10_2 := OS.lt hom10_2
   have hlhov10_2 := OS.lt hov10_2
   have ap10 : Apart fd10_2 fm10_2 := Apart.lft (apart_nodup hf10_2)
   have ap11 : Apart fd10_2 fv10_2 := Apart.rgt (apart_nodup hf10_2)
   have ap12 : Apart fm10_2 fv10_2 := apart_nodup hf10_2r0
   try simp (disch := decide) only [outv_some, outv_none, put_puts]
   refine plK_pres (Ext.pres e10_2) ?_
   try simp -implicitDefEqProofs (disch := first | decide | assumption | omega) only [go_sem, wrap_id]
   try simp -implicitDefEqProofs (disch := first | decide | assumption | omega) only [go_sem, wrap_id]
   refine CallA.mono (eqF_same _ _ X _ ⟨_, _, _, rfl, (OS.rd hod6_1), (OS.rd hom6_1), (OS.rd hov6_1)⟩ ⟨_, _, _, rfl, (OS.rd hod10_2), (OS.rd hom10_2), (OS.rd hov10_2)⟩) ?_
   intro v_ h10_3
   rintro ⟨rfl, e10_3⟩
   replace how5_5_0 := OS.ext how5_5_0 e10_3
   replace hod6_1 := OS.ext hod6_1 e10_3
   replace hom6_1 := OS.ext hom6_1 e10_3
   replace hov6_1 := OS.ext hov6_1 e10_3
   replace how7_4_0 := OS.ext how7_4_0 e10_3
   replace hod10_2 := OS.ext hod10_2 e10_3
   replace hom10_2 := OS.ext hom10_2 e10_3
   replace hov10_2 := OS.ext hov10_2 e10_3
   replace hb0_0 := BoxAt.ext hb0_0 e10_3
   replace hb6_2 := BoxAt.ext hb6_2 e10_3
   have := Ext.size e10_3
   replace eB := Ext.trans eB e10_3
   try simp (disch := decide) only [outv_some, outv_none, put_puts]
   refine plK_pres (Ext.pres e10_3) ?_
   try simp -implicitDefEqProofs (disch := first | decide | assumption | omega) only [go_sem, wrap_id]
   refine hK _ _ ?_
   clear hK K
   refine den_cond rfl (fun c2 => ?_) (fun c2 => ?_)
   ·try simp only [decide_eq_true_eq, decide_eq_false_iff_not, beq_iff_eq, beq_eq_false_iff_ne, bne_iff_ne, ne_eq, Bool.not_eq_true', Bool.not_eq_false', Bool.and_eq_true, Bool.or_eq_true, bne_eq_false_iff_eq] at c2
    refine den_seq ?_
    refine den_region TTok ?_
    intro K hK
    simp -implicitDefEqProofs (disch := first | decide | assumption | omega) only [go_sem, wrap_id]
    refine hK _ _ ?_
    clear hK K
    refine den_ret ?_
    simp (disch := decide) only [resP_1, puts_same, puts_ne]
    exact absurd c2 (by first | (simp; done) | (simp; omega) | omega | (simp [eqC_self]; done))
   ·try simp only [decide_eq_true_eq, decide_eq_false_iff_not, beq_iff_eq, beq_eq_false_iff_ne, bne_iff_ne, ne_eq, Bool.not_eq_true', Bool.not_eq_false', Bool.and_eq_true, Bool.or_eq_true, bne_eq_false_iff_eq] at c2
    refine den_skip ?_
    refine den_seq ?_
    refine den_region TTok ?_
    intro K hK
    simp -implicitDefEqProofs (disch := first | decide | assumption | omega) only [go_sem, wrap_id]
    refine hK _ _ ?_
    clear hK K
    refine den_seq ?_
    refine den_region TTok ?_
    intro K hK
    simp -implicitDefEqProofs (disch := first | decide | assumption | omega) only [go_sem, ld33, BoxAt.cell hb6_2, wrap_id]
    try simp -implicitDefEqProofs (disch := first | decide | assumption | omega) only [go_sem, wrap_id]
    refine CallA.mono (markF_ok _ _ _ X (1 : Int) _ _ _ _ hod6_1 hom6_1 hov6_1 (Fresh.two (lo := 0) hfd6_1 (Fresh.two (lo := 0) hfm6_1 hfv6_1 ap6 (Nat.zero_le _) (Nat.zero_le _)) (Apart.app ap4 ap5) (Nat.zero_le _) (Nat.zero_le _)).nodup (by omega)) ?_
    intro v_ h13_2
    rintro ⟨rfl, hogd13_2, hogm13_2, hogv13_2, cg13_2⟩
    replace how5_5_0 := OS.chg how5_5_0 cg13_2 (Apart.app (apart_lt hlhow5_5_0 hfd6_1 (by omega)) (Apart.app (apart_lt hlhow5_5_0 hfm6_1 (by omega)) (apart_lt hlhow5_5_0 hfv6_1 (by omega))))
    replace how7_4_0 := OS.chg how7_4_0 cg13_2 (Apart.app (apart_gt hfw7_4_0 hlhod6_1 (by omega)) (Apart.app (apart_gt hfw7_4_0 hlhom6_1 (by omega)) (apart_gt hfw7_4_0 hlhov6_1 (by omega))))
    replace hb0_0 := BoxAt.chgA hb0_0 cg13_2 (Apart.app (apart_lt hlhb0_0 hfd6_1 (by omega)) (Apart.app (apart_lt hlhb0_0 hfm6_1 (by omega)) (apart_lt hlhb0_0 hfv6_1 (by omega))))
    replace hb6_2 := BoxAt.chgA hb6_2 cg13_2 (Apart.app (apart_gt hfhb6_2 hlhod6_1 (by omega)) (Apart.app (apart_gt hfhb6_2 hlhom6_1 (by omega)) (apart_gt hfhb6_2 hlhov6_1 (by omega))))
    have := cg13_2.size
    replace eB := Ext.then eB cg13_2 (ge_app (ge_of hfd6_1 (by omega)) (ge_app (ge_of hfm6_1 (by omega)) (ge_of hfv6_1 (by omega))))
    have ap13 : Apart fm6_1 fd6_1 := (Apart.symm ap4)
    have ap14 : Apart fv6_1 fd6_1 := (Apart.symm ap5)
    have hlhogd13_2 := hlhod6_1
    have ap15 : Apart fv6_1 fm6_1 := (Apart.symm ap6)
    have ap16 : Apart fd6_1 fm6_1 := (Apart.symm ap13)
    have hlhogm13_2 := hlhom6_1
    have ap17 : Apart fd6_1 fv6_1 := (Apart.symm ap14)
    have ap18 : Apart fm6_1 fv6_1 := (Apart.symm ap15)
    have hlhogv13_2 := hlhov6_1
    try simp -implicitDefEqProofs (disch := first | decide | assumption | omega) only [go_sem, wrap_id]
    refine hK _ _ ?_
    clear hK K
    refine den_seq ?_
    refine den_seq ?_
    refine den_mergeH [(73, .bool ((((decide (((1 : Int) + cnt1 X.c.dims + cntL cnt2 X.c.maps + cntL cnt1 X.lv) < (0 : Int))) || (!(true))) || (((apR X r n q).2) != ((apR X r n q).2)))))] [1, 2, 3, 4, 10, 11, 13] ?_ ?_
     -- a way
    ·refine den_region TTok ?_
     intro K hK
     simp -implicitDefEqProofs (disch := first | decide | assumption | (simp (disch := decide) only [slotOf_zero, slotOf_succ, Option.map_some, puts_same, puts_ne, gv_bool, gv_undef, tt, tf, ft, ff, eq_self, if_true, if_false, Bool.false_eq_true, Bool.not_true, Bool.not_false]; done) | omega) only [go_sem, wrap_id]
     refine opsP_F (by simp (disch := decide) only [slotOf_zero, slotOf_succ, Option.map_some, puts_same, puts_ne, gv_bool, gv_undef, tt, tf, ft, ff, eq_self, if_true, if_false, Bool.false_eq_true, Bool.not_true, Bool.not_false]; rfl) (fun g19 => ?_) (fun g19 => ?_)
     ·try simp -implicitDefEqProofs (disch := first | decide | assumption | (simp (disch := decide) only [slotOf_zero, slotOf_succ, Option.map_some, puts_same, puts_ne, gv_bool, gv_undef, tt, tf, ft, ff, eq_self, if_true, if_false, Bool.false_eq_true, Bool.not_true, Bool.not_false, g19]; done) | omega) only [go_sem, wrap_id, g19, eq_self, if_true, if_false, Bool.false_eq_true]
      try simp -implicitDefEqProofs (disch := first | decide | assumption | omega) only [go_sem, wrap_id]
      refine CallA.pure (eqSS_same _ _ _ _ (OS.rd how7_4_0) (OS.rd how5_5_0)) ?_
      try simp -implicitDefEqProofs (disch := first | decide | assumption | (simp (disch := decide) only [slotOf_zero, slotOf_succ, Option.map_some, puts_same, puts_ne, gv_bool, gv_undef, tt, tf, ft, ff, eq_self, if_true, if_false, Bool.false_eq_true, Bool.not_true, Bool.not_false, g19]; done) | omega) only [go_sem, wrap_id, g19, eq_self, if_true, if_false, Bool.false_eq_true]
      try simp -implicitDefEqProofs (disch := first | decide | assumption | (simp (disch := decide) only [slotOf_zero, slotOf_succ, Option.map_some, puts_same, puts_ne, gv_bool, gv_undef, tt, tf, ft, ff, eq_self, if_true, if_false, Bool.false_eq_true, Bool.not_true, Bool.not_false, g19]; done) | omega) only [go_sem, wrap_id, g19, eq_self, if_true, if_false, Bool.false_eq_true]
      refine hK _ _ ?_
      clear hK K
      refine den_stop ?_
      refine ⟨?_, rfl⟩
      first | (simp (disch := decide) only [go_sem, g19, eq_self, Bool.true_and, Bool.and_true, Bool.false_and, Bool.and_false, Bool.true_or, Bool.or_true, Bool.false_or, Bool.or_false, if_true, if_false, Bool.false_eq_true]; done) | simp [HasL, sel, puts_at, g19]
     ·try simp -implicitDefEqProofs (disch := first | decide | assumption | (simp (disch := decide) only [slotOf_zero, slotOf_succ, Option.map_some, puts_same, puts_ne, gv_bool, gv_undef, tt, tf, ft, ff, eq_self, if_true, if_false, Bool.false_eq_true, Bool.not_true, Bool.not_false, g19]; done) | omega) only [go_sem, wrap_id, g19, eq_self, if_true, if_false, Bool.false_eq_true]
      try simp -implicitDefEqProofs (disch := first | decide | assumption | (simp (disch := decide) only [slotOf_zero, slotOf_succ, Option.map_some, puts_same, puts_ne, gv_bool, gv_undef, tt, tf, ft, ff, eq_self, if_true, if_false, Bool.false_eq_true, Bool.not_true, Bool.not_false, g19]; done) | omega) only [go_sem, wrap_id, g19, eq_self, if_true, if_false, Bool.false_eq_true]
      refine hK _ _ ?_
      clear hK K
      refine den_stop ?_
      refine ⟨?_, rfl⟩
      first | (simp (disch := decide) only [go_sem, g19, eq_self, Bool.true_and, Bool.and_true, Bool.false_and, Bool.and_false, Bool.true_or, Bool.or_true, Bool.false_or, Bool.or_false, if_true, if_false, Bool.false_eq_true]; done) | simp [HasL, sel, puts_at, g19]
    intro en20
    simp (disch := decide) only [go_sem]
    refine den_cond rfl (fun c3 => ?_) (fun c3 => ?_)
    ·try simp only [decide_eq_true_eq, decide_eq_false_iff_not, beq_iff_eq, beq_eq_false_iff_ne, bne_iff_ne, ne_eq, Bool.not_eq_true', Bool.not_eq_false', Bool.and_eq_true, Bool.or_eq_true, bne_eq_false_iff_eq] at c3
     refine den_seq ?_
     refine den_region TTok ?_
     intro K hK
     simp -implicitDefEqProofs (disch := first | decide | assumption | omega) only [go_sem, wrap_id]
     refine hK _ _ ?_
     clear hK K
     refine den_ret ?_
     simp (disch := decide) only [resP_1, puts_same, puts_ne]
     exact absurd c3 (by first | (simp; done) | (simp; omega) | omega | (simp [eqC_self]; done))
    ·try simp only [decide_eq_true_eq, decide_eq_false_iff_not, beq_iff_eq, beq_eq_false_iff_ne, bne_iff_ne, ne_eq, Bool.not_eq_true', Bool.not_eq_false', Bool.and_eq_true, Bool.or_eq_true, bne_eq_false_iff_eq] at c3
     refine den_skip ?_
     refine den_seq ?_
     refine den_region TTok ?_
     intro K hK
     simp -implicitDefEqProofs (disch := first | decide | assumption | omega) only [go_sem, wrap_id]
     refine hK _ _ ?_
     clear hK K
     refine den_seq ?_
     refine den_region TTok ?_
     intro K hK
     simp -implicitDefEqProofs (disch := first | decide | assumption | omega) only [go_sem, wrap_id]
     try simp -implicitDefEqProofs (disch := first | decide | assumption | omega) only [go_sem, wrap_id]
     refine CallA.mono (markSS_ok _ ((apR X r n q).1) (1 : Int) _ _ how7_4_0 hfw7_4_0.nodup (by omega)) ?_
     intro v_ h17_2
     rintro ⟨rfl, hog17_2, cg17_2⟩
     replace how5_5_0 := OS.chg how5_5_0 cg17_2 (apart_lt hlhow5_5_0 hfw7_4_0 (by omega))
     replace hb0_0 := BoxAt.chgA hb0_0 cg17_2 (apart_lt hlhb0_0 hfw7_4_0 (by omega))
     have := cg17_2.size
     replace eB := Ext.then eB cg17_2 (ge_of hfw7_4_0 (by omega))
     have hlhog17_2 := hlhow7_4_0
     try simp -implicitDefEqProofs (disch := first | decide | assumption | omega) only [go_sem, wrap_id]
     refine hK _ _ ?_
     clear hK K
     refine den_seq ?_
     refine den_region TTok ?_
     intro K hK
     simp -implicitDefEqProofs (disch := first | decide | assumption | omega) only [go_sem, wrap_id]
     refine hK _ _ ?_
     clear hK K
     refine den_seq ?_
     refine den_region TTok ?_
     intro K hK
     simp -implicitDefEqProofs (disch := first | decide | assumption | omega) only [go_sem, wrap_id]
     try simp -implicitDefEqProofs (disch := first | decide | assumption | omega) only [go_sem, wrap_id]
     refine CallA.pure (heldSS_ok _ ((apR X r n q).1) (1 : Int) _ (OS.rd hog17_2) (by omega)) ?_
     try simp -implicitDefEqProofs (disch := first | decide | assumption | omega) only [go_sem, wrap_id]
     refine hK _ _ ?_
     clear hK K
     refine den_seq ?_
     refine den_seq ?_
     refine den_region TTok ?_
     intro K hK
     simp -implicitDefEqProofs (disch := first | decide | assumption | omega) only [go_sem, wrap_id]
     refine hK _ _ ?_
     clear hK K
     refine den_cond rfl (fun c4 => ?_) (fun c4 => ?_)
     ·try simp only [decide_eq_true_eq, decide_eq_false_iff_not, beq_iff_eq, beq_eq_false_iff_ne, bne_iff_ne, ne_eq, Bool.not_eq_true', Bool.not_eq_false', Bool.and_eq_true, Bool.or_eq_true, bne_eq_false_iff_eq] at c4
      refine den_seq ?_
      refine den_region TTok ?_
      intro K hK
      simp -implicitDefEqProofs (disch := first | decide | assumption | omega) only [go_sem, wrap_id]
      refine hK _ _ ?_
      clear hK K
      refine den_ret ?_
      simp (disch := decide) only [resP_1, puts_same, puts_ne]
      exact absurd c4 (by first | (simp; done) | (simp; omega) | omega | (simp [eqC_self]; done))
     ·try simp only [decide_eq_true_eq, decide_eq_false_iff_not, beq_iff_eq, beq_eq_false_iff_ne, bne_iff_ne, ne_eq, Bool.not_eq_true', Bool.not_eq_false', Bool.and_eq_true, Bool.or_eq_true, bne_eq_false_iff_eq] at c4
      refine den_skip ?_
      refine den_seq ?_
      refine den_seq ?_
      refine den_region TTok ?_
      intro K hK
      simp -implicitDefEqProofs (disch := first | decide | assumption | omega) only [go_sem, wrap_id]
      refine hK _ _ ?_
      clear hK K
      refine den_cond rfl (fun c5 => ?_) (fun c5 => ?_)
      ·try simp only [decide_eq_true_eq, decide_eq_false_iff_not, beq_iff_eq, beq_eq_false_iff_ne, bne_iff_ne, ne_eq, Bool.not_eq_true', Bool.not_eq_false', Bool.and_eq_true, Bool.or_eq_true, bne_eq_false_iff_eq] at c5
       refine den_seq ?_
       refine den_region TTok ?_
       intro K hK
       simp -implicitDefEqProofs (disch := first | decide | assumption | omega) only [go_sem, wrap_id]
       refine hK _ _ ?_
       clear hK K
       refine den_ret ?_
       simp (disch := decide) only [resP_1, puts_same, puts_ne]
       exact absurd c5 (by first | (simp; done) | (simp; omega) | omega | (simp [eqC_self]; done))
      ·try simp only [decide_eq_true_eq, decide_eq_false_iff_not, beq_iff_eq, beq_eq_false_iff_ne, bne_iff_ne, ne_eq, Bool.not_eq_true', Bool.not_eq_false', Bool.and_eq_true, Bool.or_eq_true, bne_eq_false_iff_eq] at c5
       refine den_skip ?_
       refine den_seq ?_
       refine den_region TTok ?_
       intro K hK
       simp -implicitDefEqProofs (disch := first | decide | assumption | omega) only [go_sem, ld28, BoxAt.cell hb0_0, wrap_id]
       try simp -implicitDefEqProofs (disch := first | decide | assumption | omega) only [go_sem, wrap_id]
       refine CallA.mono (toF_ok _ X _ ⟨_, _, _, rfl, (RdS.pres hdX (Ext.pres eB)), (RdS.pres hmX (Ext.pres eB)), (RdS.pres hvX (Ext.pres eB))⟩ hMX) ?_
       intro v_ h24_1
       rintro ⟨vd24_1, vm24_1, vv24_1, fd24_1, fm24_1, fv24_1, rfl, hod24_1, hom24_1, hov24_1, hf24_1, e24_1⟩
       replace how5_5_0 := OS.ext how5_5_0 e24_1
       replace hog17_2 := OS.ext hog17_2 e24_1
       replace hb0_0 := BoxAt.ext hb0_0 e24_1
       have := Ext.size e24_1
       replace eB := Ext.trans eB e24_1
       have hfd24_1 := hf24_1.left
       have hf24_1r0 := hf24_1.right
       have hfm24_1 := hf24_1r0.left
       have hfv24_1 := hf24_1r0.right
       have hlhod24_1 := OS.lt hod24_1
       have hlhom24_1 := OS.lt hom24_1
       have hlhov24_1 := OS.lt hov24_1
       have ap23 : Apart fd24_1 fm24_1 := Apart.lft (apart_nodup hf24_1)
       have ap24 : Apart fd24_1 fv24_1 := Apart.rgt (apart_nodup hf24_1)
       have ap25 : Apart fm24_1 fv24_1 := apart_nodup hf24_1r0
       try simp -implicitDefEqProofs (disch := first | decide | assumption | omega) only [go_sem, wrap_id]
       try simp -implicitDefEqProofs (disch := first | decide | assumption | omega) only [go_sem, wrap_id]
       refine CallA.mono (iAC_ok _ X r n q _ ⟨_, _, _, rfl, (OS.rd hod24_1), (OS.rd hom24_1), (OS.rd hov24_1)⟩ ) ?_
       intro v_ h24_5
       rintro ⟨vw24_5_0, fw24_5_0, rfl, how24_5_0, hfw24_5_0, e24_5⟩
       replace how5_5_0 := OS.ext how5_5_0 e24_5
       replace hog17_2 := OS.ext hog17_2 e24_5
       replace hod24_1 := OS.ext hod24_1 e24_5
       replace hom24_1 := OS.ext hom24_1 e24_5
       replace hov24_1 := OS.ext hov24_1 e24_5
       replace hb0_0 := BoxAt.ext hb0_0 e24_5
       have := Ext.size e24_5
       replace eB := Ext.trans eB e24_5
       have hlhow24_5_0 := OS.lt how24_5_0
       try simp -implicitDefEqProofs (disch := first | decide | assumption | omega) only [go_sem, wrap_id]
       refine hK _ _ ?_
       clear hK K
       refine den_seq ?_
       refine den_seq ?_
       refine den_mergeH [(102, .bool (((!(true)) || (((apR X r n q).2) != ((apR X r n q).2)))))] [13, 16] ?_ ?_
        -- a way
       ·refine den_region TTok ?_
        intro K hK
        simp -implicitDefEqProofs (disch := first | decide | assumption | (simp (disch := decide) only [slotOf_zero, slotOf_succ, Option.map_some, puts_same, puts_ne, gv_bool, gv_undef, tt, tf, ft, ff, eq_self, if_true, if_false, Bool.false_eq_true, Bool.not_true, Bool.not_false]; done) | omega) only [go_sem, wrap_id]
        try simp -implicitDefEqProofs (disch := first | decide | assumption | omega) only [go_sem, wrap_id]
        refine CallA.pure (eqSS_same _ _ _ _ (OS.rd how24_5_0) (OS.rd how5_5_0)) ?_
        try simp -implicitDefEqProofs (disch := first | decide | assumption | (simp (disch := decide) only [slotOf_zero, slotOf_succ, Option.map_some, puts_same, puts_ne, gv_bool, gv_undef, tt, tf, ft, ff, eq_self, if_true, if_false, Bool.false_eq_true, Bool.not_true, Bool.not_false]; done) | omega) only [go_sem, wrap_id]
        try simp -implicitDefEqProofs (disch := first | decide | assumption | (simp (disch := decide) only [slotOf_zero, slotOf_succ, Option.map_some, puts_same, puts_ne, gv_bool, gv_undef, tt, tf, ft, ff, eq_self, if_true, if_false, Bool.false_eq_true, Bool.not_true, Bool.not_false]; done) | omega) only [go_sem, wrap_id]
        refine hK _ _ ?_
        clear hK K
        refine den_stop ?_
        refine ⟨?_, rfl⟩
        first | (simp (disch := decide) only [go_sem, eq_self, Bool.true_and, Bool.and_true, Bool.false_and, Bool.and_false, Bool.true_or, Bool.or_true, Bool.false_or, Bool.or_false, if_true, if_false, Bool.false_eq_true]; done) | simp [HasL, sel, puts_at]
       intro en26
       simp (disch := decide) only [go_sem]
       refine den_cond rfl (fun c6 => ?_) (fun c6 => ?_)
       ·try simp only [decide_eq_true_eq, decide_eq_false_iff_not, beq_iff_eq, beq_eq_false_iff_ne, bne_iff_ne, ne_eq, Bool.not_eq_true', Bool.not_eq_false', Bool.and_eq_true, Bool.or_eq_true, bne_eq_false_iff_eq] at c6
        refine den_seq ?_
        refine den_region TTok ?_
        intro K hK
        simp -implicitDefEqProofs (disch := first | decide | assumption | omega) only [go_sem, wrap_id]
        refine hK _ _ ?_
        clear hK K
        refine den_ret ?_
        simp (disch := decide) only [resP_1, puts_same, puts_ne]
        exact absurd c6 (by first | (simp; done) | (simp; omega) | omega | (simp [eqC_self]; done))
       ·try simp only [decide_eq_true_eq, decide_eq_false_iff_not, beq_iff_eq, beq_eq_false_iff_ne, bne_iff_ne, ne_eq, Bool.not_eq_true', Bool.not_eq_false', Bool.and_eq_true, Bool.or_eq_true, bne_eq_false_iff_eq] at c6
        refine den_skip ?_
        refine den_seq ?_
        refine den_region TTok ?_
        intro K hK
        simp -implicitDefEqProofs (disch := first | decide | assumption | omega) only [go_sem, wrap_id]
        refine hK _ _ ?_
        clear hK K
        refine den_seq ?_
        refine den_region TTok ?_
        intro K hK
        simp -implicitDefEqProofs (disch := first | decide | assumption | omega) only [go_sem, wrap_id]
        try simp -implicitDefEqProofs (disch := first | decide | assumption | omega) only [go_sem, wrap_id]
        refine CallA.pure (heldSS_ok _ ((apR X r n q).1) (1 : Int) _ (OS.rd hog17_2) (by omega)) ?_
        try simp -implicitDefEqProofs (disch := first | decide | assumption | omega) only [go_sem, wrap_id]
        refine hK _ _ ?_
        clear hK K
        refine den_seq ?_
        refine den_seq ?_
        refine den_region TTok ?_
        intro K hK
        simp -implicitDefEqProofs (disch := first | decide | assumption | omega) only [go_sem, wrap_id]
        refine hK _ _ ?_
        clear hK K
        refine den_cond rfl (fun c7 => ?_) (fun c7 => ?_)
        ·try simp only [decide_eq_true_eq, decide_eq_false_iff_not, beq_iff_eq, beq_eq_false_iff_ne, bne_iff_ne, ne_eq, Bool.not_eq_true', Bool.not_eq_false', Bool.and_eq_true, Bool.or_eq_true, bne_eq_false_iff_eq] at c7
         refine den_seq ?_
         refine den_region TTok ?_
         intro K hK
         simp -implicitDefEqProofs (disch := first | decide | assumption | omega) only [go_sem, wrap_id]
         refine hK _ _ ?_
         clear hK K
         refine den_ret ?_
         simp (disch := decide) only [resP_1, puts_same, puts_ne]
         exact absurd c7 (by first | (simp; done) | (simp; omega) | omega | (simp [eqC_self]; done))
        ·try simp only [decide_eq_true_eq, decide_eq_false_iff_not, beq_iff_eq, beq_eq_false_iff_ne, bne_iff_ne, ne_eq, Bool.not_eq_true', Bool.not_eq_false', Bool.and_eq_true, Bool.or_eq_true, bne_eq_false_iff_eq] at c7
         refine den_skip ?_
         refine den_seq ?_
         refine den_seq ?_
         refine den_region TTok ?_
         intro K hK
         simp -implicitDefEqProofs (disch := first | decide | assumption | omega) only [go_sem, wrap_id]
         refine hK _ _ ?_
         clear hK K
         refine den_cond rfl (fun c8 => ?_) (fun c8 => ?_)
         ·try simp only [decide_eq_true_eq, decide_eq_false_iff_not, beq_iff_eq, beq_eq_false_iff_ne, bne_iff_ne, ne_eq, Bool.not_eq_true', Bool.not_eq_false', Bool.and_eq_true, Bool.or_eq_true, bne_eq_false_iff_eq] at c8
          refine den_seq ?_
          refine den_region TTok ?_
          intro K hK
          simp -implicitDefEqProofs (disch := first | decide | assumption | omega) only [go_sem, wrap_id]
          refine hK _ _ ?_
          clear hK K
          refine den_ret ?_
          simp (disch := decide) only [resP_1, puts_same, puts_ne]
          exact absurd c8 (by first | (simp; done) | (simp; omega) | omega | (simp [eqC_self]; done))
         ·try simp only [decide_eq_true_eq, decide_eq_false_iff_not, beq_iff_eq, beq_eq_false_iff_ne, bne_iff_ne, ne_eq, Bool.not_eq_true', Bool.not_eq_false', Bool.and_eq_true, Bool.or_eq_true, bne_eq_false_iff_eq] at c8
          refine den_skip ?_
          refine den_seq ?_
          refine den_region TTok ?_
          intro K hK
          simp -implicitDefEqProofs (disch := first | decide | assumption | omega) only [go_sem, wrap_id]
          refine hK _ _ ?_
          clear hK K
          refine den_ret ?_
          simp (disch := decide) only [resP_1, puts_same, puts_ne]
          exact ⟨by first | rfl | trivial, eB⟩
end Go.Proofs.Ytjjjgllbocgkbaa
