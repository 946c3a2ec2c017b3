/-
  What the statement FnExactPageSizes uses of the walks, part 5.
  Conditions: each theorem's own.
-/
import Derived.Test.YtjjjgllbocgkbaaG16
import Derived.Test.YtjjjgllbocgkbaaG17
import Derived.Test.YtjjjgllbocgkbaaG14
import Derived.Test.YtjjjgllbocgkbaaG13
import Derived.Test.YtjjjgllbocgkbaaG15
import Derived.Test.YtjjjgllbocgkbaaG18
import Derived.Test.YtjjjgllbocgkbaaG19
import Derived.Test.YtjjjgllbocgkbaaZPageSizes1
import Derived.Test.YtjjjgllbocgkbaaZPageSizes2
import Derived.Test.YtjjjgllbocgkbaaZPageSizes3
import Derived.Test.YtjjjgllbocgkbaaZPageSizes4
set_option linter.unusedVariables false
set_option linter.unusedSimpArgs false
namespace Go.Proofs.Ytjjjgllbocgkbaa
open Go
set_option maxRecDepth 100000 in
set_option maxHeartbeats 4000000 in
theorem exactPageSizes_law (vX : Value) (X : Cp) (n : Int) (h : Heap) (rX : RP h vX X)  : CallA Try.prog 12 #[vX, .int .i64 n] h fun v' h' => v' = .bool (true) ∧ Ext h h' := by
 obtain ⟨viX, vjX, vkX, rfl, hiX, hjX, hkX⟩ := rX
 have hleiX := RdS.le hiX
 have hlejX := RdS.le hjX
 have hlekX := RdS.le hkX
 refine callA_intro TTok (args := [_, _]) Try.func12 (by kernel_rfl) rfl 101 rfl (by simp) [.tmp 4] rfl ?_
 simp only [idxs, Nat.reduceAdd]
 refine den_seq ?_
 refine den_region TTok ?_
 intro K hK
 simp -implicitDefEqProofs (disch := first | decide | assumption | omega) only [go_sem, wrap_id]
 refine op_box (cs := #[.int .i64 (X.p), .int .i64 (X.d), .int .i64 (X.e), viX, vjX, vkX]) rfl ?_
 intro h0_0 e0_0 hb0_0 z0_0
 have := Ext.size e0_0
 have eB := e0_0
 have hfhb0_0 : Fresh h.size [h.size] := Fresh.one _
 have hlhb0_0 := one_lt (show h.size < h0_0.size by omega)
 try simp -implicitDefEqProofs (disch := first | decide | assumption | omega) only [go_sem, wrap_id]
 refine hK _ _ ?_
 clear hK K
 refine den_seq ?_
 refine den_region TTok ?_
 intro K hK
 simp -implicitDefEqProofs (disch := first | decide | assumption | omega) only [go_sem, wrap_id]
 refine hK _ _ ?_
 clear hK K
 refine den_seq ?_
 refine den_region TTok ?_
 intro K hK
 simp -implicitDefEqProofs (disch := first | decide | assumption | omega) only [go_sem, ld51, BoxAt.cell hb0_0, wrap_id]
 try simp -implicitDefEqProofs (disch := first | decide | assumption | omega) only [go_sem, wrap_id]
 refine CallA.mono (szP_ok _ X _ _ ⟨_, _, _, rfl, (RdS.pres hiX (Ext.pres eB)), (RdS.pres hjX (Ext.pres eB)), (RdS.pres hkX (Ext.pres eB))⟩ (by omega) (by omega)) ?_
 intro v_ h2_2
 rintro ⟨rfl, e2_2⟩
 replace hb0_0 := BoxAt.ext hb0_0 e2_2
 have := Ext.size e2_2
 replace eB := Ext.trans eB e2_2
 have := szP_le X (1048576 : Int) (by omega)
 try simp -implicitDefEqProofs (disch := first | decide | assumption | omega) only [go_sem, wrap_id]
 refine hK _ _ ?_
 clear hK K
 refine den_seq ?_
 refine den_seq ?_
 refine den_region TTok ?_
 intro K hK
 simp -implicitDefEqProofs (disch := first | decide | assumption | omega) only [go_sem, wrap_id]
 refine hK _ _ ?_
 clear hK K
 refine den_cond rfl (fun c0 => ?_) (fun c0 => ?_)
 ·try simp only [decide_eq_true_eq, decide_eq_false_iff_not, beq_iff_eq, beq_eq_false_iff_ne, bne_iff_ne, ne_eq, Bool.not_eq_true', Bool.not_eq_false', Bool.and_eq_true, Bool.or_eq_true, bne_eq_false_iff_eq] at c0
  refine den_seq ?_
  refine den_region TTok ?_
  intro K hK
  simp -implicitDefEqProofs (disch := first | decide | assumption | omega) only [go_sem, wrap_id]
  refine hK _ _ ?_
  clear hK K
  refine den_ret ?_
  simp (disch := decide) only [resP_1, puts_same, puts_ne]
  exact ⟨by first | rfl | trivial, eB⟩
 ·try simp only [decide_eq_true_eq, decide_eq_false_iff_not, beq_iff_eq, beq_eq_false_iff_ne, bne_iff_ne, ne_eq, Bool.not_eq_true', Bool.not_eq_false', Bool.and_eq_true, Bool.or_eq_true, bne_eq_false_iff_eq] at c0
  have hMX := szP_ok' (by omega) (by omega) c0
  have hcnX := szP_cntA (by omega) (by omega) c0
  have hci := cnt_psR X n
  refine den_skip ?_
  refine den_seq ?_
  refine den_region TTok ?_
  intro K hK
  simp -implicitDefEqProofs (disch := first | decide | assumption | omega) only [go_sem, ld51, BoxAt.cell hb0_0, wrap_id]
  try simp -implicitDefEqProofs (disch := first | decide | assumption | omega) only [go_sem, wrap_id]
  refine CallA.mono (toP_ok _ X _ ⟨_, _, _, rfl, (RdS.pres hiX (Ext.pres eB)), (RdS.pres hjX (Ext.pres eB)), (RdS.pres hkX (Ext.pres eB))⟩ hMX) ?_
  intro v_ h5_1
  rintro ⟨vi5_1, vj5_1, vk5_1, fi5_1, fj5_1, fk5_1, rfl, hoi5_1, hoj5_1, hok5_1, hf5_1, e5_1⟩
  replace hb0_0 := BoxAt.ext hb0_0 e5_1
  have := Ext.size e5_1
  replace eB := Ext.trans eB e5_1
  have hfi5_1 := hf5_1.left
  have hf5_1r0 := hf5_1.right
  have hfj5_1 := hf5_1r0.left
  have hfk5_1 := hf5_1r0.right
  have hlhoi5_1 := OS.lt hoi5_1
  have hlhoj5_1 := OS.lt hoj5_1
  have hlhok5_1 := OS.lt hok5_1
  have ap1 : Apart fi5_1 fj5_1 := Apart.lft (apart_nodup hf5_1)
  have ap2 : Apart fi5_1 fk5_1 := Apart.rgt (apart_nodup hf5_1)
  have ap3 : Apart fj5_1 fk5_1 := apart_nodup hf5_1r0
  try simp -implicitDefEqProofs (disch := first | decide | assumption | omega) only [go_sem, wrap_id]
  try simp -implicitDefEqProofs (disch := first | decide | assumption | omega) only [go_sem, wrap_id]
  refine CallA.mono (sPS_ok _ X n _ ⟨_, _, _, rfl, (OS.rd hoi5_1), (OS.rd hoj5_1), (OS.rd hok5_1)⟩ ) ?_
  intro v_ h5_3
  rintro ⟨vw5_3_0, fw5_3_0, rfl, how5_3_0, hfw5_3_0, e5_3⟩
  replace hoi5_1 := OS.ext hoi5_1 e5_3
  replace hoj5_1 := OS.ext hoj5_1 e5_3
  replace hok5_1 := OS.ext hok5_1 e5_3
  replace hb0_0 := BoxAt.ext hb0_0 e5_3
  have := Ext.size e5_3
  replace eB := Ext.trans eB e5_3
  have hlhow5_3_0 := OS.lt how5_3_0
  try simp -implicitDefEqProofs (disch := first | decide | assumption | omega) only [go_sem, wrap_id]
  refine hK _ _ ?_
  clear hK K
  refine den_seq ?_
  refine den_region TTok ?_
  intro K hK
  simp -implicitDefEqProofs (disch := first | decide | assumption | omega) only [go_sem, ld51, BoxAt.cell hb0_0, wrap_id]
  try simp -implicitDefEqProofs (disch := first | decide | assumption | omega) only [go_sem, wrap_id]
  refine CallA.mono (toP_ok _ X _ ⟨_, _, _, rfl, (RdS.pres hiX (Ext.pres eB)), (RdS.pres hjX (Ext.pres eB)), (RdS.pres hkX (Ext.pres eB))⟩ hMX) ?_
  intro v_ h6_1
  rintro ⟨vi6_1, vj6_1, vk6_1, fi6_1, fj6_1, fk6_1, rfl, hoi6_1, hoj6_1, hok6_1, hf6_1, e6_1⟩
  replace how5_3_0 := OS.ext how5_3_0 e6_1
  replace hb0_0 := BoxAt.ext hb0_0 e6_1
  have := Ext.size e6_1
  replace eB := Ext.trans eB e6_1
  have hfi6_1 := hf6_1.left
  have hf6_1r0 := hf6_1.right
  have hfj6_1 := hf6_1r0.left
  have hfk6_1 := hf6_1r0.right
  have hlhoi6_1 := OS.lt hoi6_1
  have hlhoj6_1 := OS.lt hoj6_1
  have hlhok6_1 := OS.lt hok6_1
  have ap4 : Apart fi6_1 fj6_1 := Apart.lft (apart_nodup hf6_1)
  have ap5 : Apart fi6_1 fk6_1 := Apart.rgt (apart_nodup hf6_1)
  have ap6 : Apart fj6_1 fk6_1 := apart_nodup hf6_1r0
  try simp -implicitDefEqProofs (disch := first | decide | assumption | omega) only [go_sem, wrap_id]
  refine op_alloc (cs := #[.int .i64 0, .int .i64 0, .int .i64 0, .slice none 0 0, .slice none 0 0, .slice none 0 0]) (by kernel_rfl) ?_
  intro h6_2 e6_2 hb6_2 z6_2
  replace how5_3_0 := OS.ext how5_3_0 e6_2
  replace hoi6_1 := OS.ext hoi6_1 e6_2
  replace hoj6_1 := OS.ext hoj6_1 e6_2
  replace hok6_1 := OS.ext hok6_1 e6_2
  replace hb0_0 := BoxAt.ext hb0_0 e6_2
  have := Ext.size e6_2
  replace eB := Ext.trans eB e6_2
  have hfhb6_2 : Fresh h6_1.size [h6_1.size] := Fresh.one _
  have hlhb6_2 := one_lt (show h6_1.size < h6_2.size by omega)
  try simp -implicitDefEqProofs (disch := first | decide | assumption | omega) only [go_sem, wrap_id]
  refine op_storeB (cs' := #[.int .i64 (X.p), .int .i64 (X.d), .int .i64 (X.e), vi6_1, vj6_1, vk6_1]) st53 hb6_2 rfl rfl rfl (by simp) (allOne_mem (l := [.int .i64 (X.p), .int .i64 (X.d), .int .i64 (X.e), vi6_1, vj6_1, vk6_1]) ⟨rfl, rfl, rfl, (OS.one hoi6_1).1, (OS.one hoj6_1).1, (OS.one hok6_1).1, trivial⟩) rfl ?_
  intro h6_3 hb6_2 c6_3
  replace how5_3_0 := OS.chg how5_3_0 c6_3 (apart_lt hlhow5_3_0 hfhb6_2 (by omega))
  replace hoi6_1 := OS.chg hoi6_1 c6_3 (apart_lt hlhoi6_1 hfhb6_2 (by omega))
  replace hoj6_1 := OS.chg hoj6_1 c6_3 (apart_lt hlhoj6_1 hfhb6_2 (by omega))
  replace hok6_1 := OS.chg hok6_1 c6_3 (apart_lt hlhok6_1 hfhb6_2 (by omega))
  replace hb0_0 := BoxAt.chgA hb0_0 c6_3 (apart_lt hlhb0_0 hfhb6_2 (by omega))
  have := c6_3.size
  replace eB := Ext.then eB c6_3 (ge_of hfhb6_2 (by omega))
  try simp -implicitDefEqProofs (disch := first | decide | assumption | omega) only [go_sem, wrap_id]
  refine hK _ _ ?_
  clear hK K
  refine den_seq ?_
  refine den_region TTok ?_
  intro K hK
  simp -implicitDefEqProofs (disch := first | decide | assumption | omega) only [go_sem, ld53, BoxAt.cell hb6_2, wrap_id]
  try simp -implicitDefEqProofs (disch := first | decide | assumption | omega) only [go_sem, wrap_id]
  refine CallA.mono (iPS_ok _ X n _ ⟨_, _, _, rfl, (OS.rd hoi6_1), (OS.rd hoj6_1), (OS.rd hok6_1)⟩ ) ?_
  intro v_ h7_2
  rintro ⟨vw7_2_0, fw7_2_0, rfl, how7_2_0, hfw7_2_0, e7_2⟩
  replace how5_3_0 := OS.ext how5_3_0 e7_2
  replace hoi6_1 := OS.ext hoi6_1 e7_2
  replace hoj6_1 := OS.ext hoj6_1 e7_2
  replace hok6_1 := OS.ext hok6_1 e7_2
  replace hb0_0 := BoxAt.ext hb0_0 e7_2
  replace hb6_2 := BoxAt.ext hb6_2 e7_2
  have := Ext.size e7_2
  replace eB := Ext.trans eB e7_2
  have hlhow7_2_0 := OS.lt how7_2_0
  try simp -implicitDefEqProofs (disch := first | decide | assumption | omega) only [go_sem, wrap_id]
  refine hK _ _ ?_
  clear hK K
  refine den_seq ?_
  refine den_seq ?_
  refine den_mergeH [(44, .bool (((!(true)) || (((psR X n).2) != ((psR X n).2)))))] [1, 2, 6, 7, 8, 9, 10] ?_ ?_
   -- a way
  ·refine den_region TTok ?_
   intro K hK
   simp -implicitDefEqProofs (disch := first | decide | assumption | (simp (disch := decide) only [slotOf_zero, slotOf_succ, Option.map_some, puts_same, puts_ne, gv_bool, gv_undef, tt, tf, ft, ff, eq_self, if_true, if_false, Bool.false_eq_true, Bool.not_true, Bool.not_false]; done) | omega) only [go_sem, wrap_id]
   try simp -implicitDefEqProofs (disch := first | decide | assumption | omega) only [go_sem, wrap_id]
   refine CallA.pure (eqS_same _ _ _ _ (OS.rd how7_2_0) (OS.rd how5_3_0)) ?_
   try simp -implicitDefEqProofs (disch := first | decide | assumption | (simp (disch := decide) only [slotOf_zero, slotOf_succ, Option.map_some, puts_same, puts_ne, gv_bool, gv_undef, tt, tf, ft, ff, eq_self, if_true, if_false, Bool.false_eq_true, Bool.not_true, Bool.not_false]; done) | omega) only [go_sem, wrap_id]
   try simp -implicitDefEqProofs (disch := first | decide | assumption | (simp (disch := decide) only [slotOf_zero, slotOf_succ, Option.map_some, puts_same, puts_ne, gv_bool, gv_undef, tt, tf, ft, ff, eq_self, if_true, if_false, Bool.false_eq_true, Bool.not_true, Bool.not_false]; done) | omega) only [go_sem, wrap_id]
   refine hK _ _ ?_
   clear hK K
   refine den_stop ?_
   refine ⟨?_, rfl⟩
   first | (simp (disch := decide) only [go_sem, eq_self, Bool.true_and, Bool.and_true, Bool.false_and, Bool.and_false, Bool.true_or, Bool.or_true, Bool.false_or, Bool.or_false, if_true, if_false, Bool.false_eq_true]; done) | simp [HasL, sel, puts_at]
  intro en7
  simp (disch := decide) only [go_sem]
  refine den_cond rfl (fun c1 => ?_) (fun c1 => ?_)
  ·try simp only [decide_eq_true_eq, decide_eq_false_iff_not, beq_iff_eq, beq_eq_false_iff_ne, bne_iff_ne, ne_eq, Bool.not_eq_true', Bool.not_eq_false', Bool.and_eq_true, Bool.or_eq_true, bne_eq_false_iff_eq] at c1
   refine den_seq ?_
   refine den_region TTok ?_
   intro K hK
   simp -implicitDefEqProofs (disch := first | decide | assumption | omega) only [go_sem, wrap_id]
   refine hK _ _ ?_
   clear hK K
   refine den_ret ?_
   simp (disch := decide) only [resP_1, puts_same, puts_ne]
   exact absurd c1 (by first | (simp; done) | (simp; omega) | omega | (simp [eqC_self]; done))
  ·try simp only [decide_eq_true_eq, decide_eq_false_iff_not, beq_iff_eq, beq_eq_false_iff_ne, bne_iff_ne, ne_eq, Bool.not_eq_true', Bool.not_eq_false', Bool.and_eq_true, Bool.or_eq_true, bne_eq_false_iff_eq] at c1
   refine den_skip ?_
   refine den_seq ?_
   refine den_seq ?_
   refine den_draw TTok mixed [] [(0, true), (1, true), (2, false), (3, false), (4, true)] (by kernel_rfl) ?_
   intro K hK
   simp -implicitDefEqProofs (disch := first | decide | assumption | omega) only [go_sem, ld53, ld51, BoxAt.cell hb0_0, BoxAt.cell hb6_2, wrap_id]
   try simp -implicitDefEqProofs (disch := first | decide | assumption | omega) only [go_sem, wrap_id]
   refine CallA.mono (toP_ok _ X _ ⟨_, _, _, rfl, (RdS.pres hiX (Ext.pres eB)), (RdS.pres hjX (Ext.pres eB)), (RdS.pres hkX (Ext.pres eB))⟩ hMX) ?_
   intro v_ h10_2
   rintro ⟨vi10_2, vj10_2, vk10_2, fi10_2, fj10_2, fk10_2, rfl, hoi10_2, hoj10_2, hok10_2, hf10_2, e10_2⟩
   replace how5_3_0 := OS.ext how5_3_0 e10_2
   replace hoi6_1 := OS.ext hoi6_1 e10_2
   replace hoj6_1 := OS.ext hoj6_1 e10_2
   replace hok6_1 := OS.ext hok6_1 e10_2
   replace how7_2_0 := OS.ext how7_2_0 e10_2
   replace hb0_0 := BoxAt.ext hb0_0 e10_2
   replace hb6_2 := BoxAt.ext hb6_2 e10_2
   have := Ext.size e10_2
   replace eB := Ext.trans eB e10_2
   have hfi10_2 := hf10_2.left
   have hf10_2r0 := hf10_2.right
   have hfj10_2 := hf10_2r0.left
   have hfk10_2 := hf10_2r0.right
   have hlhoi10_2 := OS.lt hoi10_2
   have hlhoj10_2 := OS.lt hoj10_2
   have hlhok10_2 := OS.lt hok10_2
   have ap10 : Apart fi10_2 fj10_2 := Apart.lft (apart_nodup hf10_2)
   have ap11 : Apart fi10_2 fk10_2 := Apart.rgt (apart_nodup hf10_2)
   have ap12 : Apart fj10_2 fk10_2 := apart_nodup hf10_2r0
   try simp (disch := decide) only [outv_some, outv_none, put_puts]
   refine plK_pres (Ext.pres e10_2) ?_
   try simp -implicitDefEqProofs (disch := first | decide | assumption | omega) only [go_sem, wrap_id]
   try simp -implicitDefEqProofs (disch := first | decide | assumption | omega) only [go_sem, wrap_id]
   refine CallA.mono (eqP_same _ _ X _ ⟨_, _, _, rfl, (OS.rd hoi6_1), (OS.rd hoj6_1), (OS.rd hok6_1)⟩ ⟨_, _, _, rfl, (OS.rd hoi10_2), (OS.rd hoj10_2), (OS.rd hok10_2)⟩) ?_
   intro v_ h10_3
   rintro ⟨rfl, e10_3⟩
   replace how5_3_0 := OS.ext how5_3_0 e10_3
   replace hoi6_1 := OS.ext hoi6_1 e10_3
   replace hoj6_1 := OS.ext hoj6_1 e10_3
   replace hok6_1 := OS.ext hok6_1 e10_3
   replace how7_2_0 := OS.ext how7_2_0 e10_3
   replace hoi10_2 := OS.ext hoi10_2 e10_3
   replace hoj10_2 := OS.ext hoj10_2 e10_3
   replace hok10_2 := OS.ext hok10_2 e10_3
   replace hb0_0 := BoxAt.ext hb0_0 e10_3
   replace hb6_2 := BoxAt.ext hb6_2 e10_3
   have := Ext.size e10_3
   replace eB := Ext.trans eB e10_3
   try simp (disch := decide) only [outv_some, outv_none, put_puts]
   refine plK_pres (Ext.pres e10_3) ?_
   try simp -implicitDefEqProofs (disch := first | decide | assumption | omega) only [go_sem, wrap_id]
   refine hK _ _ ?_
   clear hK K
   refine den_cond rfl (fun c2 => ?_) (fun c2 => ?_)
   ·try simp only [decide_eq_true_eq, decide_eq_false_iff_not, beq_iff_eq, beq_eq_false_iff_ne, bne_iff_ne, ne_eq, Bool.not_eq_true', Bool.not_eq_false', Bool.and_eq_true, Bool.or_eq_true, bne_eq_false_iff_eq] at c2
    refine den_seq ?_
    refine den_region TTok ?_
    intro K hK
    simp -implicitDefEqProofs (disch := first | decide | assumption | omega) only [go_sem, wrap_id]
    refine hK _ _ ?_
    clear hK K
    refine den_ret ?_
    simp (disch := decide) only [resP_1, puts_same, puts_ne]
    exact absurd c2 (by first | (simp; done) | (simp; omega) | omega | (simp [eqC_self]; done))
   ·try simp only [decide_eq_true_eq, decide_eq_false_iff_not, beq_iff_eq, beq_eq_false_iff_ne, bne_iff_ne, ne_eq, Bool.not_eq_true', Bool.not_eq_false', Bool.and_eq_true, Bool.or_eq_true, bne_eq_false_iff_eq] at c2
    refine den_skip ?_
    refine den_seq ?_
    refine den_region TTok ?_
    intro K hK
    simp -implicitDefEqProofs (disch := first | decide | assumption | omega) only [go_sem, wrap_id]
    refine hK _ _ ?_
    clear hK K
    refine den_seq ?_
    refine den_region TTok ?_
    intro K hK
    simp -implicitDefEqProofs (disch := first | decide | assumption | omega) only [go_sem, ld53, BoxAt.cell hb6_2, wrap_id]
    try simp -implicitDefEqProofs (disch := first | decide | assumption | omega) only [go_sem, wrap_id]
    refine CallA.mono (markP_ok _ _ _ X (1 : Int) _ _ _ _ hoi6_1 hoj6_1 hok6_1 (Fresh.two (lo := 0) hfi6_1 (Fresh.two (lo := 0) hfj6_1 hfk6_1 ap6 (Nat.zero_le _) (Nat.zero_le _)) (Apart.app ap4 ap5) (Nat.zero_le _) (Nat.zero_le _)).nodup (by omega)) ?_
    intro v_ h13_2
    rintro ⟨rfl, hogi13_2, hogj13_2, hogk13_2, cg13_2⟩
    replace how5_3_0 := OS.chg how5_3_0 cg13_2 (Apart.app (apart_lt hlhow5_3_0 hfi6_1 (by omega)) (Apart.app (apart_lt hlhow5_3_0 hfj6_1 (by omega)) (apart_lt hlhow5_3_0 hfk6_1 (by omega))))
    replace how7_2_0 := OS.chg how7_2_0 cg13_2 (Apart.app (apart_gt hfw7_2_0 hlhoi6_1 (by omega)) (Apart.app (apart_gt hfw7_2_0 hlhoj6_1 (by omega)) (apart_gt hfw7_2_0 hlhok6_1 (by omega))))
    replace hb0_0 := BoxAt.chgA hb0_0 cg13_2 (Apart.app (apart_lt hlhb0_0 hfi6_1 (by omega)) (Apart.app (apart_lt hlhb0_0 hfj6_1 (by omega)) (apart_lt hlhb0_0 hfk6_1 (by omega))))
    replace hb6_2 := BoxAt.chgA hb6_2 cg13_2 (Apart.app (apart_gt hfhb6_2 hlhoi6_1 (by omega)) (Apart.app (apart_gt hfhb6_2 hlhoj6_1 (by omega)) (apart_gt hfhb6_2 hlhok6_1 (by omega))))
    have := cg13_2.size
    replace eB := Ext.then eB cg13_2 (ge_app (ge_of hfi6_1 (by omega)) (ge_app (ge_of hfj6_1 (by omega)) (ge_of hfk6_1 (by omega))))
    have ap13 : Apart fj6_1 fi6_1 := (Apart.symm ap4)
    have ap14 : Apart fk6_1 fi6_1 := (Apart.symm ap5)
    have hlhogi13_2 := hlhoi6_1
    have ap15 : Apart fk6_1 fj6_1 := (Apart.symm ap6)
    have ap16 : Apart fi6_1 fj6_1 := (Apart.symm ap13)
    have hlhogj13_2 := hlhoj6_1
    have ap17 : Apart fi6_1 fk6_1 := (Apart.symm ap14)
    have ap18 : Apart fj6_1 fk6_1 := (Apart.symm ap15)
    have hlhogk13_2 := hlhok6_1
    try simp -implicitDefEqProofs (disch := first | decide | assumption | omega) only [go_sem, wrap_id]
    refine hK _ _ ?_
    clear hK K
    refine den_seq ?_
    refine den_seq ?_
    refine den_mergeH [(65, .bool ((((decide (((1 : Int) + cntL cnt1 X.i + cntL cnt1 X.j + cntL cnt1 X.k) < (0 : Int))) || (!(true))) || (((psR X n).2) != ((psR X n).2)))))] [1, 2, 6, 7, 9] ?_ ?_
     -- a way
    ·refine den_region TTok ?_
     intro K hK
     simp -implicitDefEqProofs (disch := first | decide | assumption | (simp (disch := decide) only [slotOf_zero, slotOf_succ, Option.map_some, puts_same, puts_ne, gv_bool, gv_undef, tt, tf, ft, ff, eq_self, if_true, if_false, Bool.false_eq_true, Bool.not_true, Bool.not_false]; done) | omega) only [go_sem, wrap_id]
     refine opsP_F (by simp (disch := decide) only [slotOf_zero, slotOf_succ, Option.map_some, puts_same, puts_ne, gv_bool, gv_undef, tt, tf, ft, ff, eq_self, if_true, if_false, Bool.false_eq_true, Bool.not_true, Bool.not_false]; rfl) (fun g19 => ?_) (fun g19 => ?_)
     ·try simp -implicitDefEqProofs (disch := first | decide | assumption | (simp (disch := decide) only [slotOf_zero, slotOf_succ, Option.map_some, puts_same, puts_ne, gv_bool, gv_undef, tt, tf, ft, ff, eq_self, if_true, if_false, Bool.false_eq_true, Bool.not_true, Bool.not_false, g19]; done) | omega) only [go_sem, wrap_id, g19, eq_self, if_true, if_false, Bool.false_eq_true]
      try simp -implicitDefEqProofs (disch := first | decide | assumption | omega) only [go_sem, wrap_id]
      refine CallA.pure (eqS_same _ _ _ _ (OS.rd how7_2_0) (OS.rd how5_3_0)) ?_
      try simp -implicitDefEqProofs (disch := first | decide | assumption | (simp (disch := decide) only [slotOf_zero, slotOf_succ, Option.map_some, puts_same, puts_ne, gv_bool, gv_undef, tt, tf, ft, ff, eq_self, if_true, if_false, Bool.false_eq_true, Bool.not_true, Bool.not_false, g19]; done) | omega) only [go_sem, wrap_id, g19, eq_self, if_true, if_false, Bool.false_eq_true]
      try simp -implicitDefEqProofs (disch := first | decide | assumption | (simp (disch := decide) only [slotOf_zero, slotOf_succ, Option.map_some, puts_same, puts_ne, gv_bool, gv_undef, tt, tf, ft, ff, eq_self, if_true, if_false, Bool.false_eq_true, Bool.not_true, Bool.not_false, g19]; done) | omega) only [go_sem, wrap_id, g19, eq_self, if_true, if_false, Bool.false_eq_true]
      refine hK _ _ ?_
      clear hK K
      refine den_stop ?_
      refine ⟨?_, rfl⟩
      first | (simp (disch := decide) only [go_sem, g19, eq_self, Bool.true_and, Bool.and_true, Bool.false_and, Bool.and_false, Bool.true_or, Bool.or_true, Bool.false_or, Bool.or_false, if_true, if_false, Bool.false_eq_true]; done) | simp [HasL, sel, puts_at, g19]
     ·try simp -implicitDefEqProofs (disch := first | decide | assumption | (simp (disch := decide) only [slotOf_zero, slotOf_succ, Option.map_some, puts_same, puts_ne, gv_bool, gv_undef, tt, tf, ft, ff, eq_self, if_true, if_false, Bool.false_eq_true, Bool.not_true, Bool.not_false, g19]; done) | omega) only [go_sem, wrap_id, g19, eq_self, if_true, if_false, Bool.false_eq_true]
      try simp -implicitDefEqProofs (disch := first | decide | assumption | (simp (disch := decide) only [slotOf_zero, slotOf_succ, Option.map_some, puts_same, puts_ne, gv_bool, gv_undef, tt, tf, ft, ff, eq_self, if_true, if_false, Bool.false_eq_true, Bool.not_true, Bool.not_false, g19]; done) | omega) only [go_sem, wrap_id, g19, eq_self, if_true, if_false, Bool.false_eq_true]
      refine hK _ _ ?_
      clear hK K
      refine den_stop ?_
      refine ⟨?_, rfl⟩
      first | (simp (disch := decide) only [go_sem, g19, eq_self, Bool.true_and, Bool.and_true, Bool.false_and, Bool.and_false, Bool.true_or, Bool.or_true, Bool.false_or, Bool.or_false, if_true, if_false, Bool.false_eq_true]; done) | simp [HasL, sel, puts_at, g19]
    intro en20
    simp (disch := decide) only [go_sem]
    refine den_cond rfl (fun c3 => ?_) (fun c3 => ?_)
    ·try simp only [decide_eq_true_eq, decide_eq_false_iff_not, beq_iff_eq, beq_eq_false_iff_ne, bne_iff_ne, ne_eq, Bool.not_eq_true', Bool.not_eq_false', Bool.and_eq_true, Bool.or_eq_true, bne_eq_false_iff_eq] at c3
     refine den_seq ?_
     refine den_region TTok ?_
     intro K hK
     simp -implicitDefEqProofs (disch := first | decide | assumption | omega) only [go_sem, wrap_id]
     refine hK _ _ ?_
     clear hK K
     refine den_ret ?_
     simp (disch := decide) only [resP_1, puts_same, puts_ne]
     exact absurd c3 (by first | (simp; done) | (simp; omega) | omega | (simp [eqC_self]; done))
    ·try simp only [decide_eq_true_eq, decide_eq_false_iff_not, beq_iff_eq, beq_eq_false_iff_ne, bne_iff_ne, ne_eq, Bool.not_eq_true', Bool.not_eq_false', Bool.and_eq_true, Bool.or_eq_true, bne_eq_false_iff_eq] at c3
     refine den_skip ?_
     refine den_seq ?_
     refine den_region TTok ?_
     intro K hK
     simp -implicitDefEqProofs (disch := first | decide | assumption | omega) only [go_sem, wrap_id]
     refine hK _ _ ?_
     clear hK K
     refine den_seq ?_
     refine den_region TTok ?_
     intro K hK
     simp -implicitDefEqProofs (disch := first | decide | assumption | omega) only [go_sem, wrap_id]
     try simp -implicitDefEqProofs (disch := first | decide | assumption | omega) only [go_sem, wrap_id]
     refine CallA.mono (markS_ok _ ((psR X n).1) (1 : Int) _ _ how7_2_0 hfw7_2_0.nodup (by omega)) ?_
     intro v_ h17_2
     rintro ⟨rfl, hog17_2, cg17_2⟩
     replace how5_3_0 := OS.chg how5_3_0 cg17_2 (apart_lt hlhow5_3_0 hfw7_2_0 (by omega))
     replace hb0_0 := BoxAt.chgA hb0_0 cg17_2 (apart_lt hlhb0_0 hfw7_2_0 (by omega))
     have := cg17_2.size
     replace eB := Ext.then eB cg17_2 (ge_of hfw7_2_0 (by omega))
     have hlhog17_2 := hlhow7_2_0
     try simp -implicitDefEqProofs (disch := first | decide | assumption | omega) only [go_sem, wrap_id]
     refine hK _ _ ?_
     clear hK K
     refine den_seq ?_
     refine den_region TTok ?_
     intro K hK
     simp -implicitDefEqProofs (disch := first | decide | assumption | omega) only [go_sem, wrap_id]
     refine hK _ _ ?_
     clear hK K
     refine den_seq ?_
     refine den_region TTok ?_
     intro K hK
     simp -implicitDefEqProofs (disch := first | decide | assumption | omega) only [go_sem, wrap_id]
     try simp -implicitDefEqProofs (disch := first | decide | assumption | omega) only [go_sem, wrap_id]
     refine CallA.pure (heldS_ok _ ((psR X n).1) (1 : Int) _ (OS.rd hog17_2) (by omega)) ?_
     try simp -implicitDefEqProofs (disch := first | decide | assumption | omega) only [go_sem, wrap_id]
     refine hK _ _ ?_
     clear hK K
     refine den_seq ?_
     refine den_seq ?_
     refine den_region TTok ?_
     intro K hK
     simp -implicitDefEqProofs (disch := first | decide | assumption | omega) only [go_sem, wrap_id]
     refine hK _ _ ?_
     clear hK K
     refine den_cond rfl (fun c4 => ?_) (fun c4 => ?_)
     ·try simp only [decide_eq_true_eq, decide_eq_false_iff_not, beq_iff_eq, beq_eq_false_iff_ne, bne_iff_ne, ne_eq, Bool.not_eq_true', Bool.not_eq_false', Bool.and_eq_true, Bool.or_eq_true, bne_eq_false_iff_eq] at c4
      refine den_seq ?_
      refine den_region TTok ?_
      intro K hK
      simp -implicitDefEqProofs (disch := first | decide | assumption | omega) only [go_sem, wrap_id]
      refine hK _ _ ?_
      clear hK K
      refine den_ret ?_
      simp (disch := decide) only [resP_1, puts_same, puts_ne]
      exact absurd c4 (by first | (simp; done) | (simp; omega) | omega | (simp [eqC_self]; done))
     ·try simp only [decide_eq_true_eq, decide_eq_false_iff_not, beq_iff_eq, beq_eq_false_iff_ne, bne_iff_ne, ne_eq, Bool.not_eq_true', Bool.not_eq_false', Bool.and_eq_true, Bool.or_eq_true, bne_eq_false_iff_eq] at c4
      refine den_skip ?_
      refine den_seq ?_
      refine den_seq ?_
      refine den_region TTok ?_
      intro K hK
      simp -implicitDefEqProofs (disch := first | decide | assumption | omega) only [go_sem, wrap_id]
      refine hK _ _ ?_
      clear hK K
      refine den_cond rfl (fun c5 => ?_) (fun c5 => ?_)
      ·try simp only [decide_eq_true_eq, decide_eq_false_iff_not, beq_iff_eq, beq_eq_false_iff_ne, bne_iff_ne, ne_eq, Bool.not_eq_true', Bool.not_eq_false', Bool.and_eq_true, Bool.or_eq_true, bne_eq_false_iff_eq] at c5
       refine den_seq ?_
       refine den_region TTok ?_
       intro K hK
       simp -implicitDefEqProofs (disch := first | decide | assumption | omega) only [go_sem, wrap_id]
       refine hK _ _ ?_
       clear hK K
       refine den_ret ?_
       simp (disch := decide) only [resP_1, puts_same, puts_ne]
       exact absurd c5 (by first | (simp; done) | (simp; omega) | omega | (simp [eqC_self]; done))
      ·try simp only [decide_eq_true_eq, decide_eq_false_iff_not, beq_iff_eq, beq_eq_false_iff_ne, bne_iff_ne, ne_eq, Bool.not_eq_true', Bool.not_eq_false', Bool.and_eq_true, Bool.or_eq_true, bne_eq_false_iff_eq] at c5
       refine den_skip ?_
       refine den_seq ?_
       refine den_region TTok ?_
       intro K hK
       simp -implicitDefEqProofs (disch := first | decide | assumption | omega) only [go_sem, ld51, BoxAt.cell hb0_0, wrap_id]
       try simp -implicitDefEqProofs (disch := first | decide | assumption | omega) only [go_sem, wrap_id]
       refine CallA.mono (toP_ok _ X _ ⟨_, _, _, rfl, (RdS.pres hiX (Ext.pres eB)), (RdS.pres hjX (Ext.pres eB)), (RdS.pres hkX (Ext.pres eB))⟩ hMX) ?_
       intro v_ h24_1
       rintro ⟨vi24_1, vj24_1, vk24_1, fi24_1, fj24_1, fk24_1, rfl, hoi24_1, hoj24_1, hok24_1, hf24_1, e24_1⟩
       replace how5_3_0 := OS.ext how5_3_0 e24_1
       replace hog17_2 := OS.ext hog17_2 e24_1
       replace hb0_0 := BoxAt.ext hb0_0 e24_1
       have := Ext.size e24_1
       replace eB := Ext.trans eB e24_1
       have hfi24_1 := hf24_1.left
       have hf24_1r0 := hf24_1.right
       have hfj24_1 := hf24_1r0.left
       have hfk24_1 := hf24_1r0.right
       have hlhoi24_1 := OS.lt hoi24_1
       have hlhoj24_1 := OS.lt hoj24_1
       have hlhok24_1 := OS.lt hok24_1
       have ap23 : Apart fi24_1 fj24_1 := Apart.lft (apart_nodup hf24_1)
       have ap24 : Apart fi24_1 fk24_1 := Apart.rgt (apart_nodup hf24_1)
       have ap25 : Apart fj24_1 fk24_1 := apart_nodup hf24_1r0
       try simp -implicitDefEqProofs (disch := first | decide | assumption | omega) only [go_sem, wrap_id]
       try simp -implicitDefEqProofs (disch := first | decide | assumption | omega) only [go_sem, wrap_id]
       refine CallA.mono (iPS_ok _ X n _ ⟨_, _, _, rfl, (OS.rd hoi24_1), (OS.rd hoj24_1), (OS.rd hok24_1)⟩ ) ?_
       intro v_ h24_3
       rintro ⟨vw24_3_0, fw24_3_0, rfl, how24_3_0, hfw24_3_0, e24_3⟩
       replace how5_3_0 := OS.ext how5_3_0 e24_3
       replace hog17_2 := OS.ext hog17_2 e24_3
       replace hoi24_1 := OS.ext hoi24_1 e24_3
       replace hoj24_1 := OS.ext hoj24_1 e24_3
       replace hok24_1 := OS.ext hok24_1 e24_3
       replace hb0_0 := BoxAt.ext hb0_0 e24_3
       have := Ext.size e24_3
       replace eB := Ext.trans eB e24_3
       have hlhow24_3_0 := OS.lt how24_3_0
       try simp -implicitDefEqProofs (disch := first | decide | assumption | omega) only [go_sem, wrap_id]
       refine hK _ _ ?_
       clear hK K
       refine den_seq ?_
       refine den_seq ?_
       refine den_mergeH [(92, .bool (((!(true)) || (((psR X n).2) != ((psR X n).2)))))] [9, 12] ?_ ?_
        -- a way
       ·refine den_region TTok ?_
        intro K hK
        simp -implicitDefEqProofs (disch := first | decide | assumption | (simp (disch := decide) only [slotOf_zero, slotOf_succ, Option.map_some, puts_same, puts_ne, gv_bool, gv_undef, tt, tf, ft, ff, eq_self, if_true, if_false, Bool.false_eq_true, Bool.not_true, Bool.not_false]; done) | omega) only [go_sem, wrap_id]
        try simp -implicitDefEqProofs (disch := first | decide | assumption | omega) only [go_sem, wrap_id]
        refine CallA.pure (eqS_same _ _ _ _ (OS.rd how24_3_0) (OS.rd how5_3_0)) ?_
        try simp -implicitDefEqProofs (disch := first | decide | assumption | (simp (disch := decide) only [slotOf_zero, slotOf_succ, Option.map_some, puts_same, puts_ne, gv_bool, gv_undef, tt, tf, ft, ff, eq_self, if_true, if_false, Bool.false_eq_true, Bool.not_true, Bool.not_false]; done) | omega) only [go_sem, wrap_id]
        try simp -implicitDefEqProofs (disch := first | decide | assumption | (simp (disch := decide) only [slotOf_zero, slotOf_succ, Option.map_some, puts_same, puts_ne, gv_bool, gv_undef, tt, tf, ft, ff, eq_self, if_true, if_false, Bool.false_eq_true, Bool.not_true, Bool.not_false]; done) | omega) only [go_sem, wrap_id]
        refine hK _ _ ?_
        clear hK K
        refine den_stop ?_
        refine ⟨?_, rfl⟩
        first | (simp (disch := decide) only [go_sem, eq_self, Bool.true_and, Bool.and_true, Bool.false_and, Bool.and_false, Bool.true_or, Bool.or_true, Bool.false_or, Bool.or_false, if_true, if_false, Bool.false_eq_true]; done) | simp [HasL, sel, puts_at]
       intro en26
       simp (disch := decide) only [go_sem]
       refine den_cond rfl (fun c6 => ?_) (fun c6 => ?_)
       ·try simp only [decide_eq_true_eq, decide_eq_false_iff_not, beq_iff_eq, beq_eq_false_iff_ne, bne_iff_ne, ne_eq, Bool.not_eq_true', Bool.not_eq_false', Bool.and_eq_true, Bool.or_eq_true, bne_eq_false_iff_eq] at c6
        refine den_seq ?_
        refine den_region TTok ?_
        intro K hK
        simp -implicitDefEqProofs (disch := first | decide | assumption | omega) only [go_sem, wrap_id]
        refine hK _ _ ?_
        clear hK K
        refine den_ret ?_
        simp (disch := decide) only [resP_1, puts_same, puts_ne]
        exact absurd c6 (by first | (simp; done) | (simp; omega) | omega | (simp [eqC_self]; done))
       ·try simp only [decide_eq_true_eq, decide_eq_false_iff_not, beq_iff_eq, beq_eq_false_iff_ne, bne_iff_ne, ne_eq, Bool.not_eq_true', Bool.not_eq_false', Bool.and_eq_true, Bool.or_eq_true, bne_eq_false_iff_eq] at c6
        refine den_skip ?_
        refine den_seq ?_
        refine den_region TTok ?_
        intro K hK
        simp -implicitDefEqProofs (disch := first | decide | assumption | omega) only [go_sem, wrap_id]
        refine hK _ _ ?_
        clear hK K
        refine den_seq ?_
        refine den_region TTok ?_
        intro K hK
        simp -implicitDefEqProofs (disch := first | decide | assumption | omega) only [go_sem, wrap_id]
        try simp -implicitDefEqProofs (disch := first | decide | assumption | omega) only [go_sem, wrap_id]
        refine CallA.pure (heldS_ok _ ((psR X n).1) (1 : Int) _ (OS.rd hog17_2) (by omega)) ?_
        try simp -implicitDefEqProofs (disch := first | decide | assumption | omega) only [go_sem, wrap_id]
        refine hK _ _ ?_
        clear hK K
        refine den_seq ?_
        refine den_seq ?_
        refine den_region TTok ?_
        intro K hK
        simp -implicitDefEqProofs (disch := first | decide | assumption | omega) only [go_sem, wrap_id]
        refine hK _ _ ?_
        clear hK K
        refine den_cond rfl (fun c7 => ?_) (fun c7 => ?_)
        ·try simp only [decide_eq_true_eq, decide_eq_false_iff_not, beq_iff_eq, beq_eq_false_iff_ne, bne_iff_ne, ne_eq, Bool.not_eq_true', Bool.not_eq_false', Bool.and_eq_true, Bool.or_eq_true, bne_eq_false_iff_eq] at c7
         refine den_seq ?_
         refine den_region TTok ?_
         intro K hK
         simp -implicitDefEqProofs (disch := first | decide | assumption | omega) only [go_sem, wrap_id]
         refine hK _ _ ?_
         clear hK K
         refine den_ret ?_
         simp (disch := decide) only [resP_1, puts_same, puts_ne]
         exact absurd c7 (by first | (simp; done) | (simp; omega) | omega | (simp [eqC_self]; done))
        ·try simp only [decide_eq_true_eq, decide_eq_false_iff_not, beq_iff_eq, beq_eq_false_iff_ne, bne_iff_ne, ne_eq, Bool.not_eq_true', Bool.not_eq_false', Bool.and_eq_true, Bool.or_eq_true, bne_eq_false_iff_eq] at c7
         refine den_skip ?_
         refine den_seq ?_
         refine den_seq ?_
         refine den_region TTok ?_
         intro K hK
         simp -implicitDefEqProofs (disch := first | decide | assumption | omega) only [go_sem, wrap_id]
         refine hK _ _ ?_
         clear hK K
         refine den_cond rfl (fun c8 => ?_) (fun c8 => ?_)
         ·try simp only [decide_eq_true_eq, decide_eq_false_iff_not, beq_iff_eq, beq_eq_false_iff_ne, bne_iff_ne, ne_eq, Bool.not_eq_true', Bool.not_eq_false', Bool.and_eq_true, Bool.or_eq_true, bne_eq_false_iff_eq] at c8
          refine den_seq ?_
          refine den_region TTok ?_
          intro K hK
          simp -implicitDefEqProofs (disch := first | decide | assumption | omega) only [go_sem, wrap_id]
          refine hK _ _ ?_
          clear hK K
          refine den_ret ?_
          simp (disch := decide) only [resP_1, puts_same, puts_ne]
          exact absurd c8 (by first | (simp; done) | (simp; omega) | omega | (simp [eqC_self]; done))
         ·try simp only [decide_eq_true_eq, decide_eq_false_iff_not, beq_iff_eq, beq_eq_false_iff_ne, bne_iff_ne, ne_eq, Bool.not_eq_true', Bool.not_eq_false', Bool.and_eq_true, Bool.or_eq_true, bne_eq_false_iff_eq] at c8
          refine den_skip ?_
          refine den_seq ?_
          refine den_region TTok ?_
          intro K hK
          simp -implicitDefEqProofs (disch := first | decide | assumption | omega) only [go_sem, wrap_id]
          refine hK _ _ ?_
          clear hK K
          refine den_ret ?_
          simp (disch := decide) only [resP_1, puts_same, puts_ne]
          exact ⟨by first | rfl | trivial, eB⟩
end Go.Proofs.Ytjjjgllbocgkbaa
