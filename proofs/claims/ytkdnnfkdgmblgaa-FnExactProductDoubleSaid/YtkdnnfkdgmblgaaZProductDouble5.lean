/-
  What the statement FnExactProductDouble uses of the walks, part 5.
  Conditions: each theorem's own.
-/
import Derived.Test.YtkdnnfkdgmblgaaG16
import Derived.Test.YtkdnnfkdgmblgaaG17
import Derived.Test.YtkdnnfkdgmblgaaG14
import Derived.Test.YtkdnnfkdgmblgaaG13
import Derived.Test.YtkdnnfkdgmblgaaG15
import Derived.Test.YtkdnnfkdgmblgaaG18
import Derived.Test.YtkdnnfkdgmblgaaZProductDouble1
import Derived.Test.YtkdnnfkdgmblgaaZProductDouble2
import Derived.Test.YtkdnnfkdgmblgaaZProductDouble3
import Derived.Test.YtkdnnfkdgmblgaaZProductDouble4
set_option linter.unusedVariables false
set_option linter.unusedSimpArgs false
namespace Go.Proofs.Ytkdnnfkdgmblgaa
open Go
set_option maxRecDepth 100000 in
set_option maxHeartbeats 4000000 in
theorem exactProductDouble_law (vX vY : Value) (X : Cx) (Y : Cx) (h : Heap) (rX : RC h vX X) (rY : RC h vY Y)  : CallA Try.prog 3 #[vX, vY] h fun v' h' => v' = .bool (true) ∧ Ext h h' := by
 obtain ⟨vdX, vmX, rfl, hdX, hmX⟩ := rX
 have hledX := RdS.le hdX
 have hlemX := RdS.le hmX
 obtain ⟨vdY, vmY, rfl, hdY, hmY⟩ := rY
 have hledY := RdS.le hdY
 have hlemY := RdS.le hmY
 refine callA_intro TTok (args := [_, _]) Try.func3 (by kernel_rfl) rfl 119 rfl (by simp) [.tmp 4] rfl ?_
 simp only [idxs, Nat.reduceAdd]
 refine den_seq ?_
 refine den_region TTok ?_
 intro K hK
 simp -implicitDefEqProofs (disch := first | decide | assumption | omega) only [go_sem, wrap_id]
 refine op_box (cs := #[.int .i64 (X.p), vdX, vmX]) rfl ?_
 intro h0_0 e0_0 hb0_0 z0_0
 have := Ext.size e0_0
 have eB := e0_0
 have hfhb0_0 : Fresh h.size [h.size] := Fresh.one _
 have hlhb0_0 := one_lt (show h.size < h0_0.size by omega)
 try simp -implicitDefEqProofs (disch := first | decide | assumption | omega) only [go_sem, wrap_id]
 refine op_box (cs := #[.int .i64 (Y.p), vdY, vmY]) rfl ?_
 intro h0_1 e0_1 hb0_1 z0_1
 replace hb0_0 := BoxAt.ext hb0_0 e0_1
 have := Ext.size e0_1
 replace eB := Ext.trans eB e0_1
 have hfhb0_1 : Fresh h0_0.size [h0_0.size] := Fresh.one _
 have hlhb0_1 := one_lt (show h0_0.size < h0_1.size by omega)
 try simp -implicitDefEqProofs (disch := first | decide | assumption | omega) only [go_sem, wrap_id]
 refine hK _ _ ?_
 clear hK K
 refine den_seq ?_
 refine den_region TTok ?_
 intro K hK
 simp -implicitDefEqProofs (disch := first | decide | assumption | omega) only [go_sem, wrap_id]
 refine hK _ _ ?_
 clear hK K
 refine den_seq ?_
 refine den_region TTok ?_
 intro K hK
 simp -implicitDefEqProofs (disch := first | decide | assumption | omega) only [go_sem, ld25, BoxAt.cell hb0_0, wrap_id]
 try simp -implicitDefEqProofs (disch := first | decide | assumption | omega) only [go_sem, wrap_id]
 refine CallA.mono (szC_ok _ X _ _ ⟨_, _, rfl, (RdS.pres hdX (Ext.pres eB)), (RdS.pres hmX (Ext.pres eB))⟩ (by omega) (by omega)) ?_
 intro v_ h2_2
 rintro ⟨rfl, e2_2⟩
 replace hb0_0 := BoxAt.ext hb0_0 e2_2
 replace hb0_1 := BoxAt.ext hb0_1 e2_2
 have := Ext.size e2_2
 replace eB := Ext.trans eB e2_2
 have := szC_le X (1048576 : Int) (by omega)
 try simp -implicitDefEqProofs (disch := first | decide | assumption | omega) only [go_sem, wrap_id]
 refine hK _ _ ?_
 clear hK K
 refine den_seq ?_
 refine den_seq ?_
 refine den_region TTok ?_
 intro K hK
 simp -implicitDefEqProofs (disch := first | decide | assumption | omega) only [go_sem, wrap_id]
 refine hK _ _ ?_
 clear hK K
 refine den_cond rfl (fun c0 => ?_) (fun c0 => ?_)
 ·try simp only [decide_eq_true_eq, decide_eq_false_iff_not, beq_iff_eq, beq_eq_false_iff_ne, bne_iff_ne, ne_eq, Bool.not_eq_true', Bool.not_eq_false', Bool.and_eq_true, Bool.or_eq_true, bne_eq_false_iff_eq] at c0
  refine den_seq ?_
  refine den_region TTok ?_
  intro K hK
  simp -implicitDefEqProofs (disch := first | decide | assumption | omega) only [go_sem, wrap_id]
  refine hK _ _ ?_
  clear hK K
  refine den_ret ?_
  simp (disch := decide) only [resP_1, puts_same, puts_ne]
  exact ⟨by first | rfl | trivial, eB⟩
 ·try simp only [decide_eq_true_eq, decide_eq_false_iff_not, beq_iff_eq, beq_eq_false_iff_ne, bne_iff_ne, ne_eq, Bool.not_eq_true', Bool.not_eq_false', Bool.and_eq_true, Bool.or_eq_true, bne_eq_false_iff_eq] at c0
  have hMX := szC_ok' (by omega) (by omega) c0
  have hcnX := szC_cntA (by omega) (by omega) c0
  refine den_skip ?_
  refine den_seq ?_
  refine den_region TTok ?_
  intro K hK
  simp -implicitDefEqProofs (disch := first | decide | assumption | omega) only [go_sem, ld25, BoxAt.cell hb0_1, wrap_id]
  try simp -implicitDefEqProofs (disch := first | decide | assumption | omega) only [go_sem, wrap_id]
  refine CallA.mono (szC_ok _ Y _ _ ⟨_, _, rfl, (RdS.pres hdY (Ext.pres eB)), (RdS.pres hmY (Ext.pres eB))⟩ (by omega) (by omega)) ?_
  intro v_ h5_2
  rintro ⟨rfl, e5_2⟩
  replace hb0_0 := BoxAt.ext hb0_0 e5_2
  replace hb0_1 := BoxAt.ext hb0_1 e5_2
  have := Ext.size e5_2
  replace eB := Ext.trans eB e5_2
  have := szC_le Y (szC X (1048576 : Int)) (by omega)
  try simp -implicitDefEqProofs (disch := first | decide | assumption | omega) only [go_sem, wrap_id]
  refine hK _ _ ?_
  clear hK K
  refine den_seq ?_
  refine den_seq ?_
  refine den_region TTok ?_
  intro K hK
  simp -implicitDefEqProofs (disch := first | decide | assumption | omega) only [go_sem, wrap_id]
  refine hK _ _ ?_
  clear hK K
  refine den_cond rfl (fun c1 => ?_) (fun c1 => ?_)
  ·try simp only [decide_eq_true_eq, decide_eq_false_iff_not, beq_iff_eq, beq_eq_false_iff_ne, bne_iff_ne, ne_eq, Bool.not_eq_true', Bool.not_eq_false', Bool.and_eq_true, Bool.or_eq_true, bne_eq_false_iff_eq] at c1
   refine den_seq ?_
   refine den_region TTok ?_
   intro K hK
   simp -implicitDefEqProofs (disch := first | decide | assumption | omega) only [go_sem, wrap_id]
   refine hK _ _ ?_
   clear hK K
   refine den_ret ?_
   simp (disch := decide) only [resP_1, puts_same, puts_ne]
   exact ⟨by first | rfl | trivial, eB⟩
  ·try simp only [decide_eq_true_eq, decide_eq_false_iff_not, beq_iff_eq, beq_eq_false_iff_ne, bne_iff_ne, ne_eq, Bool.not_eq_true', Bool.not_eq_false', Bool.and_eq_true, Bool.or_eq_true, bne_eq_false_iff_eq] at c1
   have hMY := szC_ok' (by omega) (by omega) c1
   have hcnY := szC_cntA (by omega) (by omega) c1
   have hci := cnt_pd X Y
   refine den_skip ?_
   refine den_seq ?_
   refine den_sel [2, 3] ?_
   intro env_1
   simp only [go_sem]
   refine den_drawTJ (σ := Value × List Nat × Value × List Nat × Value × List Nat × Nat) TTok (fun st_ => [(6, .pointer (some ⟨st_.2.2.2.2.2.2, 0, none⟩)), (7, .int .i64 (((pdP X Y).2)))]) (fun st_ H => (O2 H st_.1 (((pdP X Y).1).dims) st_.2.1) ∧ (Fresh h5_2.size st_.2.1) ∧ (O4 H st_.2.2.1 (((pdP X Y).1).ac) st_.2.2.2.1) ∧ (Fresh h5_2.size st_.2.2.2.1) ∧ (O4 H st_.2.2.2.2.1 (((pdP X Y).1).dn) st_.2.2.2.2.2.1) ∧ (Fresh h5_2.size st_.2.2.2.2.2.1) ∧ (BoxAt H st_.2.2.2.2.2.2 #[.int .i64 ((((pdP X Y).1).p)), st_.1, st_.2.2.1, st_.2.2.2.2.1] 30) ∧ (Fresh h5_2.size [st_.2.2.2.2.2.2]) ∧ (Apart st_.2.1 st_.2.2.2.1) ∧ (Apart st_.2.1 st_.2.2.2.2.2.1) ∧ (Apart st_.2.1 [st_.2.2.2.2.2.2]) ∧ (Apart st_.2.2.2.1 st_.2.2.2.2.2.1) ∧ (Apart st_.2.2.2.1 [st_.2.2.2.2.2.2]) ∧ (Apart st_.2.2.2.2.2.1 [st_.2.2.2.2.2.2]) ∧ (Ext h5_2 H)) mixed [9] [(0, true), (2, true)] (.fork 1 [] (.fork 3 [] (.fork 4 [(5, true), (6, true)] (.fork 7 [(8, false), (9, false), (10, true)] .fin 8 [] (.fork 7 [(9, false), (10, true)] .fin 9 [(7, true), (10, true)] .fin)) 8 [(4, false), (5, true), (6, true)] (.fork 7 [(9, false), (10, true)] .fin 9 [(7, true), (10, true)] .fin)) 8 [(3, false), (4, false), (5, true), (6, true)] (.fork 7 [(9, false), (10, true)] .fin 9 [(7, true), (10, true)] .fin)) 8 [(1, false), (3, false), (4, false), (5, true), (6, true)] (.fork 7 [(9, false), (10, true)] .fin 9 [(7, true), (10, true)] .fin)) (by kernel_rfl) ?_ ?_
   ·intro K hK
    have cJ2 := Ext.refl h5_2
    simp -implicitDefEqProofs (disch := first | decide | assumption | omega) only [go_sem, ld25, BoxAt.cell hb0_0, BoxAt.cell hb0_1, wrap_id]
    refine And.intro ?_ ?_
    ·simp -implicitDefEqProofs (disch := first | decide | assumption | omega) only [go_sem, wrap_id]
     try simp -implicitDefEqProofs (disch := first | decide | assumption | omega) only [go_sem, wrap_id]
     refine CallA.mono (toC_ok _ X _ ⟨_, _, rfl, (RdS.pres hdX (Ext.pres eB)), (RdS.pres hmX (Ext.pres eB))⟩ hMX) ?_
     intro v_ h8_1
     rintro ⟨vd8_1, vm8_1, fd8_1, fm8_1, rfl, hod8_1, hom8_1, hf8_1, e8_1⟩
     replace hb0_0 := BoxAt.ext hb0_0 e8_1
     replace hb0_1 := BoxAt.ext hb0_1 e8_1
     have := Ext.size e8_1
     replace eB := Ext.trans eB e8_1
     replace cJ2 := Ext.trans cJ2 e8_1
     have hfd8_1 := hf8_1.left
     have hfm8_1 := hf8_1.right
     have hlhod8_1 := OS.lt hod8_1
     have hlhom8_1 := OS.lt hom8_1
     have ap3 : Apart fd8_1 fm8_1 := apart_nodup hf8_1
     try simp (disch := decide) only [outv_some, outv_none, put_puts]
     refine plK_pres (Ext.pres e8_1) ?_
     try simp -implicitDefEqProofs (disch := first | decide | assumption | omega) only [go_sem, wrap_id]
     refine And.intro ?_ ?_
     ·simp -implicitDefEqProofs (disch := first | decide | assumption | omega) only [go_sem, wrap_id]
      try simp -implicitDefEqProofs (disch := first | decide | assumption | omega) only [go_sem, wrap_id]
      refine CallA.mono (toC_ok _ Y _ ⟨_, _, rfl, (RdS.pres hdY (Ext.pres eB)), (RdS.pres hmY (Ext.pres eB))⟩ hMY) ?_
      intro v_ h8_3
      rintro ⟨vd8_3, vm8_3, fd8_3, fm8_3, rfl, hod8_3, hom8_3, hf8_3, e8_3⟩
      replace hod8_1 := OS.ext hod8_1 e8_3
      replace hom8_1 := OS.ext hom8_1 e8_3
      replace hb0_0 := BoxAt.ext hb0_0 e8_3
      replace hb0_1 := BoxAt.ext hb0_1 e8_3
      have := Ext.size e8_3
      replace eB := Ext.trans eB e8_3
      replace cJ2 := Ext.trans cJ2 e8_3
      have hfd8_3 := hf8_3.left
      have hfm8_3 := hf8_3.right
      have hlhod8_3 := OS.lt hod8_3
      have hlhom8_3 := OS.lt hom8_3
      have ap4 : Apart fd8_3 fm8_3 := apart_nodup hf8_3
      try simp (disch := decide) only [outv_some, outv_none, put_puts]
      refine plK_pres (Ext.pres e8_3) ?_
      try simp -implicitDefEqProofs (disch := first | decide | assumption | omega) only [go_sem, wrap_id]
      refine And.intro ?_ ?_
      ·simp -implicitDefEqProofs (disch := first | decide | assumption | omega) only [go_sem, wrap_id]
       try simp -implicitDefEqProofs (disch := first | decide | assumption | omega) only [go_sem, wrap_id]
       refine CallA.mono (sPD_ok _ _ X Y _ ⟨_, _, rfl, (OS.rd hod8_1), (OS.rd hom8_1)⟩ ⟨_, _, rfl, (OS.rd hod8_3), (OS.rd hom8_3)⟩ ) ?_
       intro v_ h8_4
       rintro ⟨vd8_4_0, va8_4_0, vb8_4_0, fd8_4_0, fa8_4_0, fb8_4_0, rfl, hod8_4_0, hoa8_4_0, hob8_4_0, hf8_4_0, e8_4⟩
       replace hod8_1 := OS.ext hod8_1 e8_4
       replace hom8_1 := OS.ext hom8_1 e8_4
       replace hod8_3 := OS.ext hod8_3 e8_4
       replace hom8_3 := OS.ext hom8_3 e8_4
       replace hb0_0 := BoxAt.ext hb0_0 e8_4
       replace hb0_1 := BoxAt.ext hb0_1 e8_4
       have := Ext.size e8_4
       replace eB := Ext.trans eB e8_4
       replace cJ2 := Ext.trans cJ2 e8_4
       have hfd8_4_0 := hf8_4_0.left
       have hf8_4_0r0 := hf8_4_0.right
       have hfa8_4_0 := hf8_4_0r0.left
       have hfb8_4_0 := hf8_4_0r0.right
       have hlhod8_4_0 := OS.lt hod8_4_0
       have hlhoa8_4_0 := OS.lt hoa8_4_0
       have hlhob8_4_0 := OS.lt hob8_4_0
       have ap5 : Apart fd8_4_0 fa8_4_0 := Apart.lft (apart_nodup hf8_4_0)
       have ap6 : Apart fd8_4_0 fb8_4_0 := Apart.rgt (apart_nodup hf8_4_0)
       have ap7 : Apart fa8_4_0 fb8_4_0 := apart_nodup hf8_4_0r0
       try simp (disch := decide) only [outv_some, outv_none, put_puts]
       refine plK_pres (Ext.pres e8_4) ?_
       try simp -implicitDefEqProofs (disch := first | decide | assumption | omega) only [go_sem, wrap_id]
       refine And.intro ?_ ?_
       ·simp -implicitDefEqProofs (disch := first | decide | assumption | omega) only [go_sem, wrap_id]
        refine op_alloc (cs := #[.int .i64 0, .slice none 0 0, .slice none 0 0, .slice none 0 0]) (by kernel_rfl) ?_
        intro h8_8 e8_8 hb8_8 z8_8
        replace hod8_1 := OS.ext hod8_1 e8_8
        replace hom8_1 := OS.ext hom8_1 e8_8
        replace hod8_3 := OS.ext hod8_3 e8_8
        replace hom8_3 := OS.ext hom8_3 e8_8
        replace hod8_4_0 := OS.ext hod8_4_0 e8_8
        replace hoa8_4_0 := OS.ext hoa8_4_0 e8_8
        replace hob8_4_0 := OS.ext hob8_4_0 e8_8
        replace hb0_0 := BoxAt.ext hb0_0 e8_8
        replace hb0_1 := BoxAt.ext hb0_1 e8_8
        have := Ext.size e8_8
        replace eB := Ext.trans eB e8_8
        replace cJ2 := Ext.trans cJ2 e8_8
        have hfhb8_8 : Fresh h8_4.size [h8_4.size] := Fresh.one _
        have hlhb8_8 := one_lt (show h8_4.size < h8_8.size by omega)
        try simp (disch := decide) only [outv_some, outv_none, put_puts]
        refine plK_pres (Ext.pres e8_8) ?_
        try simp -implicitDefEqProofs (disch := first | decide | assumption | omega) only [go_sem, wrap_id]
        refine op_storeB (cs' := #[.int .i64 ((((pdP X Y).1).p)), vd8_4_0, va8_4_0, vb8_4_0]) st30 hb8_8 rfl rfl rfl (by simp) (allOne_mem (l := [.int .i64 ((((pdP X Y).1).p)), vd8_4_0, va8_4_0, vb8_4_0]) ⟨rfl, (OS.one hod8_4_0).1, (OS.one hoa8_4_0).1, (OS.one hob8_4_0).1, trivial⟩) rfl ?_
        intro h8_9 hb8_8 c8_9
        replace hod8_1 := OS.chg hod8_1 c8_9 (apart_lt hlhod8_1 hfhb8_8 (by omega))
        replace hom8_1 := OS.chg hom8_1 c8_9 (apart_lt hlhom8_1 hfhb8_8 (by omega))
        replace hod8_3 := OS.chg hod8_3 c8_9 (apart_lt hlhod8_3 hfhb8_8 (by omega))
        replace hom8_3 := OS.chg hom8_3 c8_9 (apart_lt hlhom8_3 hfhb8_8 (by omega))
        replace hod8_4_0 := OS.chg hod8_4_0 c8_9 (apart_lt hlhod8_4_0 hfhb8_8 (by omega))
        replace hoa8_4_0 := OS.chg hoa8_4_0 c8_9 (apart_lt hlhoa8_4_0 hfhb8_8 (by omega))
        replace hob8_4_0 := OS.chg hob8_4_0 c8_9 (apart_lt hlhob8_4_0 hfhb8_8 (by omega))
        replace hb0_0 := BoxAt.chgA hb0_0 c8_9 (apart_lt hlhb0_0 hfhb8_8 (by omega))
        replace hb0_1 := BoxAt.chgA hb0_1 c8_9 (apart_lt hlhb0_1 hfhb8_8 (by omega))
        have := c8_9.size
        replace eB := Ext.then eB c8_9 (ge_of hfhb8_8 (by omega))
        replace cJ2 := Ext.then cJ2 c8_9 (ge_of hfhb8_8 (by omega))
        try simp (disch := decide) only [outv_some, outv_none, put_puts]
        refine plK_last (by decide) ?_
        try simp -implicitDefEqProofs (disch := first | decide | assumption | omega) only [go_sem, wrap_id]
        exact hK (vd8_4_0, fd8_4_0, va8_4_0, fa8_4_0, vb8_4_0, fb8_4_0, h8_4.size) _ _ (by simp [HasL, puts_at]) ⟨hod8_4_0, (hfd8_4_0.mono (by omega)), hoa8_4_0, (hfa8_4_0.mono (by omega)), hob8_4_0, (hfb8_4_0.mono (by omega)), hb8_8, (hfhb8_8.mono (by omega)), ap5, ap6, (apart_lt hlhod8_4_0 hfhb8_8 (by omega)), ap7, (apart_lt hlhoa8_4_0 hfhb8_8 (by omega)), (apart_lt hlhob8_4_0 hfhb8_8 (by omega)), cJ2⟩
       ·simp -implicitDefEqProofs (disch := first | decide | assumption | omega) only [go_sem, wrap_id]
        refine op_alloc (cs := #[.int .i64 0, .slice none 0 0, .slice none 0 0, .slice none 0 0]) (by kernel_rfl) ?_
        intro h8_8 e8_8 hb8_8 z8_8
        replace hod8_1 := OS.ext hod8_1 e8_8
        replace hom8_1 := OS.ext hom8_1 e8_8
        replace hod8_3 := OS.ext hod8_3 e8_8
        replace hom8_3 := OS.ext hom8_3 e8_8
        replace hod8_4_0 := OS.ext hod8_4_0 e8_8
        replace hoa8_4_0 := OS.ext hoa8_4_0 e8_8
        replace hob8_4_0 := OS.ext hob8_4_0 e8_8
        replace hb0_0 := BoxAt.ext hb0_0 e8_8
        replace hb0_1 := BoxAt.ext hb0_1 e8_8
        have := Ext.size e8_8
        replace eB := Ext.trans eB e8_8
        replace cJ2 := Ext.trans cJ2 e8_8
        have hfhb8_8 : Fresh h8_4.size [h8_4.size] := Fresh.one _
        have hlhb8_8 := one_lt (show h8_4.size < h8_8.size by omega)
        try simp (disch := decide) only [outv_some, outv_none, put_puts]
        refine plK_pres (Ext.pres e8_8) ?_
        try simp -implicitDefEqProofs (disch := first | decide | assumption | omega) only [go_sem, wrap_id]
        refine And.intro ?_ ?_
        ·simp -implicitDefEqProofs (disch := first | decide | assumption | omega) only [go_sem, wrap_id]
         refine op_storeB (cs' := #[.int .i64 ((((pdP X Y).1).p)), vd8_4_0, va8_4_0, vb8_4_0]) st30 hb8_8 rfl rfl rfl (by simp) (allOne_mem (l := [.int .i64 ((((pdP X Y).1).p)), vd8_4_0, va8_4_0, vb8_4_0]) ⟨rfl, (OS.one hod8_4_0).1, (OS.one hoa8_4_0).1, (OS.one hob8_4_0).1, trivial⟩) rfl ?_
         intro h8_9 hb8_8 c8_9
         replace hod8_1 := OS.chg hod8_1 c8_9 (apart_lt hlhod8_1 hfhb8_8 (by omega))
         replace hom8_1 := OS.chg hom8_1 c8_9 (apart_lt hlhom8_1 hfhb8_8 (by omega))
         replace hod8_3 := OS.chg hod8_3 c8_9 (apart_lt hlhod8_3 hfhb8_8 (by omega))
         replace hom8_3 := OS.chg hom8_3 c8_9 (apart_lt hlhom8_3 hfhb8_8 (by omega))
         replace hod8_4_0 := OS.chg hod8_4_0 c8_9 (apart_lt hlhod8_4_0 hfhb8_8 (by omega))
         replace hoa8_4_0 := OS.chg hoa8_4_0 c8_9 (apart_lt hlhoa8_4_0 hfhb8_8 (by omega))
         replace hob8_4_0 := OS.chg hob8_4_0 c8_9 (apart_lt hlhob8_4_0 hfhb8_8 (by omega))
         replace hb0_0 := BoxAt.chgA hb0_0 c8_9 (apart_lt hlhb0_0 hfhb8_8 (by omega))
         replace hb0_1 := BoxAt.chgA hb0_1 c8_9 (apart_lt hlhb0_1 hfhb8_8 (by omega))
         have := c8_9.size
         replace eB := Ext.then eB c8_9 (ge_of hfhb8_8 (by omega))
         replace cJ2 := Ext.then cJ2 c8_9 (ge_of hfhb8_8 (by omega))
         try simp (disch := decide) only [outv_some, outv_none, put_puts]
         refine plK_last (by decide) ?_
         try simp -implicitDefEqProofs (disch := first | decide | assumption | omega) only [go_sem, wrap_id]
         exact hK (vd8_4_0, fd8_4_0, va8_4_0, fa8_4_0, vb8_4_0, fb8_4_0, h8_4.size) _ _ (by simp [HasL, puts_at]) ⟨hod8_4_0, (hfd8_4_0.mono (by omega)), hoa8_4_0, (hfa8_4_0.mono (by omega)), hob8_4_0, (hfb8_4_0.mono (by omega)), hb8_8, (hfhb8_8.mono (by omega)), ap5, ap6, (apart_lt hlhod8_4_0 hfhb8_8 (by omega)), ap7, (apart_lt hlhoa8_4_0 hfhb8_8 (by omega)), (apart_lt hlhob8_4_0 hfhb8_8 (by omega)), cJ2⟩
        ·simp -implicitDefEqProofs (disch := first | decide | assumption | omega) only [go_sem, wrap_id]
         refine op_storeB (cs' := #[.int .i64 ((((pdP X Y).1).p)), vd8_4_0, va8_4_0, vb8_4_0]) st30 hb8_8 rfl rfl rfl (by simp) (allOne_mem (l := [.int .i64 ((((pdP X Y).1).p)), vd8_4_0, va8_4_0, vb8_4_0]) ⟨rfl, (OS.one hod8_4_0).1, (OS.one hoa8_4_0).1, (OS.one hob8_4_0).1, trivial⟩) rfl ?_
         intro h8_9 hb8_8 c8_9
         replace hod8_1 := OS.chg hod8_1 c8_9 (apart_lt hlhod8_1 hfhb8_8 (by omega))
         replace hom8_1 := OS.chg hom8_1 c8_9 (apart_lt hlhom8_1 hfhb8_8 (by omega))
         replace hod8_3 := OS.chg hod8_3 c8_9 (apart_lt hlhod8_3 hfhb8_8 (by omega))
         replace hom8_3 := OS.chg hom8_3 c8_9 (apart_lt hlhom8_3 hfhb8_8 (by omega))
         replace hod8_4_0 := OS.chg hod8_4_0 c8_9 (apart_lt hlhod8_4_0 hfhb8_8 (by omega))
         replace hoa8_4_0 := OS.chg hoa8_4_0 c8_9 (apart_lt hlhoa8_4_0 hfhb8_8 (by omega))
         replace hob8_4_0 := OS.chg hob8_4_0 c8_9 (apart_lt hlhob8_4_0 hfhb8_8 (by omega))
         replace hb0_0 := BoxAt.chgA hb0_0 c8_9 (apart_lt hlhb0_0 hfhb8_8 (by omega))
         replace hb0_1 := BoxAt.chgA hb0_1 c8_9 (apart_lt hlhb0_1 hfhb8_8 (by omega))
         have := c8_9.size
         replace eB := Ext.then eB c8_9 (ge_of hfhb8_8 (by omega))
         replace cJ2 := Ext.then cJ2 c8_9 (ge_of hfhb8_8 (by omega))
         try simp (disch := decide) only [outv_some, outv_none, put_puts]
         refine plK_last (by decide) ?_
         try simp -implicitDefEqProofs (disch := first | decide | assumption | omega) only [go_sem, wrap_id]
         exact hK (vd8_4_0, fd8_4_0, va8_4_0, fa8_4_0, vb8_4_0, fb8_4_0, h8_4.size) _ _ (by simp [HasL, puts_at]) ⟨hod8_4_0, (hfd8_4_0.mono (by omega)), hoa8_4_0, (hfa8_4_0.mono (by omega)), hob8_4_0, (hfb8_4_0.mono (by omega)), hb8_8, (hfhb8_8.mono (by omega)), ap5, ap6, (apart_lt hlhod8_4_0 hfhb8_8 (by omega)), ap7, (apart_lt hlhoa8_4_0 hfhb8_8 (by omega)), (apart_lt hlhob8_4_0 hfhb8_8 (by omega)), cJ2⟩
      ·simp -implicitDefEqProofs (disch := first | decide | assumption | omega) only [go_sem, wrap_id]
       refine op_alloc (cs := #[.int .i64 0, .slice none 0 0, .slice none 0 0, .slice none 0 0]) (by kernel_rfl) ?_
       intro h8_8 e8_8 hb8_8 z8_8
       replace hod8_1 := OS.ext hod8_1 e8_8
       replace hom8_1 := OS.ext hom8_1 e8_8
       replace hod8_3 := OS.ext hod8_3 e8_8
       replace hom8_3 := OS.ext hom8_3 e8_8
       replace hb0_0 := BoxAt.ext hb0_0 e8_8
       replace hb0_1 := BoxAt.ext hb0_1 e8_8
       have := Ext.size e8_8
       replace eB := Ext.trans eB e8_8
       replace cJ2 := Ext.trans cJ2 e8_8
       have hfhb8_8 : Fresh h8_3.size [h8_3.size] := Fresh.one _
       have hlhb8_8 := one_lt (show h8_3.size < h8_8.size by omega)
       try simp (disch := decide) only [outv_some, outv_none, put_puts]
       refine plK_pres (Ext.pres e8_8) ?_
       try simp -implicitDefEqProofs (disch := first | decide | assumption | omega) only [go_sem, wrap_id]
       try simp -implicitDefEqProofs (disch := first | decide | assumption | omega) only [go_sem, wrap_id]
       refine CallA.mono (sPD_ok _ _ X Y _ ⟨_, _, rfl, (OS.rd hod8_1), (OS.rd hom8_1)⟩ ⟨_, _, rfl, (OS.rd hod8_3), (OS.rd hom8_3)⟩ ) ?_
       intro v_ h8_4
       rintro ⟨vd8_4_0, va8_4_0, vb8_4_0, fd8_4_0, fa8_4_0, fb8_4_0, rfl, hod8_4_0, hoa8_4_0, hob8_4_0, hf8_4_0, e8_4⟩
       replace hod8_1 := OS.ext hod8_1 e8_4
       replace hom8_1 := OS.ext hom8_1 e8_4
       replace hod8_3 := OS.ext hod8_3 e8_4
       replace hom8_3 := OS.ext hom8_3 e8_4
       replace hb0_0 := BoxAt.ext hb0_0 e8_4
       replace hb0_1 := BoxAt.ext hb0_1 e8_4
       replace hb8_8 := BoxAt.ext hb8_8 e8_4
       have := Ext.size e8_4
       replace eB := Ext.trans eB e8_4
       replace cJ2 := Ext.trans cJ2 e8_4
       have hfd8_4_0 := hf8_4_0.left
       have hf8_4_0r0 := hf8_4_0.right
       have hfa8_4_0 := hf8_4_0r0.left
       have hfb8_4_0 := hf8_4_0r0.right
       have hlhod8_4_0 := OS.lt hod8_4_0
       have hlhoa8_4_0 := OS.lt hoa8_4_0
       have hlhob8_4_0 := OS.lt hob8_4_0
       have ap8 : Apart fd8_4_0 fa8_4_0 := Apart.lft (apart_nodup hf8_4_0)
       have ap9 : Apart fd8_4_0 fb8_4_0 := Apart.rgt (apart_nodup hf8_4_0)
       have ap10 : Apart fa8_4_0 fb8_4_0 := apart_nodup hf8_4_0r0
       try simp (disch := decide) only [outv_some, outv_none, put_puts]
       refine plK_pres (Ext.pres e8_4) ?_
       try simp -implicitDefEqProofs (disch := first | decide | assumption | omega) only [go_sem, wrap_id]
       refine And.intro ?_ ?_
       ·simp -implicitDefEqProofs (disch := first | decide | assumption | omega) only [go_sem, wrap_id]
        refine op_storeB (cs' := #[.int .i64 ((((pdP X Y).1).p)), vd8_4_0, va8_4_0, vb8_4_0]) st30 hb8_8 rfl rfl rfl (by simp) (allOne_mem (l := [.int .i64 ((((pdP X Y).1).p)), vd8_4_0, va8_4_0, vb8_4_0]) ⟨rfl, (OS.one hod8_4_0).1, (OS.one hoa8_4_0).1, (OS.one hob8_4_0).1, trivial⟩) rfl ?_
        intro h8_9 hb8_8 c8_9
        replace hod8_1 := OS.chg hod8_1 c8_9 (apart_lt hlhod8_1 hfhb8_8 (by omega))
        replace hom8_1 := OS.chg hom8_1 c8_9 (apart_lt hlhom8_1 hfhb8_8 (by omega))
        replace hod8_3 := OS.chg hod8_3 c8_9 (apart_lt hlhod8_3 hfhb8_8 (by omega))
        replace hom8_3 := OS.chg hom8_3 c8_9 (apart_lt hlhom8_3 hfhb8_8 (by omega))
        replace hod8_4_0 := OS.chg hod8_4_0 c8_9 (apart_gt hfd8_4_0 hlhb8_8 (by omega))
        replace hoa8_4_0 := OS.chg hoa8_4_0 c8_9 (apart_gt hfa8_4_0 hlhb8_8 (by omega))
        replace hob8_4_0 := OS.chg hob8_4_0 c8_9 (apart_gt hfb8_4_0 hlhb8_8 (by omega))
        replace hb0_0 := BoxAt.chgA hb0_0 c8_9 (apart_lt hlhb0_0 hfhb8_8 (by omega))
        replace hb0_1 := BoxAt.chgA hb0_1 c8_9 (apart_lt hlhb0_1 hfhb8_8 (by omega))
        have := c8_9.size
        replace eB := Ext.then eB c8_9 (ge_of hfhb8_8 (by omega))
        replace cJ2 := Ext.then cJ2 c8_9 (ge_of hfhb8_8 (by omega))
        try simp (disch := decide) only [outv_some, outv_none, put_puts]
        refine plK_last (by decide) ?_
        try simp -implicitDefEqProofs (disch := first | decide | assumption | omega) only [go_sem, wrap_id]
        exact hK (vd8_4_0, fd8_4_0, va8_4_0, fa8_4_0, vb8_4_0, fb8_4_0, h8_3.size) _ _ (by simp [HasL, puts_at]) ⟨hod8_4_0, (hfd8_4_0.mono (by omega)), hoa8_4_0, (hfa8_4_0.mono (by omega)), hob8_4_0, (hfb8_4_0.mono (by omega)), hb8_8, (hfhb8_8.mono (by omega)), ap8, ap9, (apart_gt hfd8_4_0 hlhb8_8 (by omega)), ap10, (apart_gt hfa8_4_0 hlhb8_8 (by omega)), (apart_gt hfb8_4_0 hlhb8_8 (by omega)), cJ2⟩
       ·simp -implicitDefEqProofs (disch := first | decide | assumption | omega) only [go_sem, wrap_id]
        refine op_storeB (cs' := #[.int .i64 ((((pdP X Y).1).p)), vd8_4_0, va8_4_0, vb8_4_0]) st30 hb8_8 rfl rfl rfl (by simp) (allOne_mem (l := [.int .i64 ((((pdP X Y).1).p)), vd8_4_0, va8_4_0, vb8_4_0]) ⟨rfl, (OS.one hod8_4_0).1, (OS.one hoa8_4_0).1, (OS.one hob8_4_0).1, trivial⟩) rfl ?_
        intro h8_9 hb8_8 c8_9
        replace hod8_1 := OS.chg hod8_1 c8_9 (apart_lt hlhod8_1 hfhb8_8 (by omega))
        replace hom8_1 := OS.chg hom8_1 c8_9 (apart_lt hlhom8_1 hfhb8_8 (by omega))
        replace hod8_3 := OS.chg hod8_3 c8_9 (apart_lt hlhod8_3 hfhb8_8 (by omega))
        replace hom8_3 := OS.chg hom8_3 c8_9 (apart_lt hlhom8_3 hfhb8_8 (by omega))
        replace hod8_4_0 := OS.chg hod8_4_0 c8_9 (apart_gt hfd8_4_0 hlhb8_8 (by omega))
        replace hoa8_4_0 := OS.chg hoa8_4_0 c8_9 (apart_gt hfa8_4_0 hlhb8_8 (by omega))
        replace hob8_4_0 := OS.chg hob8_4_0 c8_9 (apart_gt hfb8_4_0 hlhb8_8 (by omega))
        replace hb0_0 := BoxAt.chgA hb0_0 c8_9 (apart_lt hlhb0_0 hfhb8_8 (by omega))
        replace hb0_1 := BoxAt.chgA hb0_1 c8_9 (apart_lt hlhb0_1 hfhb8_8 (by omega))
        have := c8_9.size
        replace eB := Ext.then eB c8_9 (ge_of hfhb8_8 (by omega))
        replace cJ2 := Ext.then cJ2 c8_9 (ge_of hfhb8_8 (by omega))
        try simp (disch := decide) only [outv_some, outv_none, put_puts]
        refine plK_last (by decide) ?_
        try simp -implicitDefEqProofs (disch := first | decide | assumption | omega) only [go_sem, wrap_id]
        exact hK (vd8_4_0, fd8_4_0, va8_4_0, fa8_4_0, vb8_4_0, fb8_4_0, h8_3.size) _ _ (by simp [HasL, puts_at]) ⟨hod8_4_0, (hfd8_4_0.mono (by omega)), hoa8_4_0, (hfa8_4_0.mono (by omega)), hob8_4_0, (hfb8_4_0.mono (by omega)), hb8_8, (hfhb8_8.mono (by omega)), ap8, ap9, (apart_gt hfd8_4_0 hlhb8_8 (by omega)), ap10, (apart_gt hfa8_4_0 hlhb8_8 (by omega)), (apart_gt hfb8_4_0 hlhb8_8 (by omega)), cJ2⟩
     ·simp -implicitDefEqProofs (disch := first | decide | assumption | omega) only [go_sem, wrap_id]
      refine op_alloc (cs := #[.int .i64 0, .slice none 0 0, .slice none 0 0, .slice none 0 0]) (by kernel_rfl) ?_
      intro h8_8 e8_8 hb8_8 z8_8
      replace hod8_1 := OS.ext hod8_1 e8_8
      replace hom8_1 := OS.ext hom8_1 e8_8
      replace hb0_0 := BoxAt.ext hb0_0 e8_8
      replace hb0_1 := BoxAt.ext hb0_1 e8_8
      have := Ext.size e8_8
      replace eB := Ext.trans eB e8_8
      replace cJ2 := Ext.trans cJ2 e8_8
      have hfhb8_8 : Fresh h8_1.size [h8_1.size] := Fresh.one _
      have hlhb8_8 := one_lt (show h8_1.size < h8_8.size by omega)
      try simp (disch := decide) only [outv_some, outv_none, put_puts]
      refine plK_pres (Ext.pres e8_8) ?_
      try simp -implicitDefEqProofs (disch := first | decide | assumption | omega) only [go_sem, wrap_id]
      try simp -implicitDefEqProofs (disch := first | decide | assumption | omega) only [go_sem, wrap_id]
      refine CallA.mono (toC_ok _ Y _ ⟨_, _, rfl, (RdS.pres hdY (Ext.pres eB)), (RdS.pres hmY (Ext.pres eB))⟩ hMY) ?_
      intro v_ h8_3
      rintro ⟨vd8_3, vm8_3, fd8_3, fm8_3, rfl, hod8_3, hom8_3, hf8_3, e8_3⟩
      replace hod8_1 := OS.ext hod8_1 e8_3
      replace hom8_1 := OS.ext hom8_1 e8_3
      replace hb0_0 := BoxAt.ext hb0_0 e8_3
      replace hb0_1 := BoxAt.ext hb0_1 e8_3
      replace hb8_8 := BoxAt.ext hb8_8 e8_3
      have := Ext.size e8_3
      replace eB := Ext.trans eB e8_3
      replace cJ2 := Ext.trans cJ2 e8_3
      have hfd8_3 := hf8_3.left
      have hfm8_3 := hf8_3.right
      have hlhod8_3 := OS.lt hod8_3
      have hlhom8_3 := OS.lt hom8_3
      have ap11 : Apart fd8_3 fm8_3 := apart_nodup hf8_3
      try simp (disch := decide) only [outv_some, outv_none, put_puts]
      refine plK_pres (Ext.pres e8_3) ?_
      try simp -implicitDefEqProofs (disch := first | decide | assumption | omega) only [go_sem, wrap_id]
      try simp -implicitDefEqProofs (disch := first | decide | assumption | omega) only [go_sem, wrap_id]
      refine CallA.mono (sPD_ok _ _ X Y _ ⟨_, _, rfl, (OS.rd hod8_1), (OS.rd hom8_1)⟩ ⟨_, _, rfl, (OS.rd hod8_3), (OS.rd hom8_3)⟩ ) ?_
      intro v_ h8_4
      rintro ⟨vd8_4_0, va8_4_0, vb8_4_0, fd8_4_0, fa8_4_0, fb8_4_0, rfl, hod8_4_0, hoa8_4_0, hob8_4_0, hf8_4_0, e8_4⟩
      replace hod8_1 := OS.ext hod8_1 e8_4
      replace hom8_1 := OS.ext hom8_1 e8_4
      replace hod8_3 := OS.ext hod8_3 e8_4
      replace hom8_3 := OS.ext hom8_3 e8_4
      replace hb0_0 := BoxAt.ext hb0_0 e8_4
      replace hb0_1 := BoxAt.ext hb0_1 e8_4
      replace hb8_8 := BoxAt.ext hb8_8 e8_4
      have := Ext.size e8_4
      replace eB := Ext.trans eB e8_4
      replace cJ2 := Ext.trans cJ2 e8_4
      have hfd8_4_0 := hf8_4_0.left
      have hf8_4_0r0 := hf8_4_0.right
      have hfa8_4_0 := hf8_4_0r0.left
      have hfb8_4_0 := hf8_4_0r0.right
      have hlhod8_4_0 := OS.lt hod8_4_0
      have hlhoa8_4_0 := OS.lt hoa8_4_0
      have hlhob8_4_0 := OS.lt hob8_4_0
      have ap12 : Apart fd8_4_0 fa8_4_0 := Apart.lft (apart_nodup hf8_4_0)
      have ap13 : Apart fd8_4_0 fb8_4_0 := Apart.rgt (apart_nodup hf8_4_0)
      have ap14 : Apart fa8_4_0 fb8_4_0 := apart_nodup hf8_4_0r0
      try simp (disch := decide) only [outv_some, outv_none, put_puts]
      refine plK_pres (Ext.pres e8_4) ?_
      try simp -implicitDefEqProofs (disch := first | decide | assumption | omega) only [go_sem, wrap_id]
      refine And.intro ?_ ?_
      ·simp -implicitDefEqProofs (disch := first | decide | assumption | omega) only [go_sem, wrap_id]
       refine op_storeB (cs' := #[.int .i64 ((((pdP X Y).1).p)), vd8_4_0, va8_4_0, vb8_4_0]) st30 hb8_8 rfl rfl rfl (by simp) (allOne_mem (l := [.int .i64 ((((pdP X Y).1).p)), vd8_4_0, va8_4_0, vb8_4_0]) ⟨rfl, (OS.one hod8_4_0).1, (OS.one hoa8_4_0).1, (OS.one hob8_4_0).1, trivial⟩) rfl ?_
       intro h8_9 hb8_8 c8_9
       replace hod8_1 := OS.chg hod8_1 c8_9 (apart_lt hlhod8_1 hfhb8_8 (by omega))
       replace hom8_1 := OS.chg hom8_1 c8_9 (apart_lt hlhom8_1 hfhb8_8 (by omega))
       replace hod8_3 := OS.chg hod8_3 c8_9 (apart_gt hfd8_3 hlhb8_8 (by omega))
       replace hom8_3 := OS.chg hom8_3 c8_9 (apart_gt hfm8_3 hlhb8_8 (by omega))
       replace hod8_4_0 := OS.chg hod8_4_0 c8_9 (apart_gt hfd8_4_0 hlhb8_8 (by omega))
       replace hoa8_4_0 := OS.chg hoa8_4_0 c8_9 (apart_gt hfa8_4_0 hlhb8_8 (by omega))
       replace hob8_4_0 := OS.chg hob8_4_0 c8_9 (apart_gt hfb8_4_0 hlhb8_8 (by omega))
       replace hb0_0 := BoxAt.chgA hb0_0 c8_9 (apart_lt hlhb0_0 hfhb8_8 (by omega))
       replace hb0_1 := BoxAt.chgA hb0_1 c8_9 (apart_lt hlhb0_1 hfhb8_8 (by omega))
       have := c8_9.size
       replace eB := Ext.then eB c8_9 (ge_of hfhb8_8 (by omega))
       replace cJ2 := Ext.then cJ2 c8_9 (ge_of hfhb8_8 (by omega))
       try simp (disch := decide) only [outv_some, outv_none, put_puts]
       refine plK_last (by decide) ?_
       try simp -implicitDefEqProofs (disch := first | decide | assumption | omega) only [go_sem, wrap_id]
       exact hK (vd8_4_0, fd8_4_0, va8_4_0, fa8_4_0, vb8_4_0, fb8_4_0, h8_1.size) _ _ (by simp [HasL, puts_at]) ⟨hod8_4_0, (hfd8_4_0.mono (by omega)), hoa8_4_0, (hfa8_4_0.mono (by omega)), hob8_4_0, (hfb8_4_0.mono (by omega)), hb8_8, (hfhb8_8.mono (by omega)), ap12, ap13, (apart_gt hfd8_4_0 hlhb8_8 (by omega)), ap14, (apart_gt hfa8_4_0 hlhb8_8 (by omega)), (apart_gt hfb8_4_0 hlhb8_8 (by omega)), cJ2⟩
      ·simp -implicitDefEqProofs (disch := first | decide | assumption | omega) only [go_sem, wrap_id]
       refine op_storeB (cs' := #[.int .i64 ((((pdP X Y).1).p)), vd8_4_0, va8_4_0, vb8_4_0]) st30 hb8_8 rfl rfl rfl (by simp) (allOne_mem (l := [.int .i64 ((((pdP X Y).1).p)), vd8_4_0, va8_4_0, vb8_4_0]) ⟨rfl, (OS.one hod8_4_0).1, (OS.one hoa8_4_0).1, (OS.one hob8_4_0).1, trivial⟩) rfl ?_
       intro h8_9 hb8_8 c8_9
       replace hod8_1 := OS.chg hod8_1 c8_9 (apart_lt hlhod8_1 hfhb8_8 (by omega))
       replace hom8_1 := OS.chg hom8_1 c8_9 (apart_lt hlhom8_1 hfhb8_8 (by omega))
       replace hod8_3 := OS.chg hod8_3 c8_9 (apart_gt hfd8_3 hlhb8_8 (by omega))
       replace hom8_3 := OS.chg hom8_3 c8_9 (apart_gt hfm8_3 hlhb8_8 (by omega))
       replace hod8_4_0 := OS.chg hod8_4_0 c8_9 (apart_gt hfd8_4_0 hlhb8_8 (by omega))
       replace hoa8_4_0 := OS.chg hoa8_4_0 c8_9 (apart_gt hfa8_4_0 hlhb8_8 (by omega))
       replace hob8_4_0 := OS.chg hob8_4_0 c8_9 (apart_gt hfb8_4_0 hlhb8_8 (by omega))
       replace hb0_0 := BoxAt.chgA hb0_0 c8_9 (apart_lt hlhb0_0 hfhb8_8 (by omega))
       replace hb0_1 := BoxAt.chgA hb0_1 c8_9 (apart_lt hlhb0_1 hfhb8_8 (by omega))
       have := c8_9.size
       replace eB := Ext.then eB c8_9 (ge_of hfhb8_8 (by omega))
       replace cJ2 := Ext.then cJ2 c8_9 (ge_of hfhb8_8 (by omega))
       try simp (disch := decide) only [outv_some, outv_none, put_puts]
       refine plK_last (by decide) ?_
       try simp -implicitDefEqProofs (disch := first | decide | assumption | omega) only [go_sem, wrap_id]
       exact hK (vd8_4_0, fd8_4_0, va8_4_0, fa8_4_0, vb8_4_0, fb8_4_0, h8_1.size) _ _ (by simp [HasL, puts_at]) ⟨hod8_4_0, (hfd8_4_0.mono (by omega)), hoa8_4_0, (hfa8_4_0.mono (by omega)), hob8_4_0, (hfb8_4_0.mono (by omega)), hb8_8, (hfhb8_8.mono (by omega)), ap12, ap13, (apart_gt hfd8_4_0 hlhb8_8 (by omega)), ap14, (apart_gt hfa8_4_0 hlhb8_8 (by omega)), (apart_gt hfb8_4_0 hlhb8_8 (by omega)), cJ2⟩
    ·simp -implicitDefEqProofs (disch := first | decide | assumption | omega) only [go_sem, wrap_id]
     refine op_alloc (cs := #[.int .i64 0, .slice none 0 0, .slice none 0 0, .slice none 0 0]) (by kernel_rfl) ?_
     intro h8_8 e8_8 hb8_8 z8_8
     replace hb0_0 := BoxAt.ext hb0_0 e8_8
     replace hb0_1 := BoxAt.ext hb0_1 e8_8
     have := Ext.size e8_8
     replace eB := Ext.trans eB e8_8
     replace cJ2 := Ext.trans cJ2 e8_8
     have hfhb8_8 : Fresh h5_2.size [h5_2.size] := Fresh.one _
     have hlhb8_8 := one_lt (show h5_2.size < h8_8.size by omega)
     try simp (disch := decide) only [outv_some, outv_none, put_puts]
     refine plK_pres (Ext.pres e8_8) ?_
     try simp -implicitDefEqProofs (disch := first | decide | assumption | omega) only [go_sem, wrap_id]
     try simp -implicitDefEqProofs (disch := first | decide | assumption | omega) only [go_sem, wrap_id]
     refine CallA.mono (toC_ok _ X _ ⟨_, _, rfl, (RdS.pres hdX (Ext.pres eB)), (RdS.pres hmX (Ext.pres eB))⟩ hMX) ?_
     intro v_ h8_1
     rintro ⟨vd8_1, vm8_1, fd8_1, fm8_1, rfl, hod8_1, hom8_1, hf8_1, e8_1⟩
     replace hb0_0 := BoxAt.ext hb0_0 e8_1
     replace hb0_1 := BoxAt.ext hb0_1 e8_1
     replace hb8_8 := BoxAt.ext hb8_8 e8_1
     have := Ext.size e8_1
     replace eB := Ext.trans eB e8_1
     replace cJ2 := Ext.trans cJ2 e8_1
     have hfd8_1 := hf8_1.left
     have hfm8_1 := hf8_1.right
     have hlhod8_1 := OS.lt hod8_1
     have hlhom8_1 := OS.lt hom8_1
     have ap15 : Apart fd8_1 fm8_1 := apart_nodup hf8_1
     try simp (disch := decide) only [outv_some, outv_none, put_puts]
     refine plK_pres (Ext.pres e8_1) ?_
     try simp -implicitDefEqProofs (disch := first | decide | assumption | omega) only [go_sem, wrap_id]
     try simp -implicitDefEqProofs (disch := first | decide | assumption | omega) only [go_sem, wrap_id]
     refine CallA.mono (toC_ok _ Y _ ⟨_, _, rfl, (RdS.pres hdY (Ext.pres eB)), (RdS.pres hmY (Ext.pres eB))⟩ hMY) ?_
     intro v_ h8_3
     rintro ⟨vd8_3, vm8_3, fd8_3, fm8_3, rfl, hod8_3, hom8_3, hf8_3, e8_3⟩
     replace hod8_1 := OS.ext hod8_1 e8_3
     replace hom8_1 := OS.ext hom8_1 e8_3
     replace hb0_0 := BoxAt.ext hb0_0 e8_3
     replace hb0_1 := BoxAt.ext hb0_1 e8_3
     replace hb8_8 := BoxAt.ext hb8_8 e8_3
     have := Ext.size e8_3
     replace eB := Ext.trans eB e8_3
     replace cJ2 := Ext.trans cJ2 e8_3
     have hfd8_3 := hf8_3.left
     have hfm8_3 := hf8_3.right
     have hlhod8_3 := OS.lt hod8_3
     have hlhom8_3 := OS.lt hom8_3
     have ap16 : Apart fd8_3 fm8_3 := apart_nodup hf8_3
     try simp (disch := decide) only [outv_some, outv_none, put_puts]
     refine plK_pres (Ext.pres e8_3) ?_
     try simp -implicitDefEqProofs (disch := first | decide | assumption | omega) only [go_sem, wrap_id]
     try simp -implicitDefEqProofs (disch := first | decide | assumption | omega) only [go_sem, wrap_id]
     refine CallA.mono (sPD_ok _ _ X Y _ ⟨_, _, rfl, (OS.rd hod8_1), (OS.rd hom8_1)⟩ ⟨_, _, rfl, (OS.rd hod8_3), (OS.rd hom8_3)⟩ ) ?_
     intro v_ h8_4
     rintro ⟨vd8_4_0, va8_4_0, vb8_4_0, fd8_4_0, fa8_4_0, fb8_4_0, rfl, hod8_4_0, hoa8_4_0, hob8_4_0, hf8_4_0, e8_4⟩
     replace hod8_1 := OS.ext hod8_1 e8_4
     replace hom8_1 := OS.ext hom8_1 e8_4
     replace hod8_3 := OS.ext hod8_3 e8_4
     replace hom8_3 := OS.ext hom8_3 e8_4
     replace hb0_0 := BoxAt.ext hb0_0 e8_4
     replace hb0_1 := BoxAt.ext hb0_1 e8_4
     replace hb8_8 := BoxAt.ext hb8_8 e8_4
     have := Ext.size e8_4
     replace eB := Ext.trans eB e8_4
     replace cJ2 := Ext.trans cJ2 e8_4
     have hfd8_4_0 := hf8_4_0.left
     have hf8_4_0r0 := hf8_4_0.right
     have hfa8_4_0 := hf8_4_0r0.left
     have hfb8_4_0 := hf8_4_0r0.right
     have hlhod8_4_0 := OS.lt hod8_4_0
     have hlhoa8_4_0 := OS.lt hoa8_4_0
     have hlhob8_4_0 := OS.lt hob8_4_0
     have ap17 : Apart fd8_4_0 fa8_4_0 := Apart.lft (apart_nodup hf8_4_0)
     have ap18 : Apart fd8_4_0 fb8_4_0 := Apart.rgt (apart_nodup hf8_4_0)
     have ap19 : Apart fa8_4_0 fb8_4_0 := apart_nodup hf8_4_0r0
     try simp (disch := decide) only [outv_some, outv_none, put_puts]
     refine plK_pres (Ext.pres e8_4) ?_
     try simp -implicitDefEqProofs (disch := first | decide | assumption | omega) only [go_sem, wrap_id]
     refine And.intro ?_ ?_
     ·simp -implicitDefEqProofs (disch := first | decide | assumption | omega) only [go_sem, wrap_id]
      refine op_storeB (cs' := #[.int .i64 ((((pdP X Y).1).p)), vd8_4_0, va8_4_0, vb8_4_0]) st30 hb8_8 rfl rfl rfl (by simp) (allOne_mem (l := [.int .i64 ((((pdP X Y).1).p)), vd8_4_0, va8_4_0, vb8_4_0]) ⟨rfl, (OS.one hod8_4_0).1, (OS.one hoa8_4_0).1, (OS.one hob8_4_0).1, trivial⟩) rfl ?_
      intro h8_9 hb8_8 c8_9
      replace hod8_1 := OS.chg hod8_1 c8_9 (apart_gt hfd8_1 hlhb8_8 (by omega))
      replace hom8_1 := OS.chg hom8_1 c8_9 (apart_gt hfm8_1 hlhb8_8 (by omega))
      replace hod8_3 := OS.chg hod8_3 c8_9 (apart_gt hfd8_3 hlhb8_8 (by omega))
      replace hom8_3 := OS.chg hom8_3 c8_9 (apart_gt hfm8_3 hlhb8_8 (by omega))
      replace hod8_4_0 := OS.chg hod8_4_0 c8_9 (apart_gt hfd8_4_0 hlhb8_8 (by omega))
      replace hoa8_4_0 := OS.chg hoa8_4_0 c8_9 (apart_gt hfa8_4_0 hlhb8_8 (by omega))
      replace hob8_4_0 := OS.chg hob8_4_0 c8_9 (apart_gt hfb8_4_0 hlhb8_8 (by omega))
      replace hb0_0 := BoxAt.chgA hb0_0 c8_9 (apart_lt hlhb0_0 hfhb8_8 (by omega))
      replace hb0_1 := BoxAt.chgA hb0_1 c8_9 (apart_lt hlhb0_1 hfhb8_8 (by omega))
      have := c8_9.size
      replace eB := Ext.then eB c8_9 (ge_of hfhb8_8 (by omega))
      replace cJ2 := Ext.then cJ2 c8_9 (ge_of hfhb8_8 (by omega))
      try simp (disch := decide) only [outv_some, outv_none, put_puts]
      refine plK_last (by decide) ?_
      try simp -implicitDefEqProofs (disch := first | decide | assumption | omega) only [go_sem, wrap_id]
      exact hK (vd8_4_0, fd8_4_0, va8_4_0, fa8_4_0, vb8_4_0, fb8_4_0, h5_2.size) _ _ (by simp [HasL, puts_at]) ⟨hod8_4_0, (hfd8_4_0.mono (by omega)), hoa8_4_0, (hfa8_4_0.mono (by omega)), hob8_4_0, (hfb8_4_0.mono (by omega)), hb8_8, (hfhb8_8.mono (by omega)), ap17, ap18, (apart_gt hfd8_4_0 hlhb8_8 (by omega)), ap19, (apart_gt hfa8_4_0 hlhb8_8 (by omega)), (apart_gt hfb8_4_0 hlhb8_8 (by omega)), cJ2⟩
     ·simp -implicitDefEqProofs (disch := first | decide | assumption | omega) only [go_sem, wrap_id]
      refine op_storeB (cs' := #[.int .i64 ((((pdP X Y).1).p)), vd8_4_0, va8_4_0, vb8_4_0]) st30 hb8_8 rfl rfl rfl (by simp) (allOne_mem (l := [.int .i64 ((((pdP X Y).1).p)), vd8_4_0, va8_4_0, vb8_4_0]) ⟨rfl, (OS.one hod8_4_0).1, (OS.one hoa8_4_0).1, (OS.one hob8_4_0).1, trivial⟩) rfl ?_
      intro h8_9 hb8_8 c8_9
      replace hod8_1 := OS.chg hod8_1 c8_9 (apart_gt hfd8_1 hlhb8_8 (by omega))
      replace hom8_1 := OS.chg hom8_1 c8_9 (apart_gt hfm8_1 hlhb8_8 (by omega))
      replace hod8_3 := OS.chg hod8_3 c8_9 (apart_gt hfd8_3 hlhb8_8 (by omega))
      replace hom8_3 := OS.chg hom8_3 c8_9 (apart_gt hfm8_3 hlhb8_8 (by omega))
      replace hod8_4_0 := OS.chg hod8_4_0 c8_9 (apart_gt hfd8_4_0 hlhb8_8 (by omega))
      replace hoa8_4_0 := OS.chg hoa8_4_0 c8_9 (apart_gt hfa8_4_0 hlhb8_8 (by omega))
      replace hob8_4_0 := OS.chg hob8_4_0 c8_9 (apart_gt hfb8_4_0 hlhb8_8 (by omega))
      replace hb0_0 := BoxAt.chgA hb0_0 c8_9 (apart_lt hlhb0_0 hfhb8_8 (by omega))
      replace hb0_1 := BoxAt.chgA hb0_1 c8_9 (apart_lt hlhb0_1 hfhb8_8 (by omega))
      have := c8_9.size
      replace eB := Ext.then eB c8_9 (ge_of hfhb8_8 (by omega))
      replace cJ2 := Ext.then cJ2 c8_9 (ge_of hfhb8_8 (by omega))
      try simp (disch := decide) only [outv_some, outv_none, put_puts]
      refine plK_last (by decide) ?_
      try simp -implicitDefEqProofs (disch := first | decide | assumption | omega) only [go_sem, wrap_id]
      exact hK (vd8_4_0, fd8_4_0, va8_4_0, fa8_4_0, vb8_4_0, fb8_4_0, h5_2.size) _ _ (by simp [HasL, puts_at]) ⟨hod8_4_0, (hfd8_4_0.mono (by omega)), hoa8_4_0, (hfa8_4_0.mono (by omega)), hob8_4_0, (hfb8_4_0.mono (by omega)), hb8_8, (hfhb8_8.mono (by omega)), ap17, ap18, (apart_gt hfd8_4_0 hlhb8_8 (by omega)), ap19, (apart_gt hfa8_4_0 hlhb8_8 (by omega)), (apart_gt hfb8_4_0 hlhb8_8 (by omega)), cJ2⟩
   ·rintro ⟨vd8_4_0, fpJhod8_4_0, va8_4_0, fpJhoa8_4_0, vb8_4_0, fpJhob8_4_0, bJhb8_8⟩ hj20 ee22 ⟨hod8_4_0, hfhod8_4_0, hoa8_4_0, hfhoa8_4_0, hob8_4_0, hfhob8_4_0, hb8_8, hfhb8_8, apJ_hod8_4_0_hoa8_4_0, apJ_hod8_4_0_hob8_4_0, apJ_hod8_4_0_hb8_8, apJ_hoa8_4_0_hob8_4_0, apJ_hoa8_4_0_hb8_8, apJ_hob8_4_0_hb8_8, eJ21⟩
    dsimp only at hod8_4_0 hfhod8_4_0 hoa8_4_0 hfhoa8_4_0 hob8_4_0 hfhob8_4_0 hb8_8 hfhb8_8 apJ_hod8_4_0_hoa8_4_0 apJ_hod8_4_0_hob8_4_0 apJ_hod8_4_0_hb8_8 apJ_hoa8_4_0_hob8_4_0 apJ_hoa8_4_0_hb8_8 apJ_hob8_4_0_hb8_8 eJ21
    replace hb0_0 := BoxAt.ext hb0_0 eJ21
    replace hb0_1 := BoxAt.ext hb0_1 eJ21
    have := Ext.size eJ21
    replace eB := Ext.trans eB eJ21
    have hlhod8_4_0 := OS.lt hod8_4_0
    have hlhoa8_4_0 := OS.lt hoa8_4_0
    have hlhob8_4_0 := OS.lt hob8_4_0
    have hlhb8_8 := one_lt hb8_8.lt
    simp only [List.cons_append, List.nil_append]
    refine den_seq ?_
    refine den_region TTok ?_
    intro K hK
    simp -implicitDefEqProofs (disch := first | decide | assumption | omega) only [go_sem, ld25, BoxAt.cell hb0_0, wrap_id]
    try simp -implicitDefEqProofs (disch := first | decide | assumption | omega) only [go_sem, wrap_id]
    refine CallA.mono (toC_ok _ X _ ⟨_, _, rfl, (RdS.pres hdX (Ext.pres eB)), (RdS.pres hmX (Ext.pres eB))⟩ hMX) ?_
    intro v_ h9_1
    rintro ⟨vd9_1, vm9_1, fd9_1, fm9_1, rfl, hod9_1, hom9_1, hf9_1, e9_1⟩
    replace hod8_4_0 := OS.ext hod8_4_0 e9_1
    replace hoa8_4_0 := OS.ext hoa8_4_0 e9_1
    replace hob8_4_0 := OS.ext hob8_4_0 e9_1
    replace hb0_0 := BoxAt.ext hb0_0 e9_1
    replace hb0_1 := BoxAt.ext hb0_1 e9_1
    replace hb8_8 := BoxAt.ext hb8_8 e9_1
    have := Ext.size e9_1
    replace eB := Ext.trans eB e9_1
    have hfd9_1 := hf9_1.left
    have hfm9_1 := hf9_1.right
    have hlhod9_1 := OS.lt hod9_1
    have hlhom9_1 := OS.lt hom9_1
    have ap23 : Apart fd9_1 fm9_1 := apart_nodup hf9_1
    try simp -implicitDefEqProofs (disch := first | decide | assumption | omega) only [go_sem, wrap_id]
    refine op_alloc (cs := #[.int .i64 0, .slice none 0 0, .slice none 0 0]) (by kernel_rfl) ?_
    intro h9_2 e9_2 hb9_2 z9_2
    replace hod8_4_0 := OS.ext hod8_4_0 e9_2
    replace hoa8_4_0 := OS.ext hoa8_4_0 e9_2
    replace hob8_4_0 := OS.ext hob8_4_0 e9_2
    replace hod9_1 := OS.ext hod9_1 e9_2
    replace hom9_1 := OS.ext hom9_1 e9_2
    replace hb0_0 := BoxAt.ext hb0_0 e9_2
    replace hb0_1 := BoxAt.ext hb0_1 e9_2
    replace hb8_8 := BoxAt.ext hb8_8 e9_2
    have := Ext.size e9_2
    replace eB := Ext.trans eB e9_2
    have hfhb9_2 : Fresh h9_1.size [h9_1.size] := Fresh.one _
    have hlhb9_2 := one_lt (show h9_1.size < h9_2.size by omega)
    try simp -implicitDefEqProofs (disch := first | decide | assumption | omega) only [go_sem, wrap_id]
    refine op_storeB (cs' := #[.int .i64 (X.p), vd9_1, vm9_1]) st33 hb9_2 rfl rfl rfl (by simp) (allOne_mem (l := [.int .i64 (X.p), vd9_1, vm9_1]) ⟨rfl, (OS.one hod9_1).1, (OS.one hom9_1).1, trivial⟩) rfl ?_
    intro h9_3 hb9_2 c9_3
    replace hod8_4_0 := OS.chg hod8_4_0 c9_3 (apart_lt hlhod8_4_0 hfhb9_2 (by omega))
    replace hoa8_4_0 := OS.chg hoa8_4_0 c9_3 (apart_lt hlhoa8_4_0 hfhb9_2 (by omega))
    replace hob8_4_0 := OS.chg hob8_4_0 c9_3 (apart_lt hlhob8_4_0 hfhb9_2 (by omega))
    replace hod9_1 := OS.chg hod9_1 c9_3 (apart_lt hlhod9_1 hfhb9_2 (by omega))
    replace hom9_1 := OS.chg hom9_1 c9_3 (apart_lt hlhom9_1 hfhb9_2 (by omega))
    replace hb0_0 := BoxAt.chgA hb0_0 c9_3 (apart_lt hlhb0_0 hfhb9_2 (by omega))
    replace hb0_1 := BoxAt.chgA hb0_1 c9_3 (apart_lt hlhb0_1 hfhb9_2 (by omega))
    replace hb8_8 := BoxAt.chgA hb8_8 c9_3 (apart_lt hlhb8_8 hfhb9_2 (by omega))
    have := c9_3.size
    replace eB := Ext.then eB c9_3 (ge_of hfhb9_2 (by omega))
    try simp -implicitDefEqProofs (disch := first | decide | assumption | omega) only [go_sem, wrap_id]
    refine hK _ _ ?_
    clear hK K
    refine den_seq ?_
    refine den_region TTok ?_
    intro K hK
    simp -implicitDefEqProofs (disch := first | decide | assumption | omega) only [go_sem, ld25, BoxAt.cell hb0_1, wrap_id]
    try simp -implicitDefEqProofs (disch := first | decide | assumption | omega) only [go_sem, wrap_id]
    refine CallA.mono (toC_ok _ Y _ ⟨_, _, rfl, (RdS.pres hdY (Ext.pres eB)), (RdS.pres hmY (Ext.pres eB))⟩ hMY) ?_
    intro v_ h10_1
    rintro ⟨vd10_1, vm10_1, fd10_1, fm10_1, rfl, hod10_1, hom10_1, hf10_1, e10_1⟩
    replace hod8_4_0 := OS.ext hod8_4_0 e10_1
    replace hoa8_4_0 := OS.ext hoa8_4_0 e10_1
    replace hob8_4_0 := OS.ext hob8_4_0 e10_1
    replace hod9_1 := OS.ext hod9_1 e10_1
    replace hom9_1 := OS.ext hom9_1 e10_1
    replace hb0_0 := BoxAt.ext hb0_0 e10_1
    replace hb0_1 := BoxAt.ext hb0_1 e10_1
    replace hb8_8 := BoxAt.ext hb8_8 e10_1
    replace hb9_2 := BoxAt.ext hb9_2 e10_1
    have := Ext.size e10_1
    replace eB := Ext.trans eB e10_1
    have hfd10_1 := hf10_1.left
    have hfm10_1 := hf10_1.right
    have hlhod10_1 := OS.lt hod10_1
    have hlhom10_1 := OS.lt hom10_1
    have ap24 : Apart fd10_1 fm10_1 := apart_nodup hf10_1
    try simp -implicitDefEqProofs (disch := first | decide | assumption | omega) only [go_sem, wrap_id]
    refine op_alloc (cs := #[.int .i64 0, .slice none 0 0, .slice none 0 0]) (by kernel_rfl) ?_
    intro h10_2 e10_2 hb10_2 z10_2
    replace hod8_4_0 := OS.ext hod8_4_0 e10_2
    replace hoa8_4_0 := OS.ext hoa8_4_0 e10_2
    replace hob8_4_0 := OS.ext hob8_4_0 e10_2
    replace hod9_1 := OS.ext hod9_1 e10_2
    replace hom9_1 := OS.ext hom9_1 e10_2
    replace hod10_1 := OS.ext hod10_1 e10_2
    replace hom10_1 := OS.ext hom10_1 e10_2
    replace hb0_0 := BoxAt.ext hb0_0 e10_2
    replace hb0_1 := BoxAt.ext hb0_1 e10_2
    replace hb8_8 := BoxAt.ext hb8_8 e10_2
    replace hb9_2 := BoxAt.ext hb9_2 e10_2
    have := Ext.size e10_2
    replace eB := Ext.trans eB e10_2
    have hfhb10_2 : Fresh h10_1.size [h10_1.size] := Fresh.one _
    have hlhb10_2 := one_lt (show h10_1.size < h10_2.size by omega)
    try simp -implicitDefEqProofs (disch := first | decide | assumption | omega) only [go_sem, wrap_id]
    refine op_storeB (cs' := #[.int .i64 (Y.p), vd10_1, vm10_1]) st33 hb10_2 rfl rfl rfl (by simp) (allOne_mem (l := [.int .i64 (Y.p), vd10_1, vm10_1]) ⟨rfl, (OS.one hod10_1).1, (OS.one hom10_1).1, trivial⟩) rfl ?_
    intro h10_3 hb10_2 c10_3
    replace hod8_4_0 := OS.chg hod8_4_0 c10_3 (apart_lt hlhod8_4_0 hfhb10_2 (by omega))
    replace hoa8_4_0 := OS.chg hoa8_4_0 c10_3 (apart_lt hlhoa8_4_0 hfhb10_2 (by omega))
    replace hob8_4_0 := OS.chg hob8_4_0 c10_3 (apart_lt hlhob8_4_0 hfhb10_2 (by omega))
    replace hod9_1 := OS.chg hod9_1 c10_3 (apart_lt hlhod9_1 hfhb10_2 (by omega))
    replace hom9_1 := OS.chg hom9_1 c10_3 (apart_lt hlhom9_1 hfhb10_2 (by omega))
    replace hod10_1 := OS.chg hod10_1 c10_3 (apart_lt hlhod10_1 hfhb10_2 (by omega))
    replace hom10_1 := OS.chg hom10_1 c10_3 (apart_lt hlhom10_1 hfhb10_2 (by omega))
    replace hb0_0 := BoxAt.chgA hb0_0 c10_3 (apart_lt hlhb0_0 hfhb10_2 (by omega))
    replace hb0_1 := BoxAt.chgA hb0_1 c10_3 (apart_lt hlhb0_1 hfhb10_2 (by omega))
    replace hb8_8 := BoxAt.chgA hb8_8 c10_3 (apart_lt hlhb8_8 hfhb10_2 (by omega))
    replace hb9_2 := BoxAt.chgA hb9_2 c10_3 (apart_lt hlhb9_2 hfhb10_2 (by omega))
    have := c10_3.size
    replace eB := Ext.then eB c10_3 (ge_of hfhb10_2 (by omega))
    try simp -implicitDefEqProofs (disch := first | decide | assumption | omega) only [go_sem, wrap_id]
    refine hK _ _ ?_
    clear hK K
    refine den_seq ?_
    refine den_region TTok ?_
    intro K hK
    simp -implicitDefEqProofs (disch := first | decide | assumption | omega) only [go_sem, ld33, BoxAt.cell hb9_2, BoxAt.cell hb10_2, wrap_id]
    try simp -implicitDefEqProofs (disch := first | decide | assumption | omega) only [go_sem, wrap_id]
    refine CallA.mono (iPD_ok _ _ X Y _ ⟨_, _, rfl, (OS.rd hod9_1), (OS.rd hom9_1)⟩ ⟨_, _, rfl, (OS.rd hod10_1), (OS.rd hom10_1)⟩ ) ?_
    intro v_ h11_2
    rintro ⟨vd11_2_0, va11_2_0, vb11_2_0, fd11_2_0, fa11_2_0, fb11_2_0, rfl, hod11_2_0, hoa11_2_0, hob11_2_0, hf11_2_0, e11_2⟩
    replace hod8_4_0 := OS.ext hod8_4_0 e11_2
    replace hoa8_4_0 := OS.ext hoa8_4_0 e11_2
    replace hob8_4_0 := OS.ext hob8_4_0 e11_2
    replace hod9_1 := OS.ext hod9_1 e11_2
    replace hom9_1 := OS.ext hom9_1 e11_2
    replace hod10_1 := OS.ext hod10_1 e11_2
    replace hom10_1 := OS.ext hom10_1 e11_2
    replace hb0_0 := BoxAt.ext hb0_0 e11_2
    replace hb0_1 := BoxAt.ext hb0_1 e11_2
    replace hb8_8 := BoxAt.ext hb8_8 e11_2
    replace hb9_2 := BoxAt.ext hb9_2 e11_2
    replace hb10_2 := BoxAt.ext hb10_2 e11_2
    have := Ext.size e11_2
    replace eB := Ext.trans eB e11_2
    have hfd11_2_0 := hf11_2_0.left
    have hf11_2_0r0 := hf11_2_0.right
    have hfa11_2_0 := hf11_2_0r0.left
    have hfb11_2_0 := hf11_2_0r0.right
    have hlhod11_2_0 := OS.lt hod11_2_0
    have hlhoa11_2_0 := OS.lt hoa11_2_0
    have hlhob11_2_0 := OS.lt hob11_2_0
    have ap25 : Apart fd11_2_0 fa11_2_0 := Apart.lft (apart_nodup hf11_2_0)
    have ap26 : Apart fd11_2_0 fb11_2_0 := Apart.rgt (apart_nodup hf11_2_0)
    have ap27 : Apart fa11_2_0 fb11_2_0 := apart_nodup hf11_2_0r0
    try simp -implicitDefEqProofs (disch := first | decide | assumption | omega) only [go_sem, wrap_id]
    refine op_alloc (cs := #[.int .i64 0, .slice none 0 0, .slice none 0 0, .slice none 0 0]) (by kernel_rfl) ?_
    intro h11_6 e11_6 hb11_6 z11_6
    replace hod8_4_0 := OS.ext hod8_4_0 e11_6
    replace hoa8_4_0 := OS.ext hoa8_4_0 e11_6
    replace hob8_4_0 := OS.ext hob8_4_0 e11_6
    replace hod9_1 := OS.ext hod9_1 e11_6
    replace hom9_1 := OS.ext hom9_1 e11_6
    replace hod10_1 := OS.ext hod10_1 e11_6
    replace hom10_1 := OS.ext hom10_1 e11_6
    replace hod11_2_0 := OS.ext hod11_2_0 e11_6
    replace hoa11_2_0 := OS.ext hoa11_2_0 e11_6
    replace hob11_2_0 := OS.ext hob11_2_0 e11_6
    replace hb0_0 := BoxAt.ext hb0_0 e11_6
    replace hb0_1 := BoxAt.ext hb0_1 e11_6
    replace hb8_8 := BoxAt.ext hb8_8 e11_6
    replace hb9_2 := BoxAt.ext hb9_2 e11_6
    replace hb10_2 := BoxAt.ext hb10_2 e11_6
    have := Ext.size e11_6
    replace eB := Ext.trans eB e11_6
    have hfhb11_6 : Fresh h11_2.size [h11_2.size] := Fresh.one _
    have hlhb11_6 := one_lt (show h11_2.size < h11_6.size by omega)
    try simp -implicitDefEqProofs (disch := first | decide | assumption | omega) only [go_sem, wrap_id]
    refine op_storeB (cs' := #[.int .i64 ((((pdP X Y).1).p)), vd11_2_0, va11_2_0, vb11_2_0]) st30 hb11_6 rfl rfl rfl (by simp) (allOne_mem (l := [.int .i64 ((((pdP X Y).1).p)), vd11_2_0, va11_2_0, vb11_2_0]) ⟨rfl, (OS.one hod11_2_0).1, (OS.one hoa11_2_0).1, (OS.one hob11_2_0).1, trivial⟩) rfl ?_
    intro h11_7 hb11_6 c11_7
    replace hod8_4_0 := OS.chg hod8_4_0 c11_7 (apart_lt hlhod8_4_0 hfhb11_6 (by omega))
    replace hoa8_4_0 := OS.chg hoa8_4_0 c11_7 (apart_lt hlhoa8_4_0 hfhb11_6 (by omega))
    replace hob8_4_0 := OS.chg hob8_4_0 c11_7 (apart_lt hlhob8_4_0 hfhb11_6 (by omega))
    replace hod9_1 := OS.chg hod9_1 c11_7 (apart_lt hlhod9_1 hfhb11_6 (by omega))
    replace hom9_1 := OS.chg hom9_1 c11_7 (apart_lt hlhom9_1 hfhb11_6 (by omega))
    replace hod10_1 := OS.chg hod10_1 c11_7 (apart_lt hlhod10_1 hfhb11_6 (by omega))
    replace hom10_1 := OS.chg hom10_1 c11_7 (apart_lt hlhom10_1 hfhb11_6 (by omega))
    replace hod11_2_0 := OS.chg hod11_2_0 c11_7 (apart_lt hlhod11_2_0 hfhb11_6 (by omega))
    replace hoa11_2_0 := OS.chg hoa11_2_0 c11_7 (apart_lt hlhoa11_2_0 hfhb11_6 (by omega))
    replace hob11_2_0 := OS.chg hob11_2_0 c11_7 (apart_lt hlhob11_2_0 hfhb11_6 (by omega))
    replace hb0_0 := BoxAt.chgA hb0_0 c11_7 (apart_lt hlhb0_0 hfhb11_6 (by omega))
    replace hb0_1 := BoxAt.chgA hb0_1 c11_7 (apart_lt hlhb0_1 hfhb11_6 (by omega))
    replace hb8_8 := BoxAt.chgA hb8_8 c11_7 (apart_lt hlhb8_8 hfhb11_6 (by omega))
    replace hb9_2 := BoxAt.chgA hb9_2 c11_7 (apart_lt hlhb9_2 hfhb11_6 (by omega))
    replace hb10_2 := BoxAt.chgA hb10_2 c11_7 (apart_lt hlhb10_2 hfhb11_6 (by omega))
    have := c11_7.size
    replace eB := Ext.then eB c11_7 (ge_of hfhb11_6 (by omega))
    try simp -implicitDefEqProofs (disch := first | decide | assumption | omega) only [go_sem, wrap_id]
    refine hK _ _ ?_
    clear hK K
    refine den_seq ?_
    refine den_seq ?_
    refine den_merge [(53, .bool (((!(true)) || (((pdP X Y).2) != ((pdP X Y).2)))))] [2, 3, 6, 7, 8, 9, 10, 11] (fun H => Ext h11_7 H) ?_ ?_
     -- a way
    ·refine den_region TTok ?_
     intro K hK
     simp -implicitDefEqProofs (disch := first | decide | assumption | (simp (disch := decide) only [slotOf_zero, slotOf_succ, Option.map_some, puts_same, puts_ne, gv_bool, gv_undef, tt, tf, ft, ff, eq_self, if_true, if_false, Bool.false_eq_true, Bool.not_true, Bool.not_false]; done) | omega) only [go_sem, ld30, BoxAt.cell hb8_8, BoxAt.cell hb11_6, wrap_id]
     try simp -implicitDefEqProofs (disch := first | decide | assumption | omega) only [go_sem, wrap_id]
     refine CallA.mono (eqD_same _ _ ((pdP X Y).1) _ ⟨_, _, _, rfl, (OS.rd hod11_2_0), (OS.rd hoa11_2_0), (OS.rd hob11_2_0)⟩ ⟨_, _, _, rfl, (OS.rd hod8_4_0), (OS.rd hoa8_4_0), (OS.rd hob8_4_0)⟩) ?_
     intro v_ h12_2
     rintro ⟨rfl, e12_2⟩
     replace hod8_4_0 := OS.ext hod8_4_0 e12_2
     replace hoa8_4_0 := OS.ext hoa8_4_0 e12_2
     replace hob8_4_0 := OS.ext hob8_4_0 e12_2
     replace hod9_1 := OS.ext hod9_1 e12_2
     replace hom9_1 := OS.ext hom9_1 e12_2
     replace hod10_1 := OS.ext hod10_1 e12_2
     replace hom10_1 := OS.ext hom10_1 e12_2
     replace hod11_2_0 := OS.ext hod11_2_0 e12_2
     replace hoa11_2_0 := OS.ext hoa11_2_0 e12_2
     replace hob11_2_0 := OS.ext hob11_2_0 e12_2
     replace hb0_0 := BoxAt.ext hb0_0 e12_2
     replace hb0_1 := BoxAt.ext hb0_1 e12_2
     replace hb8_8 := BoxAt.ext hb8_8 e12_2
     replace hb9_2 := BoxAt.ext hb9_2 e12_2
     replace hb10_2 := BoxAt.ext hb10_2 e12_2
     replace hb11_6 := BoxAt.ext hb11_6 e12_2
     have := Ext.size e12_2
     replace eB := Ext.trans eB e12_2
     try simp -implicitDefEqProofs (disch := first | decide | assumption | (simp (disch := decide) only [slotOf_zero, slotOf_succ, Option.map_some, puts_same, puts_ne, gv_bool, gv_undef, tt, tf, ft, ff, eq_self, if_true, if_false, Bool.false_eq_true, Bool.not_true, Bool.not_false]; done) | omega) only [go_sem, wrap_id]
     try simp -implicitDefEqProofs (disch := first | decide | assumption | (simp (disch := decide) only [slotOf_zero, slotOf_succ, Option.map_some, puts_same, puts_ne, gv_bool, gv_undef, tt, tf, ft, ff, eq_self, if_true, if_false, Bool.false_eq_true, Bool.not_true, Bool.not_false]; done) | omega) only [go_sem, wrap_id]
     refine hK _ _ ?_
     clear hK K
     refine den_stop ?_
     refine ⟨?_, e12_2⟩
     first | (simp (disch := decide) only [go_sem, eq_self, Bool.true_and, Bool.and_true, Bool.false_and, Bool.and_false, Bool.true_or, Bool.or_true, Bool.false_or, Bool.or_false, if_true, if_false, Bool.false_eq_true]; done) | simp [HasL, sel, puts_at]
    intro en28 h29 e30
    replace hod8_4_0 := OS.ext hod8_4_0 e30
    replace hoa8_4_0 := OS.ext hoa8_4_0 e30
    replace hob8_4_0 := OS.ext hob8_4_0 e30
    replace hod9_1 := OS.ext hod9_1 e30
    replace hom9_1 := OS.ext hom9_1 e30
    replace hod10_1 := OS.ext hod10_1 e30
    replace hom10_1 := OS.ext hom10_1 e30
    replace hod11_2_0 := OS.ext hod11_2_0 e30
    replace hoa11_2_0 := OS.ext hoa11_2_0 e30
    replace hob11_2_0 := OS.ext hob11_2_0 e30
    replace hb0_0 := BoxAt.ext hb0_0 e30
    replace hb0_1 := BoxAt.ext hb0_1 e30
    replace hb8_8 := BoxAt.ext hb8_8 e30
    replace hb9_2 := BoxAt.ext hb9_2 e30
    replace hb10_2 := BoxAt.ext hb10_2 e30
    replace hb11_6 := BoxAt.ext hb11_6 e30
    have := Ext.size e30
    replace eB := Ext.trans eB e30
    simp (disch := decide) only [go_sem]
    refine den_cond rfl (fun c2 => ?_) (fun c2 => ?_)
    ·try simp only [decide_eq_true_eq, decide_eq_false_iff_not, beq_iff_eq, beq_eq_false_iff_ne, bne_iff_ne, ne_eq, Bool.not_eq_true', Bool.not_eq_false', Bool.and_eq_true, Bool.or_eq_true, bne_eq_false_iff_eq] at c2
     refine den_seq ?_
     refine den_region TTok ?_
     intro K hK
     simp -implicitDefEqProofs (disch := first | decide | assumption | omega) only [go_sem, wrap_id]
     refine hK _ _ ?_
     clear hK K
     refine den_ret ?_
     simp (disch := decide) only [resP_1, puts_same, puts_ne]
     exact absurd c2 (by first | (simp; done) | (simp; omega) | omega | (simp [eqC_self]; done))
    ·try simp only [decide_eq_true_eq, decide_eq_false_iff_not, beq_iff_eq, beq_eq_false_iff_ne, bne_iff_ne, ne_eq, Bool.not_eq_true', Bool.not_eq_false', Bool.and_eq_true, Bool.or_eq_true, bne_eq_false_iff_eq] at c2
     refine den_skip ?_
     refine den_seq ?_
     refine den_seq ?_
     refine den_draw TTok mixed [] [(0, true), (1, true), (2, false), (3, false), (4, true)] (by kernel_rfl) ?_
     intro K hK
     simp -implicitDefEqProofs (disch := first | decide | assumption | omega) only [go_sem, ld33, ld25, BoxAt.cell hb0_0, BoxAt.cell hb9_2, wrap_id]
     try simp -implicitDefEqProofs (disch := first | decide | assumption | omega) only [go_sem, wrap_id]
     refine CallA.mono (toC_ok _ X _ ⟨_, _, rfl, (RdS.pres hdX (Ext.pres eB)), (RdS.pres hmX (Ext.pres eB))⟩ hMX) ?_
     intro v_ h14_2
     rintro ⟨vd14_2, vm14_2, fd14_2, fm14_2, rfl, hod14_2, hom14_2, hf14_2, e14_2⟩
     replace hod8_4_0 := OS.ext hod8_4_0 e14_2
     replace hoa8_4_0 := OS.ext hoa8_4_0 e14_2
     replace hob8_4_0 := OS.ext hob8_4_0 e14_2
     replace hod9_1 := OS.ext hod9_1 e14_2
     replace hom9_1 := OS.ext hom9_1 e14_2
     replace hod10_1 := OS.ext hod10_1 e14_2
     replace hom10_1 := OS.ext hom10_1 e14_2
     replace hod11_2_0 := OS.ext hod11_2_0 e14_2
     replace hoa11_2_0 := OS.ext hoa11_2_0 e14_2
     replace hob11_2_0 := OS.ext hob11_2_0 e14_2
     replace hb0_0 := BoxAt.ext hb0_0 e14_2
     replace hb0_1 := BoxAt.ext hb0_1 e14_2
     replace hb8_8 := BoxAt.ext hb8_8 e14_2
     replace hb9_2 := BoxAt.ext hb9_2 e14_2
     replace hb10_2 := BoxAt.ext hb10_2 e14_2
     replace hb11_6 := BoxAt.ext hb11_6 e14_2
     have := Ext.size e14_2
     replace eB := Ext.trans eB e14_2
     have hfd14_2 := hf14_2.left
     have hfm14_2 := hf14_2.right
     have hlhod14_2 := OS.lt hod14_2
     have hlhom14_2 := OS.lt hom14_2
     have ap31 : Apart fd14_2 fm14_2 := apart_nodup hf14_2
     try simp (disch := decide) only [outv_some, outv_none, put_puts]
     refine plK_pres (Ext.pres e14_2) ?_
     try simp -implicitDefEqProofs (disch := first | decide | assumption | omega) only [go_sem, wrap_id]
     try simp -implicitDefEqProofs (disch := first | decide | assumption | omega) only [go_sem, wrap_id]
     refine CallA.mono (eqC_same _ _ X _ ⟨_, _, rfl, (OS.rd hod9_1), (OS.rd hom9_1)⟩ ⟨_, _, rfl, (OS.rd hod14_2), (OS.rd hom14_2)⟩) ?_
     intro v_ h14_3
     rintro ⟨rfl, e14_3⟩
     replace hod8_4_0 := OS.ext hod8_4_0 e14_3
     replace hoa8_4_0 := OS.ext hoa8_4_0 e14_3
     replace hob8_4_0 := OS.ext hob8_4_0 e14_3
     replace hod9_1 := OS.ext hod9_1 e14_3
     replace hom9_1 := OS.ext hom9_1 e14_3
     replace hod10_1 := OS.ext hod10_1 e14_3
     replace hom10_1 := OS.ext hom10_1 e14_3
     replace hod11_2_0 := OS.ext hod11_2_0 e14_3
     replace hoa11_2_0 := OS.ext hoa11_2_0 e14_3
     replace hob11_2_0 := OS.ext hob11_2_0 e14_3
     replace hod14_2 := OS.ext hod14_2 e14_3
     replace hom14_2 := OS.ext hom14_2 e14_3
     replace hb0_0 := BoxAt.ext hb0_0 e14_3
     replace hb0_1 := BoxAt.ext hb0_1 e14_3
     replace hb8_8 := BoxAt.ext hb8_8 e14_3
     replace hb9_2 := BoxAt.ext hb9_2 e14_3
     replace hb10_2 := BoxAt.ext hb10_2 e14_3
     replace hb11_6 := BoxAt.ext hb11_6 e14_3
     have := Ext.size e14_3
     replace eB := Ext.trans eB e14_3
     try simp (disch := decide) only [outv_some, outv_none, put_puts]
     refine plK_pres (Ext.pres e14_3) ?_
     try simp -implicitDefEqProofs (disch := first | decide | assumption | omega) only [go_sem, wrap_id]
     refine hK _ _ ?_
     clear hK K
     refine den_cond rfl (fun c3 => ?_) (fun c3 => ?_)
     ·try simp only [decide_eq_true_eq, decide_eq_false_iff_not, beq_iff_eq, beq_eq_false_iff_ne, bne_iff_ne, ne_eq, Bool.not_eq_true', Bool.not_eq_false', Bool.and_eq_true, Bool.or_eq_true, bne_eq_false_iff_eq] at c3
      refine den_seq ?_
      refine den_region TTok ?_
      intro K hK
      simp -implicitDefEqProofs (disch := first | decide | assumption | omega) only [go_sem, wrap_id]
      refine hK _ _ ?_
      clear hK K
      refine den_ret ?_
      simp (disch := decide) only [resP_1, puts_same, puts_ne]
      exact absurd c3 (by first | (simp; done) | (simp; omega) | omega | (simp [eqC_self]; done))
     ·try simp only [decide_eq_true_eq, decide_eq_false_iff_not, beq_iff_eq, beq_eq_false_iff_ne, bne_iff_ne, ne_eq, Bool.not_eq_true', Bool.not_eq_false', Bool.and_eq_true, Bool.or_eq_true, bne_eq_false_iff_eq] at c3
      refine den_skip ?_
      refine den_seq ?_
      refine den_seq ?_
      refine den_draw TTok mixed [] [(0, true), (1, true), (2, false), (3, false), (4, true)] (by kernel_rfl) ?_
      intro K hK
      simp -implicitDefEqProofs (disch := first | decide | assumption | omega) only [go_sem, ld33, ld25, BoxAt.cell hb0_1, BoxAt.cell hb10_2, wrap_id]
      try simp -implicitDefEqProofs (disch := first | decide | assumption | omega) only [go_sem, wrap_id]
      refine CallA.mono (toC_ok _ Y _ ⟨_, _, rfl, (RdS.pres hdY (Ext.pres eB)), (RdS.pres hmY (Ext.pres eB))⟩ hMY) ?_
      intro v_ h16_2
      rintro ⟨vd16_2, vm16_2, fd16_2, fm16_2, rfl, hod16_2, hom16_2, hf16_2, e16_2⟩
      replace hod8_4_0 := OS.ext hod8_4_0 e16_2
      replace hoa8_4_0 := OS.ext hoa8_4_0 e16_2
      replace hob8_4_0 := OS.ext hob8_4_0 e16_2
      replace hod9_1 := OS.ext hod9_1 e16_2
      replace hom9_1 := OS.ext hom9_1 e16_2
      replace hod10_1 := OS.ext hod10_1 e16_2
      replace hom10_1 := OS.ext hom10_1 e16_2
      replace hod11_2_0 := OS.ext hod11_2_0 e16_2
      replace hoa11_2_0 := OS.ext hoa11_2_0 e16_2
      replace hob11_2_0 := OS.ext hob11_2_0 e16_2
      replace hb0_0 := BoxAt.ext hb0_0 e16_2
      replace hb0_1 := BoxAt.ext hb0_1 e16_2
      replace hb8_8 := BoxAt.ext hb8_8 e16_2
      replace hb9_2 := BoxAt.ext hb9_2 e16_2
      replace hb10_2 := BoxAt.ext hb10_2 e16_2
      replace hb11_6 := BoxAt.ext hb11_6 e16_2
      have := Ext.size e16_2
      replace eB := Ext.trans eB e16_2
      have hfd16_2 := hf16_2.left
      have hfm16_2 := hf16_2.right
      have hlhod16_2 := OS.lt hod16_2
      have hlhom16_2 := OS.lt hom16_2
      have ap32 : Apart fd16_2 fm16_2 := apart_nodup hf16_2
      try simp (disch := decide) only [outv_some, outv_none, put_puts]
      refine plK_pres (Ext.pres e16_2) ?_
      try simp -implicitDefEqProofs (disch := first | decide | assumption | omega) only [go_sem, wrap_id]
      try simp -implicitDefEqProofs (disch := first | decide | assumption | omega) only [go_sem, wrap_id]
      refine CallA.mono (eqC_same _ _ Y _ ⟨_, _, rfl, (OS.rd hod10_1), (OS.rd hom10_1)⟩ ⟨_, _, rfl, (OS.rd hod16_2), (OS.rd hom16_2)⟩) ?_
      intro v_ h16_3
      rintro ⟨rfl, e16_3⟩
      replace hod8_4_0 := OS.ext hod8_4_0 e16_3
      replace hoa8_4_0 := OS.ext hoa8_4_0 e16_3
      replace hob8_4_0 := OS.ext hob8_4_0 e16_3
      replace hod9_1 := OS.ext hod9_1 e16_3
      replace hom9_1 := OS.ext hom9_1 e16_3
      replace hod10_1 := OS.ext hod10_1 e16_3
      replace hom10_1 := OS.ext hom10_1 e16_3
      replace hod11_2_0 := OS.ext hod11_2_0 e16_3
      replace hoa11_2_0 := OS.ext hoa11_2_0 e16_3
      replace hob11_2_0 := OS.ext hob11_2_0 e16_3
      replace hod16_2 := OS.ext hod16_2 e16_3
      replace hom16_2 := OS.ext hom16_2 e16_3
      replace hb0_0 := BoxAt.ext hb0_0 e16_3
      replace hb0_1 := BoxAt.ext hb0_1 e16_3
      replace hb8_8 := BoxAt.ext hb8_8 e16_3
      replace hb9_2 := BoxAt.ext hb9_2 e16_3
      replace hb10_2 := BoxAt.ext hb10_2 e16_3
      replace hb11_6 := BoxAt.ext hb11_6 e16_3
      have := Ext.size e16_3
      replace eB := Ext.trans eB e16_3
      try simp (disch := decide) only [outv_some, outv_none, put_puts]
      refine plK_pres (Ext.pres e16_3) ?_
      try simp -implicitDefEqProofs (disch := first | decide | assumption | omega) only [go_sem, wrap_id]
      refine hK _ _ ?_
      clear hK K
      refine den_cond rfl (fun c4 => ?_) (fun c4 => ?_)
      ·try simp only [decide_eq_true_eq, decide_eq_false_iff_not, beq_iff_eq, beq_eq_false_iff_ne, bne_iff_ne, ne_eq, Bool.not_eq_true', Bool.not_eq_false', Bool.and_eq_true, Bool.or_eq_true, bne_eq_false_iff_eq] at c4
       refine den_seq ?_
       refine den_region TTok ?_
       intro K hK
       simp -implicitDefEqProofs (disch := first | decide | assumption | omega) only [go_sem, wrap_id]
       refine hK _ _ ?_
       clear hK K
       refine den_ret ?_
       simp (disch := decide) only [resP_1, puts_same, puts_ne]
       exact absurd c4 (by first | (simp; done) | (simp; omega) | omega | (simp [eqC_self]; done))
      ·try simp only [decide_eq_true_eq, decide_eq_false_iff_not, beq_iff_eq, beq_eq_false_iff_ne, bne_iff_ne, ne_eq, Bool.not_eq_true', Bool.not_eq_false', Bool.and_eq_true, Bool.or_eq_true, bne_eq_false_iff_eq] at c4
       refine den_skip ?_
       refine den_seq ?_
       refine den_region TTok ?_
       intro K hK
       simp -implicitDefEqProofs (disch := first | decide | assumption | omega) only [go_sem, wrap_id]
       refine hK _ _ ?_
       clear hK K
       refine den_seq ?_
       refine den_region TTok ?_
       intro K hK
       simp -implicitDefEqProofs (disch := first | decide | assumption | omega) only [go_sem, ld33, BoxAt.cell hb9_2, wrap_id]
       try simp -implicitDefEqProofs (disch := first | decide | assumption | omega) only [go_sem, wrap_id]
       refine CallA.mono (markCx_ok _ _ X (1 : Int) _ _ _ hod9_1 hom9_1 (List.nodup_append.2 ⟨hfd9_1.nodup, hfm9_1.nodup, fun b hb c hc e => ap23 b hb (e ▸ hc)⟩) (by omega)) ?_
       intro v_ h19_2
       rintro ⟨rfl, hogd19_2, hogm19_2, cg19_2⟩
       replace hod8_4_0 := OS.chg hod8_4_0 cg19_2 (Apart.app (apart_lt hlhod8_4_0 hfd9_1 (by omega)) (apart_lt hlhod8_4_0 hfm9_1 (by omega)))
       replace hoa8_4_0 := OS.chg hoa8_4_0 cg19_2 (Apart.app (apart_lt hlhoa8_4_0 hfd9_1 (by omega)) (apart_lt hlhoa8_4_0 hfm9_1 (by omega)))
       replace hob8_4_0 := OS.chg hob8_4_0 cg19_2 (Apart.app (apart_lt hlhob8_4_0 hfd9_1 (by omega)) (apart_lt hlhob8_4_0 hfm9_1 (by omega)))
       replace hod10_1 := OS.chg hod10_1 cg19_2 (Apart.app (apart_gt hfd10_1 hlhod9_1 (by omega)) (apart_gt hfd10_1 hlhom9_1 (by omega)))
       replace hom10_1 := OS.chg hom10_1 cg19_2 (Apart.app (apart_gt hfm10_1 hlhod9_1 (by omega)) (apart_gt hfm10_1 hlhom9_1 (by omega)))
       replace hod11_2_0 := OS.chg hod11_2_0 cg19_2 (Apart.app (apart_gt hfd11_2_0 hlhod9_1 (by omega)) (apart_gt hfd11_2_0 hlhom9_1 (by omega)))
       replace hoa11_2_0 := OS.chg hoa11_2_0 cg19_2 (Apart.app (apart_gt hfa11_2_0 hlhod9_1 (by omega)) (apart_gt hfa11_2_0 hlhom9_1 (by omega)))
       replace hob11_2_0 := OS.chg hob11_2_0 cg19_2 (Apart.app (apart_gt hfb11_2_0 hlhod9_1 (by omega)) (apart_gt hfb11_2_0 hlhom9_1 (by omega)))
       replace hb0_0 := BoxAt.chgA hb0_0 cg19_2 (Apart.app (apart_lt hlhb0_0 hfd9_1 (by omega)) (apart_lt hlhb0_0 hfm9_1 (by omega)))
       replace hb0_1 := BoxAt.chgA hb0_1 cg19_2 (Apart.app (apart_lt hlhb0_1 hfd9_1 (by omega)) (apart_lt hlhb0_1 hfm9_1 (by omega)))
       replace hb8_8 := BoxAt.chgA hb8_8 cg19_2 (Apart.app (apart_lt hlhb8_8 hfd9_1 (by omega)) (apart_lt hlhb8_8 hfm9_1 (by omega)))
       replace hb9_2 := BoxAt.chgA hb9_2 cg19_2 (Apart.app (apart_gt hfhb9_2 hlhod9_1 (by omega)) (apart_gt hfhb9_2 hlhom9_1 (by omega)))
       replace hb10_2 := BoxAt.chgA hb10_2 cg19_2 (Apart.app (apart_gt hfhb10_2 hlhod9_1 (by omega)) (apart_gt hfhb10_2 hlhom9_1 (by omega)))
       replace hb11_6 := BoxAt.chgA hb11_6 cg19_2 (Apart.app (apart_gt hfhb11_6 hlhod9_1 (by omega)) (apart_gt hfhb11_6 hlhom9_1 (by omega)))
       have := cg19_2.size
       replace eB := Ext.then eB cg19_2 (ge_app (ge_of hfd9_1 (by omega)) (ge_of hfm9_1 (by omega)))
       have ap33 : Apart fm9_1 fd9_1 := (Apart.symm ap23)
       have hlhogd19_2 := hlhod9_1
       have ap34 : Apart fd9_1 fm9_1 := (Apart.symm ap33)
       have hlhogm19_2 := hlhom9_1
       try simp -implicitDefEqProofs (disch := first | decide | assumption | omega) only [go_sem, wrap_id]
       refine hK _ _ ?_
       clear hK K
       refine den_seq ?_
       refine den_region TTok ?_
       intro K hK
       simp -implicitDefEqProofs (disch := first | decide | assumption | omega) only [go_sem, ld33, BoxAt.cell hb10_2, wrap_id]
       try simp -implicitDefEqProofs (disch := first | decide | assumption | omega) only [go_sem, wrap_id]
       refine CallA.mono (markCx_ok _ _ Y ((1 : Int) + cnt1 X.dims + cntL cnt2 X.maps) _ _ _ hod10_1 hom10_1 (List.nodup_append.2 ⟨hfd10_1.nodup, hfm10_1.nodup, fun b hb c hc e => ap24 b hb (e ▸ hc)⟩) (by omega)) ?_
       intro v_ h20_2
       rintro ⟨rfl, hogd20_2, hogm20_2, cg20_2⟩
       replace hod8_4_0 := OS.chg hod8_4_0 cg20_2 (Apart.app (apart_lt hlhod8_4_0 hfd10_1 (by omega)) (apart_lt hlhod8_4_0 hfm10_1 (by omega)))
       replace hoa8_4_0 := OS.chg hoa8_4_0 cg20_2 (Apart.app (apart_lt hlhoa8_4_0 hfd10_1 (by omega)) (apart_lt hlhoa8_4_0 hfm10_1 (by omega)))
       replace hob8_4_0 := OS.chg hob8_4_0 cg20_2 (Apart.app (apart_lt hlhob8_4_0 hfd10_1 (by omega)) (apart_lt hlhob8_4_0 hfm10_1 (by omega)))
       replace hod11_2_0 := OS.chg hod11_2_0 cg20_2 (Apart.app (apart_gt hfd11_2_0 hlhod10_1 (by omega)) (apart_gt hfd11_2_0 hlhom10_1 (by omega)))
       replace hoa11_2_0 := OS.chg hoa11_2_0 cg20_2 (Apart.app (apart_gt hfa11_2_0 hlhod10_1 (by omega)) (apart_gt hfa11_2_0 hlhom10_1 (by omega)))
       replace hob11_2_0 := OS.chg hob11_2_0 cg20_2 (Apart.app (apart_gt hfb11_2_0 hlhod10_1 (by omega)) (apart_gt hfb11_2_0 hlhom10_1 (by omega)))
       replace hb0_0 := BoxAt.chgA hb0_0 cg20_2 (Apart.app (apart_lt hlhb0_0 hfd10_1 (by omega)) (apart_lt hlhb0_0 hfm10_1 (by omega)))
       replace hb0_1 := BoxAt.chgA hb0_1 cg20_2 (Apart.app (apart_lt hlhb0_1 hfd10_1 (by omega)) (apart_lt hlhb0_1 hfm10_1 (by omega)))
       replace hb8_8 := BoxAt.chgA hb8_8 cg20_2 (Apart.app (apart_lt hlhb8_8 hfd10_1 (by omega)) (apart_lt hlhb8_8 hfm10_1 (by omega)))
       replace hb10_2 := BoxAt.chgA hb10_2 cg20_2 (Apart.app (apart_gt hfhb10_2 hlhod10_1 (by omega)) (apart_gt hfhb10_2 hlhom10_1 (by omega)))
       replace hb11_6 := BoxAt.chgA hb11_6 cg20_2 (Apart.app (apart_gt hfhb11_6 hlhod10_1 (by omega)) (apart_gt hfhb11_6 hlhom10_1 (by omega)))
       have := cg20_2.size
       replace eB := Ext.then eB cg20_2 (ge_app (ge_of hfd10_1 (by omega)) (ge_of hfm10_1 (by omega)))
       have ap35 : Apart fm10_1 fd10_1 := (Apart.symm ap24)
       have hlhogd20_2 := hlhod10_1
       have ap36 : Apart fd10_1 fm10_1 := (Apart.symm ap35)
       have hlhogm20_2 := hlhom10_1
       try simp -implicitDefEqProofs (disch := first | decide | assumption | omega) only [go_sem, wrap_id]
       refine hK _ _ ?_
       clear hK K
       refine den_seq ?_
       refine den_seq ?_
       refine den_merge [(82, .bool ((((decide ((((1 : Int) + cnt1 X.dims + cntL cnt2 X.maps) + cnt1 Y.dims + cntL cnt2 Y.maps) < (0 : Int))) || (!(true))) || (((pdP X Y).2) != ((pdP X Y).2)))))] [2, 3, 6, 7, 10] (fun H => Ext h20_2 H) ?_ ?_
        -- a way
       ·refine den_region TTok ?_
        intro K hK
        simp -implicitDefEqProofs (disch := first | decide | assumption | (simp (disch := decide) only [slotOf_zero, slotOf_succ, Option.map_some, puts_same, puts_ne, gv_bool, gv_undef, tt, tf, ft, ff, eq_self, if_true, if_false, Bool.false_eq_true, Bool.not_true, Bool.not_false]; done) | omega) only [go_sem, wrap_id]
        refine opsP_F (by simp (disch := decide) only [slotOf_zero, slotOf_succ, Option.map_some, puts_same, puts_ne, gv_bool, gv_undef, tt, tf, ft, ff, eq_self, if_true, if_false, Bool.false_eq_true, Bool.not_true, Bool.not_false]; rfl) (fun g37 => ?_) (fun g37 => ?_)
        ·try simp -implicitDefEqProofs (disch := first | decide | assumption | (simp (disch := decide) only [slotOf_zero, slotOf_succ, Option.map_some, puts_same, puts_ne, gv_bool, gv_undef, tt, tf, ft, ff, eq_self, if_true, if_false, Bool.false_eq_true, Bool.not_true, Bool.not_false, g37]; done) | omega) only [go_sem, ld30, BoxAt.cell hb8_8, BoxAt.cell hb11_6, wrap_id, g37, eq_self, if_true, if_false, Bool.false_eq_true]
         try simp -implicitDefEqProofs (disch := first | decide | assumption | omega) only [go_sem, wrap_id]
         refine CallA.mono (eqD_same _ _ ((pdP X Y).1) _ ⟨_, _, _, rfl, (OS.rd hod11_2_0), (OS.rd hoa11_2_0), (OS.rd hob11_2_0)⟩ ⟨_, _, _, rfl, (OS.rd hod8_4_0), (OS.rd hoa8_4_0), (OS.rd hob8_4_0)⟩) ?_
         intro v_ h21_5
         rintro ⟨rfl, e21_5⟩
         replace hod8_4_0 := OS.ext hod8_4_0 e21_5
         replace hoa8_4_0 := OS.ext hoa8_4_0 e21_5
         replace hob8_4_0 := OS.ext hob8_4_0 e21_5
         replace hod11_2_0 := OS.ext hod11_2_0 e21_5
         replace hoa11_2_0 := OS.ext hoa11_2_0 e21_5
         replace hob11_2_0 := OS.ext hob11_2_0 e21_5
         replace hb0_0 := BoxAt.ext hb0_0 e21_5
         replace hb0_1 := BoxAt.ext hb0_1 e21_5
         replace hb8_8 := BoxAt.ext hb8_8 e21_5
         replace hb11_6 := BoxAt.ext hb11_6 e21_5
         have := Ext.size e21_5
         replace eB := Ext.trans eB e21_5
         try simp -implicitDefEqProofs (disch := first | decide | assumption | (simp (disch := decide) only [slotOf_zero, slotOf_succ, Option.map_some, puts_same, puts_ne, gv_bool, gv_undef, tt, tf, ft, ff, eq_self, if_true, if_false, Bool.false_eq_true, Bool.not_true, Bool.not_false, g37]; done) | omega) only [go_sem, wrap_id, g37, eq_self, if_true, if_false, Bool.false_eq_true]
         try simp -implicitDefEqProofs (disch := first | decide | assumption | (simp (disch := decide) only [slotOf_zero, slotOf_succ, Option.map_some, puts_same, puts_ne, gv_bool, gv_undef, tt, tf, ft, ff, eq_self, if_true, if_false, Bool.false_eq_true, Bool.not_true, Bool.not_false, g37]; done) | omega) only [go_sem, wrap_id, g37, eq_self, if_true, if_false, Bool.false_eq_true]
         refine hK _ _ ?_
         clear hK K
         refine den_stop ?_
         refine ⟨?_, e21_5⟩
         first | (simp (disch := decide) only [go_sem, g37, eq_self, Bool.true_and, Bool.and_true, Bool.false_and, Bool.and_false, Bool.true_or, Bool.or_true, Bool.false_or, Bool.or_false, if_true, if_false, Bool.false_eq_true]; done) | simp [HasL, sel, puts_at, g37]
        ·try simp -implicitDefEqProofs (disch := first | decide | assumption | (simp (disch := decide) only [slotOf_zero, slotOf_succ, Option.map_some, puts_same, puts_ne, gv_bool, gv_undef, tt, tf, ft, ff, eq_self, if_true, if_false, Bool.false_eq_true, Bool.not_true, Bool.not_false, g37]; done) | omega) only [go_sem, wrap_id, g37, eq_self, if_true, if_false, Bool.false_eq_true]
         try simp -implicitDefEqProofs (disch := first | decide | assumption | (simp (disch := decide) only [slotOf_zero, slotOf_succ, Option.map_some, puts_same, puts_ne, gv_bool, gv_undef, tt, tf, ft, ff, eq_self, if_true, if_false, Bool.false_eq_true, Bool.not_true, Bool.not_false, g37]; done) | omega) only [go_sem, wrap_id, g37, eq_self, if_true, if_false, Bool.false_eq_true]
         refine hK _ _ ?_
         clear hK K
         refine den_stop ?_
         refine ⟨?_, Ext.refl _⟩
         first | (simp (disch := decide) only [go_sem, g37, eq_self, Bool.true_and, Bool.and_true, Bool.false_and, Bool.and_false, Bool.true_or, Bool.or_true, Bool.false_or, Bool.or_false, if_true, if_false, Bool.false_eq_true]; done) | simp [HasL, sel, puts_at, g37]
       intro en38 h39 e40
       replace hod8_4_0 := OS.ext hod8_4_0 e40
       replace hoa8_4_0 := OS.ext hoa8_4_0 e40
       replace hob8_4_0 := OS.ext hob8_4_0 e40
       replace hod11_2_0 := OS.ext hod11_2_0 e40
       replace hoa11_2_0 := OS.ext hoa11_2_0 e40
       replace hob11_2_0 := OS.ext hob11_2_0 e40
       replace hb0_0 := BoxAt.ext hb0_0 e40
       replace hb0_1 := BoxAt.ext hb0_1 e40
       replace hb8_8 := BoxAt.ext hb8_8 e40
       replace hb11_6 := BoxAt.ext hb11_6 e40
       have := Ext.size e40
       replace eB := Ext.trans eB e40
       simp (disch := decide) only [go_sem]
       refine den_cond rfl (fun c5 => ?_) (fun c5 => ?_)
       ·try simp only [decide_eq_true_eq, decide_eq_false_iff_not, beq_iff_eq, beq_eq_false_iff_ne, bne_iff_ne, ne_eq, Bool.not_eq_true', Bool.not_eq_false', Bool.and_eq_true, Bool.or_eq_true, bne_eq_false_iff_eq] at c5
        refine den_seq ?_
        refine den_region TTok ?_
        intro K hK
        simp -implicitDefEqProofs (disch := first | decide | assumption | omega) only [go_sem, wrap_id]
        refine hK _ _ ?_
        clear hK K
        refine den_ret ?_
        simp (disch := decide) only [resP_1, puts_same, puts_ne]
        exact absurd c5 (by first | (simp; done) | (simp; omega) | omega | (simp [eqC_self]; done))
       ·try simp only [decide_eq_true_eq, decide_eq_false_iff_not, beq_iff_eq, beq_eq_false_iff_ne, bne_iff_ne, ne_eq, Bool.not_eq_true', Bool.not_eq_false', Bool.and_eq_true, Bool.or_eq_true, bne_eq_false_iff_eq] at c5
        refine den_skip ?_
        refine den_seq ?_
        refine den_region TTok ?_
        intro K hK
        simp -implicitDefEqProofs (disch := first | decide | assumption | omega) only [go_sem, wrap_id]
        refine hK _ _ ?_
        clear hK K
        refine den_seq ?_
        refine den_region TTok ?_
        intro K hK
        simp -implicitDefEqProofs (disch := first | decide | assumption | omega) only [go_sem, ld30, BoxAt.cell hb11_6, wrap_id]
        try simp -implicitDefEqProofs (disch := first | decide | assumption | omega) only [go_sem, wrap_id]
        refine CallA.mono (markD_ok _ _ _ ((pdP X Y).1) (1 : Int) _ _ _ _ hod11_2_0 hoa11_2_0 hob11_2_0 (Fresh.two (lo := 0) hfd11_2_0 (Fresh.two (lo := 0) hfa11_2_0 hfb11_2_0 ap27 (Nat.zero_le _) (Nat.zero_le _)) (Apart.app ap25 ap26) (Nat.zero_le _) (Nat.zero_le _)).nodup (by omega)) ?_
        intro v_ h24_2
        rintro ⟨rfl, hogd24_2, hoga24_2, hogb24_2, cg24_2⟩
        replace hod8_4_0 := OS.chg hod8_4_0 cg24_2 (Apart.app (apart_lt hlhod8_4_0 hfd11_2_0 (by omega)) (Apart.app (apart_lt hlhod8_4_0 hfa11_2_0 (by omega)) (apart_lt hlhod8_4_0 hfb11_2_0 (by omega))))
        replace hoa8_4_0 := OS.chg hoa8_4_0 cg24_2 (Apart.app (apart_lt hlhoa8_4_0 hfd11_2_0 (by omega)) (Apart.app (apart_lt hlhoa8_4_0 hfa11_2_0 (by omega)) (apart_lt hlhoa8_4_0 hfb11_2_0 (by omega))))
        replace hob8_4_0 := OS.chg hob8_4_0 cg24_2 (Apart.app (apart_lt hlhob8_4_0 hfd11_2_0 (by omega)) (Apart.app (apart_lt hlhob8_4_0 hfa11_2_0 (by omega)) (apart_lt hlhob8_4_0 hfb11_2_0 (by omega))))
        replace hb0_0 := BoxAt.chgA hb0_0 cg24_2 (Apart.app (apart_lt hlhb0_0 hfd11_2_0 (by omega)) (Apart.app (apart_lt hlhb0_0 hfa11_2_0 (by omega)) (apart_lt hlhb0_0 hfb11_2_0 (by omega))))
        replace hb0_1 := BoxAt.chgA hb0_1 cg24_2 (Apart.app (apart_lt hlhb0_1 hfd11_2_0 (by omega)) (Apart.app (apart_lt hlhb0_1 hfa11_2_0 (by omega)) (apart_lt hlhb0_1 hfb11_2_0 (by omega))))
        replace hb8_8 := BoxAt.chgA hb8_8 cg24_2 (Apart.app (apart_lt hlhb8_8 hfd11_2_0 (by omega)) (Apart.app (apart_lt hlhb8_8 hfa11_2_0 (by omega)) (apart_lt hlhb8_8 hfb11_2_0 (by omega))))
        replace hb11_6 := BoxAt.chgA hb11_6 cg24_2 (Apart.app (apart_gt hfhb11_6 hlhod11_2_0 (by omega)) (Apart.app (apart_gt hfhb11_6 hlhoa11_2_0 (by omega)) (apart_gt hfhb11_6 hlhob11_2_0 (by omega))))
        have := cg24_2.size
        replace eB := Ext.then eB cg24_2 (ge_app (ge_of hfd11_2_0 (by omega)) (ge_app (ge_of hfa11_2_0 (by omega)) (ge_of hfb11_2_0 (by omega))))
        have ap41 : Apart fa11_2_0 fd11_2_0 := (Apart.symm ap25)
        have ap42 : Apart fb11_2_0 fd11_2_0 := (Apart.symm ap26)
        have hlhogd24_2 := hlhod11_2_0
        have ap43 : Apart fb11_2_0 fa11_2_0 := (Apart.symm ap27)
        have ap44 : Apart fd11_2_0 fa11_2_0 := (Apart.symm ap41)
        have hlhoga24_2 := hlhoa11_2_0
        have ap45 : Apart fd11_2_0 fb11_2_0 := (Apart.symm ap42)
        have ap46 : Apart fa11_2_0 fb11_2_0 := (Apart.symm ap43)
        have hlhogb24_2 := hlhob11_2_0
        try simp -implicitDefEqProofs (disch := first | decide | assumption | omega) only [go_sem, wrap_id]
        refine hK _ _ ?_
        clear hK K
        refine den_seq ?_
        refine den_region TTok ?_
        intro K hK
        simp -implicitDefEqProofs (disch := first | decide | assumption | omega) only [go_sem, wrap_id]
        refine hK _ _ ?_
        clear hK K
        refine den_seq ?_
        refine den_region TTok ?_
        intro K hK
        simp -implicitDefEqProofs (disch := first | decide | assumption | omega) only [go_sem, ld30, BoxAt.cell hb11_6, wrap_id]
        try simp -implicitDefEqProofs (disch := first | decide | assumption | omega) only [go_sem, wrap_id]
        refine CallA.mono (heldD_ok _ _ _ ((pdP X Y).1) (1 : Int) _ (OS.rd hogd24_2) (OS.rd hoga24_2) (OS.rd hogb24_2) (by omega)) ?_
        intro v_ h26_2
        rintro ⟨rfl, e26_2⟩
        replace hod8_4_0 := OS.ext hod8_4_0 e26_2
        replace hoa8_4_0 := OS.ext hoa8_4_0 e26_2
        replace hob8_4_0 := OS.ext hob8_4_0 e26_2
        replace hogd24_2 := OS.ext hogd24_2 e26_2
        replace hoga24_2 := OS.ext hoga24_2 e26_2
        replace hogb24_2 := OS.ext hogb24_2 e26_2
        replace hb0_0 := BoxAt.ext hb0_0 e26_2
        replace hb0_1 := BoxAt.ext hb0_1 e26_2
        replace hb8_8 := BoxAt.ext hb8_8 e26_2
        replace hb11_6 := BoxAt.ext hb11_6 e26_2
        have := Ext.size e26_2
        replace eB := Ext.trans eB e26_2
        try simp -implicitDefEqProofs (disch := first | decide | assumption | omega) only [go_sem, wrap_id]
        refine hK _ _ ?_
        clear hK K
        refine den_seq ?_
        refine den_seq ?_
        refine den_region TTok ?_
        intro K hK
        simp -implicitDefEqProofs (disch := first | decide | assumption | omega) only [go_sem, wrap_id]
        refine hK _ _ ?_
        clear hK K
        refine den_cond rfl (fun c6 => ?_) (fun c6 => ?_)
        ·try simp only [decide_eq_true_eq, decide_eq_false_iff_not, beq_iff_eq, beq_eq_false_iff_ne, bne_iff_ne, ne_eq, Bool.not_eq_true', Bool.not_eq_false', Bool.and_eq_true, Bool.or_eq_true, bne_eq_false_iff_eq] at c6
         refine den_seq ?_
         refine den_region TTok ?_
         intro K hK
         simp -implicitDefEqProofs (disch := first | decide | assumption | omega) only [go_sem, wrap_id]
         refine hK _ _ ?_
         clear hK K
         refine den_ret ?_
         simp (disch := decide) only [resP_1, puts_same, puts_ne]
         exact absurd c6 (by first | (simp; done) | (simp; omega) | omega | (simp [eqC_self]; done))
        ·try simp only [decide_eq_true_eq, decide_eq_false_iff_not, beq_iff_eq, beq_eq_false_iff_ne, bne_iff_ne, ne_eq, Bool.not_eq_true', Bool.not_eq_false', Bool.and_eq_true, Bool.or_eq_true, bne_eq_false_iff_eq] at c6
         refine den_skip ?_
         refine den_seq ?_
         refine den_seq ?_
         refine den_region TTok ?_
         intro K hK
         simp -implicitDefEqProofs (disch := first | decide | assumption | omega) only [go_sem, wrap_id]
         refine hK _ _ ?_
         clear hK K
         refine den_cond rfl (fun c7 => ?_) (fun c7 => ?_)
         ·try simp only [decide_eq_true_eq, decide_eq_false_iff_not, beq_iff_eq, beq_eq_false_iff_ne, bne_iff_ne, ne_eq, Bool.not_eq_true', Bool.not_eq_false', Bool.and_eq_true, Bool.or_eq_true, bne_eq_false_iff_eq] at c7
          refine den_seq ?_
          refine den_region TTok ?_
          intro K hK
          simp -implicitDefEqProofs (disch := first | decide | assumption | omega) only [go_sem, wrap_id]
          refine hK _ _ ?_
          clear hK K
          refine den_ret ?_
          simp (disch := decide) only [resP_1, puts_same, puts_ne]
          exact absurd c7 (by first | (simp; done) | (simp; omega) | omega | (simp [eqC_self]; done))
         ·try simp only [decide_eq_true_eq, decide_eq_false_iff_not, beq_iff_eq, beq_eq_false_iff_ne, bne_iff_ne, ne_eq, Bool.not_eq_true', Bool.not_eq_false', Bool.and_eq_true, Bool.or_eq_true, bne_eq_false_iff_eq] at c7
          refine den_skip ?_
          refine den_seq ?_
          refine den_sel [2, 3, 6, 7, 10, 13] ?_
          intro env_47
          simp only [go_sem]
          refine den_drawTJ (σ := Value × List Nat × Value × List Nat × Value × List Nat × Nat) TTok (fun st_ => [(15, .pointer (some ⟨st_.2.2.2.2.2.2, 0, none⟩)), (16, .int .i64 (((pdP X Y).2)))]) (fun st_ H => (O2 H st_.1 (((pdP X Y).1).dims) st_.2.1) ∧ (Fresh h26_2.size st_.2.1) ∧ (O4 H st_.2.2.1 (((pdP X Y).1).ac) st_.2.2.2.1) ∧ (Fresh h26_2.size st_.2.2.2.1) ∧ (O4 H st_.2.2.2.2.1 (((pdP X Y).1).dn) st_.2.2.2.2.2.1) ∧ (Fresh h26_2.size st_.2.2.2.2.2.1) ∧ (BoxAt H st_.2.2.2.2.2.2 #[.int .i64 ((((pdP X Y).1).p)), st_.1, st_.2.2.1, st_.2.2.2.2.1] 30) ∧ (Fresh h26_2.size [st_.2.2.2.2.2.2]) ∧ (Apart st_.2.1 st_.2.2.2.1) ∧ (Apart st_.2.1 st_.2.2.2.2.2.1) ∧ (Apart st_.2.1 [st_.2.2.2.2.2.2]) ∧ (Apart st_.2.2.2.1 st_.2.2.2.2.2.1) ∧ (Apart st_.2.2.2.1 [st_.2.2.2.2.2.2]) ∧ (Apart st_.2.2.2.2.2.1 [st_.2.2.2.2.2.2]) ∧ (Ext h26_2 H)) mixed [9] [(0, true), (2, true)] (.fork 1 [] (.fork 3 [] (.fork 4 [(5, true), (6, true)] (.fork 7 [(8, false), (9, false), (10, true)] .fin 8 [] (.fork 7 [(9, false), (10, true)] .fin 9 [(7, true), (10, true)] .fin)) 8 [(4, false), (5, true), (6, true)] (.fork 7 [(9, false), (10, true)] .fin 9 [(7, true), (10, true)] .fin)) 8 [(3, false), (4, false), (5, true), (6, true)] (.fork 7 [(9, false), (10, true)] .fin 9 [(7, true), (10, true)] .fin)) 8 [(1, false), (3, false), (4, false), (5, true), (6, true)] (.fork 7 [(9, false), (10, true)] .fin 9 [(7, true), (10, true)] .fin)) (by kernel_rfl) ?_ ?_
          ·intro K hK
           have cJ48 := Ext.refl h26_2
           simp -implicitDefEqProofs (disch := first | decide | assumption | omega) only [go_sem, ld25, BoxAt.cell hb0_0, BoxAt.cell hb0_1, wrap_id]
           refine And.intro ?_ ?_
           ·simp -implicitDefEqProofs (disch := first | decide | assumption | omega) only [go_sem, wrap_id]
            try simp -implicitDefEqProofs (disch := first | decide | assumption | omega) only [go_sem, wrap_id]
            refine CallA.mono (toC_ok _ X _ ⟨_, _, rfl, (RdS.pres hdX (Ext.pres eB)), (RdS.pres hmX (Ext.pres eB))⟩ hMX) ?_
            intro v_ h31_1
            rintro ⟨vd31_1, vm31_1, fd31_1, fm31_1, rfl, hod31_1, hom31_1, hf31_1, e31_1⟩
            replace hod8_4_0 := OS.ext hod8_4_0 e31_1
            replace hoa8_4_0 := OS.ext hoa8_4_0 e31_1
            replace hob8_4_0 := OS.ext hob8_4_0 e31_1
            replace hogd24_2 := OS.ext hogd24_2 e31_1
            replace hoga24_2 := OS.ext hoga24_2 e31_1
            replace hogb24_2 := OS.ext hogb24_2 e31_1
            replace hb0_0 := BoxAt.ext hb0_0 e31_1
            replace hb0_1 := BoxAt.ext hb0_1 e31_1
            replace hb8_8 := BoxAt.ext hb8_8 e31_1
            replace hb11_6 := BoxAt.ext hb11_6 e31_1
            have := Ext.size e31_1
            replace eB := Ext.trans eB e31_1
            replace cJ48 := Ext.trans cJ48 e31_1
            have hfd31_1 := hf31_1.left
            have hfm31_1 := hf31_1.right
            have hlhod31_1 := OS.lt hod31_1
            have hlhom31_1 := OS.lt hom31_1
            have ap49 : Apart fd31_1 fm31_1 := apart_nodup hf31_1
            try simp (disch := decide) only [outv_some, outv_none, put_puts]
            refine plK_pres (Ext.pres e31_1) ?_
            try simp -implicitDefEqProofs (disch := first | decide | assumption | omega) only [go_sem, wrap_id]
            refine And.intro ?_ ?_
            ·simp -implicitDefEqProofs (disch := first | decide | assumption | omega) only [go_sem, wrap_id]
             try simp -implicitDefEqProofs (disch := first | decide | assumption | omega) only [go_sem, wrap_id]
             refine CallA.mono (toC_ok _ Y _ ⟨_, _, rfl, (RdS.pres hdY (Ext.pres eB)), (RdS.pres hmY (Ext.pres eB))⟩ hMY) ?_
             intro v_ h31_3
             rintro ⟨vd31_3, vm31_3, fd31_3, fm31_3, rfl, hod31_3, hom31_3, hf31_3, e31_3⟩
             replace hod8_4_0 := OS.ext hod8_4_0 e31_3
             replace hoa8_4_0 := OS.ext hoa8_4_0 e31_3
             replace hob8_4_0 := OS.ext hob8_4_0 e31_3
             replace hogd24_2 := OS.ext hogd24_2 e31_3
             replace hoga24_2 := OS.ext hoga24_2 e31_3
             replace hogb24_2 := OS.ext hogb24_2 e31_3
             replace hod31_1 := OS.ext hod31_1 e31_3
             replace hom31_1 := OS.ext hom31_1 e31_3
             replace hb0_0 := BoxAt.ext hb0_0 e31_3
             replace hb0_1 := BoxAt.ext hb0_1 e31_3
             replace hb8_8 := BoxAt.ext hb8_8 e31_3
             replace hb11_6 := BoxAt.ext hb11_6 e31_3
             have := Ext.size e31_3
             replace eB := Ext.trans eB e31_3
             replace cJ48 := Ext.trans cJ48 e31_3
             have hfd31_3 := hf31_3.left
             have hfm31_3 := hf31_3.right
             have hlhod31_3 := OS.lt hod31_3
             have hlhom31_3 := OS.lt hom31_3
             have ap50 : Apart fd31_3 fm31_3 := apart_nodup hf31_3
             try simp (disch := decide) only [outv_some, outv_none, put_puts]
             refine plK_pres (Ext.pres e31_3) ?_
             try simp -implicitDefEqProofs (disch := first | decide | assumption | omega) only [go_sem, wrap_id]
             refine And.intro ?_ ?_
             ·simp -implicitDefEqProofs (disch := first | decide | assumption | omega) only [go_sem, wrap_id]
              try simp -implicitDefEqProofs (disch := first | decide | assumption | omega) only [go_sem, wrap_id]
              refine CallA.mono (iPD_ok _ _ X Y _ ⟨_, _, rfl, (OS.rd hod31_1), (OS.rd hom31_1)⟩ ⟨_, _, rfl, (OS.rd hod31_3), (OS.rd hom31_3)⟩ ) ?_
              intro v_ h31_4
              rintro ⟨vd31_4_0, va31_4_0, vb31_4_0, fd31_4_0, fa31_4_0, fb31_4_0, rfl, hod31_4_0, hoa31_4_0, hob31_4_0, hf31_4_0, e31_4⟩
              replace hod8_4_0 := OS.ext hod8_4_0 e31_4
              replace hoa8_4_0 := OS.ext hoa8_4_0 e31_4
              replace hob8_4_0 := OS.ext hob8_4_0 e31_4
              replace hogd24_2 := OS.ext hogd24_2 e31_4
              replace hoga24_2 := OS.ext hoga24_2 e31_4
              replace hogb24_2 := OS.ext hogb24_2 e31_4
              replace hod31_1 := OS.ext hod31_1 e31_4
              replace hom31_1 := OS.ext hom31_1 e31_4
              replace hod31_3 := OS.ext hod31_3 e31_4
              replace hom31_3 := OS.ext hom31_3 e31_4
              replace hb0_0 := BoxAt.ext hb0_0 e31_4
              replace hb0_1 := BoxAt.ext hb0_1 e31_4
              replace hb8_8 := BoxAt.ext hb8_8 e31_4
              replace hb11_6 := BoxAt.ext hb11_6 e31_4
              have := Ext.size e31_4
              replace eB := Ext.trans eB e31_4
              replace cJ48 := Ext.trans cJ48 e31_4
              have hfd31_4_0 := hf31_4_0.left
              have hf31_4_0r0 := hf31_4_0.right
              have hfa31_4_0 := hf31_4_0r0.left
              have hfb31_4_0 := hf31_4_0r0.right
              have hlhod31_4_0 := OS.lt hod31_4_0
              have hlhoa31_4_0 := OS.lt hoa31_4_0
              have hlhob31_4_0 := OS.lt hob31_4_0
              have ap51 : Apart fd31_4_0 fa31_4_0 := Apart.lft (apart_nodup hf31_4_0)
              have ap52 : Apart fd31_4_0 fb31_4_0 := Apart.rgt (apart_nodup hf31_4_0)
              have ap53 : Apart fa31_4_0 fb31_4_0 := apart_nodup hf31_4_0r0
              try simp (disch := decide) only [outv_some, outv_none, put_puts]
              refine plK_pres (Ext.pres e31_4) ?_
              try simp -implicitDefEqProofs (disch := first | decide | assumption | omega) only [go_sem, wrap_id]
              refine And.intro ?_ ?_
              ·simp -implicitDefEqProofs (disch := first | decide | assumption | omega) only [go_sem, wrap_id]
               refine op_alloc (cs := #[.int .i64 0, .slice none 0 0, .slice none 0 0, .slice none 0 0]) (by kernel_rfl) ?_
               intro h31_8 e31_8 hb31_8 z31_8
               replace hod8_4_0 := OS.ext hod8_4_0 e31_8
               replace hoa8_4_0 := OS.ext hoa8_4_0 e31_8
               replace hob8_4_0 := OS.ext hob8_4_0 e31_8
               replace hogd24_2 := OS.ext hogd24_2 e31_8
               replace hoga24_2 := OS.ext hoga24_2 e31_8
               replace hogb24_2 := OS.ext hogb24_2 e31_8
               replace hod31_1 := OS.ext hod31_1 e31_8
               replace hom31_1 := OS.ext hom31_1 e31_8
               replace hod31_3 := OS.ext hod31_3 e31_8
               replace hom31_3 := OS.ext hom31_3 e31_8
               replace hod31_4_0 := OS.ext hod31_4_0 e31_8
               replace hoa31_4_0 := OS.ext hoa31_4_0 e31_8
               replace hob31_4_0 := OS.ext hob31_4_0 e31_8
               replace hb0_0 := BoxAt.ext hb0_0 e31_8
               replace hb0_1 := BoxAt.ext hb0_1 e31_8
               replace hb8_8 := BoxAt.ext hb8_8 e31_8
               replace hb11_6 := BoxAt.ext hb11_6 e31_8
               have := Ext.size e31_8
               replace eB := Ext.trans eB e31_8
               replace cJ48 := Ext.trans cJ48 e31_8
               have hfhb31_8 : Fresh h31_4.size [h31_4.size] := Fresh.one _
               have hlhb31_8 := one_lt (show h31_4.size < h31_8.size by omega)
               try simp (disch := decide) only [outv_some, outv_none, put_puts]
               refine plK_pres (Ext.pres e31_8) ?_
               try simp -implicitDefEqProofs (disch := first | decide | assumption | omega) only [go_sem, wrap_id]
               refine op_storeB (cs' := #[.int .i64 ((((pdP X Y).1).p)), vd31_4_0, va31_4_0, vb31_4_0]) st30 hb31_8 rfl rfl rfl (by simp) (allOne_mem (l := [.int .i64 ((((pdP X Y).1).p)), vd31_4_0, va31_4_0, vb31_4_0]) ⟨rfl, (OS.one hod31_4_0).1, (OS.one hoa31_4_0).1, (OS.one hob31_4_0).1, trivial⟩) rfl ?_
               intro h31_9 hb31_8 c31_9
               replace hod8_4_0 := OS.chg hod8_4_0 c31_9 (apart_lt hlhod8_4_0 hfhb31_8 (by omega))
               replace hoa8_4_0 := OS.chg hoa8_4_0 c31_9 (apart_lt hlhoa8_4_0 hfhb31_8 (by omega))
               replace hob8_4_0 := OS.chg hob8_4_0 c31_9 (apart_lt hlhob8_4_0 hfhb31_8 (by omega))
               replace hogd24_2 := OS.chg hogd24_2 c31_9 (apart_lt hlhogd24_2 hfhb31_8 (by omega))
               replace hoga24_2 := OS.chg hoga24_2 c31_9 (apart_lt hlhoga24_2 hfhb31_8 (by omega))
               replace hogb24_2 := OS.chg hogb24_2 c31_9 (apart_lt hlhogb24_2 hfhb31_8 (by omega))
               replace hod31_1 := OS.chg hod31_1 c31_9 (apart_lt hlhod31_1 hfhb31_8 (by omega))
               replace hom31_1 := OS.chg hom31_1 c31_9 (apart_lt hlhom31_1 hfhb31_8 (by omega))
               replace hod31_3 := OS.chg hod31_3 c31_9 (apart_lt hlhod31_3 hfhb31_8 (by omega))
               replace hom31_3 := OS.chg hom31_3 c31_9 (apart_lt hlhom31_3 hfhb31_8 (by omega))
               replace hod31_4_0 := OS.chg hod31_4_0 c31_9 (apart_lt hlhod31_4_0 hfhb31_8 (by omega))
               replace hoa31_4_0 := OS.chg hoa31_4_0 c31_9 (apart_lt hlhoa31_4_0 hfhb31_8 (by omega))
               replace hob31_4_0 := OS.chg hob31_4_0 c31_9 (apart_lt hlhob31_4_0 hfhb31_8 (by omega))
               replace hb0_0 := BoxAt.chgA hb0_0 c31_9 (apart_lt hlhb0_0 hfhb31_8 (by omega))
               replace hb0_1 := BoxAt.chgA hb0_1 c31_9 (apart_lt hlhb0_1 hfhb31_8 (by omega))
               replace hb8_8 := BoxAt.chgA hb8_8 c31_9 (apart_lt hlhb8_8 hfhb31_8 (by omega))
               replace hb11_6 := BoxAt.chgA hb11_6 c31_9 (apart_lt hlhb11_6 hfhb31_8 (by omega))
               have := c31_9.size
               replace eB := Ext.then eB c31_9 (ge_of hfhb31_8 (by omega))
               replace cJ48 := Ext.then cJ48 c31_9 (ge_of hfhb31_8 (by omega))
               try simp (disch := decide) only [outv_some, outv_none, put_puts]
               refine plK_last (by decide) ?_
               try simp -implicitDefEqProofs (disch := first | decide | assumption | omega) only [go_sem, wrap_id]
               exact hK (vd31_4_0, fd31_4_0, va31_4_0, fa31_4_0, vb31_4_0, fb31_4_0, h31_4.size) _ _ (by simp [HasL, puts_at]) ⟨hod31_4_0, (hfd31_4_0.mono (by omega)), hoa31_4_0, (hfa31_4_0.mono (by omega)), hob31_4_0, (hfb31_4_0.mono (by omega)), hb31_8, (hfhb31_8.mono (by omega)), ap51, ap52, (apart_lt hlhod31_4_0 hfhb31_8 (by omega)), ap53, (apart_lt hlhoa31_4_0 hfhb31_8 (by omega)), (apart_lt hlhob31_4_0 hfhb31_8 (by omega)), cJ48⟩
              ·simp -implicitDefEqProofs (disch := first | decide | assumption | omega) only [go_sem, wrap_id]
               refine op_alloc (cs := #[.int .i64 0, .slice none 0 0, .slice none 0 0, .slice none 0 0]) (by kernel_rfl) ?_
               intro h31_8 e31_8 hb31_8 z31_8
               replace hod8_4_0 := OS.ext hod8_4_0 e31_8
               replace hoa8_4_0 := OS.ext hoa8_4_0 e31_8
               replace hob8_4_0 := OS.ext hob8_4_0 e31_8
               replace hogd24_2 := OS.ext hogd24_2 e31_8
               replace hoga24_2 := OS.ext hoga24_2 e31_8
               replace hogb24_2 := OS.ext hogb24_2 e31_8
               replace hod31_1 := OS.ext hod31_1 e31_8
               replace hom31_1 := OS.ext hom31_1 e31_8
               replace hod31_3 := OS.ext hod31_3 e31_8
               replace hom31_3 := OS.ext hom31_3 e31_8
               replace hod31_4_0 := OS.ext hod31_4_0 e31_8
               replace hoa31_4_0 := OS.ext hoa31_4_0 e31_8
               replace hob31_4_0 := OS.ext hob31_4_0 e31_8
               replace hb0_0 := BoxAt.ext hb0_0 e31_8
               replace hb0_1 := BoxAt.ext hb0_1 e31_8
               replace hb8_8 := BoxAt.ext hb8_8 e31_8
               replace hb11_6 := BoxAt.ext hb11_6 e31_8
               have := Ext.size e31_8
               replace eB := Ext.trans eB e31_8
               replace cJ48 := Ext.trans cJ48 e31_8
               have hfhb31_8 : Fresh h31_4.size [h31_4.size] := Fresh.one _
               have hlhb31_8 := one_lt (show h31_4.size < h31_8.size by omega)
               try simp (disch := decide) only [outv_some, outv_none, put_puts]
               refine plK_pres (Ext.pres e31_8) ?_
               try simp -implicitDefEqProofs (disch := first | decide | assumption | omega) only [go_sem, wrap_id]
               refine And.intro ?_ ?_
               ·simp -implicitDefEqProofs (disch := first | decide | assumption | omega) only [go_sem, wrap_id]
                refine op_storeB (cs' := #[.int .i64 ((((pdP X Y).1).p)), vd31_4_0, va31_4_0, vb31_4_0]) st30 hb31_8 rfl rfl rfl (by simp) (allOne_mem (l := [.int .i64 ((((pdP X Y).1).p)), vd31_4_0, va31_4_0, vb31_4_0]) ⟨rfl, (OS.one hod31_4_0).1, (OS.one hoa31_4_0).1, (OS.one hob31_4_0).1, trivial⟩) rfl ?_
                intro h31_9 hb31_8 c31_9
                replace hod8_4_0 := OS.chg hod8_4_0 c31_9 (apart_lt hlhod8_4_0 hfhb31_8 (by omega))
                replace hoa8_4_0 := OS.chg hoa8_4_0 c31_9 (apart_lt hlhoa8_4_0 hfhb31_8 (by omega))
                replace hob8_4_0 := OS.chg hob8_4_0 c31_9 (apart_lt hlhob8_4_0 hfhb31_8 (by omega))
                replace hogd24_2 := OS.chg hogd24_2 c31_9 (apart_lt hlhogd24_2 hfhb31_8 (by omega))
                replace hoga24_2 := OS.chg hoga24_2 c31_9 (apart_lt hlhoga24_2 hfhb31_8 (by omega))
                replace hogb24_2 := OS.chg hogb24_2 c31_9 (apart_lt hlhogb24_2 hfhb31_8 (by omega))
                replace hod31_1 := OS.chg hod31_1 c31_9 (apart_lt hlhod31_1 hfhb31_8 (by omega))
                replace hom31_1 := OS.chg hom31_1 c31_9 (apart_lt hlhom31_1 hfhb31_8 (by omega))
                replace hod31_3 := OS.chg hod31_3 c31_9 (apart_lt hlhod31_3 hfhb31_8 (by omega))
                replace hom31_3 := OS.chg hom31_3 c31_9 (apart_lt hlhom31_3 hfhb31_8 (by omega))
                replace hod31_4_0 := OS.chg hod31_4_0 c31_9 (apart_lt hlhod31_4_0 hfhb31_8 (by omega))
                replace hoa31_4_0 := OS.chg hoa31_4_0 c31_9 (apart_lt hlhoa31_4_0 hfhb31_8 (by omega))
                replace hob31_4_0 := OS.chg hob31_4_0 c31_9 (apart_lt hlhob31_4_0 hfhb31_8 (by omega))
                replace hb0_0 := BoxAt.chgA hb0_0 c31_9 (apart_lt hlhb0_0 hfhb31_8 (by omega))
                replace hb0_1 := BoxAt.chgA hb0_1 c31_9 (apart_lt hlhb0_1 hfhb31_8 (by omega))
                replace hb8_8 := BoxAt.chgA hb8_8 c31_9 (apart_lt hlhb8_8 hfhb31_8 (by omega))
                replace hb11_6 := BoxAt.chgA hb11_6 c31_9 (apart_lt hlhb11_6 hfhb31_8 (by omega))
                have := c31_9.size
                replace eB := Ext.then eB c31_9 (ge_of hfhb31_8 (by omega))
                replace cJ48 := Ext.then cJ48 c31_9 (ge_of hfhb31_8 (by omega))
                try simp (disch := decide) only [outv_some, outv_none, put_puts]
                refine plK_last (by decide) ?_
                try simp -implicitDefEqProofs (disch := first | decide | assumption | omega) only [go_sem, wrap_id]
                exact hK (vd31_4_0, fd31_4_0, va31_4_0, fa31_4_0, vb31_4_0, fb31_4_0, h31_4.size) _ _ (by simp [HasL, puts_at]) ⟨hod31_4_0, (hfd31_4_0.mono (by omega)), hoa31_4_0, (hfa31_4_0.mono (by omega)), hob31_4_0, (hfb31_4_0.mono (by omega)), hb31_8, (hfhb31_8.mono (by omega)), ap51, ap52, (apart_lt hlhod31_4_0 hfhb31_8 (by omega)), ap53, (apart_lt hlhoa31_4_0 hfhb31_8 (by omega)), (apart_lt hlhob31_4_0 hfhb31_8 (by omega)), cJ48⟩
               ·simp -implicitDefEqProofs (disch := first | decide | assumption | omega) only [go_sem, wrap_id]
                refine op_storeB (cs' := #[.int .i64 ((((pdP X Y).1).p)), vd31_4_0, va31_4_0, vb31_4_0]) st30 hb31_8 rfl rfl rfl (by simp) (allOne_mem (l := [.int .i64 ((((pdP X Y).1).p)), vd31_4_0, va31_4_0, vb31_4_0]) ⟨rfl, (OS.one hod31_4_0).1, (OS.one hoa31_4_0).1, (OS.one hob31_4_0).1, trivial⟩) rfl ?_
                intro h31_9 hb31_8 c31_9
                replace hod8_4_0 := OS.chg hod8_4_0 c31_9 (apart_lt hlhod8_4_0 hfhb31_8 (by omega))
                replace hoa8_4_0 := OS.chg hoa8_4_0 c31_9 (apart_lt hlhoa8_4_0 hfhb31_8 (by omega))
                replace hob8_4_0 := OS.chg hob8_4_0 c31_9 (apart_lt hlhob8_4_0 hfhb31_8 (by omega))
                replace hogd24_2 := OS.chg hogd24_2 c31_9 (apart_lt hlhogd24_2 hfhb31_8 (by omega))
                replace hoga24_2 := OS.chg hoga24_2 c31_9 (apart_lt hlhoga24_2 hfhb31_8 (by omega))
                replace hogb24_2 := OS.chg hogb24_2 c31_9 (apart_lt hlhogb24_2 hfhb31_8 (by omega))
                replace hod31_1 := OS.chg hod31_1 c31_9 (apart_lt hlhod31_1 hfhb31_8 (by omega))
                replace hom31_1 := OS.chg hom31_1 c31_9 (apart_lt hlhom31_1 hfhb31_8 (by omega))
                replace hod31_3 := OS.chg hod31_3 c31_9 (apart_lt hlhod31_3 hfhb31_8 (by omega))
                replace hom31_3 := OS.chg hom31_3 c31_9 (apart_lt hlhom31_3 hfhb31_8 (by omega))
                replace hod31_4_0 := OS.chg hod31_4_0 c31_9 (apart_lt hlhod31_4_0 hfhb31_8 (by omega))
                replace hoa31_4_0 := OS.chg hoa31_4_0 c31_9 (apart_lt hlhoa31_4_0 hfhb31_8 (by omega))
                replace hob31_4_0 := OS.chg hob31_4_0 c31_9 (apart_lt hlhob31_4_0 hfhb31_8 (by omega))
                replace hb0_0 := BoxAt.chgA hb0_0 c31_9 (apart_lt hlhb0_0 hfhb31_8 (by omega))
                replace hb0_1 := BoxAt.chgA hb0_1 c31_9 (apart_lt hlhb0_1 hfhb31_8 (by omega))
                replace hb8_8 := BoxAt.chgA hb8_8 c31_9 (apart_lt hlhb8_8 hfhb31_8 (by omega))
                replace hb11_6 := BoxAt.chgA hb11_6 c31_9 (apart_lt hlhb11_6 hfhb31_8 (by omega))
                have := c31_9.size
                replace eB := Ext.then eB c31_9 (ge_of hfhb31_8 (by omega))
                replace cJ48 := Ext.then cJ48 c31_9 (ge_of hfhb31_8 (by omega))
                try simp (disch := decide) only [outv_some, outv_none, put_puts]
                refine plK_last (by decide) ?_
                try simp -implicitDefEqProofs (disch := first | decide | assumption | omega) only [go_sem, wrap_id]
                exact hK (vd31_4_0, fd31_4_0, va31_4_0, fa31_4_0, vb31_4_0, fb31_4_0, h31_4.size) _ _ (by simp [HasL, puts_at]) ⟨hod31_4_0, (hfd31_4_0.mono (by omega)), hoa31_4_0, (hfa31_4_0.mono (by omega)), hob31_4_0, (hfb31_4_0.mono (by omega)), hb31_8, (hfhb31_8.mono (by omega)), ap51, ap52, (apart_lt hlhod31_4_0 hfhb31_8 (by omega)), ap53, (apart_lt hlhoa31_4_0 hfhb31_8 (by omega)), (apart_lt hlhob31_4_0 hfhb31_8 (by omega)), cJ48⟩
             ·simp -implicitDefEqProofs (disch := first | decide | assumption | omega) only [go_sem, wrap_id]
              refine op_alloc (cs := #[.int .i64 0, .slice none 0 0, .slice none 0 0, .slice none 0 0]) (by kernel_rfl) ?_
              intro h31_8 e31_8 hb31_8 z31_8
              replace hod8_4_0 := OS.ext hod8_4_0 e31_8
              replace hoa8_4_0 := OS.ext hoa8_4_0 e31_8
              replace hob8_4_0 := OS.ext hob8_4_0 e31_8
              replace hogd24_2 := OS.ext hogd24_2 e31_8
              replace hoga24_2 := OS.ext hoga24_2 e31_8
              replace hogb24_2 := OS.ext hogb24_2 e31_8
              replace hod31_1 := OS.ext hod31_1 e31_8
              replace hom31_1 := OS.ext hom31_1 e31_8
              replace hod31_3 := OS.ext hod31_3 e31_8
              replace hom31_3 := OS.ext hom31_3 e31_8
              replace hb0_0 := BoxAt.ext hb0_0 e31_8
              replace hb0_1 := BoxAt.ext hb0_1 e31_8
              replace hb8_8 := BoxAt.ext hb8_8 e31_8
              replace hb11_6 := BoxAt.ext hb11_6 e31_8
              have := Ext.size e31_8
              replace eB := Ext.trans eB e31_8
              replace cJ48 := Ext.trans cJ48 e31_8
              have hfhb31_8 : Fresh h31_3.size [h31_3.size] := Fresh.one _
              have hlhb31_8 := one_lt (show h31_3.size < h31_8.size by omega)
              try simp (disch := decide) only [outv_some, outv_none, put_puts]
              refine plK_pres (Ext.pres e31_8) ?_
              try simp -implicitDefEqProofs (disch := first | decide | assumption | omega) only [go_sem, wrap_id]
              try simp -implicitDefEqProofs (disch := first | decide | assumption | omega) only [go_sem, wrap_id]
              refine CallA.mono (iPD_ok _ _ X Y _ ⟨_, _, rfl, (OS.rd hod31_1), (OS.rd hom31_1)⟩ ⟨_, _, rfl, (OS.rd hod31_3), (OS.rd hom31_3)⟩ ) ?_
              intro v_ h31_4
              rintro ⟨vd31_4_0, va31_4_0, vb31_4_0, fd31_4_0, fa31_4_0, fb31_4_0, rfl, hod31_4_0, hoa31_4_0, hob31_4_0, hf31_4_0, e31_4⟩
              replace hod8_4_0 := OS.ext hod8_4_0 e31_4
              replace hoa8_4_0 := OS.ext hoa8_4_0 e31_4
              replace hob8_4_0 := OS.ext hob8_4_0 e31_4
              replace hogd24_2 := OS.ext hogd24_2 e31_4
              replace hoga24_2 := OS.ext hoga24_2 e31_4
              replace hogb24_2 := OS.ext hogb24_2 e31_4
              replace hod31_1 := OS.ext hod31_1 e31_4
              replace hom31_1 := OS.ext hom31_1 e31_4
              replace hod31_3 := OS.ext hod31_3 e31_4
              replace hom31_3 := OS.ext hom31_3 e31_4
              replace hb0_0 := BoxAt.ext hb0_0 e31_4
              replace hb0_1 := BoxAt.ext hb0_1 e31_4
              replace hb8_8 := BoxAt.ext hb8_8 e31_4
              replace hb11_6 := BoxAt.ext hb11_6 e31_4
              replace hb31_8 := BoxAt.ext hb31_8 e31_4
              have := Ext.size e31_4
              replace eB := Ext.trans eB e31_4
              replace cJ48 := Ext.trans cJ48 e31_4
              have hfd31_4_0 := hf31_4_0.left
              have hf31_4_0r0 := hf31_4_0.right
              have hfa31_4_0 := hf31_4_0r0.left
              have hfb31_4_0 := hf31_4_0r0.right
              have hlhod31_4_0 := OS.lt hod31_4_0
              have hlhoa31_4_0 := OS.lt hoa31_4_0
              have hlhob31_4_0 := OS.lt hob31_4_0
              have ap54 : Apart fd31_4_0 fa31_4_0 := Apart.lft (apart_nodup hf31_4_0)
              have ap55 : Apart fd31_4_0 fb31_4_0 := Apart.rgt (apart_nodup hf31_4_0)
              have ap56 : Apart fa31_4_0 fb31_4_0 := apart_nodup hf31_4_0r0
              try simp (disch := decide) only [outv_some, outv_none, put_puts]
              refine plK_pres (Ext.pres e31_4) ?_
              try simp -implicitDefEqProofs (disch := first | decide | assumption | omega) only [go_sem, wrap_id]
              refine And.intro ?_ ?_
              ·simp -implicitDefEqProofs (disch := first | decide | assumption | omega) only [go_sem, wrap_id]
               refine op_storeB (cs' := #[.int .i64 ((((pdP X Y).1).p)), vd31_4_0, va31_4_0, vb31_4_0]) st30 hb31_8 rfl rfl rfl (by simp) (allOne_mem (l := [.int .i64 ((((pdP X Y).1).p)), vd31_4_0, va31_4_0, vb31_4_0]) ⟨rfl, (OS.one hod31_4_0).1, (OS.one hoa31_4_0).1, (OS.one hob31_4_0).1, trivial⟩) rfl ?_
               intro h31_9 hb31_8 c31_9
               replace hod8_4_0 := OS.chg hod8_4_0 c31_9 (apart_lt hlhod8_4_0 hfhb31_8 (by omega))
               replace hoa8_4_0 := OS.chg hoa8_4_0 c31_9 (apart_lt hlhoa8_4_0 hfhb31_8 (by omega))
               replace hob8_4_0 := OS.chg hob8_4_0 c31_9 (apart_lt hlhob8_4_0 hfhb31_8 (by omega))
               replace hogd24_2 := OS.chg hogd24_2 c31_9 (apart_lt hlhogd24_2 hfhb31_8 (by omega))
               replace hoga24_2 := OS.chg hoga24_2 c31_9 (apart_lt hlhoga24_2 hfhb31_8 (by omega))
               replace hogb24_2 := OS.chg hogb24_2 c31_9 (apart_lt hlhogb24_2 hfhb31_8 (by omega))
               replace hod31_1 := OS.chg hod31_1 c31_9 (apart_lt hlhod31_1 hfhb31_8 (by omega))
               replace hom31_1 := OS.chg hom31_1 c31_9 (apart_lt hlhom31_1 hfhb31_8 (by omega))
               replace hod31_3 := OS.chg hod31_3 c31_9 (apart_lt hlhod31_3 hfhb31_8 (by omega))
               replace hom31_3 := OS.chg hom31_3 c31_9 (apart_lt hlhom31_3 hfhb31_8 (by omega))
               replace hod31_4_0 := OS.chg hod31_4_0 c31_9 (apart_gt hfd31_4_0 hlhb31_8 (by omega))
               replace hoa31_4_0 := OS.chg hoa31_4_0 c31_9 (apart_gt hfa31_4_0 hlhb31_8 (by omega))
               replace hob31_4_0 := OS.chg hob31_4_0 c31_9 (apart_gt hfb31_4_0 hlhb31_8 (by omega))
               replace hb0_0 := BoxAt.chgA hb0_0 c31_9 (apart_lt hlhb0_0 hfhb31_8 (by omega))
               replace hb0_1 := BoxAt.chgA hb0_1 c31_9 (apart_lt hlhb0_1 hfhb31_8 (by omega))
               replace hb8_8 := BoxAt.chgA hb8_8 c31_9 (apart_lt hlhb8_8 hfhb31_8 (by omega))
               replace hb11_6 := BoxAt.chgA hb11_6 c31_9 (apart_lt hlhb11_6 hfhb31_8 (by omega))
               have := c31_9.size
               replace eB := Ext.then eB c31_9 (ge_of hfhb31_8 (by omega))
               replace cJ48 := Ext.then cJ48 c31_9 (ge_of hfhb31_8 (by omega))
               try simp (disch := decide) only [outv_some, outv_none, put_puts]
               refine plK_last (by decide) ?_
               try simp -implicitDefEqProofs (disch := first | decide | assumption | omega) only [go_sem, wrap_id]
               exact hK (vd31_4_0, fd31_4_0, va31_4_0, fa31_4_0, vb31_4_0, fb31_4_0, h31_3.size) _ _ (by simp [HasL, puts_at]) ⟨hod31_4_0, (hfd31_4_0.mono (by omega)), hoa31_4_0, (hfa31_4_0.mono (by omega)), hob31_4_0, (hfb31_4_0.mono (by omega)), hb31_8, (hfhb31_8.mono (by omega)), ap54, ap55, (apart_gt hfd31_4_0 hlhb31_8 (by omega)), ap56, (apart_gt hfa31_4_0 hlhb31_8 (by omega)), (apart_gt hfb31_4_0 hlhb31_8 (by omega)), cJ48⟩
              ·simp -implicitDefEqProofs (disch := first | decide | assumption | omega) only [go_sem, wrap_id]
               refine op_storeB (cs' := #[.int .i64 ((((pdP X Y).1).p)), vd31_4_0, va31_4_0, vb31_4_0]) st30 hb31_8 rfl rfl rfl (by simp) (allOne_mem (l := [.int .i64 ((((pdP X Y).1).p)), vd31_4_0, va31_4_0, vb31_4_0]) ⟨rfl, (OS.one hod31_4_0).1, (OS.one hoa31_4_0).1, (OS.one hob31_4_0).1, trivial⟩) rfl ?_
               intro h31_9 hb31_8 c31_9
               replace hod8_4_0 := OS.chg hod8_4_0 c31_9 (apart_lt hlhod8_4_0 hfhb31_8 (by omega))
               replace hoa8_4_0 := OS.chg hoa8_4_0 c31_9 (apart_lt hlhoa8_4_0 hfhb31_8 (by omega))
               replace hob8_4_0 := OS.chg hob8_4_0 c31_9 (apart_lt hlhob8_4_0 hfhb31_8 (by omega))
               replace hogd24_2 := OS.chg hogd24_2 c31_9 (apart_lt hlhogd24_2 hfhb31_8 (by omega))
               replace hoga24_2 := OS.chg hoga24_2 c31_9 (apart_lt hlhoga24_2 hfhb31_8 (by omega))
               replace hogb24_2 := OS.chg hogb24_2 c31_9 (apart_lt hlhogb24_2 hfhb31_8 (by omega))
               replace hod31_1 := OS.chg hod31_1 c31_9 (apart_lt hlhod31_1 hfhb31_8 (by omega))
               replace hom31_1 := OS.chg hom31_1 c31_9 (apart_lt hlhom31_1 hfhb31_8 (by omega))
               replace hod31_3 := OS.chg hod31_3 c31_9 (apart_lt hlhod31_3 hfhb31_8 (by omega))
               replace hom31_3 := OS.chg hom31_3 c31_9 (apart_lt hlhom31_3 hfhb31_8 (by omega))
               replace hod31_4_0 := OS.chg hod31_4_0 c31_9 (apart_gt hfd31_4_0 hlhb31_8 (by omega))
               replace hoa31_4_0 := OS.chg hoa31_4_0 c31_9 (apart_gt hfa31_4_0 hlhb31_8 (by omega))
               replace hob31_4_0 := OS.chg hob31_4_0 c31_9 (apart_gt hfb31_4_0 hlhb31_8 (by omega))
               replace hb0_0 := BoxAt.chgA hb0_0 c31_9 (apart_lt hlhb0_0 hfhb31_8 (by omega))
               replace hb0_1 := BoxAt.chgA hb0_1 c31_9 (apart_lt hlhb0_1 hfhb31_8 (by omega))
               replace hb8_8 := BoxAt.chgA hb8_8 c31_9 (apart_lt hlhb8_8 hfhb31_8 (by omega))
               replace hb11_6 := BoxAt.chgA hb11_6 c31_9 (apart_lt hlhb11_6 hfhb31_8 (by omega))
               have := c31_9.size
               replace eB := Ext.then eB c31_9 (ge_of hfhb31_8 (by omega))
               replace cJ48 := Ext.then cJ48 c31_9 (ge_of hfhb31_8 (by omega))
               try simp (disch := decide) only [outv_some, outv_none, put_puts]
               refine plK_last (by decide) ?_
               try simp -implicitDefEqProofs (disch := first | decide | assumption | omega) only [go_sem, wrap_id]
               exact hK (vd31_4_0, fd31_4_0, va31_4_0, fa31_4_0, vb31_4_0, fb31_4_0, h31_3.size) _ _ (by simp [HasL, puts_at]) ⟨hod31_4_0, (hfd31_4_0.mono (by omega)), hoa31_4_0, (hfa31_4_0.mono (by omega)), hob31_4_0, (hfb31_4_0.mono (by omega)), hb31_8, (hfhb31_8.mono (by omega)), ap54, ap55, (apart_gt hfd31_4_0 hlhb31_8 (by omega)), ap56, (apart_gt hfa31_4_0 hlhb31_8 (by omega)), (apart_gt hfb31_4_0 hlhb31_8 (by omega)), cJ48⟩
            ·simp -implicitDefEqProofs (disch := first | decide | assumption | omega) only [go_sem, wrap_id]
             refine op_alloc (cs := #[.int .i64 0, .slice none 0 0, .slice none 0 0, .slice none 0 0]) (by kernel_rfl) ?_
             intro h31_8 e31_8 hb31_8 z31_8
             replace hod8_4_0 := OS.ext hod8_4_0 e31_8
             replace hoa8_4_0 := OS.ext hoa8_4_0 e31_8
             replace hob8_4_0 := OS.ext hob8_4_0 e31_8
             replace hogd24_2 := OS.ext hogd24_2 e31_8
             replace hoga24_2 := OS.ext hoga24_2 e31_8
             replace hogb24_2 := OS.ext hogb24_2 e31_8
             replace hod31_1 := OS.ext hod31_1 e31_8
             replace hom31_1 := OS.ext hom31_1 e31_8
             replace hb0_0 := BoxAt.ext hb0_0 e31_8
             replace hb0_1 := BoxAt.ext hb0_1 e31_8
             replace hb8_8 := BoxAt.ext hb8_8 e31_8
             replace hb11_6 := BoxAt.ext hb11_6 e31_8
             have := Ext.size e31_8
             replace eB := Ext.trans eB e31_8
             replace cJ48 := Ext.trans cJ48 e31_8
             have hfhb31_8 : Fresh h31_1.size [h31_1.size] := Fresh.one _
             have hlhb31_8 := one_lt (show h31_1.size < h31_8.size by omega)
             try simp (disch := decide) only [outv_some, outv_none, put_puts]
             refine plK_pres (Ext.pres e31_8) ?_
             try simp -implicitDefEqProofs (disch := first | decide | assumption | omega) only [go_sem, wrap_id]
             try simp -implicitDefEqProofs (disch := first | decide | assumption | omega) only [go_sem, wrap_id]
             refine CallA.mono (toC_ok _ Y _ ⟨_, _, rfl, (RdS.pres hdY (Ext.pres eB)), (RdS.pres hmY (Ext.pres eB))⟩ hMY) ?_
             intro v_ h31_3
             rintro ⟨vd31_3, vm31_3, fd31_3, fm31_3, rfl, hod31_3, hom31_3, hf31_3, e31_3⟩
             replace hod8_4_0 := OS.ext hod8_4_0 e31_3
             replace hoa8_4_0 := OS.ext hoa8_4_0 e31_3
             replace hob8_4_0 := OS.ext hob8_4_0 e31_3
             replace hogd24_2 := OS.ext hogd24_2 e31_3
             replace hoga24_2 := OS.ext hoga24_2 e31_3
             replace hogb24_2 := OS.ext hogb24_2 e31_3
             replace hod31_1 := OS.ext hod31_1 e31_3
             replace hom31_1 := OS.ext hom31_1 e31_3
             replace hb0_0 := BoxAt.ext hb0_0 e31_3
             replace hb0_1 := BoxAt.ext hb0_1 e31_3
             replace hb8_8 := BoxAt.ext hb8_8 e31_3
             replace hb11_6 := BoxAt.ext hb11_6 e31_3
             replace hb31_8 := BoxAt.ext hb31_8 e31_3
             have := Ext.size e31_3
             replace eB := Ext.trans eB e31_3
             replace cJ48 := Ext.trans cJ48 e31_3
             have hfd31_3 := hf31_3.left
             have hfm31_3 := hf31_3.right
             have hlhod31_3 := OS.lt hod31_3
             have hlhom31_3 := OS.lt hom31_3
             have ap57 : Apart fd31_3 fm31_3 := apart_nodup hf31_3
             try simp (disch := decide) only [outv_some, outv_none, put_puts]
             refine plK_pres (Ext.pres e31_3) ?_
             try simp -implicitDefEqProofs (disch := first | decide | assumption | omega) only [go_sem, wrap_id]
             try simp -implicitDefEqProofs (disch := first | decide | assumption | omega) only [go_sem, wrap_id]
             refine CallA.mono (iPD_ok _ _ X Y _ ⟨_, _, rfl, (OS.rd hod31_1), (OS.rd hom31_1)⟩ ⟨_, _, rfl, (OS.rd hod31_3), (OS.rd hom31_3)⟩ ) ?_
             intro v_ h31_4
             rintro ⟨vd31_4_0, va31_4_0, vb31_4_0, fd31_4_0, fa31_4_0, fb31_4_0, rfl, hod31_4_0, hoa31_4_0, hob31_4_0, hf31_4_0, e31_4⟩
             replace hod8_4_0 := OS.ext hod8_4_0 e31_4
             replace hoa8_4_0 := OS.ext hoa8_4_0 e31_4
             replace hob8_4_0 := OS.ext hob8_4_0 e31_4
             replace hogd24_2 := OS.ext hogd24_2 e31_4
             replace hoga24_2 := OS.ext hoga24_2 e31_4
             replace hogb24_2 := OS.ext hogb24_2 e31_4
             replace hod31_1 := OS.ext hod31_1 e31_4
             replace hom31_1 := OS.ext hom31_1 e31_4
             replace hod31_3 := OS.ext hod31_3 e31_4
             replace hom31_3 := OS.ext hom31_3 e31_4
             replace hb0_0 := BoxAt.ext hb0_0 e31_4
             replace hb0_1 := BoxAt.ext hb0_1 e31_4
             replace hb8_8 := BoxAt.ext hb8_8 e31_4
             replace hb11_6 := BoxAt.ext hb11_6 e31_4
             replace hb31_8 := BoxAt.ext hb31_8 e31_4
             have := Ext.size e31_4
             replace eB := Ext.trans eB e31_4
             replace cJ48 := Ext.trans cJ48 e31_4
             have hfd31_4_0 := hf31_4_0.left
             have hf31_4_0r0 := hf31_4_0.right
             have hfa31_4_0 := hf31_4_0r0.left
             have hfb31_4_0 := hf31_4_0r0.right
             have hlhod31_4_0 := OS.lt hod31_4_0
             have hlhoa31_4_0 := OS.lt hoa31_4_0
             have hlhob31_4_0 := OS.lt hob31_4_0
             have ap58 : Apart fd31_4_0 fa31_4_0 := Apart.lft (apart_nodup hf31_4_0)
             have ap59 : Apart fd31_4_0 fb31_4_0 := Apart.rgt (apart_nodup hf31_4_0)
             have ap60 : Apart fa31_4_0 fb31_4_0 := apart_nodup hf31_4_0r0
             try simp (disch := decide) only [outv_some, outv_none, put_puts]
             refine plK_pres (Ext.pres e31_4) ?_
             try simp -implicitDefEqProofs (disch := first | decide | assumption | omega) only [go_sem, wrap_id]
             refine And.intro ?_ ?_
             ·simp -implicitDefEqProofs (disch := first | decide | assumption | omega) only [go_sem, wrap_id]
              refine op_storeB (cs' := #[.int .i64 ((((pdP X Y).1).p)), vd31_4_0, va31_4_0, vb31_4_0]) st30 hb31_8 rfl rfl rfl (by simp) (allOne_mem (l := [.int .i64 ((((pdP X Y).1).p)), vd31_4_0, va31_4_0, vb31_4_0]) ⟨rfl, (OS.one hod31_4_0).1, (OS.one hoa31_4_0).1, (OS.one hob31_4_0).1, trivial⟩) rfl ?_
              intro h31_9 hb31_8 c31_9
              replace hod8_4_0 := OS.chg hod8_4_0 c31_9 (apart_lt hlhod8_4_0 hfhb31_8 (by omega))
              replace hoa8_4_0 := OS.chg hoa8_4_0 c31_9 (apart_lt hlhoa8_4_0 hfhb31_8 (by omega))
              replace hob8_4_0 := OS.chg hob8_4_0 c31_9 (apart_lt hlhob8_4_0 hfhb31_8 (by omega))
              replace hogd24_2 := OS.chg hogd24_2 c31_9 (apart_lt hlhogd24_2 hfhb31_8 (by omega))
              replace hoga24_2 := OS.chg hoga24_2 c31_9 (apart_lt hlhoga24_2 hfhb31_8 (by omega))
              replace hogb24_2 := OS.chg hogb24_2 c31_9 (apart_lt hlhogb24_2 hfhb31_8 (by omega))
              replace hod31_1 := OS.chg hod31_1 c31_9 (apart_lt hlhod31_1 hfhb31_8 (by omega))
              replace hom31_1 := OS.chg hom31_1 c31_9 (apart_lt hlhom31_1 hfhb31_8 (by omega))
              replace hod31_3 := OS.chg hod31_3 c31_9 (apart_gt hfd31_3 hlhb31_8 (by omega))
              replace hom31_3 := OS.chg hom31_3 c31_9 (apart_gt hfm31_3 hlhb31_8 (by omega))
              replace hod31_4_0 := OS.chg hod31_4_0 c31_9 (apart_gt hfd31_4_0 hlhb31_8 (by omega))
              replace hoa31_4_0 := OS.chg hoa31_4_0 c31_9 (apart_gt hfa31_4_0 hlhb31_8 (by omega))
              replace hob31_4_0 := OS.chg hob31_4_0 c31_9 (apart_gt hfb31_4_0 hlhb31_8 (by omega))
              replace hb0_0 := BoxAt.chgA hb0_0 c31_9 (apart_lt hlhb0_0 hfhb31_8 (by omega))
              replace hb0_1 := BoxAt.chgA hb0_1 c31_9 (apart_lt hlhb0_1 hfhb31_8 (by omega))
              replace hb8_8 := BoxAt.chgA hb8_8 c31_9 (apart_lt hlhb8_8 hfhb31_8 (by omega))
              replace hb11_6 := BoxAt.chgA hb11_6 c31_9 (apart_lt hlhb11_6 hfhb31_8 (by omega))
              have := c31_9.size
              replace eB := Ext.then eB c31_9 (ge_of hfhb31_8 (by omega))
              replace cJ48 := Ext.then cJ48 c31_9 (ge_of hfhb31_8 (by omega))
              try simp (disch := decide) only [outv_some, outv_none, put_puts]
              refine plK_last (by decide) ?_
              try simp -implicitDefEqProofs (disch := first | decide | assumption | omega) only [go_sem, wrap_id]
              exact hK (vd31_4_0, fd31_4_0, va31_4_0, fa31_4_0, vb31_4_0, fb31_4_0, h31_1.size) _ _ (by simp [HasL, puts_at]) ⟨hod31_4_0, (hfd31_4_0.mono (by omega)), hoa31_4_0, (hfa31_4_0.mono (by omega)), hob31_4_0, (hfb31_4_0.mono (by omega)), hb31_8, (hfhb31_8.mono (by omega)), ap58, ap59, (apart_gt hfd31_4_0 hlhb31_8 (by omega)), ap60, (apart_gt hfa31_4_0 hlhb31_8 (by omega)), (apart_gt hfb31_4_0 hlhb31_8 (by omega)), cJ48⟩
             ·simp -implicitDefEqProofs (disch := first | decide | assumption | omega) only [go_sem, wrap_id]
              refine op_storeB (cs' := #[.int .i64 ((((pdP X Y).1).p)), vd31_4_0, va31_4_0, vb31_4_0]) st30 hb31_8 rfl rfl rfl (by simp) (allOne_mem (l := [.int .i64 ((((pdP X Y).1).p)), vd31_4_0, va31_4_0, vb31_4_0]) ⟨rfl, (OS.one hod31_4_0).1, (OS.one hoa31_4_0).1, (OS.one hob31_4_0).1, trivial⟩) rfl ?_
              intro h31_9 hb31_8 c31_9
              replace hod8_4_0 := OS.chg hod8_4_0 c31_9 (apart_lt hlhod8_4_0 hfhb31_8 (by omega))
              replace hoa8_4_0 := OS.chg hoa8_4_0 c31_9 (apart_lt hlhoa8_4_0 hfhb31_8 (by omega))
              replace hob8_4_0 := OS.chg hob8_4_0 c31_9 (apart_lt hlhob8_4_0 hfhb31_8 (by omega))
              replace hogd24_2 := OS.chg hogd24_2 c31_9 (apart_lt hlhogd24_2 hfhb31_8 (by omega))
              replace hoga24_2 := OS.chg hoga24_2 c31_9 (apart_lt hlhoga24_2 hfhb31_8 (by omega))
              replace hogb24_2 := OS.chg hogb24_2 c31_9 (apart_lt hlhogb24_2 hfhb31_8 (by omega))
              replace hod31_1 := OS.chg hod31_1 c31_9 (apart_lt hlhod31_1 hfhb31_8 (by omega))
              replace hom31_1 := OS.chg hom31_1 c31_9 (apart_lt hlhom31_1 hfhb31_8 (by omega))
              replace hod31_3 := OS.chg hod31_3 c31_9 (apart_gt hfd31_3 hlhb31_8 (by omega))
              replace hom31_3 := OS.chg hom31_3 c31_9 (apart_gt hfm31_3 hlhb31_8 (by omega))
              replace hod31_4_0 := OS.chg hod31_4_0 c31_9 (apart_gt hfd31_4_0 hlhb31_8 (by omega))
              replace hoa31_4_0 := OS.chg hoa31_4_0 c31_9 (apart_gt hfa31_4_0 hlhb31_8 (by omega))
              replace hob31_4_0 := OS.chg hob31_4_0 c31_9 (apart_gt hfb31_4_0 hlhb31_8 (by omega))
              replace hb0_0 := BoxAt.chgA hb0_0 c31_9 (apart_lt hlhb0_0 hfhb31_8 (by omega))
              replace hb0_1 := BoxAt.chgA hb0_1 c31_9 (apart_lt hlhb0_1 hfhb31_8 (by omega))
              replace hb8_8 := BoxAt.chgA hb8_8 c31_9 (apart_lt hlhb8_8 hfhb31_8 (by omega))
              replace hb11_6 := BoxAt.chgA hb11_6 c31_9 (apart_lt hlhb11_6 hfhb31_8 (by omega))
              have := c31_9.size
              replace eB := Ext.then eB c31_9 (ge_of hfhb31_8 (by omega))
              replace cJ48 := Ext.then cJ48 c31_9 (ge_of hfhb31_8 (by omega))
              try simp (disch := decide) only [outv_some, outv_none, put_puts]
              refine plK_last (by decide) ?_
              try simp -implicitDefEqProofs (disch := first | decide | assumption | omega) only [go_sem, wrap_id]
              exact hK (vd31_4_0, fd31_4_0, va31_4_0, fa31_4_0, vb31_4_0, fb31_4_0, h31_1.size) _ _ (by simp [HasL, puts_at]) ⟨hod31_4_0, (hfd31_4_0.mono (by omega)), hoa31_4_0, (hfa31_4_0.mono (by omega)), hob31_4_0, (hfb31_4_0.mono (by omega)), hb31_8, (hfhb31_8.mono (by omega)), ap58, ap59, (apart_gt hfd31_4_0 hlhb31_8 (by omega)), ap60, (apart_gt hfa31_4_0 hlhb31_8 (by omega)), (apart_gt hfb31_4_0 hlhb31_8 (by omega)), cJ48⟩
           ·simp -implicitDefEqProofs (disch := first | decide | assumption | omega) only [go_sem, wrap_id]
            refine op_alloc (cs := #[.int .i64 0, .slice none 0 0, .slice none 0 0, .slice none 0 0]) (by kernel_rfl) ?_
            intro h31_8 e31_8 hb31_8 z31_8
            replace hod8_4_0 := OS.ext hod8_4_0 e31_8
            replace hoa8_4_0 := OS.ext hoa8_4_0 e31_8
            replace hob8_4_0 := OS.ext hob8_4_0 e31_8
            replace hogd24_2 := OS.ext hogd24_2 e31_8
            replace hoga24_2 := OS.ext hoga24_2 e31_8
            replace hogb24_2 := OS.ext hogb24_2 e31_8
            replace hb0_0 := BoxAt.ext hb0_0 e31_8
            replace hb0_1 := BoxAt.ext hb0_1 e31_8
            replace hb8_8 := BoxAt.ext hb8_8 e31_8
            replace hb11_6 := BoxAt.ext hb11_6 e31_8
            have := Ext.size e31_8
            replace eB := Ext.trans eB e31_8
            replace cJ48 := Ext.trans cJ48 e31_8
            have hfhb31_8 : Fresh h26_2.size [h26_2.size] := Fresh.one _
            have hlhb31_8 := one_lt (show h26_2.size < h31_8.size by omega)
            try simp (disch := decide) only [outv_some, outv_none, put_puts]
            refine plK_pres (Ext.pres e31_8) ?_
            try simp -implicitDefEqProofs (disch := first | decide | assumption | omega) only [go_sem, wrap_id]
            try simp -implicitDefEqProofs (disch := first | decide | assumption | omega) only [go_sem, wrap_id]
            refine CallA.mono (toC_ok _ X _ ⟨_, _, rfl, (RdS.pres hdX (Ext.pres eB)), (RdS.pres hmX (Ext.pres eB))⟩ hMX) ?_
            intro v_ h31_1
            rintro ⟨vd31_1, vm31_1, fd31_1, fm31_1, rfl, hod31_1, hom31_1, hf31_1, e31_1⟩
            replace hod8_4_0 := OS.ext hod8_4_0 e31_1
            replace hoa8_4_0 := OS.ext hoa8_4_0 e31_1
            replace hob8_4_0 := OS.ext hob8_4_0 e31_1
            replace hogd24_2 := OS.ext hogd24_2 e31_1
            replace hoga24_2 := OS.ext hoga24_2 e31_1
            replace hogb24_2 := OS.ext hogb24_2 e31_1
            replace hb0_0 := BoxAt.ext hb0_0 e31_1
            replace hb0_1 := BoxAt.ext hb0_1 e31_1
            replace hb8_8 := BoxAt.ext hb8_8 e31_1
            replace hb11_6 := BoxAt.ext hb11_6 e31_1
            replace hb31_8 := BoxAt.ext hb31_8 e31_1
            have := Ext.size e31_1
            replace eB := Ext.trans eB e31_1
            replace cJ48 := Ext.trans cJ48 e31_1
            have hfd31_1 := hf31_1.left
            have hfm31_1 := hf31_1.right
            have hlhod31_1 := OS.lt hod31_1
            have hlhom31_1 := OS.lt hom31_1
            have ap61 : Apart fd31_1 fm31_1 := apart_nodup hf31_1
            try simp (disch := decide) only [outv_some, outv_none, put_puts]
            refine plK_pres (Ext.pres e31_1) ?_
            try simp -implicitDefEqProofs (disch := first | decide | assumption | omega) only [go_sem, wrap_id]
            try simp -implicitDefEqProofs (disch := first | decide | assumption | omega) only [go_sem, wrap_id]
            refine CallA.mono (toC_ok _ Y _ ⟨_, _, rfl, (RdS.pres hdY (Ext.pres eB)), (RdS.pres hmY (Ext.pres eB))⟩ hMY) ?_
            intro v_ h31_3
            rintro ⟨vd31_3, vm31_3, fd31_3, fm31_3, rfl, hod31_3, hom31_3, hf31_3, e31_3⟩
            replace hod8_4_0 := OS.ext hod8_4_0 e31_3
            replace hoa8_4_0 := OS.ext hoa8_4_0 e31_3
            replace hob8_4_0 := OS.ext hob8_4_0 e31_3
            replace hogd24_2 := OS.ext hogd24_2 e31_3
            replace hoga24_2 := OS.ext hoga24_2 e31_3
            replace hogb24_2 := OS.ext hogb24_2 e31_3
            replace hod31_1 := OS.ext hod31_1 e31_3
            replace hom31_1 := OS.ext hom31_1 e31_3
            replace hb0_0 := BoxAt.ext hb0_0 e31_3
            replace hb0_1 := BoxAt.ext hb0_1 e31_3
            replace hb8_8 := BoxAt.ext hb8_8 e31_3
            replace hb11_6 := BoxAt.ext hb11_6 e31_3
            replace hb31_8 := BoxAt.ext hb31_8 e31_3
            have := Ext.size e31_3
            replace eB := Ext.trans eB e31_3
            replace cJ48 := Ext.trans cJ48 e31_3
            have hfd31_3 := hf31_3.left
            have hfm31_3 := hf31_3.right
            have hlhod31_3 := OS.lt hod31_3
            have hlhom31_3 := OS.lt hom31_3
            have ap62 : Apart fd31_3 fm31_3 := apart_nodup hf31_3
            try simp (disch := decide) only [outv_some, outv_none, put_puts]
            refine plK_pres (Ext.pres e31_3) ?_
            try simp -implicitDefEqProofs (disch := first | decide | assumption | omega) only [go_sem, wrap_id]
            try simp -implicitDefEqProofs (disch := first | decide | assumption | omega) only [go_sem, wrap_id]
            refine CallA.mono (iPD_ok _ _ X Y _ ⟨_, _, rfl, (OS.rd hod31_1), (OS.rd hom31_1)⟩ ⟨_, _, rfl, (OS.rd hod31_3), (OS.rd hom31_3)⟩ ) ?_
            intro v_ h31_4
            rintro ⟨vd31_4_0, va31_4_0, vb31_4_0, fd31_4_0, fa31_4_0, fb31_4_0, rfl, hod31_4_0, hoa31_4_0, hob31_4_0, hf31_4_0, e31_4⟩
            replace hod8_4_0 := OS.ext hod8_4_0 e31_4
            replace hoa8_4_0 := OS.ext hoa8_4_0 e31_4
            replace hob8_4_0 := OS.ext hob8_4_0 e31_4
            replace hogd24_2 := OS.ext hogd24_2 e31_4
            replace hoga24_2 := OS.ext hoga24_2 e31_4
            replace hogb24_2 := OS.ext hogb24_2 e31_4
            replace hod31_1 := OS.ext hod31_1 e31_4
            replace hom31_1 := OS.ext hom31_1 e31_4
            replace hod31_3 := OS.ext hod31_3 e31_4
            replace hom31_3 := OS.ext hom31_3 e31_4
            replace hb0_0 := BoxAt.ext hb0_0 e31_4
            replace hb0_1 := BoxAt.ext hb0_1 e31_4
            replace hb8_8 := BoxAt.ext hb8_8 e31_4
            replace hb11_6 := BoxAt.ext hb11_6 e31_4
            replace hb31_8 := BoxAt.ext hb31_8 e31_4
            have := Ext.size e31_4
            replace eB := Ext.trans eB e31_4
            replace cJ48 := Ext.trans cJ48 e31_4
            have hfd31_4_0 := hf31_4_0.left
            have hf31_4_0r0 := hf31_4_0.right
            have hfa31_4_0 := hf31_4_0r0.left
            have hfb31_4_0 := hf31_4_0r0.right
            have hlhod31_4_0 := OS.lt hod31_4_0
            have hlhoa31_4_0 := OS.lt hoa31_4_0
            have hlhob31_4_0 := OS.lt hob31_4_0
            have ap63 : Apart fd31_4_0 fa31_4_0 := Apart.lft (apart_nodup hf31_4_0)
            have ap64 : Apart fd31_4_0 fb31_4_0 := Apart.rgt (apart_nodup hf31_4_0)
            have ap65 : Apart fa31_4_0 fb31_4_0 := apart_nodup hf31_4_0r0
            try simp (disch := decide) only [outv_some, outv_none, put_puts]
            refine plK_pres (Ext.pres e31_4) ?_
            try simp -implicitDefEqProofs (disch := first | decide | assumption | omega) only [go_sem, wrap_id]
            refine And.intro ?_ ?_
            ·simp -implicitDefEqProofs (disch := first | decide | assumption | omega) only [go_sem, wrap_id]
             refine op_storeB (cs' := #[.int .i64 ((((pdP X Y).1).p)), vd31_4_0, va31_4_0, vb31_4_0]) st30 hb31_8 rfl rfl rfl (by simp) (allOne_mem (l := [.int .i64 ((((pdP X Y).1).p)), vd31_4_0, va31_4_0, vb31_4_0]) ⟨rfl, (OS.one hod31_4_0).1, (OS.one hoa31_4_0).1, (OS.one hob31_4_0).1, trivial⟩) rfl ?_
             intro h31_9 hb31_8 c31_9
             replace hod8_4_0 := OS.chg hod8_4_0 c31_9 (apart_lt hlhod8_4_0 hfhb31_8 (by omega))
             replace hoa8_4_0 := OS.chg hoa8_4_0 c31_9 (apart_lt hlhoa8_4_0 hfhb31_8 (by omega))
             replace hob8_4_0 := OS.chg hob8_4_0 c31_9 (apart_lt hlhob8_4_0 hfhb31_8 (by omega))
             replace hogd24_2 := OS.chg hogd24_2 c31_9 (apart_lt hlhogd24_2 hfhb31_8 (by omega))
             replace hoga24_2 := OS.chg hoga24_2 c31_9 (apart_lt hlhoga24_2 hfhb31_8 (by omega))
             replace hogb24_2 := OS.chg hogb24_2 c31_9 (apart_lt hlhogb24_2 hfhb31_8 (by omega))
             replace hod31_1 := OS.chg hod31_1 c31_9 (apart_gt hfd31_1 hlhb31_8 (by omega))
             replace hom31_1 := OS.chg hom31_1 c31_9 (apart_gt hfm31_1 hlhb31_8 (by omega))
             replace hod31_3 := OS.chg hod31_3 c31_9 (apart_gt hfd31_3 hlhb31_8 (by omega))
             replace hom31_3 := OS.chg hom31_3 c31_9 (apart_gt hfm31_3 hlhb31_8 (by omega))
             replace hod31_4_0 := OS.chg hod31_4_0 c31_9 (apart_gt hfd31_4_0 hlhb31_8 (by omega))
             replace hoa31_4_0 := OS.chg hoa31_4_0 c31_9 (apart_gt hfa31_4_0 hlhb31_8 (by omega))
             replace hob31_4_0 := OS.chg hob31_4_0 c31_9 (apart_gt hfb31_4_0 hlhb31_8 (by omega))
             replace hb0_0 := BoxAt.chgA hb0_0 c31_9 (apart_lt hlhb0_0 hfhb31_8 (by omega))
             replace hb0_1 := BoxAt.chgA hb0_1 c31_9 (apart_lt hlhb0_1 hfhb31_8 (by omega))
             replace hb8_8 := BoxAt.chgA hb8_8 c31_9 (apart_lt hlhb8_8 hfhb31_8 (by omega))
             replace hb11_6 := BoxAt.chgA hb11_6 c31_9 (apart_lt hlhb11_6 hfhb31_8 (by omega))
             have := c31_9.size
             replace eB := Ext.then eB c31_9 (ge_of hfhb31_8 (by omega))
             replace cJ48 := Ext.then cJ48 c31_9 (ge_of hfhb31_8 (by omega))
             try simp (disch := decide) only [outv_some, outv_none, put_puts]
             refine plK_last (by decide) ?_
             try simp -implicitDefEqProofs (disch := first | decide | assumption | omega) only [go_sem, wrap_id]
             exact hK (vd31_4_0, fd31_4_0, va31_4_0, fa31_4_0, vb31_4_0, fb31_4_0, h26_2.size) _ _ (by simp [HasL, puts_at]) ⟨hod31_4_0, (hfd31_4_0.mono (by omega)), hoa31_4_0, (hfa31_4_0.mono (by omega)), hob31_4_0, (hfb31_4_0.mono (by omega)), hb31_8, (hfhb31_8.mono (by omega)), ap63, ap64, (apart_gt hfd31_4_0 hlhb31_8 (by omega)), ap65, (apart_gt hfa31_4_0 hlhb31_8 (by omega)), (apart_gt hfb31_4_0 hlhb31_8 (by omega)), cJ48⟩
            ·simp -implicitDefEqProofs (disch := first | decide | assumption | omega) only [go_sem, wrap_id]
             refine op_storeB (cs' := #[.int .i64 ((((pdP X Y).1).p)), vd31_4_0, va31_4_0, vb31_4_0]) st30 hb31_8 rfl rfl rfl (by simp) (allOne_mem (l := [.int .i64 ((((pdP X Y).1).p)), vd31_4_0, va31_4_0, vb31_4_0]) ⟨rfl, (OS.one hod31_4_0).1, (OS.one hoa31_4_0).1, (OS.one hob31_4_0).1, trivial⟩) rfl ?_
             intro h31_9 hb31_8 c31_9
             replace hod8_4_0 := OS.chg hod8_4_0 c31_9 (apart_lt hlhod8_4_0 hfhb31_8 (by omega))
             replace hoa8_4_0 := OS.chg hoa8_4_0 c31_9 (apart_lt hlhoa8_4_0 hfhb31_8 (by omega))
             replace hob8_4_0 := OS.chg hob8_4_0 c31_9 (apart_lt hlhob8_4_0 hfhb31_8 (by omega))
             replace hogd24_2 := OS.chg hogd24_2 c31_9 (apart_lt hlhogd24_2 hfhb31_8 (by omega))
             replace hoga24_2 := OS.chg hoga24_2 c31_9 (apart_lt hlhoga24_2 hfhb31_8 (by omega))
             replace hogb24_2 := OS.chg hogb24_2 c31_9 (apart_lt hlhogb24_2 hfhb31_8 (by omega))
             replace hod31_1 := OS.chg hod31_1 c31_9 (apart_gt hfd31_1 hlhb31_8 (by omega))
             replace hom31_1 := OS.chg hom31_1 c31_9 (apart_gt hfm31_1 hlhb31_8 (by omega))
             replace hod31_3 := OS.chg hod31_3 c31_9 (apart_gt hfd31_3 hlhb31_8 (by omega))
             replace hom31_3 := OS.chg hom31_3 c31_9 (apart_gt hfm31_3 hlhb31_8 (by omega))
             replace hod31_4_0 := OS.chg hod31_4_0 c31_9 (apart_gt hfd31_4_0 hlhb31_8 (by omega))
             replace hoa31_4_0 := OS.chg hoa31_4_0 c31_9 (apart_gt hfa31_4_0 hlhb31_8 (by omega))
             replace hob31_4_0 := OS.chg hob31_4_0 c31_9 (apart_gt hfb31_4_0 hlhb31_8 (by omega))
             replace hb0_0 := BoxAt.chgA hb0_0 c31_9 (apart_lt hlhb0_0 hfhb31_8 (by omega))
             replace hb0_1 := BoxAt.chgA hb0_1 c31_9 (apart_lt hlhb0_1 hfhb31_8 (by omega))
             replace hb8_8 := BoxAt.chgA hb8_8 c31_9 (apart_lt hlhb8_8 hfhb31_8 (by omega))
             replace hb11_6 := BoxAt.chgA hb11_6 c31_9 (apart_lt hlhb11_6 hfhb31_8 (by omega))
             have := c31_9.size
             replace eB := Ext.then eB c31_9 (ge_of hfhb31_8 (by omega))
             replace cJ48 := Ext.then cJ48 c31_9 (ge_of hfhb31_8 (by omega))
             try simp (disch := decide) only [outv_some, outv_none, put_puts]
             refine plK_last (by decide) ?_
             try simp -implicitDefEqProofs (disch := first | decide | assumption | omega) only [go_sem, wrap_id]
             exact hK (vd31_4_0, fd31_4_0, va31_4_0, fa31_4_0, vb31_4_0, fb31_4_0, h26_2.size) _ _ (by simp [HasL, puts_at]) ⟨hod31_4_0, (hfd31_4_0.mono (by omega)), hoa31_4_0, (hfa31_4_0.mono (by omega)), hob31_4_0, (hfb31_4_0.mono (by omega)), hb31_8, (hfhb31_8.mono (by omega)), ap63, ap64, (apart_gt hfd31_4_0 hlhb31_8 (by omega)), ap65, (apart_gt hfa31_4_0 hlhb31_8 (by omega)), (apart_gt hfb31_4_0 hlhb31_8 (by omega)), cJ48⟩
          ·rintro ⟨vd31_4_0, fpJhod31_4_0, va31_4_0, fpJhoa31_4_0, vb31_4_0, fpJhob31_4_0, bJhb31_8⟩ hj66 ee68 ⟨hod31_4_0, hfhod31_4_0, hoa31_4_0, hfhoa31_4_0, hob31_4_0, hfhob31_4_0, hb31_8, hfhb31_8, apJ_hod31_4_0_hoa31_4_0, apJ_hod31_4_0_hob31_4_0, apJ_hod31_4_0_hb31_8, apJ_hoa31_4_0_hob31_4_0, apJ_hoa31_4_0_hb31_8, apJ_hob31_4_0_hb31_8, eJ67⟩
           dsimp only at hod31_4_0 hfhod31_4_0 hoa31_4_0 hfhoa31_4_0 hob31_4_0 hfhob31_4_0 hb31_8 hfhb31_8 apJ_hod31_4_0_hoa31_4_0 apJ_hod31_4_0_hob31_4_0 apJ_hod31_4_0_hb31_8 apJ_hoa31_4_0_hob31_4_0 apJ_hoa31_4_0_hb31_8 apJ_hob31_4_0_hb31_8 eJ67
           replace hod8_4_0 := OS.ext hod8_4_0 eJ67
           replace hoa8_4_0 := OS.ext hoa8_4_0 eJ67
           replace hob8_4_0 := OS.ext hob8_4_0 eJ67
           replace hogd24_2 := OS.ext hogd24_2 eJ67
           replace hoga24_2 := OS.ext hoga24_2 eJ67
           replace hogb24_2 := OS.ext hogb24_2 eJ67
           replace hb0_0 := BoxAt.ext hb0_0 eJ67
           replace hb0_1 := BoxAt.ext hb0_1 eJ67
           replace hb8_8 := BoxAt.ext hb8_8 eJ67
           replace hb11_6 := BoxAt.ext hb11_6 eJ67
           have := Ext.size eJ67
           replace eB := Ext.trans eB eJ67
           have hlhod31_4_0 := OS.lt hod31_4_0
           have hlhoa31_4_0 := OS.lt hoa31_4_0
           have hlhob31_4_0 := OS.lt hob31_4_0
           have hlhb31_8 := one_lt hb31_8.lt
           simp only [List.cons_append, List.nil_append]
           refine den_seq ?_
           refine den_seq ?_
           refine den_merge [(110, .bool (((!(true)) || (((pdP X Y).2) != ((pdP X Y).2)))))] [10, 13] (fun H => Ext hj66 H) ?_ ?_
            -- a way
           ·refine den_region TTok ?_
            intro K hK
            simp -implicitDefEqProofs (disch := first | decide | assumption | (simp (disch := decide) only [slotOf_zero, slotOf_succ, Option.map_some, puts_same, puts_ne, gv_bool, gv_undef, tt, tf, ft, ff, eq_self, if_true, if_false, Bool.false_eq_true, Bool.not_true, Bool.not_false]; done) | omega) only [go_sem, ld30, BoxAt.cell hb8_8, BoxAt.cell hb31_8, wrap_id]
            try simp -implicitDefEqProofs (disch := first | decide | assumption | omega) only [go_sem, wrap_id]
            refine CallA.mono (eqD_same _ _ ((pdP X Y).1) _ ⟨_, _, _, rfl, (OS.rd hod31_4_0), (OS.rd hoa31_4_0), (OS.rd hob31_4_0)⟩ ⟨_, _, _, rfl, (OS.rd hod8_4_0), (OS.rd hoa8_4_0), (OS.rd hob8_4_0)⟩) ?_
            intro v_ h32_2
            rintro ⟨rfl, e32_2⟩
            replace hod8_4_0 := OS.ext hod8_4_0 e32_2
            replace hoa8_4_0 := OS.ext hoa8_4_0 e32_2
            replace hob8_4_0 := OS.ext hob8_4_0 e32_2
            replace hogd24_2 := OS.ext hogd24_2 e32_2
            replace hoga24_2 := OS.ext hoga24_2 e32_2
            replace hogb24_2 := OS.ext hogb24_2 e32_2
            replace hod31_4_0 := OS.ext hod31_4_0 e32_2
            replace hoa31_4_0 := OS.ext hoa31_4_0 e32_2
            replace hob31_4_0 := OS.ext hob31_4_0 e32_2
            replace hb8_8 := BoxAt.ext hb8_8 e32_2
            replace hb11_6 := BoxAt.ext hb11_6 e32_2
            replace hb31_8 := BoxAt.ext hb31_8 e32_2
            have := Ext.size e32_2
            replace eB := Ext.trans eB e32_2
            try simp -implicitDefEqProofs (disch := first | decide | assumption | (simp (disch := decide) only [slotOf_zero, slotOf_succ, Option.map_some, puts_same, puts_ne, gv_bool, gv_undef, tt, tf, ft, ff, eq_self, if_true, if_false, Bool.false_eq_true, Bool.not_true, Bool.not_false]; done) | omega) only [go_sem, wrap_id]
            try simp -implicitDefEqProofs (disch := first | decide | assumption | (simp (disch := decide) only [slotOf_zero, slotOf_succ, Option.map_some, puts_same, puts_ne, gv_bool, gv_undef, tt, tf, ft, ff, eq_self, if_true, if_false, Bool.false_eq_true, Bool.not_true, Bool.not_false]; done) | omega) only [go_sem, wrap_id]
            refine hK _ _ ?_
            clear hK K
            refine den_stop ?_
            refine ⟨?_, e32_2⟩
            first | (simp (disch := decide) only [go_sem, eq_self, Bool.true_and, Bool.and_true, Bool.false_and, Bool.and_false, Bool.true_or, Bool.or_true, Bool.false_or, Bool.or_false, if_true, if_false, Bool.false_eq_true]; done) | simp [HasL, sel, puts_at]
           intro en69 h70 e71
           replace hod8_4_0 := OS.ext hod8_4_0 e71
           replace hoa8_4_0 := OS.ext hoa8_4_0 e71
           replace hob8_4_0 := OS.ext hob8_4_0 e71
           replace hogd24_2 := OS.ext hogd24_2 e71
           replace hoga24_2 := OS.ext hoga24_2 e71
           replace hogb24_2 := OS.ext hogb24_2 e71
           replace hod31_4_0 := OS.ext hod31_4_0 e71
           replace hoa31_4_0 := OS.ext hoa31_4_0 e71
           replace hob31_4_0 := OS.ext hob31_4_0 e71
           replace hb8_8 := BoxAt.ext hb8_8 e71
           replace hb11_6 := BoxAt.ext hb11_6 e71
           replace hb31_8 := BoxAt.ext hb31_8 e71
           have := Ext.size e71
           replace eB := Ext.trans eB e71
           simp (disch := decide) only [go_sem]
           refine den_cond rfl (fun c8 => ?_) (fun c8 => ?_)
           ·try simp only [decide_eq_true_eq, decide_eq_false_iff_not, beq_iff_eq, beq_eq_false_iff_ne, bne_iff_ne, ne_eq, Bool.not_eq_true', Bool.not_eq_false', Bool.and_eq_true, Bool.or_eq_true, bne_eq_false_iff_eq] at c8
            refine den_seq ?_
            refine den_region TTok ?_
            intro K hK
            simp -implicitDefEqProofs (disch := first | decide | assumption | omega) only [go_sem, wrap_id]
            refine hK _ _ ?_
            clear hK K
            refine den_ret ?_
            simp (disch := decide) only [resP_1, puts_same, puts_ne]
            exact absurd c8 (by first | (simp; done) | (simp; omega) | omega | (simp [eqC_self]; done))
           ·try simp only [decide_eq_true_eq, decide_eq_false_iff_not, beq_iff_eq, beq_eq_false_iff_ne, bne_iff_ne, ne_eq, Bool.not_eq_true', Bool.not_eq_false', Bool.and_eq_true, Bool.or_eq_true, bne_eq_false_iff_eq] at c8
            refine den_skip ?_
            refine den_seq ?_
            refine den_region TTok ?_
            intro K hK
            simp -implicitDefEqProofs (disch := first | decide | assumption | omega) only [go_sem, wrap_id]
            refine hK _ _ ?_
            clear hK K
            refine den_seq ?_
            refine den_region TTok ?_
            intro K hK
            simp -implicitDefEqProofs (disch := first | decide | assumption | omega) only [go_sem, ld30, BoxAt.cell hb11_6, wrap_id]
            try simp -implicitDefEqProofs (disch := first | decide | assumption | omega) only [go_sem, wrap_id]
            refine CallA.mono (heldD_ok _ _ _ ((pdP X Y).1) (1 : Int) _ (OS.rd hogd24_2) (OS.rd hoga24_2) (OS.rd hogb24_2) (by omega)) ?_
            intro v_ h35_2
            rintro ⟨rfl, e35_2⟩
            replace hogd24_2 := OS.ext hogd24_2 e35_2
            replace hoga24_2 := OS.ext hoga24_2 e35_2
            replace hogb24_2 := OS.ext hogb24_2 e35_2
            replace hb11_6 := BoxAt.ext hb11_6 e35_2
            have := Ext.size e35_2
            replace eB := Ext.trans eB e35_2
            try simp -implicitDefEqProofs (disch := first | decide | assumption | omega) only [go_sem, wrap_id]
            refine hK _ _ ?_
            clear hK K
            refine den_seq ?_
            refine den_seq ?_
            refine den_region TTok ?_
            intro K hK
            simp -implicitDefEqProofs (disch := first | decide | assumption | omega) only [go_sem, wrap_id]
            refine hK _ _ ?_
            clear hK K
            refine den_cond rfl (fun c9 => ?_) (fun c9 => ?_)
            ·try simp only [decide_eq_true_eq, decide_eq_false_iff_not, beq_iff_eq, beq_eq_false_iff_ne, bne_iff_ne, ne_eq, Bool.not_eq_true', Bool.not_eq_false', Bool.and_eq_true, Bool.or_eq_true, bne_eq_false_iff_eq] at c9
             refine den_seq ?_
             refine den_region TTok ?_
             intro K hK
             simp -implicitDefEqProofs (disch := first | decide | assumption | omega) only [go_sem, wrap_id]
             refine hK _ _ ?_
             clear hK K
             refine den_ret ?_
             simp (disch := decide) only [resP_1, puts_same, puts_ne]
             exact absurd c9 (by first | (simp; done) | (simp; omega) | omega | (simp [eqC_self]; done))
            ·try simp only [decide_eq_true_eq, decide_eq_false_iff_not, beq_iff_eq, beq_eq_false_iff_ne, bne_iff_ne, ne_eq, Bool.not_eq_true', Bool.not_eq_false', Bool.and_eq_true, Bool.or_eq_true, bne_eq_false_iff_eq] at c9
             refine den_skip ?_
             refine den_seq ?_
             refine den_seq ?_
             refine den_region TTok ?_
             intro K hK
             simp -implicitDefEqProofs (disch := first | decide | assumption | omega) only [go_sem, wrap_id]
             refine hK _ _ ?_
             clear hK K
             refine den_cond rfl (fun c10 => ?_) (fun c10 => ?_)
             ·try simp only [decide_eq_true_eq, decide_eq_false_iff_not, beq_iff_eq, beq_eq_false_iff_ne, bne_iff_ne, ne_eq, Bool.not_eq_true', Bool.not_eq_false', Bool.and_eq_true, Bool.or_eq_true, bne_eq_false_iff_eq] at c10
              refine den_seq ?_
              refine den_region TTok ?_
              intro K hK
              simp -implicitDefEqProofs (disch := first | decide | assumption | omega) only [go_sem, wrap_id]
              refine hK _ _ ?_
              clear hK K
              refine den_ret ?_
              simp (disch := decide) only [resP_1, puts_same, puts_ne]
              exact absurd c10 (by first | (simp; done) | (simp; omega) | omega | (simp [eqC_self]; done))
             ·try simp only [decide_eq_true_eq, decide_eq_false_iff_not, beq_iff_eq, beq_eq_false_iff_ne, bne_iff_ne, ne_eq, Bool.not_eq_true', Bool.not_eq_false', Bool.and_eq_true, Bool.or_eq_true, bne_eq_false_iff_eq] at c10
              refine den_skip ?_
              refine den_seq ?_
              refine den_region TTok ?_
              intro K hK
              simp -implicitDefEqProofs (disch := first | decide | assumption | omega) only [go_sem, wrap_id]
              refine hK _ _ ?_
              clear hK K
              refine den_ret ?_
              simp (disch := decide) only [resP_1, puts_same, puts_ne]
              exact ⟨by first | rfl | trivial, eB⟩
end Go.Proofs.Ytkdnnfkdgmblgaa
