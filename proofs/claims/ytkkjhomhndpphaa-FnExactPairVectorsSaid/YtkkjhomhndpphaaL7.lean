/-
  Walks: the statement's function.
  Conditions: each theorem's own.
-/
import Derived.Test.YtkkjhomhndpphaaA7
set_option linter.unusedVariables false
set_option linter.unusedSimpArgs false
namespace Go.Proofs.Ytkkjhomhndpphaa
open Go
set_option maxRecDepth 100000 in
set_option maxHeartbeats 4000000 in
theorem exactPairVectors_law (vX vY vu vv : Value) (X : Cx) (Y : Cx) (i : Int) (u : List Int) (j : Int) (v : List Int) (h : Heap) (rX : RC h vX X) (rY : RC h vY Y) (ru : R1 h vu u) (rv : R1 h vv v)  : CallA Try.prog 13 #[vX, vY, .int .i64 i, vu, .int .i64 j, vv] h fun v' h' => v' = .bool (true) ∧ Ext h h' := by
  obtain ⟨vdX, vmX, rfl, hdX, hmX⟩ := rX
  have hledX := RdS.le hdX
  have hlemX := RdS.le hmX
  obtain ⟨vdY, vmY, rfl, hdY, hmY⟩ := rY
  have hledY := RdS.le hdY
  have hlemY := RdS.le hmY
  have hleu := RdS.le ru
  have hlev := RdS.le rv
  refine callA_intro TTok (args := [_, _, _, _, _, _]) Try.func13 (by kernel_rfl) rfl 171 rfl (by simp) [.tmp 12] rfl ?_
  simp only [idxs, Nat.reduceAdd]
  refine den_seq ?_
  refine den_region TTok ?_
  intro K hK
  simp -implicitDefEqProofs (disch := first | decide | assumption | omega) only [go_sem, RdS.len ru sl37, RdS.len rv sl37, wrap_id]
  refine op_box (cs := #[.int .i64 (X.p), vdX, vmX]) rfl ?_
  intro h0_0 e0_0 hb0_0 z0_0
  have := Ext.size e0_0
  have eB := e0_0
  have hfhb0_0 : Fresh h.size [h.size] := Fresh.one _
  have hlhb0_0 := one_lt (show h.size < h0_0.size by omega)
  try simp -implicitDefEqProofs (disch := first | decide | assumption | omega) only [go_sem, BoxAt.cell hb0_0, RdS.len ru sl37, RdS.len rv sl37, wrap_id]
  refine op_box (cs := #[.int .i64 (Y.p), vdY, vmY]) rfl ?_
  intro h0_1 e0_1 hb0_1 z0_1
  replace hb0_0 := BoxAt.ext hb0_0 e0_1
  have := Ext.size e0_1
  replace eB := Ext.trans eB e0_1
  have hfhb0_1 : Fresh h0_0.size [h0_0.size] := Fresh.one _
  have hlhb0_1 := one_lt (show h0_0.size < h0_1.size by omega)
  try simp -implicitDefEqProofs (disch := first | decide | assumption | omega) only [go_sem, BoxAt.cell hb0_0, BoxAt.cell hb0_1, RdS.len ru sl37, RdS.len rv sl37, wrap_id]
  refine hK _ _ ?_
  clear hK K
  refine den_seq ?_
  refine den_seq ?_
  refine den_region TTok ?_
  intro K hK
  simp -implicitDefEqProofs (disch := first | decide | assumption | omega) only [go_sem, BoxAt.cell hb0_0, BoxAt.cell hb0_1, RdS.len ru sl37, RdS.len rv sl37, wrap_id]
  refine hK _ _ ?_
  clear hK K
  refine den_cond rfl (fun c0 => ?_) (fun c0 => ?_)
  · try simp only [decide_eq_true_eq, decide_eq_false_iff_not, beq_iff_eq, beq_eq_false_iff_ne, bne_iff_ne, ne_eq, Bool.not_eq_true', Bool.not_eq_false', Bool.and_eq_true, Bool.or_eq_true, bne_eq_false_iff_eq] at c0
    refine den_seq ?_
    refine den_region TTok ?_
    intro K hK
    simp -implicitDefEqProofs (disch := first | decide | assumption | omega) only [go_sem, RdS.len ru sl37, RdS.len rv sl37, wrap_id]
    refine hK _ _ ?_
    clear hK K
    refine den_ret ?_
    simp (disch := decide) only [resP_1, puts_same, puts_ne]
    exact ⟨by first | rfl | trivial, eB⟩
  · try simp only [decide_eq_true_eq, decide_eq_false_iff_not, beq_iff_eq, beq_eq_false_iff_ne, bne_iff_ne, ne_eq, Bool.not_eq_true', Bool.not_eq_false', Bool.and_eq_true, Bool.or_eq_true, bne_eq_false_iff_eq] at c0
    have hMu : HM1 u := by unfold HM1; omega
    have hcnu := cnt1_le hMu
    refine den_skip ?_
    refine den_seq ?_
    refine den_seq ?_
    refine den_region TTok ?_
    intro K hK
    simp -implicitDefEqProofs (disch := first | decide | assumption | omega) only [go_sem, BoxAt.cell hb0_0, BoxAt.cell hb0_1, RdS.len ru sl37, RdS.len rv sl37, wrap_id]
    refine hK _ _ ?_
    clear hK K
    refine den_cond rfl (fun c1 => ?_) (fun c1 => ?_)
    · try simp only [decide_eq_true_eq, decide_eq_false_iff_not, beq_iff_eq, beq_eq_false_iff_ne, bne_iff_ne, ne_eq, Bool.not_eq_true', Bool.not_eq_false', Bool.and_eq_true, Bool.or_eq_true, bne_eq_false_iff_eq] at c1
      refine den_seq ?_
      refine den_region TTok ?_
      intro K hK
      simp -implicitDefEqProofs (disch := first | decide | assumption | omega) only [go_sem, RdS.len ru sl37, RdS.len rv sl37, wrap_id]
      refine hK _ _ ?_
      clear hK K
      refine den_ret ?_
      simp (disch := decide) only [resP_1, puts_same, puts_ne]
      exact ⟨by first | rfl | trivial, eB⟩
    · try simp only [decide_eq_true_eq, decide_eq_false_iff_not, beq_iff_eq, beq_eq_false_iff_ne, bne_iff_ne, ne_eq, Bool.not_eq_true', Bool.not_eq_false', Bool.and_eq_true, Bool.or_eq_true, bne_eq_false_iff_eq] at c1
      have hMv : HM1 v := by unfold HM1; omega
      have hcnv := cnt1_le hMv
      refine den_skip ?_
      refine den_seq ?_
      refine den_region TTok ?_
      intro K hK
      simp -implicitDefEqProofs (disch := first | decide | assumption | omega) only [go_sem, BoxAt.cell hb0_0, BoxAt.cell hb0_1, RdS.len ru sl37, RdS.len rv sl37, wrap_id]
      refine hK _ _ ?_
      clear hK K
      refine den_seq ?_
      refine den_region TTok ?_
      intro K hK
      simp -implicitDefEqProofs (disch := first | decide | assumption | omega) only [go_sem, ld40, BoxAt.cell hb0_0, BoxAt.cell hb0_1, RdS.len ru sl37, RdS.len rv sl37, wrap_id]
      try simp -implicitDefEqProofs (disch := first | decide | assumption | omega) only [go_sem, BoxAt.cell hb0_0, BoxAt.cell hb0_1, RdS.len ru sl37, RdS.len rv sl37, wrap_id]
      refine CallA.mono (szC_ok _ X _ _ ⟨_, _, rfl, (RdS.pres hdX (Ext.pres eB)), (RdS.pres hmX (Ext.pres eB))⟩ (by omega) (by omega)) ?_
      intro v_ h6_2
      rintro ⟨rfl, e6_2⟩
      replace hb0_0 := BoxAt.ext hb0_0 e6_2
      replace hb0_1 := BoxAt.ext hb0_1 e6_2
      have := Ext.size e6_2
      replace eB := Ext.trans eB e6_2
      have := szC_le X (1048576 : Int) (by omega)
      try simp -implicitDefEqProofs (disch := first | decide | assumption | omega) only [go_sem, BoxAt.cell hb0_0, BoxAt.cell hb0_1, RdS.len ru sl37, RdS.len rv sl37, wrap_id]
      refine hK _ _ ?_
      clear hK K
      refine den_seq ?_
      refine den_seq ?_
      refine den_region TTok ?_
      intro K hK
      simp -implicitDefEqProofs (disch := first | decide | assumption | omega) only [go_sem, BoxAt.cell hb0_0, BoxAt.cell hb0_1, RdS.len ru sl37, RdS.len rv sl37, wrap_id]
      refine hK _ _ ?_
      clear hK K
      refine den_cond rfl (fun c2 => ?_) (fun c2 => ?_)
      · try simp only [decide_eq_true_eq, decide_eq_false_iff_not, beq_iff_eq, beq_eq_false_iff_ne, bne_iff_ne, ne_eq, Bool.not_eq_true', Bool.not_eq_false', Bool.and_eq_true, Bool.or_eq_true, bne_eq_false_iff_eq] at c2
        refine den_seq ?_
        refine den_region TTok ?_
        intro K hK
        simp -implicitDefEqProofs (disch := first | decide | assumption | omega) only [go_sem, RdS.len ru sl37, RdS.len rv sl37, wrap_id]
        refine hK _ _ ?_
        clear hK K
        refine den_ret ?_
        simp (disch := decide) only [resP_1, puts_same, puts_ne]
        exact ⟨by first | rfl | trivial, eB⟩
      · try simp only [decide_eq_true_eq, decide_eq_false_iff_not, beq_iff_eq, beq_eq_false_iff_ne, bne_iff_ne, ne_eq, Bool.not_eq_true', Bool.not_eq_false', Bool.and_eq_true, Bool.or_eq_true, bne_eq_false_iff_eq] at c2
        have hMX := szC_ok' (by omega) (by omega) c2
        have hcnX := szC_cntA (by omega) (by omega) c2
        refine den_skip ?_
        refine den_seq ?_
        refine den_region TTok ?_
        intro K hK
        simp -implicitDefEqProofs (disch := first | decide | assumption | omega) only [go_sem, ld40, BoxAt.cell hb0_0, BoxAt.cell hb0_1, RdS.len ru sl37, RdS.len rv sl37, wrap_id]
        try simp -implicitDefEqProofs (disch := first | decide | assumption | omega) only [go_sem, BoxAt.cell hb0_0, BoxAt.cell hb0_1, RdS.len ru sl37, RdS.len rv sl37, wrap_id]
        refine CallA.mono (szC_ok _ Y _ _ ⟨_, _, rfl, (RdS.pres hdY (Ext.pres eB)), (RdS.pres hmY (Ext.pres eB))⟩ (by omega) (by omega)) ?_
        intro v_ h9_2
        rintro ⟨rfl, e9_2⟩
        replace hb0_0 := BoxAt.ext hb0_0 e9_2
        replace hb0_1 := BoxAt.ext hb0_1 e9_2
        have := Ext.size e9_2
        replace eB := Ext.trans eB e9_2
        have := szC_le Y (szC X (1048576 : Int)) (by omega)
        try simp -implicitDefEqProofs (disch := first | decide | assumption | omega) only [go_sem, BoxAt.cell hb0_0, BoxAt.cell hb0_1, RdS.len ru sl37, RdS.len rv sl37, wrap_id]
        refine hK _ _ ?_
        clear hK K
        refine den_seq ?_
        refine den_seq ?_
        refine den_region TTok ?_
        intro K hK
        simp -implicitDefEqProofs (disch := first | decide | assumption | omega) only [go_sem, BoxAt.cell hb0_0, BoxAt.cell hb0_1, RdS.len ru sl37, RdS.len rv sl37, wrap_id]
        refine hK _ _ ?_
        clear hK K
        refine den_cond rfl (fun c3 => ?_) (fun c3 => ?_)
        · try simp only [decide_eq_true_eq, decide_eq_false_iff_not, beq_iff_eq, beq_eq_false_iff_ne, bne_iff_ne, ne_eq, Bool.not_eq_true', Bool.not_eq_false', Bool.and_eq_true, Bool.or_eq_true, bne_eq_false_iff_eq] at c3
          refine den_seq ?_
          refine den_region TTok ?_
          intro K hK
          simp -implicitDefEqProofs (disch := first | decide | assumption | omega) only [go_sem, RdS.len ru sl37, RdS.len rv sl37, wrap_id]
          refine hK _ _ ?_
          clear hK K
          refine den_ret ?_
          simp (disch := decide) only [resP_1, puts_same, puts_ne]
          exact ⟨by first | rfl | trivial, eB⟩
        · try simp only [decide_eq_true_eq, decide_eq_false_iff_not, beq_iff_eq, beq_eq_false_iff_ne, bne_iff_ne, ne_eq, Bool.not_eq_true', Bool.not_eq_false', Bool.and_eq_true, Bool.or_eq_true, bne_eq_false_iff_eq] at c3
          have hMY := szC_ok' (by omega) (by omega) c3
          have hcnY := szC_cntA (by omega) (by omega) c3
          have hci := cnt_pv X Y i u j v
          refine den_skip ?_
          refine den_seq ?_
          refine den_draw TTok mixed [] [(0, true), (2, true), (4, true), (5, true), (7, true), (8, true), (1, false), (3, false), (6, false), (9, false), (10, false), (11, true), (12, true), (13, true), (14, true), (15, true)] (by kernel_rfl) ?_
          intro K hK
          simp -implicitDefEqProofs (disch := first | decide | assumption | omega) only [go_sem, ld40, BoxAt.cell hb0_0, BoxAt.cell hb0_1, RdS.len ru sl37, RdS.len rv sl37, wrap_id]
          try simp -implicitDefEqProofs (disch := first | decide | assumption | omega) only [go_sem, BoxAt.cell hb0_0, BoxAt.cell hb0_1, RdS.len ru sl37, RdS.len rv sl37, wrap_id]
          refine CallA.mono (toC_ok _ X _ ⟨_, _, rfl, (RdS.pres hdX (Ext.pres eB)), (RdS.pres hmX (Ext.pres eB))⟩ hMX) ?_
          intro v_ h12_1
          rintro ⟨vd12_1, vm12_1, fd12_1, fm12_1, rfl, hod12_1, hom12_1, hf12_1, e12_1⟩
          replace hb0_0 := BoxAt.ext hb0_0 e12_1
          replace hb0_1 := BoxAt.ext hb0_1 e12_1
          have := Ext.size e12_1
          replace eB := Ext.trans eB e12_1
          have hfd12_1 := hf12_1.left
          have hfm12_1 := hf12_1.right
          have hlhod12_1 := OS.lt hod12_1
          have hlhom12_1 := OS.lt hom12_1
          have ap1 : Apart fd12_1 fm12_1 := apart_nodup hf12_1
          try simp (disch := decide) only [outv_some, outv_none, put_puts]
          refine plK_pres (Ext.pres e12_1) ?_
          try simp -implicitDefEqProofs (disch := first | decide | assumption | omega) only [go_sem, BoxAt.cell hb0_0, BoxAt.cell hb0_1, RdS.len ru sl37, RdS.len rv sl37, wrap_id]
          try simp -implicitDefEqProofs (disch := first | decide | assumption | omega) only [go_sem, BoxAt.cell hb0_0, BoxAt.cell hb0_1, RdS.len ru sl37, RdS.len rv sl37, wrap_id]
          refine CallA.mono (toC_ok _ Y _ ⟨_, _, rfl, (RdS.pres hdY (Ext.pres eB)), (RdS.pres hmY (Ext.pres eB))⟩ hMY) ?_
          intro v_ h12_3
          rintro ⟨vd12_3, vm12_3, fd12_3, fm12_3, rfl, hod12_3, hom12_3, hf12_3, e12_3⟩
          replace hod12_1 := OS.ext hod12_1 e12_3
          replace hom12_1 := OS.ext hom12_1 e12_3
          replace hb0_0 := BoxAt.ext hb0_0 e12_3
          replace hb0_1 := BoxAt.ext hb0_1 e12_3
          have := Ext.size e12_3
          replace eB := Ext.trans eB e12_3
          have hfd12_3 := hf12_3.left
          have hfm12_3 := hf12_3.right
          have hlhod12_3 := OS.lt hod12_3
          have hlhom12_3 := OS.lt hom12_3
          have ap2 : Apart fd12_3 fm12_3 := apart_nodup hf12_3
          try simp (disch := decide) only [outv_some, outv_none, put_puts]
          refine plK_pres (Ext.pres e12_3) ?_
          try simp -implicitDefEqProofs (disch := first | decide | assumption | omega) only [go_sem, BoxAt.cell hb0_0, BoxAt.cell hb0_1, RdS.len ru sl37, RdS.len rv sl37, wrap_id]
          try simp -implicitDefEqProofs (disch := first | decide | assumption | omega) only [go_sem, BoxAt.cell hb0_0, BoxAt.cell hb0_1, RdS.len ru sl37, RdS.len rv sl37, wrap_id]
          refine CallA.mono (toS_ok _ u _ (RdS.pres ru (Ext.pres eB)) hMu) ?_
          intro v12_6 h12_6
          rintro ⟨f12_6, ho12_6, hf12_6, e12_6⟩
          replace hod12_1 := OS.ext hod12_1 e12_6
          replace hom12_1 := OS.ext hom12_1 e12_6
          replace hod12_3 := OS.ext hod12_3 e12_6
          replace hom12_3 := OS.ext hom12_3 e12_6
          replace hb0_0 := BoxAt.ext hb0_0 e12_6
          replace hb0_1 := BoxAt.ext hb0_1 e12_6
          have := Ext.size e12_6
          replace eB := Ext.trans eB e12_6
          have hlho12_6 := OS.lt ho12_6
          try simp (disch := decide) only [outv_some, outv_none, put_puts]
          refine plK_pres (Ext.pres e12_6) ?_
          try simp -implicitDefEqProofs (disch := first | decide | assumption | omega) only [go_sem, BoxAt.cell hb0_0, BoxAt.cell hb0_1, RdS.len ru sl37, RdS.len rv sl37, wrap_id]
          try simp -implicitDefEqProofs (disch := first | decide | assumption | omega) only [go_sem, BoxAt.cell hb0_0, BoxAt.cell hb0_1, RdS.len ru sl37, RdS.len rv sl37, wrap_id]
          refine CallA.mono (toS_ok _ v _ (RdS.pres rv (Ext.pres eB)) hMv) ?_
          intro v12_9 h12_9
          rintro ⟨f12_9, ho12_9, hf12_9, e12_9⟩
          replace hod12_1 := OS.ext hod12_1 e12_9
          replace hom12_1 := OS.ext hom12_1 e12_9
          replace hod12_3 := OS.ext hod12_3 e12_9
          replace hom12_3 := OS.ext hom12_3 e12_9
          replace ho12_6 := OS.ext ho12_6 e12_9
          replace hb0_0 := BoxAt.ext hb0_0 e12_9
          replace hb0_1 := BoxAt.ext hb0_1 e12_9
          have := Ext.size e12_9
          replace eB := Ext.trans eB e12_9
          have hlho12_9 := OS.lt ho12_9
          try simp (disch := decide) only [outv_some, outv_none, put_puts]
          refine plK_pres (Ext.pres e12_9) ?_
          try simp -implicitDefEqProofs (disch := first | decide | assumption | omega) only [go_sem, BoxAt.cell hb0_0, BoxAt.cell hb0_1, RdS.len ru sl37, RdS.len rv sl37, wrap_id]
          try simp -implicitDefEqProofs (disch := first | decide | assumption | omega) only [go_sem, BoxAt.cell hb0_0, BoxAt.cell hb0_1, RdS.len ru sl37, RdS.len rv sl37, wrap_id]
          refine CallA.mono (sPv_ok _ _ _ _ X Y i u j v _ ⟨_, _, rfl, (OS.rd hod12_1), (OS.rd hom12_1)⟩ ⟨_, _, rfl, (OS.rd hod12_3), (OS.rd hom12_3)⟩ (OS.rd ho12_6) (OS.rd ho12_9) ) ?_
          intro v_ h12_10
          rintro ⟨vw12_10_0, fw12_10_0, rfl, how12_10_0, hfw12_10_0, e12_10⟩
          replace hod12_1 := OS.ext hod12_1 e12_10
          replace hom12_1 := OS.ext hom12_1 e12_10
          replace hod12_3 := OS.ext hod12_3 e12_10
          replace hom12_3 := OS.ext hom12_3 e12_10
          replace ho12_6 := OS.ext ho12_6 e12_10
          replace ho12_9 := OS.ext ho12_9 e12_10
          replace hb0_0 := BoxAt.ext hb0_0 e12_10
          replace hb0_1 := BoxAt.ext hb0_1 e12_10
          have := Ext.size e12_10
          replace eB := Ext.trans eB e12_10
          have hlhow12_10_0 := OS.lt how12_10_0
          try simp (disch := decide) only [outv_some, outv_none, put_puts]
          refine plK_pres (Ext.pres e12_10) ?_
          try simp -implicitDefEqProofs (disch := first | decide | assumption | omega) only [go_sem, BoxAt.cell hb0_0, BoxAt.cell hb0_1, RdS.len ru sl37, RdS.len rv sl37, wrap_id]
          refine hK _ _ ?_
          clear hK K
          refine den_seq ?_
          refine den_region TTok ?_
          intro K hK
          simp -implicitDefEqProofs (disch := first | decide | assumption | omega) only [go_sem, ld40, BoxAt.cell hb0_0, BoxAt.cell hb0_1, RdS.len ru sl37, RdS.len rv sl37, wrap_id]
          try simp -implicitDefEqProofs (disch := first | decide | assumption | omega) only [go_sem, BoxAt.cell hb0_0, BoxAt.cell hb0_1, RdS.len ru sl37, RdS.len rv sl37, wrap_id]
          refine CallA.mono (toC_ok _ X _ ⟨_, _, rfl, (RdS.pres hdX (Ext.pres eB)), (RdS.pres hmX (Ext.pres eB))⟩ hMX) ?_
          intro v_ h13_1
          rintro ⟨vd13_1, vm13_1, fd13_1, fm13_1, rfl, hod13_1, hom13_1, hf13_1, e13_1⟩
          replace how12_10_0 := OS.ext how12_10_0 e13_1
          replace hb0_0 := BoxAt.ext hb0_0 e13_1
          replace hb0_1 := BoxAt.ext hb0_1 e13_1
          have := Ext.size e13_1
          replace eB := Ext.trans eB e13_1
          have hfd13_1 := hf13_1.left
          have hfm13_1 := hf13_1.right
          have hlhod13_1 := OS.lt hod13_1
          have hlhom13_1 := OS.lt hom13_1
          have ap3 : Apart fd13_1 fm13_1 := apart_nodup hf13_1
          try simp -implicitDefEqProofs (disch := first | decide | assumption | omega) only [go_sem, BoxAt.cell hb0_0, BoxAt.cell hb0_1, RdS.len ru sl37, RdS.len rv sl37, wrap_id]
          refine op_alloc (cs := #[.int .i64 0, .slice none 0 0, .slice none 0 0]) (by kernel_rfl) ?_
          intro h13_2 e13_2 hb13_2 z13_2
          replace how12_10_0 := OS.ext how12_10_0 e13_2
          replace hod13_1 := OS.ext hod13_1 e13_2
          replace hom13_1 := OS.ext hom13_1 e13_2
          replace hb0_0 := BoxAt.ext hb0_0 e13_2
          replace hb0_1 := BoxAt.ext hb0_1 e13_2
          have := Ext.size e13_2
          replace eB := Ext.trans eB e13_2
          have hfhb13_2 : Fresh h13_1.size [h13_1.size] := Fresh.one _
          have hlhb13_2 := one_lt (show h13_1.size < h13_2.size by omega)
          try simp -implicitDefEqProofs (disch := first | decide | assumption | omega) only [go_sem, BoxAt.cell hb0_0, BoxAt.cell hb0_1, BoxAt.cell hb13_2, RdS.len ru sl37, RdS.len rv sl37, wrap_id]
          refine op_storeB (cs' := #[.int .i64 (X.p), vd13_1, vm13_1]) st44 hb13_2 rfl rfl rfl (by simp) (allOne_mem (l := [.int .i64 (X.p), vd13_1, vm13_1]) ⟨rfl, (OS.one hod13_1).1, (OS.one hom13_1).1, trivial⟩) rfl ?_
          intro h13_3 hb13_2 c13_3
          replace how12_10_0 := OS.chg how12_10_0 c13_3 (apart_lt hlhow12_10_0 hfhb13_2 (by omega))
          replace hod13_1 := OS.chg hod13_1 c13_3 (apart_lt hlhod13_1 hfhb13_2 (by omega))
          replace hom13_1 := OS.chg hom13_1 c13_3 (apart_lt hlhom13_1 hfhb13_2 (by omega))
          replace hb0_0 := BoxAt.chgA hb0_0 c13_3 (apart_lt hlhb0_0 hfhb13_2 (by omega))
          replace hb0_1 := BoxAt.chgA hb0_1 c13_3 (apart_lt hlhb0_1 hfhb13_2 (by omega))
          have := c13_3.size
          replace eB := Ext.then eB c13_3 (ge_of hfhb13_2 (by omega))
          try simp -implicitDefEqProofs (disch := first | decide | assumption | omega) only [go_sem, BoxAt.cell hb0_0, BoxAt.cell hb0_1, BoxAt.cell hb13_2, RdS.len ru sl37, RdS.len rv sl37, wrap_id]
          refine hK _ _ ?_
          clear hK K
          refine den_seq ?_
          refine den_region TTok ?_
          intro K hK
          simp -implicitDefEqProofs (disch := first | decide | assumption | omega) only [go_sem, ld40, BoxAt.cell hb0_0, BoxAt.cell hb0_1, BoxAt.cell hb13_2, RdS.len ru sl37, RdS.len rv sl37, wrap_id]
          try simp -implicitDefEqProofs (disch := first | decide | assumption | omega) only [go_sem, BoxAt.cell hb0_0, BoxAt.cell hb0_1, BoxAt.cell hb13_2, RdS.len ru sl37, RdS.len rv sl37, wrap_id]
          refine CallA.mono (toC_ok _ Y _ ⟨_, _, rfl, (RdS.pres hdY (Ext.pres eB)), (RdS.pres hmY (Ext.pres eB))⟩ hMY) ?_
          intro v_ h14_1
          rintro ⟨vd14_1, vm14_1, fd14_1, fm14_1, rfl, hod14_1, hom14_1, hf14_1, e14_1⟩
          replace how12_10_0 := OS.ext how12_10_0 e14_1
          replace hod13_1 := OS.ext hod13_1 e14_1
          replace hom13_1 := OS.ext hom13_1 e14_1
          replace hb0_0 := BoxAt.ext hb0_0 e14_1
          replace hb0_1 := BoxAt.ext hb0_1 e14_1
          replace hb13_2 := BoxAt.ext hb13_2 e14_1
          have := Ext.size e14_1
          replace eB := Ext.trans eB e14_1
          have hfd14_1 := hf14_1.left
          have hfm14_1 := hf14_1.right
          have hlhod14_1 := OS.lt hod14_1
          have hlhom14_1 := OS.lt hom14_1
          have ap4 : Apart fd14_1 fm14_1 := apart_nodup hf14_1
          try simp -implicitDefEqProofs (disch := first | decide | assumption | omega) only [go_sem, BoxAt.cell hb0_0, BoxAt.cell hb0_1, BoxAt.cell hb13_2, RdS.len ru sl37, RdS.len rv sl37, wrap_id]
          refine op_alloc (cs := #[.int .i64 0, .slice none 0 0, .slice none 0 0]) (by kernel_rfl) ?_
          intro h14_2 e14_2 hb14_2 z14_2
          replace how12_10_0 := OS.ext how12_10_0 e14_2
          replace hod13_1 := OS.ext hod13_1 e14_2
          replace hom13_1 := OS.ext hom13_1 e14_2
          replace hod14_1 := OS.ext hod14_1 e14_2
          replace hom14_1 := OS.ext hom14_1 e14_2
          replace hb0_0 := BoxAt.ext hb0_0 e14_2
          replace hb0_1 := BoxAt.ext hb0_1 e14_2
          replace hb13_2 := BoxAt.ext hb13_2 e14_2
          have := Ext.size e14_2
          replace eB := Ext.trans eB e14_2
          have hfhb14_2 : Fresh h14_1.size [h14_1.size] := Fresh.one _
          have hlhb14_2 := one_lt (show h14_1.size < h14_2.size by omega)
          try simp -implicitDefEqProofs (disch := first | decide | assumption | omega) only [go_sem, BoxAt.cell hb0_0, BoxAt.cell hb0_1, BoxAt.cell hb13_2, BoxAt.cell hb14_2, RdS.len ru sl37, RdS.len rv sl37, wrap_id]
          refine op_storeB (cs' := #[.int .i64 (Y.p), vd14_1, vm14_1]) st44 hb14_2 rfl rfl rfl (by simp) (allOne_mem (l := [.int .i64 (Y.p), vd14_1, vm14_1]) ⟨rfl, (OS.one hod14_1).1, (OS.one hom14_1).1, trivial⟩) rfl ?_
          intro h14_3 hb14_2 c14_3
          replace how12_10_0 := OS.chg how12_10_0 c14_3 (apart_lt hlhow12_10_0 hfhb14_2 (by omega))
          replace hod13_1 := OS.chg hod13_1 c14_3 (apart_lt hlhod13_1 hfhb14_2 (by omega))
          replace hom13_1 := OS.chg hom13_1 c14_3 (apart_lt hlhom13_1 hfhb14_2 (by omega))
          replace hod14_1 := OS.chg hod14_1 c14_3 (apart_lt hlhod14_1 hfhb14_2 (by omega))
          replace hom14_1 := OS.chg hom14_1 c14_3 (apart_lt hlhom14_1 hfhb14_2 (by omega))
          replace hb0_0 := BoxAt.chgA hb0_0 c14_3 (apart_lt hlhb0_0 hfhb14_2 (by omega))
          replace hb0_1 := BoxAt.chgA hb0_1 c14_3 (apart_lt hlhb0_1 hfhb14_2 (by omega))
          replace hb13_2 := BoxAt.chgA hb13_2 c14_3 (apart_lt hlhb13_2 hfhb14_2 (by omega))
          have := c14_3.size
          replace eB := Ext.then eB c14_3 (ge_of hfhb14_2 (by omega))
          try simp -implicitDefEqProofs (disch := first | decide | assumption | omega) only [go_sem, BoxAt.cell hb0_0, BoxAt.cell hb0_1, BoxAt.cell hb13_2, BoxAt.cell hb14_2, RdS.len ru sl37, RdS.len rv sl37, wrap_id]
          refine hK _ _ ?_
          clear hK K
          refine den_seq ?_
          refine den_region TTok ?_
          intro K hK
          simp -implicitDefEqProofs (disch := first | decide | assumption | omega) only [go_sem, BoxAt.cell hb0_0, BoxAt.cell hb0_1, BoxAt.cell hb13_2, BoxAt.cell hb14_2, RdS.len ru sl37, RdS.len rv sl37, wrap_id]
          try simp -implicitDefEqProofs (disch := first | decide | assumption | omega) only [go_sem, BoxAt.cell hb0_0, BoxAt.cell hb0_1, BoxAt.cell hb13_2, BoxAt.cell hb14_2, RdS.len ru sl37, RdS.len rv sl37, wrap_id]
          refine CallA.mono (toS_ok _ u _ (RdS.pres ru (Ext.pres eB)) hMu) ?_
          intro v15_1 h15_1
          rintro ⟨f15_1, ho15_1, hf15_1, e15_1⟩
          replace how12_10_0 := OS.ext how12_10_0 e15_1
          replace hod13_1 := OS.ext hod13_1 e15_1
          replace hom13_1 := OS.ext hom13_1 e15_1
          replace hod14_1 := OS.ext hod14_1 e15_1
          replace hom14_1 := OS.ext hom14_1 e15_1
          replace hb0_0 := BoxAt.ext hb0_0 e15_1
          replace hb0_1 := BoxAt.ext hb0_1 e15_1
          replace hb13_2 := BoxAt.ext hb13_2 e15_1
          replace hb14_2 := BoxAt.ext hb14_2 e15_1
          have := Ext.size e15_1
          replace eB := Ext.trans eB e15_1
          have hlho15_1 := OS.lt ho15_1
          try simp -implicitDefEqProofs (disch := first | decide | assumption | omega) only [go_sem, BoxAt.cell hb0_0, BoxAt.cell hb0_1, BoxAt.cell hb13_2, BoxAt.cell hb14_2, RdS.len ru sl37, RdS.len rv sl37, wrap_id]
          refine hK _ _ ?_
          clear hK K
          refine den_seq ?_
          refine den_region TTok ?_
          intro K hK
          simp -implicitDefEqProofs (disch := first | decide | assumption | omega) only [go_sem, BoxAt.cell hb0_0, BoxAt.cell hb0_1, BoxAt.cell hb13_2, BoxAt.cell hb14_2, RdS.len ru sl37, RdS.len rv sl37, wrap_id]
          try simp -implicitDefEqProofs (disch := first | decide | assumption | omega) only [go_sem, BoxAt.cell hb0_0, BoxAt.cell hb0_1, BoxAt.cell hb13_2, BoxAt.cell hb14_2, RdS.len ru sl37, RdS.len rv sl37, wrap_id]
          refine CallA.mono (toS_ok _ v _ (RdS.pres rv (Ext.pres eB)) hMv) ?_
          intro v16_1 h16_1
          rintro ⟨f16_1, ho16_1, hf16_1, e16_1⟩
          replace how12_10_0 := OS.ext how12_10_0 e16_1
          replace hod13_1 := OS.ext hod13_1 e16_1
          replace hom13_1 := OS.ext hom13_1 e16_1
          replace hod14_1 := OS.ext hod14_1 e16_1
          replace hom14_1 := OS.ext hom14_1 e16_1
          replace ho15_1 := OS.ext ho15_1 e16_1
          replace hb0_0 := BoxAt.ext hb0_0 e16_1
          replace hb0_1 := BoxAt.ext hb0_1 e16_1
          replace hb13_2 := BoxAt.ext hb13_2 e16_1
          replace hb14_2 := BoxAt.ext hb14_2 e16_1
          have := Ext.size e16_1
          replace eB := Ext.trans eB e16_1
          have hlho16_1 := OS.lt ho16_1
          try simp -implicitDefEqProofs (disch := first | decide | assumption | omega) only [go_sem, BoxAt.cell hb0_0, BoxAt.cell hb0_1, BoxAt.cell hb13_2, BoxAt.cell hb14_2, RdS.len ru sl37, RdS.len rv sl37, wrap_id]
          refine hK _ _ ?_
          clear hK K
          refine den_seq ?_
          refine den_region TTok ?_
          intro K hK
          simp -implicitDefEqProofs (disch := first | decide | assumption | omega) only [go_sem, ld44, BoxAt.cell hb0_0, BoxAt.cell hb0_1, BoxAt.cell hb13_2, BoxAt.cell hb14_2, RdS.len ru sl37, RdS.len rv sl37, wrap_id]
          try simp -implicitDefEqProofs (disch := first | decide | assumption | omega) only [go_sem, BoxAt.cell hb0_0, BoxAt.cell hb0_1, BoxAt.cell hb13_2, BoxAt.cell hb14_2, RdS.len ru sl37, RdS.len rv sl37, wrap_id]
          refine CallA.mono (iPv_ok _ _ _ _ X Y i u j v _ ⟨_, _, rfl, (OS.rd hod13_1), (OS.rd hom13_1)⟩ ⟨_, _, rfl, (OS.rd hod14_1), (OS.rd hom14_1)⟩ (OS.rd ho15_1) (OS.rd ho16_1) ) ?_
          intro v_ h17_6
          rintro ⟨vw17_6_0, fw17_6_0, rfl, how17_6_0, hfw17_6_0, e17_6⟩
          replace how12_10_0 := OS.ext how12_10_0 e17_6
          replace hod13_1 := OS.ext hod13_1 e17_6
          replace hom13_1 := OS.ext hom13_1 e17_6
          replace hod14_1 := OS.ext hod14_1 e17_6
          replace hom14_1 := OS.ext hom14_1 e17_6
          replace ho15_1 := OS.ext ho15_1 e17_6
          replace ho16_1 := OS.ext ho16_1 e17_6
          replace hb0_0 := BoxAt.ext hb0_0 e17_6
          replace hb0_1 := BoxAt.ext hb0_1 e17_6
          replace hb13_2 := BoxAt.ext hb13_2 e17_6
          replace hb14_2 := BoxAt.ext hb14_2 e17_6
          have := Ext.size e17_6
          replace eB := Ext.trans eB e17_6
          have hlhow17_6_0 := OS.lt how17_6_0
          try simp -implicitDefEqProofs (disch := first | decide | assumption | omega) only [go_sem, BoxAt.cell hb0_0, BoxAt.cell hb0_1, BoxAt.cell hb13_2, BoxAt.cell hb14_2, RdS.len ru sl37, RdS.len rv sl37, wrap_id]
          refine hK _ _ ?_
          clear hK K
          refine den_seq ?_
          refine den_seq ?_
          refine den_mergeH [(83, .bool (((!(true)) || (((pvP X Y i u j v).2) != ((pvP X Y i u j v).2)))))] [2, 3, 4, 5, 6, 7, 14, 15, 16, 17, 18, 19, 20, 21] ?_ ?_
            -- a way
          · refine den_region TTok ?_
            intro K hK
            simp -implicitDefEqProofs (disch := first | decide | assumption | (simp (disch := decide) only [slotOf_zero, slotOf_succ, Option.map_some, puts_same, puts_ne, gv_bool, gv_undef, tt, tf, ft, ff, eq_self, if_true, if_false, Bool.false_eq_true, Bool.not_true, Bool.not_false]; done) | omega) only [go_sem, BoxAt.cell hb0_0, BoxAt.cell hb0_1, BoxAt.cell hb13_2, BoxAt.cell hb14_2, RdS.len ru sl37, RdS.len rv sl37, wrap_id]
            try simp -implicitDefEqProofs (disch := first | decide | assumption | omega) only [go_sem, BoxAt.cell hb0_0, BoxAt.cell hb0_1, BoxAt.cell hb13_2, BoxAt.cell hb14_2, RdS.len ru sl37, RdS.len rv sl37, wrap_id]
            refine CallA.pure (eqS_same _ _ _ _ (OS.rd how17_6_0) (OS.rd how12_10_0)) ?_
            try simp -implicitDefEqProofs (disch := first | decide | assumption | (simp (disch := decide) only [slotOf_zero, slotOf_succ, Option.map_some, puts_same, puts_ne, gv_bool, gv_undef, tt, tf, ft, ff, eq_self, if_true, if_false, Bool.false_eq_true, Bool.not_true, Bool.not_false]; done) | omega) only [go_sem, BoxAt.cell hb0_0, BoxAt.cell hb0_1, BoxAt.cell hb13_2, BoxAt.cell hb14_2, RdS.len ru sl37, RdS.len rv sl37, wrap_id]
            try simp -implicitDefEqProofs (disch := first | decide | assumption | (simp (disch := decide) only [slotOf_zero, slotOf_succ, Option.map_some, puts_same, puts_ne, gv_bool, gv_undef, tt, tf, ft, ff, eq_self, if_true, if_false, Bool.false_eq_true, Bool.not_true, Bool.not_false]; done) | omega) only [go_sem, BoxAt.cell hb0_0, BoxAt.cell hb0_1, BoxAt.cell hb13_2, BoxAt.cell hb14_2, RdS.len ru sl37, RdS.len rv sl37, wrap_id]
            refine hK _ _ ?_
            clear hK K
            refine den_stop ?_
            refine ⟨?_, rfl⟩
            first | (simp (disch := decide) only [go_sem, eq_self, Bool.true_and, Bool.and_true, Bool.false_and, Bool.and_false, Bool.true_or, Bool.or_true, Bool.false_or, Bool.or_false, if_true, if_false, Bool.false_eq_true]; done) | simp [HasL, sel, puts_at]
          intro en5
          simp (disch := decide) only [go_sem]
          refine den_cond rfl (fun c4 => ?_) (fun c4 => ?_)
          · try simp only [decide_eq_true_eq, decide_eq_false_iff_not, beq_iff_eq, beq_eq_false_iff_ne, bne_iff_ne, ne_eq, Bool.not_eq_true', Bool.not_eq_false', Bool.and_eq_true, Bool.or_eq_true, bne_eq_false_iff_eq] at c4
            refine den_seq ?_
            refine den_region TTok ?_
            intro K hK
            simp -implicitDefEqProofs (disch := first | decide | assumption | omega) only [go_sem, RdS.len ru sl37, RdS.len rv sl37, wrap_id]
            refine hK _ _ ?_
            clear hK K
            refine den_ret ?_
            simp (disch := decide) only [resP_1, puts_same, puts_ne]
            exact absurd c4 (by first | (simp; done) | (simp; omega) | omega | (simp [eqC_self]; done))
          · try simp only [decide_eq_true_eq, decide_eq_false_iff_not, beq_iff_eq, beq_eq_false_iff_ne, bne_iff_ne, ne_eq, Bool.not_eq_true', Bool.not_eq_false', Bool.and_eq_true, Bool.or_eq_true, bne_eq_false_iff_eq] at c4
            refine den_skip ?_
            refine den_seq ?_
            refine den_seq ?_
            refine den_draw TTok mixed [] [(0, true), (1, true), (2, false), (3, false), (4, true)] (by kernel_rfl) ?_
            intro K hK
            simp -implicitDefEqProofs (disch := first | decide | assumption | omega) only [go_sem, ld44, ld40, BoxAt.cell hb0_0, BoxAt.cell hb0_1, BoxAt.cell hb13_2, BoxAt.cell hb14_2, RdS.len ru sl37, RdS.len rv sl37, wrap_id]
            try simp -implicitDefEqProofs (disch := first | decide | assumption | omega) only [go_sem, BoxAt.cell hb0_0, BoxAt.cell hb0_1, BoxAt.cell hb13_2, BoxAt.cell hb14_2, RdS.len ru sl37, RdS.len rv sl37, wrap_id]
            refine CallA.mono (toC_ok _ X _ ⟨_, _, rfl, (RdS.pres hdX (Ext.pres eB)), (RdS.pres hmX (Ext.pres eB))⟩ hMX) ?_
            intro v_ h20_2
            rintro ⟨vd20_2, vm20_2, fd20_2, fm20_2, rfl, hod20_2, hom20_2, hf20_2, e20_2⟩
            replace how12_10_0 := OS.ext how12_10_0 e20_2
            replace hod13_1 := OS.ext hod13_1 e20_2
            replace hom13_1 := OS.ext hom13_1 e20_2
            replace hod14_1 := OS.ext hod14_1 e20_2
            replace hom14_1 := OS.ext hom14_1 e20_2
            replace ho15_1 := OS.ext ho15_1 e20_2
            replace ho16_1 := OS.ext ho16_1 e20_2
            replace how17_6_0 := OS.ext how17_6_0 e20_2
            replace hb0_0 := BoxAt.ext hb0_0 e20_2
            replace hb0_1 := BoxAt.ext hb0_1 e20_2
            replace hb13_2 := BoxAt.ext hb13_2 e20_2
            replace hb14_2 := BoxAt.ext hb14_2 e20_2
            have := Ext.size e20_2
            replace eB := Ext.trans eB e20_2
            have hfd20_2 := hf20_2.left
            have hfm20_2 := hf20_2.right
            have hlhod20_2 := OS.lt hod20_2
            have hlhom20_2 := OS.lt hom20_2
            have ap8 : Apart fd20_2 fm20_2 := apart_nodup hf20_2
            try simp (disch := decide) only [outv_some, outv_none, put_puts]
            refine plK_pres (Ext.pres e20_2) ?_
            try simp -implicitDefEqProofs (disch := first | decide | assumption | omega) only [go_sem, BoxAt.cell hb0_0, BoxAt.cell hb0_1, BoxAt.cell hb13_2, BoxAt.cell hb14_2, RdS.len ru sl37, RdS.len rv sl37, wrap_id]
            try simp -implicitDefEqProofs (disch := first | decide | assumption | omega) only [go_sem, BoxAt.cell hb0_0, BoxAt.cell hb0_1, BoxAt.cell hb13_2, BoxAt.cell hb14_2, RdS.len ru sl37, RdS.len rv sl37, wrap_id]
            refine CallA.mono (eqC_same _ _ X _ ⟨_, _, rfl, (OS.rd hod13_1), (OS.rd hom13_1)⟩ ⟨_, _, rfl, (OS.rd hod20_2), (OS.rd hom20_2)⟩) ?_
            intro v_ h20_3
            rintro ⟨rfl, e20_3⟩
            replace how12_10_0 := OS.ext how12_10_0 e20_3
            replace hod13_1 := OS.ext hod13_1 e20_3
            replace hom13_1 := OS.ext hom13_1 e20_3
            replace hod14_1 := OS.ext hod14_1 e20_3
            replace hom14_1 := OS.ext hom14_1 e20_3
            replace ho15_1 := OS.ext ho15_1 e20_3
            replace ho16_1 := OS.ext ho16_1 e20_3
            replace how17_6_0 := OS.ext how17_6_0 e20_3
            replace hod20_2 := OS.ext hod20_2 e20_3
            replace hom20_2 := OS.ext hom20_2 e20_3
            replace hb0_0 := BoxAt.ext hb0_0 e20_3
            replace hb0_1 := BoxAt.ext hb0_1 e20_3
            replace hb13_2 := BoxAt.ext hb13_2 e20_3
            replace hb14_2 := BoxAt.ext hb14_2 e20_3
            have := Ext.size e20_3
            replace eB := Ext.trans eB e20_3
            try simp (disch := decide) only [outv_some, outv_none, put_puts]
            refine plK_pres (Ext.pres e20_3) ?_
            try simp -implicitDefEqProofs (disch := first | decide | assumption | omega) only [go_sem, BoxAt.cell hb0_0, BoxAt.cell hb0_1, BoxAt.cell hb13_2, BoxAt.cell hb14_2, RdS.len ru sl37, RdS.len rv sl37, wrap_id]
            refine hK _ _ ?_
            clear hK K
            refine den_cond rfl (fun c5 => ?_) (fun c5 => ?_)
            · try simp only [decide_eq_true_eq, decide_eq_false_iff_not, beq_iff_eq, beq_eq_false_iff_ne, bne_iff_ne, ne_eq, Bool.not_eq_true', Bool.not_eq_false', Bool.and_eq_true, Bool.or_eq_true, bne_eq_false_iff_eq] at c5
              refine den_seq ?_
              refine den_region TTok ?_
              intro K hK
              simp -implicitDefEqProofs (disch := first | decide | assumption | omega) only [go_sem, RdS.len ru sl37, RdS.len rv sl37, wrap_id]
              refine hK _ _ ?_
              clear hK K
              refine den_ret ?_
              simp (disch := decide) only [resP_1, puts_same, puts_ne]
              exact absurd c5 (by first | (simp; done) | (simp; omega) | omega | (simp [eqC_self]; done))
            · try simp only [decide_eq_true_eq, decide_eq_false_iff_not, beq_iff_eq, beq_eq_false_iff_ne, bne_iff_ne, ne_eq, Bool.not_eq_true', Bool.not_eq_false', Bool.and_eq_true, Bool.or_eq_true, bne_eq_false_iff_eq] at c5
              refine den_skip ?_
              refine den_seq ?_
              refine den_seq ?_
              refine den_draw TTok mixed [] [(0, true), (1, true), (2, false), (3, false), (4, true)] (by kernel_rfl) ?_
              intro K hK
              simp -implicitDefEqProofs (disch := first | decide | assumption | omega) only [go_sem, ld44, ld40, BoxAt.cell hb0_0, BoxAt.cell hb0_1, BoxAt.cell hb13_2, BoxAt.cell hb14_2, RdS.len ru sl37, RdS.len rv sl37, wrap_id]
              try simp -implicitDefEqProofs (disch := first | decide | assumption | omega) only [go_sem, BoxAt.cell hb0_0, BoxAt.cell hb0_1, BoxAt.cell hb13_2, BoxAt.cell hb14_2, RdS.len ru sl37, RdS.len rv sl37, wrap_id]
              refine CallA.mono (toC_ok _ Y _ ⟨_, _, rfl, (RdS.pres hdY (Ext.pres eB)), (RdS.pres hmY (Ext.pres eB))⟩ hMY) ?_
              intro v_ h22_2
              rintro ⟨vd22_2, vm22_2, fd22_2, fm22_2, rfl, hod22_2, hom22_2, hf22_2, e22_2⟩
              replace how12_10_0 := OS.ext how12_10_0 e22_2
              replace hod13_1 := OS.ext hod13_1 e22_2
              replace hom13_1 := OS.ext hom13_1 e22_2
              replace hod14_1 := OS.ext hod14_1 e22_2
              replace hom14_1 := OS.ext hom14_1 e22_2
              replace ho15_1 := OS.ext ho15_1 e22_2
              replace ho16_1 := OS.ext ho16_1 e22_2
              replace how17_6_0 := OS.ext how17_6_0 e22_2
              replace hb0_0 := BoxAt.ext hb0_0 e22_2
              replace hb0_1 := BoxAt.ext hb0_1 e22_2
              replace hb13_2 := BoxAt.ext hb13_2 e22_2
              replace hb14_2 := BoxAt.ext hb14_2 e22_2
              have := Ext.size e22_2
              replace eB := Ext.trans eB e22_2
              have hfd22_2 := hf22_2.left
              have hfm22_2 := hf22_2.right
              have hlhod22_2 := OS.lt hod22_2
              have hlhom22_2 := OS.lt hom22_2
              have ap9 : Apart fd22_2 fm22_2 := apart_nodup hf22_2
              try simp (disch := decide) only [outv_some, outv_none, put_puts]
              refine plK_pres (Ext.pres e22_2) ?_
              try simp -implicitDefEqProofs (disch := first | decide | assumption | omega) only [go_sem, BoxAt.cell hb0_0, BoxAt.cell hb0_1, BoxAt.cell hb13_2, BoxAt.cell hb14_2, RdS.len ru sl37, RdS.len rv sl37, wrap_id]
              try simp -implicitDefEqProofs (disch := first | decide | assumption | omega) only [go_sem, BoxAt.cell hb0_0, BoxAt.cell hb0_1, BoxAt.cell hb13_2, BoxAt.cell hb14_2, RdS.len ru sl37, RdS.len rv sl37, wrap_id]
              refine CallA.mono (eqC_same _ _ Y _ ⟨_, _, rfl, (OS.rd hod14_1), (OS.rd hom14_1)⟩ ⟨_, _, rfl, (OS.rd hod22_2), (OS.rd hom22_2)⟩) ?_
              intro v_ h22_3
              rintro ⟨rfl, e22_3⟩
              replace how12_10_0 := OS.ext how12_10_0 e22_3
              replace hod13_1 := OS.ext hod13_1 e22_3
              replace hom13_1 := OS.ext hom13_1 e22_3
              replace hod14_1 := OS.ext hod14_1 e22_3
              replace hom14_1 := OS.ext hom14_1 e22_3
              replace ho15_1 := OS.ext ho15_1 e22_3
              replace ho16_1 := OS.ext ho16_1 e22_3
              replace how17_6_0 := OS.ext how17_6_0 e22_3
              replace hod22_2 := OS.ext hod22_2 e22_3
              replace hom22_2 := OS.ext hom22_2 e22_3
              replace hb0_0 := BoxAt.ext hb0_0 e22_3
              replace hb0_1 := BoxAt.ext hb0_1 e22_3
              replace hb13_2 := BoxAt.ext hb13_2 e22_3
              replace hb14_2 := BoxAt.ext hb14_2 e22_3
              have := Ext.size e22_3
              replace eB := Ext.trans eB e22_3
              try simp (disch := decide) only [outv_some, outv_none, put_puts]
              refine plK_pres (Ext.pres e22_3) ?_
              try simp -implicitDefEqProofs (disch := first | decide | assumption | omega) only [go_sem, BoxAt.cell hb0_0, BoxAt.cell hb0_1, BoxAt.cell hb13_2, BoxAt.cell hb14_2, RdS.len ru sl37, RdS.len rv sl37, wrap_id]
              refine hK _ _ ?_
              clear hK K
              refine den_cond rfl (fun c6 => ?_) (fun c6 => ?_)
              · try simp only [decide_eq_true_eq, decide_eq_false_iff_not, beq_iff_eq, beq_eq_false_iff_ne, bne_iff_ne, ne_eq, Bool.not_eq_true', Bool.not_eq_false', Bool.and_eq_true, Bool.or_eq_true, bne_eq_false_iff_eq] at c6
                refine den_seq ?_
                refine den_region TTok ?_
                intro K hK
                simp -implicitDefEqProofs (disch := first | decide | assumption | omega) only [go_sem, RdS.len ru sl37, RdS.len rv sl37, wrap_id]
                refine hK _ _ ?_
                clear hK K
                refine den_ret ?_
                simp (disch := decide) only [resP_1, puts_same, puts_ne]
                exact absurd c6 (by first | (simp; done) | (simp; omega) | omega | (simp [eqC_self]; done))
              · try simp only [decide_eq_true_eq, decide_eq_false_iff_not, beq_iff_eq, beq_eq_false_iff_ne, bne_iff_ne, ne_eq, Bool.not_eq_true', Bool.not_eq_false', Bool.and_eq_true, Bool.or_eq_true, bne_eq_false_iff_eq] at c6
                refine den_skip ?_
                refine den_seq ?_
                refine den_seq ?_
                refine den_region TTok ?_
                intro K hK
                simp -implicitDefEqProofs (disch := first | decide | assumption | omega) only [go_sem, BoxAt.cell hb0_0, BoxAt.cell hb0_1, BoxAt.cell hb13_2, BoxAt.cell hb14_2, RdS.len ru sl37, RdS.len rv sl37, wrap_id]
                try simp -implicitDefEqProofs (disch := first | decide | assumption | omega) only [go_sem, BoxAt.cell hb0_0, BoxAt.cell hb0_1, BoxAt.cell hb13_2, BoxAt.cell hb14_2, RdS.len ru sl37, RdS.len rv sl37, wrap_id]
                refine CallA.mono (toS_ok _ u _ (RdS.pres ru (Ext.pres eB)) hMu) ?_
                intro v24_2 h24_2
                rintro ⟨f24_2, ho24_2, hf24_2, e24_2⟩
                replace how12_10_0 := OS.ext how12_10_0 e24_2
                replace hod13_1 := OS.ext hod13_1 e24_2
                replace hom13_1 := OS.ext hom13_1 e24_2
                replace hod14_1 := OS.ext hod14_1 e24_2
                replace hom14_1 := OS.ext hom14_1 e24_2
                replace ho15_1 := OS.ext ho15_1 e24_2
                replace ho16_1 := OS.ext ho16_1 e24_2
                replace how17_6_0 := OS.ext how17_6_0 e24_2
                replace hb0_0 := BoxAt.ext hb0_0 e24_2
                replace hb0_1 := BoxAt.ext hb0_1 e24_2
                replace hb13_2 := BoxAt.ext hb13_2 e24_2
                replace hb14_2 := BoxAt.ext hb14_2 e24_2
                have := Ext.size e24_2
                replace eB := Ext.trans eB e24_2
                have hlho24_2 := OS.lt ho24_2
                try simp -implicitDefEqProofs (disch := first | decide | assumption | omega) only [go_sem, BoxAt.cell hb0_0, BoxAt.cell hb0_1, BoxAt.cell hb13_2, BoxAt.cell hb14_2, RdS.len ru sl37, RdS.len rv sl37, wrap_id]
                try simp -implicitDefEqProofs (disch := first | decide | assumption | omega) only [go_sem, BoxAt.cell hb0_0, BoxAt.cell hb0_1, BoxAt.cell hb13_2, BoxAt.cell hb14_2, RdS.len ru sl37, RdS.len rv sl37, wrap_id]
                refine CallA.pure (eqS_same _ _ _ _ (OS.rd ho15_1) (OS.rd ho24_2)) ?_
                try simp -implicitDefEqProofs (disch := first | decide | assumption | omega) only [go_sem, BoxAt.cell hb0_0, BoxAt.cell hb0_1, BoxAt.cell hb13_2, BoxAt.cell hb14_2, RdS.len ru sl37, RdS.len rv sl37, wrap_id]
                refine hK _ _ ?_
                clear hK K
                refine den_cond rfl (fun c7 => ?_) (fun c7 => ?_)
                · try simp only [decide_eq_true_eq, decide_eq_false_iff_not, beq_iff_eq, beq_eq_false_iff_ne, bne_iff_ne, ne_eq, Bool.not_eq_true', Bool.not_eq_false', Bool.and_eq_true, Bool.or_eq_true, bne_eq_false_iff_eq] at c7
                  refine den_seq ?_
                  refine den_region TTok ?_
                  intro K hK
                  simp -implicitDefEqProofs (disch := first | decide | assumption | omega) only [go_sem, RdS.len ru sl37, RdS.len rv sl37, wrap_id]
                  refine hK _ _ ?_
                  clear hK K
                  refine den_ret ?_
                  simp (disch := decide) only [resP_1, puts_same, puts_ne]
                  exact absurd c7 (by first | (simp; done) | (simp; omega) | omega | (simp [eqC_self]; done))
                · try simp only [decide_eq_true_eq, decide_eq_false_iff_not, beq_iff_eq, beq_eq_false_iff_ne, bne_iff_ne, ne_eq, Bool.not_eq_true', Bool.not_eq_false', Bool.and_eq_true, Bool.or_eq_true, bne_eq_false_iff_eq] at c7
                  refine den_skip ?_
                  refine den_seq ?_
                  refine den_seq ?_
                  refine den_region TTok ?_
                  intro K hK
                  simp -implicitDefEqProofs (disch := first | decide | assumption | omega) only [go_sem, BoxAt.cell hb0_0, BoxAt.cell hb0_1, BoxAt.cell hb13_2, BoxAt.cell hb14_2, RdS.len ru sl37, RdS.len rv sl37, wrap_id]
                  try simp -implicitDefEqProofs (disch := first | decide | assumption | omega) only [go_sem, BoxAt.cell hb0_0, BoxAt.cell hb0_1, BoxAt.cell hb13_2, BoxAt.cell hb14_2, RdS.len ru sl37, RdS.len rv sl37, wrap_id]
                  refine CallA.mono (toS_ok _ v _ (RdS.pres rv (Ext.pres eB)) hMv) ?_
                  intro v26_2 h26_2
                  rintro ⟨f26_2, ho26_2, hf26_2, e26_2⟩
                  replace how12_10_0 := OS.ext how12_10_0 e26_2
                  replace hod13_1 := OS.ext hod13_1 e26_2
                  replace hom13_1 := OS.ext hom13_1 e26_2
                  replace hod14_1 := OS.ext hod14_1 e26_2
                  replace hom14_1 := OS.ext hom14_1 e26_2
                  replace ho15_1 := OS.ext ho15_1 e26_2
                  replace ho16_1 := OS.ext ho16_1 e26_2
                  replace how17_6_0 := OS.ext how17_6_0 e26_2
                  replace hb0_0 := BoxAt.ext hb0_0 e26_2
                  replace hb0_1 := BoxAt.ext hb0_1 e26_2
                  replace hb13_2 := BoxAt.ext hb13_2 e26_2
                  replace hb14_2 := BoxAt.ext hb14_2 e26_2
                  have := Ext.size e26_2
                  replace eB := Ext.trans eB e26_2
                  have hlho26_2 := OS.lt ho26_2
                  try simp -implicitDefEqProofs (disch := first | decide | assumption | omega) only [go_sem, BoxAt.cell hb0_0, BoxAt.cell hb0_1, BoxAt.cell hb13_2, BoxAt.cell hb14_2, RdS.len ru sl37, RdS.len rv sl37, wrap_id]
                  try simp -implicitDefEqProofs (disch := first | decide | assumption | omega) only [go_sem, BoxAt.cell hb0_0, BoxAt.cell hb0_1, BoxAt.cell hb13_2, BoxAt.cell hb14_2, RdS.len ru sl37, RdS.len rv sl37, wrap_id]
                  refine CallA.pure (eqS_same _ _ _ _ (OS.rd ho16_1) (OS.rd ho26_2)) ?_
                  try simp -implicitDefEqProofs (disch := first | decide | assumption | omega) only [go_sem, BoxAt.cell hb0_0, BoxAt.cell hb0_1, BoxAt.cell hb13_2, BoxAt.cell hb14_2, RdS.len ru sl37, RdS.len rv sl37, wrap_id]
                  refine hK _ _ ?_
                  clear hK K
                  refine den_cond rfl (fun c8 => ?_) (fun c8 => ?_)
                  · try simp only [decide_eq_true_eq, decide_eq_false_iff_not, beq_iff_eq, beq_eq_false_iff_ne, bne_iff_ne, ne_eq, Bool.not_eq_true', Bool.not_eq_false', Bool.and_eq_true, Bool.or_eq_true, bne_eq_false_iff_eq] at c8
                    refine den_seq ?_
                    refine den_region TTok ?_
                    intro K hK
                    simp -implicitDefEqProofs (disch := first | decide | assumption | omega) only [go_sem, RdS.len ru sl37, RdS.len rv sl37, wrap_id]
                    refine hK _ _ ?_
                    clear hK K
                    refine den_ret ?_
                    simp (disch := decide) only [resP_1, puts_same, puts_ne]
                    exact absurd c8 (by first | (simp; done) | (simp; omega) | omega | (simp [eqC_self]; done))
                  · try simp only [decide_eq_true_eq, decide_eq_false_iff_not, beq_iff_eq, beq_eq_false_iff_ne, bne_iff_ne, ne_eq, Bool.not_eq_true', Bool.not_eq_false', Bool.and_eq_true, Bool.or_eq_true, bne_eq_false_iff_eq] at c8
                    refine den_skip ?_
                    refine den_seq ?_
                    refine den_region TTok ?_
                    intro K hK
                    simp -implicitDefEqProofs (disch := first | decide | assumption | omega) only [go_sem, BoxAt.cell hb0_0, BoxAt.cell hb0_1, BoxAt.cell hb13_2, BoxAt.cell hb14_2, RdS.len ru sl37, RdS.len rv sl37, wrap_id]
                    refine hK _ _ ?_
                    clear hK K
                    refine den_seq ?_
                    refine den_region TTok ?_
                    intro K hK
                    simp -implicitDefEqProofs (disch := first | decide | assumption | omega) only [go_sem, ld44, BoxAt.cell hb0_0, BoxAt.cell hb0_1, BoxAt.cell hb13_2, BoxAt.cell hb14_2, RdS.len ru sl37, RdS.len rv sl37, wrap_id]
                    try simp -implicitDefEqProofs (disch := first | decide | assumption | omega) only [go_sem, BoxAt.cell hb0_0, BoxAt.cell hb0_1, BoxAt.cell hb13_2, BoxAt.cell hb14_2, RdS.len ru sl37, RdS.len rv sl37, wrap_id]
                    refine CallA.mono (markCx_ok _ _ X (1 : Int) _ _ _ hod13_1 hom13_1 (List.nodup_append.2 ⟨hfd13_1.nodup, hfm13_1.nodup, fun b hb c hc e => ap3 b hb (e ▸ hc)⟩) (by omega)) ?_
                    intro v_ h29_2
                    rintro ⟨rfl, hogd29_2, hogm29_2, cg29_2⟩
                    replace how12_10_0 := OS.chg how12_10_0 cg29_2 (Apart.app (apart_lt hlhow12_10_0 hfd13_1 (by omega)) (apart_lt hlhow12_10_0 hfm13_1 (by omega)))
                    replace hod14_1 := OS.chg hod14_1 cg29_2 (Apart.app (apart_gt hfd14_1 hlhod13_1 (by omega)) (apart_gt hfd14_1 hlhom13_1 (by omega)))
                    replace hom14_1 := OS.chg hom14_1 cg29_2 (Apart.app (apart_gt hfm14_1 hlhod13_1 (by omega)) (apart_gt hfm14_1 hlhom13_1 (by omega)))
                    replace ho15_1 := OS.chg ho15_1 cg29_2 (Apart.app (apart_gt hf15_1 hlhod13_1 (by omega)) (apart_gt hf15_1 hlhom13_1 (by omega)))
                    replace ho16_1 := OS.chg ho16_1 cg29_2 (Apart.app (apart_gt hf16_1 hlhod13_1 (by omega)) (apart_gt hf16_1 hlhom13_1 (by omega)))
                    replace how17_6_0 := OS.chg how17_6_0 cg29_2 (Apart.app (apart_gt hfw17_6_0 hlhod13_1 (by omega)) (apart_gt hfw17_6_0 hlhom13_1 (by omega)))
                    replace hb0_0 := BoxAt.chgA hb0_0 cg29_2 (Apart.app (apart_lt hlhb0_0 hfd13_1 (by omega)) (apart_lt hlhb0_0 hfm13_1 (by omega)))
                    replace hb0_1 := BoxAt.chgA hb0_1 cg29_2 (Apart.app (apart_lt hlhb0_1 hfd13_1 (by omega)) (apart_lt hlhb0_1 hfm13_1 (by omega)))
                    replace hb13_2 := BoxAt.chgA hb13_2 cg29_2 (Apart.app (apart_gt hfhb13_2 hlhod13_1 (by omega)) (apart_gt hfhb13_2 hlhom13_1 (by omega)))
                    replace hb14_2 := BoxAt.chgA hb14_2 cg29_2 (Apart.app (apart_gt hfhb14_2 hlhod13_1 (by omega)) (apart_gt hfhb14_2 hlhom13_1 (by omega)))
                    have := cg29_2.size
                    replace eB := Ext.then eB cg29_2 (ge_app (ge_of hfd13_1 (by omega)) (ge_of hfm13_1 (by omega)))
                    have ap10 : Apart fm13_1 fd13_1 := (Apart.symm ap3)
                    have hlhogd29_2 := OS.lt hogd29_2
                    have ap11 : Apart fd13_1 fm13_1 := (Apart.symm ap10)
                    have hlhogm29_2 := OS.lt hogm29_2
                    try simp -implicitDefEqProofs (disch := first | decide | assumption | omega) only [go_sem, BoxAt.cell hb0_0, BoxAt.cell hb0_1, BoxAt.cell hb13_2, BoxAt.cell hb14_2, RdS.len ru sl37, RdS.len rv sl37, wrap_id]
                    refine hK _ _ ?_
                    clear hK K
                    refine den_seq ?_
                    refine den_region TTok ?_
                    intro K hK
                    simp -implicitDefEqProofs (disch := first | decide | assumption | omega) only [go_sem, ld44, BoxAt.cell hb0_0, BoxAt.cell hb0_1, BoxAt.cell hb14_2, RdS.len ru sl37, RdS.len rv sl37, wrap_id]
                    try simp -implicitDefEqProofs (disch := first | decide | assumption | omega) only [go_sem, BoxAt.cell hb0_0, BoxAt.cell hb0_1, BoxAt.cell hb14_2, RdS.len ru sl37, RdS.len rv sl37, wrap_id]
                    refine CallA.mono (markCx_ok _ _ Y ((1 : Int) + cnt1 X.dims + cntL cnt2 X.maps) _ _ _ hod14_1 hom14_1 (List.nodup_append.2 ⟨hfd14_1.nodup, hfm14_1.nodup, fun b hb c hc e => ap4 b hb (e ▸ hc)⟩) (by omega)) ?_
                    intro v_ h30_2
                    rintro ⟨rfl, hogd30_2, hogm30_2, cg30_2⟩
                    replace how12_10_0 := OS.chg how12_10_0 cg30_2 (Apart.app (apart_lt hlhow12_10_0 hfd14_1 (by omega)) (apart_lt hlhow12_10_0 hfm14_1 (by omega)))
                    replace ho15_1 := OS.chg ho15_1 cg30_2 (Apart.app (apart_gt hf15_1 hlhod14_1 (by omega)) (apart_gt hf15_1 hlhom14_1 (by omega)))
                    replace ho16_1 := OS.chg ho16_1 cg30_2 (Apart.app (apart_gt hf16_1 hlhod14_1 (by omega)) (apart_gt hf16_1 hlhom14_1 (by omega)))
                    replace how17_6_0 := OS.chg how17_6_0 cg30_2 (Apart.app (apart_gt hfw17_6_0 hlhod14_1 (by omega)) (apart_gt hfw17_6_0 hlhom14_1 (by omega)))
                    replace hb0_0 := BoxAt.chgA hb0_0 cg30_2 (Apart.app (apart_lt hlhb0_0 hfd14_1 (by omega)) (apart_lt hlhb0_0 hfm14_1 (by omega)))
                    replace hb0_1 := BoxAt.chgA hb0_1 cg30_2 (Apart.app (apart_lt hlhb0_1 hfd14_1 (by omega)) (apart_lt hlhb0_1 hfm14_1 (by omega)))
                    replace hb14_2 := BoxAt.chgA hb14_2 cg30_2 (Apart.app (apart_gt hfhb14_2 hlhod14_1 (by omega)) (apart_gt hfhb14_2 hlhom14_1 (by omega)))
                    have := cg30_2.size
                    replace eB := Ext.then eB cg30_2 (ge_app (ge_of hfd14_1 (by omega)) (ge_of hfm14_1 (by omega)))
                    have ap12 : Apart fm14_1 fd14_1 := (Apart.symm ap4)
                    have hlhogd30_2 := OS.lt hogd30_2
                    have ap13 : Apart fd14_1 fm14_1 := (Apart.symm ap12)
                    have hlhogm30_2 := OS.lt hogm30_2
                    try simp -implicitDefEqProofs (disch := first | decide | assumption | omega) only [go_sem, BoxAt.cell hb0_0, BoxAt.cell hb0_1, BoxAt.cell hb14_2, RdS.len ru sl37, RdS.len rv sl37, wrap_id]
                    refine hK _ _ ?_
                    clear hK K
                    refine den_seq ?_
                    refine den_region TTok ?_
                    intro K hK
                    simp -implicitDefEqProofs (disch := first | decide | assumption | omega) only [go_sem, BoxAt.cell hb0_0, BoxAt.cell hb0_1, RdS.len ru sl37, RdS.len rv sl37, wrap_id]
                    try simp -implicitDefEqProofs (disch := first | decide | assumption | omega) only [go_sem, BoxAt.cell hb0_0, BoxAt.cell hb0_1, RdS.len ru sl37, RdS.len rv sl37, wrap_id]
                    refine CallA.mono (markS_ok _ u (((1 : Int) + cnt1 X.dims + cntL cnt2 X.maps) + cnt1 Y.dims + cntL cnt2 Y.maps) _ _ ho15_1 hf15_1.nodup (by omega)) ?_
                    intro v_ h31_2
                    rintro ⟨rfl, hog31_2, cg31_2⟩
                    replace how12_10_0 := OS.chg how12_10_0 cg31_2 (apart_lt hlhow12_10_0 hf15_1 (by omega))
                    replace ho16_1 := OS.chg ho16_1 cg31_2 (apart_gt hf16_1 hlho15_1 (by omega))
                    replace how17_6_0 := OS.chg how17_6_0 cg31_2 (apart_gt hfw17_6_0 hlho15_1 (by omega))
                    replace hb0_0 := BoxAt.chgA hb0_0 cg31_2 (apart_lt hlhb0_0 hf15_1 (by omega))
                    replace hb0_1 := BoxAt.chgA hb0_1 cg31_2 (apart_lt hlhb0_1 hf15_1 (by omega))
                    have := cg31_2.size
                    replace eB := Ext.then eB cg31_2 (ge_of hf15_1 (by omega))
                    have hlhog31_2 := OS.lt hog31_2
                    try simp -implicitDefEqProofs (disch := first | decide | assumption | omega) only [go_sem, BoxAt.cell hb0_0, BoxAt.cell hb0_1, RdS.len ru sl37, RdS.len rv sl37, wrap_id]
                    refine hK _ _ ?_
                    clear hK K
                    refine den_seq ?_
                    refine den_region TTok ?_
                    intro K hK
                    simp -implicitDefEqProofs (disch := first | decide | assumption | omega) only [go_sem, BoxAt.cell hb0_0, BoxAt.cell hb0_1, RdS.len ru sl37, RdS.len rv sl37, wrap_id]
                    try simp -implicitDefEqProofs (disch := first | decide | assumption | omega) only [go_sem, BoxAt.cell hb0_0, BoxAt.cell hb0_1, RdS.len ru sl37, RdS.len rv sl37, wrap_id]
                    refine CallA.mono (markS_ok _ v ((((1 : Int) + cnt1 X.dims + cntL cnt2 X.maps) + cnt1 Y.dims + cntL cnt2 Y.maps) + cnt1 u) _ _ ho16_1 hf16_1.nodup (by omega)) ?_
                    intro v_ h32_2
                    rintro ⟨rfl, hog32_2, cg32_2⟩
                    replace how12_10_0 := OS.chg how12_10_0 cg32_2 (apart_lt hlhow12_10_0 hf16_1 (by omega))
                    replace how17_6_0 := OS.chg how17_6_0 cg32_2 (apart_gt hfw17_6_0 hlho16_1 (by omega))
                    replace hb0_0 := BoxAt.chgA hb0_0 cg32_2 (apart_lt hlhb0_0 hf16_1 (by omega))
                    replace hb0_1 := BoxAt.chgA hb0_1 cg32_2 (apart_lt hlhb0_1 hf16_1 (by omega))
                    have := cg32_2.size
                    replace eB := Ext.then eB cg32_2 (ge_of hf16_1 (by omega))
                    have hlhog32_2 := OS.lt hog32_2
                    try simp -implicitDefEqProofs (disch := first | decide | assumption | omega) only [go_sem, BoxAt.cell hb0_0, BoxAt.cell hb0_1, RdS.len ru sl37, RdS.len rv sl37, wrap_id]
                    refine hK _ _ ?_
                    clear hK K
                    refine den_seq ?_
                    refine den_seq ?_
                    refine den_mergeH [(128, .bool ((((decide ((((((1 : Int) + cnt1 X.dims + cntL cnt2 X.maps) + cnt1 Y.dims + cntL cnt2 Y.maps) + cnt1 u) + cnt1 v) < (0 : Int))) || (!(true))) || (((pvP X Y i u j v).2) != ((pvP X Y i u j v).2)))))] [2, 3, 4, 5, 6, 7, 14, 15, 20] ?_ ?_
                      -- a way
                    · refine den_region TTok ?_
                      intro K hK
                      simp -implicitDefEqProofs (disch := first | decide | assumption | (simp (disch := decide) only [slotOf_zero, slotOf_succ, Option.map_some, puts_same, puts_ne, gv_bool, gv_undef, tt, tf, ft, ff, eq_self, if_true, if_false, Bool.false_eq_true, Bool.not_true, Bool.not_false]; done) | omega) only [go_sem, BoxAt.cell hb0_0, BoxAt.cell hb0_1, RdS.len ru sl37, RdS.len rv sl37, wrap_id]
                      refine opsP_F (by simp (disch := decide) only [slotOf_zero, slotOf_succ, Option.map_some, puts_same, puts_ne, gv_bool, gv_undef, tt, tf, ft, ff, eq_self, if_true, if_false, Bool.false_eq_true, Bool.not_true, Bool.not_false]; rfl) (fun g14 => ?_) (fun g14 => ?_)
                      · try simp -implicitDefEqProofs (disch := first | decide | assumption | (simp (disch := decide) only [slotOf_zero, slotOf_succ, Option.map_some, puts_same, puts_ne, gv_bool, gv_undef, tt, tf, ft, ff, eq_self, if_true, if_false, Bool.false_eq_true, Bool.not_true, Bool.not_false, g14]; done) | omega) only [go_sem, BoxAt.cell hb0_0, BoxAt.cell hb0_1, RdS.len ru sl37, RdS.len rv sl37, wrap_id, g14, eq_self, if_true, if_false, Bool.false_eq_true]
                        try simp -implicitDefEqProofs (disch := first | decide | assumption | omega) only [go_sem, BoxAt.cell hb0_0, BoxAt.cell hb0_1, RdS.len ru sl37, RdS.len rv sl37, wrap_id]
                        refine CallA.pure (eqS_same _ _ _ _ (OS.rd how17_6_0) (OS.rd how12_10_0)) ?_
                        try simp -implicitDefEqProofs (disch := first | decide | assumption | (simp (disch := decide) only [slotOf_zero, slotOf_succ, Option.map_some, puts_same, puts_ne, gv_bool, gv_undef, tt, tf, ft, ff, eq_self, if_true, if_false, Bool.false_eq_true, Bool.not_true, Bool.not_false, g14]; done) | omega) only [go_sem, BoxAt.cell hb0_0, BoxAt.cell hb0_1, RdS.len ru sl37, RdS.len rv sl37, wrap_id, g14, eq_self, if_true, if_false, Bool.false_eq_true]
                        try simp -implicitDefEqProofs (disch := first | decide | assumption | (simp (disch := decide) only [slotOf_zero, slotOf_succ, Option.map_some, puts_same, puts_ne, gv_bool, gv_undef, tt, tf, ft, ff, eq_self, if_true, if_false, Bool.false_eq_true, Bool.not_true, Bool.not_false, g14]; done) | omega) only [go_sem, BoxAt.cell hb0_0, BoxAt.cell hb0_1, RdS.len ru sl37, RdS.len rv sl37, wrap_id, g14, eq_self, if_true, if_false, Bool.false_eq_true]
                        refine hK _ _ ?_
                        clear hK K
                        refine den_stop ?_
                        refine ⟨?_, rfl⟩
                        first | (simp (disch := decide) only [go_sem, g14, eq_self, Bool.true_and, Bool.and_true, Bool.false_and, Bool.and_false, Bool.true_or, Bool.or_true, Bool.false_or, Bool.or_false, if_true, if_false, Bool.false_eq_true]; done) | simp [HasL, sel, puts_at, g14]
                      · try simp -implicitDefEqProofs (disch := first | decide | assumption | (simp (disch := decide) only [slotOf_zero, slotOf_succ, Option.map_some, puts_same, puts_ne, gv_bool, gv_undef, tt, tf, ft, ff, eq_self, if_true, if_false, Bool.false_eq_true, Bool.not_true, Bool.not_false, g14]; done) | omega) only [go_sem, BoxAt.cell hb0_0, BoxAt.cell hb0_1, RdS.len ru sl37, RdS.len rv sl37, wrap_id, g14, eq_self, if_true, if_false, Bool.false_eq_true]
                        try simp -implicitDefEqProofs (disch := first | decide | assumption | (simp (disch := decide) only [slotOf_zero, slotOf_succ, Option.map_some, puts_same, puts_ne, gv_bool, gv_undef, tt, tf, ft, ff, eq_self, if_true, if_false, Bool.false_eq_true, Bool.not_true, Bool.not_false, g14]; done) | omega) only [go_sem, BoxAt.cell hb0_0, BoxAt.cell hb0_1, RdS.len ru sl37, RdS.len rv sl37, wrap_id, g14, eq_self, if_true, if_false, Bool.false_eq_true]
                        refine hK _ _ ?_
                        clear hK K
                        refine den_stop ?_
                        refine ⟨?_, rfl⟩
                        first | (simp (disch := decide) only [go_sem, g14, eq_self, Bool.true_and, Bool.and_true, Bool.false_and, Bool.and_false, Bool.true_or, Bool.or_true, Bool.false_or, Bool.or_false, if_true, if_false, Bool.false_eq_true]; done) | simp [HasL, sel, puts_at, g14]
                    intro en15
                    simp (disch := decide) only [go_sem]
                    refine den_cond rfl (fun c9 => ?_) (fun c9 => ?_)
                    · try simp only [decide_eq_true_eq, decide_eq_false_iff_not, beq_iff_eq, beq_eq_false_iff_ne, bne_iff_ne, ne_eq, Bool.not_eq_true', Bool.not_eq_false', Bool.and_eq_true, Bool.or_eq_true, bne_eq_false_iff_eq] at c9
                      refine den_seq ?_
                      refine den_region TTok ?_
                      intro K hK
                      simp -implicitDefEqProofs (disch := first | decide | assumption | omega) only [go_sem, RdS.len ru sl37, RdS.len rv sl37, wrap_id]
                      refine hK _ _ ?_
                      clear hK K
                      refine den_ret ?_
                      simp (disch := decide) only [resP_1, puts_same, puts_ne]
                      exact absurd c9 (by first | (simp; done) | (simp; omega) | omega | (simp [eqC_self]; done))
                    · try simp only [decide_eq_true_eq, decide_eq_false_iff_not, beq_iff_eq, beq_eq_false_iff_ne, bne_iff_ne, ne_eq, Bool.not_eq_true', Bool.not_eq_false', Bool.and_eq_true, Bool.or_eq_true, bne_eq_false_iff_eq] at c9
                      refine den_skip ?_
                      refine den_seq ?_
                      refine den_region TTok ?_
                      intro K hK
                      simp -implicitDefEqProofs (disch := first | decide | assumption | omega) only [go_sem, BoxAt.cell hb0_0, BoxAt.cell hb0_1, RdS.len ru sl37, RdS.len rv sl37, wrap_id]
                      refine hK _ _ ?_
                      clear hK K
                      refine den_seq ?_
                      refine den_region TTok ?_
                      intro K hK
                      simp -implicitDefEqProofs (disch := first | decide | assumption | omega) only [go_sem, BoxAt.cell hb0_0, BoxAt.cell hb0_1, RdS.len ru sl37, RdS.len rv sl37, wrap_id]
                      try simp -implicitDefEqProofs (disch := first | decide | assumption | omega) only [go_sem, BoxAt.cell hb0_0, BoxAt.cell hb0_1, RdS.len ru sl37, RdS.len rv sl37, wrap_id]
                      refine CallA.mono (markS_ok _ ((pvP X Y i u j v).1) (1 : Int) _ _ how17_6_0 hfw17_6_0.nodup (by omega)) ?_
                      intro v_ h36_2
                      rintro ⟨rfl, hog36_2, cg36_2⟩
                      replace how12_10_0 := OS.chg how12_10_0 cg36_2 (apart_lt hlhow12_10_0 hfw17_6_0 (by omega))
                      replace hb0_0 := BoxAt.chgA hb0_0 cg36_2 (apart_lt hlhb0_0 hfw17_6_0 (by omega))
                      replace hb0_1 := BoxAt.chgA hb0_1 cg36_2 (apart_lt hlhb0_1 hfw17_6_0 (by omega))
                      have := cg36_2.size
                      replace eB := Ext.then eB cg36_2 (ge_of hfw17_6_0 (by omega))
                      have hlhog36_2 := OS.lt hog36_2
                      try simp -implicitDefEqProofs (disch := first | decide | assumption | omega) only [go_sem, BoxAt.cell hb0_0, BoxAt.cell hb0_1, RdS.len ru sl37, RdS.len rv sl37, wrap_id]
                      refine hK _ _ ?_
                      clear hK K
                      refine den_seq ?_
                      refine den_region TTok ?_
                      intro K hK
                      simp -implicitDefEqProofs (disch := first | decide | assumption | omega) only [go_sem, BoxAt.cell hb0_0, BoxAt.cell hb0_1, RdS.len ru sl37, RdS.len rv sl37, wrap_id]
                      refine hK _ _ ?_
                      clear hK K
                      refine den_seq ?_
                      refine den_region TTok ?_
                      intro K hK
                      simp -implicitDefEqProofs (disch := first | decide | assumption | omega) only [go_sem, BoxAt.cell hb0_0, BoxAt.cell hb0_1, RdS.len ru sl37, RdS.len rv sl37, wrap_id]
                      try simp -implicitDefEqProofs (disch := first | decide | assumption | omega) only [go_sem, BoxAt.cell hb0_0, BoxAt.cell hb0_1, RdS.len ru sl37, RdS.len rv sl37, wrap_id]
                      refine CallA.pure (heldS_ok _ ((pvP X Y i u j v).1) (1 : Int) _ (OS.rd hog36_2) (by omega)) ?_
                      try simp -implicitDefEqProofs (disch := first | decide | assumption | omega) only [go_sem, BoxAt.cell hb0_0, BoxAt.cell hb0_1, RdS.len ru sl37, RdS.len rv sl37, wrap_id]
                      refine hK _ _ ?_
                      clear hK K
                      refine den_seq ?_
                      refine den_seq ?_
                      refine den_region TTok ?_
                      intro K hK
                      simp -implicitDefEqProofs (disch := first | decide | assumption | omega) only [go_sem, BoxAt.cell hb0_0, BoxAt.cell hb0_1, RdS.len ru sl37, RdS.len rv sl37, wrap_id]
                      refine hK _ _ ?_
                      clear hK K
                      refine den_cond rfl (fun c10 => ?_) (fun c10 => ?_)
                      · try simp only [decide_eq_true_eq, decide_eq_false_iff_not, beq_iff_eq, beq_eq_false_iff_ne, bne_iff_ne, ne_eq, Bool.not_eq_true', Bool.not_eq_false', Bool.and_eq_true, Bool.or_eq_true, bne_eq_false_iff_eq] at c10
                        refine den_seq ?_
                        refine den_region TTok ?_
                        intro K hK
                        simp -implicitDefEqProofs (disch := first | decide | assumption | omega) only [go_sem, RdS.len ru sl37, RdS.len rv sl37, wrap_id]
                        refine hK _ _ ?_
                        clear hK K
                        refine den_ret ?_
                        simp (disch := decide) only [resP_1, puts_same, puts_ne]
                        exact absurd c10 (by first | (simp; done) | (simp; omega) | omega | (simp [eqC_self]; done))
                      · try simp only [decide_eq_true_eq, decide_eq_false_iff_not, beq_iff_eq, beq_eq_false_iff_ne, bne_iff_ne, ne_eq, Bool.not_eq_true', Bool.not_eq_false', Bool.and_eq_true, Bool.or_eq_true, bne_eq_false_iff_eq] at c10
                        refine den_skip ?_
                        refine den_seq ?_
                        refine den_seq ?_
                        refine den_region TTok ?_
                        intro K hK
                        simp -implicitDefEqProofs (disch := first | decide | assumption | omega) only [go_sem, BoxAt.cell hb0_0, BoxAt.cell hb0_1, RdS.len ru sl37, RdS.len rv sl37, wrap_id]
                        refine hK _ _ ?_
                        clear hK K
                        refine den_cond rfl (fun c11 => ?_) (fun c11 => ?_)
                        · try simp only [decide_eq_true_eq, decide_eq_false_iff_not, beq_iff_eq, beq_eq_false_iff_ne, bne_iff_ne, ne_eq, Bool.not_eq_true', Bool.not_eq_false', Bool.and_eq_true, Bool.or_eq_true, bne_eq_false_iff_eq] at c11
                          refine den_seq ?_
                          refine den_region TTok ?_
                          intro K hK
                          simp -implicitDefEqProofs (disch := first | decide | assumption | omega) only [go_sem, RdS.len ru sl37, RdS.len rv sl37, wrap_id]
                          refine hK _ _ ?_
                          clear hK K
                          refine den_ret ?_
                          simp (disch := decide) only [resP_1, puts_same, puts_ne]
                          exact absurd c11 (by first | (simp; done) | (simp; omega) | omega | (simp [eqC_self]; done))
                        · try simp only [decide_eq_true_eq, decide_eq_false_iff_not, beq_iff_eq, beq_eq_false_iff_ne, bne_iff_ne, ne_eq, Bool.not_eq_true', Bool.not_eq_false', Bool.and_eq_true, Bool.or_eq_true, bne_eq_false_iff_eq] at c11
                          refine den_skip ?_
                          refine den_seq ?_
                          refine den_draw TTok mixed [] [(0, true), (2, true), (4, true), (5, true), (7, true), (8, true), (1, false), (3, false), (6, false), (9, false), (10, false), (11, true), (12, true), (13, true), (14, true), (15, true)] (by kernel_rfl) ?_
                          intro K hK
                          simp -implicitDefEqProofs (disch := first | decide | assumption | omega) only [go_sem, ld40, BoxAt.cell hb0_0, BoxAt.cell hb0_1, RdS.len ru sl37, RdS.len rv sl37, wrap_id]
                          try simp -implicitDefEqProofs (disch := first | decide | assumption | omega) only [go_sem, BoxAt.cell hb0_0, BoxAt.cell hb0_1, RdS.len ru sl37, RdS.len rv sl37, wrap_id]
                          refine CallA.mono (toC_ok _ X _ ⟨_, _, rfl, (RdS.pres hdX (Ext.pres eB)), (RdS.pres hmX (Ext.pres eB))⟩ hMX) ?_
                          intro v_ h43_1
                          rintro ⟨vd43_1, vm43_1, fd43_1, fm43_1, rfl, hod43_1, hom43_1, hf43_1, e43_1⟩
                          replace how12_10_0 := OS.ext how12_10_0 e43_1
                          replace hog36_2 := OS.ext hog36_2 e43_1
                          replace hb0_0 := BoxAt.ext hb0_0 e43_1
                          replace hb0_1 := BoxAt.ext hb0_1 e43_1
                          have := Ext.size e43_1
                          replace eB := Ext.trans eB e43_1
                          have hfd43_1 := hf43_1.left
                          have hfm43_1 := hf43_1.right
                          have hlhod43_1 := OS.lt hod43_1
                          have hlhom43_1 := OS.lt hom43_1
                          have ap18 : Apart fd43_1 fm43_1 := apart_nodup hf43_1
                          try simp (disch := decide) only [outv_some, outv_none, put_puts]
                          refine plK_pres (Ext.pres e43_1) ?_
                          try simp -implicitDefEqProofs (disch := first | decide | assumption | omega) only [go_sem, BoxAt.cell hb0_0, BoxAt.cell hb0_1, RdS.len ru sl37, RdS.len rv sl37, wrap_id]
                          try simp -implicitDefEqProofs (disch := first | decide | assumption | omega) only [go_sem, BoxAt.cell hb0_0, BoxAt.cell hb0_1, RdS.len ru sl37, RdS.len rv sl37, wrap_id]
                          refine CallA.mono (toC_ok _ Y _ ⟨_, _, rfl, (RdS.pres hdY (Ext.pres eB)), (RdS.pres hmY (Ext.pres eB))⟩ hMY) ?_
                          intro v_ h43_3
                          rintro ⟨vd43_3, vm43_3, fd43_3, fm43_3, rfl, hod43_3, hom43_3, hf43_3, e43_3⟩
                          replace how12_10_0 := OS.ext how12_10_0 e43_3
                          replace hog36_2 := OS.ext hog36_2 e43_3
                          replace hod43_1 := OS.ext hod43_1 e43_3
                          replace hom43_1 := OS.ext hom43_1 e43_3
                          replace hb0_0 := BoxAt.ext hb0_0 e43_3
                          replace hb0_1 := BoxAt.ext hb0_1 e43_3
                          have := Ext.size e43_3
                          replace eB := Ext.trans eB e43_3
                          have hfd43_3 := hf43_3.left
                          have hfm43_3 := hf43_3.right
                          have hlhod43_3 := OS.lt hod43_3
                          have hlhom43_3 := OS.lt hom43_3
                          have ap19 : Apart fd43_3 fm43_3 := apart_nodup hf43_3
                          try simp (disch := decide) only [outv_some, outv_none, put_puts]
                          refine plK_pres (Ext.pres e43_3) ?_
                          try simp -implicitDefEqProofs (disch := first | decide | assumption | omega) only [go_sem, BoxAt.cell hb0_0, BoxAt.cell hb0_1, RdS.len ru sl37, RdS.len rv sl37, wrap_id]
                          try simp -implicitDefEqProofs (disch := first | decide | assumption | omega) only [go_sem, BoxAt.cell hb0_0, BoxAt.cell hb0_1, RdS.len ru sl37, RdS.len rv sl37, wrap_id]
                          refine CallA.mono (toS_ok _ u _ (RdS.pres ru (Ext.pres eB)) hMu) ?_
                          intro v43_6 h43_6
                          rintro ⟨f43_6, ho43_6, hf43_6, e43_6⟩
                          replace how12_10_0 := OS.ext how12_10_0 e43_6
                          replace hog36_2 := OS.ext hog36_2 e43_6
                          replace hod43_1 := OS.ext hod43_1 e43_6
                          replace hom43_1 := OS.ext hom43_1 e43_6
                          replace hod43_3 := OS.ext hod43_3 e43_6
                          replace hom43_3 := OS.ext hom43_3 e43_6
                          replace hb0_0 := BoxAt.ext hb0_0 e43_6
                          replace hb0_1 := BoxAt.ext hb0_1 e43_6
                          have := Ext.size e43_6
                          replace eB := Ext.trans eB e43_6
                          have hlho43_6 := OS.lt ho43_6
                          try simp (disch := decide) only [outv_some, outv_none, put_puts]
                          refine plK_pres (Ext.pres e43_6) ?_
                          try simp -implicitDefEqProofs (disch := first | decide | assumption | omega) only [go_sem, BoxAt.cell hb0_0, BoxAt.cell hb0_1, RdS.len ru sl37, RdS.len rv sl37, wrap_id]
                          try simp -implicitDefEqProofs (disch := first | decide | assumption | omega) only [go_sem, BoxAt.cell hb0_0, BoxAt.cell hb0_1, RdS.len ru sl37, RdS.len rv sl37, wrap_id]
                          refine CallA.mono (toS_ok _ v _ (RdS.pres rv (Ext.pres eB)) hMv) ?_
                          intro v43_9 h43_9
                          rintro ⟨f43_9, ho43_9, hf43_9, e43_9⟩
                          replace how12_10_0 := OS.ext how12_10_0 e43_9
                          replace hog36_2 := OS.ext hog36_2 e43_9
                          replace hod43_1 := OS.ext hod43_1 e43_9
                          replace hom43_1 := OS.ext hom43_1 e43_9
                          replace hod43_3 := OS.ext hod43_3 e43_9
                          replace hom43_3 := OS.ext hom43_3 e43_9
                          replace ho43_6 := OS.ext ho43_6 e43_9
                          replace hb0_0 := BoxAt.ext hb0_0 e43_9
                          replace hb0_1 := BoxAt.ext hb0_1 e43_9
                          have := Ext.size e43_9
                          replace eB := Ext.trans eB e43_9
                          have hlho43_9 := OS.lt ho43_9
                          try simp (disch := decide) only [outv_some, outv_none, put_puts]
                          refine plK_pres (Ext.pres e43_9) ?_
                          try simp -implicitDefEqProofs (disch := first | decide | assumption | omega) only [go_sem, BoxAt.cell hb0_0, BoxAt.cell hb0_1, RdS.len ru sl37, RdS.len rv sl37, wrap_id]
                          try simp -implicitDefEqProofs (disch := first | decide | assumption | omega) only [go_sem, BoxAt.cell hb0_0, BoxAt.cell hb0_1, RdS.len ru sl37, RdS.len rv sl37, wrap_id]
                          refine CallA.mono (iPv_ok _ _ _ _ X Y i u j v _ ⟨_, _, rfl, (OS.rd hod43_1), (OS.rd hom43_1)⟩ ⟨_, _, rfl, (OS.rd hod43_3), (OS.rd hom43_3)⟩ (OS.rd ho43_6) (OS.rd ho43_9) ) ?_
                          intro v_ h43_10
                          rintro ⟨vw43_10_0, fw43_10_0, rfl, how43_10_0, hfw43_10_0, e43_10⟩
                          replace how12_10_0 := OS.ext how12_10_0 e43_10
                          replace hog36_2 := OS.ext hog36_2 e43_10
                          replace hod43_1 := OS.ext hod43_1 e43_10
                          replace hom43_1 := OS.ext hom43_1 e43_10
                          replace hod43_3 := OS.ext hod43_3 e43_10
                          replace hom43_3 := OS.ext hom43_3 e43_10
                          replace ho43_6 := OS.ext ho43_6 e43_10
                          replace ho43_9 := OS.ext ho43_9 e43_10
                          replace hb0_0 := BoxAt.ext hb0_0 e43_10
                          replace hb0_1 := BoxAt.ext hb0_1 e43_10
                          have := Ext.size e43_10
                          replace eB := Ext.trans eB e43_10
                          have hlhow43_10_0 := OS.lt how43_10_0
                          try simp (disch := decide) only [outv_some, outv_none, put_puts]
                          refine plK_pres (Ext.pres e43_10) ?_
                          try simp -implicitDefEqProofs (disch := first | decide | assumption | omega) only [go_sem, BoxAt.cell hb0_0, BoxAt.cell hb0_1, RdS.len ru sl37, RdS.len rv sl37, wrap_id]
                          refine hK _ _ ?_
                          clear hK K
                          refine den_seq ?_
                          refine den_seq ?_
                          refine den_mergeH [(162, .bool (((!(true)) || (((pvP X Y i u j v).2) != ((pvP X Y i u j v).2)))))] [20, 23] ?_ ?_
                            -- a way
                          · refine den_region TTok ?_
                            intro K hK
                            simp -implicitDefEqProofs (disch := first | decide | assumption | (simp (disch := decide) only [slotOf_zero, slotOf_succ, Option.map_some, puts_same, puts_ne, gv_bool, gv_undef, tt, tf, ft, ff, eq_self, if_true, if_false, Bool.false_eq_true, Bool.not_true, Bool.not_false]; done) | omega) only [go_sem, RdS.len ru sl37, RdS.len rv sl37, wrap_id]
                            try simp -implicitDefEqProofs (disch := first | decide | assumption | omega) only [go_sem, RdS.len ru sl37, RdS.len rv sl37, wrap_id]
                            refine CallA.pure (eqS_same _ _ _ _ (OS.rd how43_10_0) (OS.rd how12_10_0)) ?_
                            try simp -implicitDefEqProofs (disch := first | decide | assumption | (simp (disch := decide) only [slotOf_zero, slotOf_succ, Option.map_some, puts_same, puts_ne, gv_bool, gv_undef, tt, tf, ft, ff, eq_self, if_true, if_false, Bool.false_eq_true, Bool.not_true, Bool.not_false]; done) | omega) only [go_sem, RdS.len ru sl37, RdS.len rv sl37, wrap_id]
                            try simp -implicitDefEqProofs (disch := first | decide | assumption | (simp (disch := decide) only [slotOf_zero, slotOf_succ, Option.map_some, puts_same, puts_ne, gv_bool, gv_undef, tt, tf, ft, ff, eq_self, if_true, if_false, Bool.false_eq_true, Bool.not_true, Bool.not_false]; done) | omega) only [go_sem, RdS.len ru sl37, RdS.len rv sl37, wrap_id]
                            refine hK _ _ ?_
                            clear hK K
                            refine den_stop ?_
                            refine ⟨?_, rfl⟩
                            first | (simp (disch := decide) only [go_sem, eq_self, Bool.true_and, Bool.and_true, Bool.false_and, Bool.and_false, Bool.true_or, Bool.or_true, Bool.false_or, Bool.or_false, if_true, if_false, Bool.false_eq_true]; done) | simp [HasL, sel, puts_at]
                          intro en20
                          simp (disch := decide) only [go_sem]
                          refine den_cond rfl (fun c12 => ?_) (fun c12 => ?_)
                          · try simp only [decide_eq_true_eq, decide_eq_false_iff_not, beq_iff_eq, beq_eq_false_iff_ne, bne_iff_ne, ne_eq, Bool.not_eq_true', Bool.not_eq_false', Bool.and_eq_true, Bool.or_eq_true, bne_eq_false_iff_eq] at c12
                            refine den_seq ?_
                            refine den_region TTok ?_
                            intro K hK
                            simp -implicitDefEqProofs (disch := first | decide | assumption | omega) only [go_sem, RdS.len ru sl37, RdS.len rv sl37, wrap_id]
                            refine hK _ _ ?_
                            clear hK K
                            refine den_ret ?_
                            simp (disch := decide) only [resP_1, puts_same, puts_ne]
                            exact absurd c12 (by first | (simp; done) | (simp; omega) | omega | (simp [eqC_self]; done))
                          · try simp only [decide_eq_true_eq, decide_eq_false_iff_not, beq_iff_eq, beq_eq_false_iff_ne, bne_iff_ne, ne_eq, Bool.not_eq_true', Bool.not_eq_false', Bool.and_eq_true, Bool.or_eq_true, bne_eq_false_iff_eq] at c12
                            refine den_skip ?_
                            refine den_seq ?_
                            refine den_region TTok ?_
                            intro K hK
                            simp -implicitDefEqProofs (disch := first | decide | assumption | omega) only [go_sem, RdS.len ru sl37, RdS.len rv sl37, wrap_id]
                            refine hK _ _ ?_
                            clear hK K
                            refine den_seq ?_
                            refine den_region TTok ?_
                            intro K hK
                            simp -implicitDefEqProofs (disch := first | decide | assumption | omega) only [go_sem, RdS.len ru sl37, RdS.len rv sl37, wrap_id]
                            try simp -implicitDefEqProofs (disch := first | decide | assumption | omega) only [go_sem, RdS.len ru sl37, RdS.len rv sl37, wrap_id]
                            refine CallA.pure (heldS_ok _ ((pvP X Y i u j v).1) (1 : Int) _ (OS.rd hog36_2) (by omega)) ?_
                            try simp -implicitDefEqProofs (disch := first | decide | assumption | omega) only [go_sem, RdS.len ru sl37, RdS.len rv sl37, wrap_id]
                            refine hK _ _ ?_
                            clear hK K
                            refine den_seq ?_
                            refine den_seq ?_
                            refine den_region TTok ?_
                            intro K hK
                            simp -implicitDefEqProofs (disch := first | decide | assumption | omega) only [go_sem, RdS.len ru sl37, RdS.len rv sl37, wrap_id]
                            refine hK _ _ ?_
                            clear hK K
                            refine den_cond rfl (fun c13 => ?_) (fun c13 => ?_)
                            · try simp only [decide_eq_true_eq, decide_eq_false_iff_not, beq_iff_eq, beq_eq_false_iff_ne, bne_iff_ne, ne_eq, Bool.not_eq_true', Bool.not_eq_false', Bool.and_eq_true, Bool.or_eq_true, bne_eq_false_iff_eq] at c13
                              refine den_seq ?_
                              refine den_region TTok ?_
                              intro K hK
                              simp -implicitDefEqProofs (disch := first | decide | assumption | omega) only [go_sem, RdS.len ru sl37, RdS.len rv sl37, wrap_id]
                              refine hK _ _ ?_
                              clear hK K
                              refine den_ret ?_
                              simp (disch := decide) only [resP_1, puts_same, puts_ne]
                              exact absurd c13 (by first | (simp; done) | (simp; omega) | omega | (simp [eqC_self]; done))
                            · try simp only [decide_eq_true_eq, decide_eq_false_iff_not, beq_iff_eq, beq_eq_false_iff_ne, bne_iff_ne, ne_eq, Bool.not_eq_true', Bool.not_eq_false', Bool.and_eq_true, Bool.or_eq_true, bne_eq_false_iff_eq] at c13
                              refine den_skip ?_
                              refine den_seq ?_
                              refine den_seq ?_
                              refine den_region TTok ?_
                              intro K hK
                              simp -implicitDefEqProofs (disch := first | decide | assumption | omega) only [go_sem, RdS.len ru sl37, RdS.len rv sl37, wrap_id]
                              refine hK _ _ ?_
                              clear hK K
                              refine den_cond rfl (fun c14 => ?_) (fun c14 => ?_)
                              · try simp only [decide_eq_true_eq, decide_eq_false_iff_not, beq_iff_eq, beq_eq_false_iff_ne, bne_iff_ne, ne_eq, Bool.not_eq_true', Bool.not_eq_false', Bool.and_eq_true, Bool.or_eq_true, bne_eq_false_iff_eq] at c14
                                refine den_seq ?_
                                refine den_region TTok ?_
                                intro K hK
                                simp -implicitDefEqProofs (disch := first | decide | assumption | omega) only [go_sem, RdS.len ru sl37, RdS.len rv sl37, wrap_id]
                                refine hK _ _ ?_
                                clear hK K
                                refine den_ret ?_
                                simp (disch := decide) only [resP_1, puts_same, puts_ne]
                                exact absurd c14 (by first | (simp; done) | (simp; omega) | omega | (simp [eqC_self]; done))
                              · try simp only [decide_eq_true_eq, decide_eq_false_iff_not, beq_iff_eq, beq_eq_false_iff_ne, bne_iff_ne, ne_eq, Bool.not_eq_true', Bool.not_eq_false', Bool.and_eq_true, Bool.or_eq_true, bne_eq_false_iff_eq] at c14
                                refine den_skip ?_
                                refine den_seq ?_
                                refine den_region TTok ?_
                                intro K hK
                                simp -implicitDefEqProofs (disch := first | decide | assumption | omega) only [go_sem, RdS.len ru sl37, RdS.len rv sl37, wrap_id]
                                refine hK _ _ ?_
                                clear hK K
                                refine den_ret ?_
                                simp (disch := decide) only [resP_1, puts_same, puts_ne]
                                exact ⟨by first | rfl | trivial, eB⟩

end Go.Proofs.Ytkkjhomhndpphaa
