/-
  Walks: the statement's function: DifferentialOf.
  Conditions: each theorem's own.
-/
import Derived.Test.YtkkjhomhndpphaaS27
set_option linter.unusedVariables false
set_option linter.unusedSimpArgs false
namespace Go.Proofs.Ytkkjhomhndpphaa
open Go
set_option maxRecDepth 100000 in
theorem dof_ok (vx : Value) (X : Cx) (n : Int) (v : Value) (xs : List Int) (h : Heap) (hx : RC h vx X) (hv : R1 h v xs) : CallA Try.prog 6 #[vx, .int .i64 n, v] h fun v' h' => v' = .bool true ∧ Ext h h' := by
  obtain ⟨vd, vm, rfl, hd, hm⟩ := hx
  have hle := RdS.le hd
  refine callA_intro TTok (args := [_, _, _]) Try.func6 (by kernel_rfl) rfl 122 rfl (by simp) [.tmp 6] rfl ?_
  simp only [idxs, Nat.reduceAdd]
  refine den_seq ?_
  refine den_region TTok ?_
  intro K hK
  simp -implicitDefEqProofs (disch := first | decide | assumption | omega) only [go_sem, RdS.len hd sl37, RdS.idx hd sl37, R1.intB hd (HPres.refl _), RdS.cells hd, RdS.len hm sl38, RdS.idx hm sl38, RdS.cellB hm (HPres.refl _), RdS.cells hm, RdS.len hv sl37, RdS.idx hv sl37, R1.intB hv (HPres.refl _), RdS.cells hv, wrap_id]
  refine op_box (cs := #[.int .i64 (X.p), vd, vm]) rfl ?_
  intro h0_0 e0_0 hb0_0 z0_0
  replace hd := RdS.pres hd (Ext.pres e0_0)
  replace hm := RdS.pres hm (Ext.pres e0_0)
  replace hv := RdS.pres hv (Ext.pres e0_0)
  try simp -implicitDefEqProofs (disch := first | decide | assumption | omega) only [go_sem, RdS.len hd sl37, RdS.idx hd sl37, R1.intB hd (HPres.refl _), RdS.cells hd, RdS.len hm sl38, RdS.idx hm sl38, RdS.cellB hm (HPres.refl _), RdS.cells hm, RdS.len hv sl37, RdS.idx hv sl37, R1.intB hv (HPres.refl _), RdS.cells hv, BoxAt.cell hb0_0, wrap_id]
  refine hK _ _ ?_
  clear hK K
  refine den_seq ?_
  refine den_seq ?_
  refine den_region TTok ?_
  intro K hK
  simp -implicitDefEqProofs (disch := first | decide | assumption | omega) only [go_sem, RdS.len hd sl37, RdS.idx hd sl37, R1.intB hd (HPres.refl _), RdS.cells hd, RdS.len hm sl38, RdS.idx hm sl38, RdS.cellB hm (HPres.refl _), RdS.cells hm, RdS.len hv sl37, RdS.idx hv sl37, R1.intB hv (HPres.refl _), RdS.cells hv, BoxAt.cell hb0_0, wrap_id]
  refine hK _ _ ?_
  clear hK K
  refine den_cond rfl (fun c0 => ?_) (fun c0 => ?_)
  · try simp only [decide_eq_true_eq, decide_eq_false_iff_not, beq_iff_eq, beq_eq_false_iff_ne, bne_iff_ne, ne_eq, Bool.not_eq_true', Bool.not_eq_false', Bool.and_eq_true, Bool.or_eq_true, bne_eq_false_iff_eq] at c0
    refine den_seq ?_
    refine den_region TTok ?_
    intro K hK
    simp -implicitDefEqProofs (disch := first | decide | assumption | omega) only [go_sem, RdS.len hd sl37, RdS.idx hd sl37, R1.intB hd (HPres.refl _), RdS.cells hd, RdS.len hm sl38, RdS.idx hm sl38, RdS.cellB hm (HPres.refl _), RdS.cells hm, RdS.len hv sl37, RdS.idx hv sl37, R1.intB hv (HPres.refl _), RdS.cells hv, BoxAt.cell hb0_0, wrap_id]
    refine hK _ _ ?_
    clear hK K
    refine den_ret ?_
    simp (disch := decide) only [resP_1, puts_same, puts_ne]
    exact ⟨by first | rfl | trivial, e0_0⟩
  · try simp only [decide_eq_true_eq, decide_eq_false_iff_not, beq_iff_eq, beq_eq_false_iff_ne, bne_iff_ne, ne_eq, Bool.not_eq_true', Bool.not_eq_false', Bool.and_eq_true, Bool.or_eq_true, bne_eq_false_iff_eq] at c0
    refine den_skip ?_
    refine den_seq ?_
    have hMV : HM1 xs := by unfold HM1; omega
    refine den_region TTok ?_
    intro K hK
    simp -implicitDefEqProofs (disch := first | decide | assumption | omega) only [go_sem, RdS.len hd sl37, RdS.idx hd sl37, R1.intB hd (HPres.refl _), RdS.cells hd, RdS.len hm sl38, RdS.idx hm sl38, RdS.cellB hm (HPres.refl _), RdS.cells hm, RdS.len hv sl37, RdS.idx hv sl37, R1.intB hv (HPres.refl _), RdS.cells hv, BoxAt.cell hb0_0, wrap_id]
    refine hK _ _ ?_
    clear hK K
    refine den_seq ?_
    refine den_region TTok ?_
    intro K hK
    simp -implicitDefEqProofs (disch := first | decide | assumption | omega) only [go_sem, ld40, RdS.len hd sl37, RdS.idx hd sl37, R1.intB hd (HPres.refl _), RdS.cells hd, RdS.len hm sl38, RdS.idx hm sl38, RdS.cellB hm (HPres.refl _), RdS.cells hm, RdS.len hv sl37, RdS.idx hv sl37, R1.intB hv (HPres.refl _), RdS.cells hv, BoxAt.cell hb0_0, wrap_id]
    try simp -implicitDefEqProofs (disch := first | decide | assumption | omega) only [go_sem, RdS.len hd sl37, RdS.idx hd sl37, R1.intB hd (HPres.refl _), RdS.cells hd, RdS.len hm sl38, RdS.idx hm sl38, RdS.cellB hm (HPres.refl _), RdS.cells hm, RdS.len hv sl37, RdS.idx hv sl37, R1.intB hv (HPres.refl _), RdS.cells hv, BoxAt.cell hb0_0, wrap_id]
    refine CallA.mono (szC_ok _ X _ _ ⟨_, _, rfl, hd, hm⟩ (by omega) (by omega)) ?_
    intro v_ h4_2
    rintro ⟨rfl, e4_2⟩
    have := Ext.size e4_2
    have eB := e4_2
    have := szC_le X (1048576 : Int) (by omega)
    try simp -implicitDefEqProofs (disch := first | decide | assumption | omega) only [go_sem, RdS.len hd sl37, RdS.idx hd sl37, R1.intB hd (Ext.pres eB), RdS.cells hd, RdS.len hm sl38, RdS.idx hm sl38, RdS.cellB hm (Ext.pres eB), RdS.cells hm, RdS.len hv sl37, RdS.idx hv sl37, R1.intB hv (Ext.pres eB), RdS.cells hv, BoxAt.cellB hb0_0 eB, wrap_id]
    refine hK _ _ ?_
    clear hK K
    refine den_seq ?_
    refine den_seq ?_
    refine den_region TTok ?_
    intro K hK
    simp -implicitDefEqProofs (disch := first | decide | assumption | omega) only [go_sem, RdS.len hd sl37, RdS.idx hd sl37, R1.intB hd (Ext.pres eB), RdS.cells hd, RdS.len hm sl38, RdS.idx hm sl38, RdS.cellB hm (Ext.pres eB), RdS.cells hm, RdS.len hv sl37, RdS.idx hv sl37, R1.intB hv (Ext.pres eB), RdS.cells hv, BoxAt.cellB hb0_0 eB, wrap_id]
    refine hK _ _ ?_
    clear hK K
    refine den_cond rfl (fun c1 => ?_) (fun c1 => ?_)
    · try simp only [decide_eq_true_eq, decide_eq_false_iff_not, beq_iff_eq, beq_eq_false_iff_ne, bne_iff_ne, ne_eq, Bool.not_eq_true', Bool.not_eq_false', Bool.and_eq_true, Bool.or_eq_true, bne_eq_false_iff_eq] at c1
      refine den_seq ?_
      refine den_region TTok ?_
      intro K hK
      simp -implicitDefEqProofs (disch := first | decide | assumption | omega) only [go_sem, RdS.len hd sl37, RdS.idx hd sl37, R1.intB hd (Ext.pres eB), RdS.cells hd, RdS.len hm sl38, RdS.idx hm sl38, RdS.cellB hm (Ext.pres eB), RdS.cells hm, RdS.len hv sl37, RdS.idx hv sl37, R1.intB hv (Ext.pres eB), RdS.cells hv, BoxAt.cellB hb0_0 eB, wrap_id]
      refine hK _ _ ?_
      clear hK K
      refine den_ret ?_
      simp (disch := decide) only [resP_1, puts_same, puts_ne]
      exact ⟨by first | rfl | trivial, (Ext.trans e0_0 eB)⟩
    · try simp only [decide_eq_true_eq, decide_eq_false_iff_not, beq_iff_eq, beq_eq_false_iff_ne, bne_iff_ne, ne_eq, Bool.not_eq_true', Bool.not_eq_false', Bool.and_eq_true, Bool.or_eq_true, bne_eq_false_iff_eq] at c1
      refine den_skip ?_
      refine den_seq ?_
      have hMX := szC_ok' (by omega) (by omega) c1
      have hcn := szC_cnt c1
      have hcz := dof_len X n xs
      have hcz0 := cnt1_nn (dofP X n xs).1
      have hd1 := cnt1_nn X.dims
      have hm3 := cnt3_nn X.maps
      have hc1 := cnt1_nn xs
      refine den_region TTok ?_
      intro K hK
      simp -implicitDefEqProofs (disch := first | decide | assumption | omega) only [go_sem, ld40, RdS.len hd sl37, RdS.idx hd sl37, R1.intB hd (Ext.pres eB), RdS.cells hd, RdS.len hm sl38, RdS.idx hm sl38, RdS.cellB hm (Ext.pres eB), RdS.cells hm, RdS.len hv sl37, RdS.idx hv sl37, R1.intB hv (Ext.pres eB), RdS.cells hv, BoxAt.cellB hb0_0 eB, wrap_id]
      try simp -implicitDefEqProofs (disch := first | decide | assumption | omega) only [go_sem, RdS.len hd sl37, RdS.idx hd sl37, R1.intB hd (Ext.pres eB), RdS.cells hd, RdS.len hm sl38, RdS.idx hm sl38, RdS.cellB hm (Ext.pres eB), RdS.cells hm, RdS.len hv sl37, RdS.idx hv sl37, R1.intB hv (Ext.pres eB), RdS.cells hv, BoxAt.cellB hb0_0 eB, wrap_id]
      refine CallA.mono (toC_ok _ X _ ⟨_, _, rfl, (RdS.pres hd (Ext.pres eB)), (RdS.pres hm (Ext.pres eB))⟩ hMX) ?_
      intro v_ h7_1
      rintro ⟨vd7_1, vm7_1, fd7_1, fm7_1, rfl, hod7_1, hom7_1, hf7_1, e7_1⟩
      have := Ext.size e7_1
      replace eB := Ext.trans eB e7_1
      have hfd7_1 := hf7_1.left
      have hfm7_1 := hf7_1.right
      have hlhod7_1 := OS.lt hod7_1
      have hlhom7_1 := OS.lt hom7_1
      try simp -implicitDefEqProofs (disch := first | decide | assumption | omega) only [go_sem, RdS.len hd sl37, RdS.idx hd sl37, R1.intB hd (Ext.pres eB), RdS.cells hd, RdS.len hm sl38, RdS.idx hm sl38, RdS.cellB hm (Ext.pres eB), RdS.cells hm, RdS.len hv sl37, RdS.idx hv sl37, R1.intB hv (Ext.pres eB), RdS.cells hv, RdS.len (OS.rd hod7_1) sl37, RdS.idx (OS.rd hod7_1) sl37, R1.intN (OS.rd hod7_1), RdS.cells (OS.rd hod7_1), RdS.len (OS.rd hom7_1) sl38, RdS.idx (OS.rd hom7_1) sl38, RdS.cellN (OS.rd hom7_1), RdS.cells (OS.rd hom7_1), BoxAt.cellB hb0_0 eB, wrap_id]
      try simp -implicitDefEqProofs (disch := first | decide | assumption | omega) only [go_sem, RdS.len hd sl37, RdS.idx hd sl37, R1.intB hd (Ext.pres eB), RdS.cells hd, RdS.len hm sl38, RdS.idx hm sl38, RdS.cellB hm (Ext.pres eB), RdS.cells hm, RdS.len hv sl37, RdS.idx hv sl37, R1.intB hv (Ext.pres eB), RdS.cells hv, RdS.len (OS.rd hod7_1) sl37, RdS.idx (OS.rd hod7_1) sl37, R1.intN (OS.rd hod7_1), RdS.cells (OS.rd hod7_1), RdS.len (OS.rd hom7_1) sl38, RdS.idx (OS.rd hom7_1) sl38, RdS.cellN (OS.rd hom7_1), RdS.cells (OS.rd hom7_1), BoxAt.cellB hb0_0 eB, wrap_id]
      refine CallA.mono (toS_ok _ _ _ (RdS.pres hv (Ext.pres eB)) hMV) ?_
      intro v7_4 h7_4
      rintro ⟨f7_4, ho7_4, hf7_4, e7_4⟩
      replace hod7_1 := OS.ext hod7_1 e7_4
      replace hom7_1 := OS.ext hom7_1 e7_4
      have := Ext.size e7_4
      replace eB := Ext.trans eB e7_4
      have hlho7_4 := OS.lt ho7_4
      try simp -implicitDefEqProofs (disch := first | decide | assumption | omega) only [go_sem, RdS.len hd sl37, RdS.idx hd sl37, R1.intB hd (Ext.pres eB), RdS.cells hd, RdS.len hm sl38, RdS.idx hm sl38, RdS.cellB hm (Ext.pres eB), RdS.cells hm, RdS.len hv sl37, RdS.idx hv sl37, R1.intB hv (Ext.pres eB), RdS.cells hv, RdS.len (OS.rd hod7_1) sl37, RdS.idx (OS.rd hod7_1) sl37, R1.intN (OS.rd hod7_1), RdS.cells (OS.rd hod7_1), RdS.len (OS.rd hom7_1) sl38, RdS.idx (OS.rd hom7_1) sl38, RdS.cellN (OS.rd hom7_1), RdS.cells (OS.rd hom7_1), RdS.len (OS.rd ho7_4) sl37, RdS.idx (OS.rd ho7_4) sl37, R1.intN (OS.rd ho7_4), RdS.cells (OS.rd ho7_4), BoxAt.cellB hb0_0 eB, wrap_id]
      try simp -implicitDefEqProofs (disch := first | decide | assumption | omega) only [go_sem, RdS.len hd sl37, RdS.idx hd sl37, R1.intB hd (Ext.pres eB), RdS.cells hd, RdS.len hm sl38, RdS.idx hm sl38, RdS.cellB hm (Ext.pres eB), RdS.cells hm, RdS.len hv sl37, RdS.idx hv sl37, R1.intB hv (Ext.pres eB), RdS.cells hv, RdS.len (OS.rd hod7_1) sl37, RdS.idx (OS.rd hod7_1) sl37, R1.intN (OS.rd hod7_1), RdS.cells (OS.rd hod7_1), RdS.len (OS.rd hom7_1) sl38, RdS.idx (OS.rd hom7_1) sl38, RdS.cellN (OS.rd hom7_1), RdS.cells (OS.rd hom7_1), RdS.len (OS.rd ho7_4) sl37, RdS.idx (OS.rd ho7_4) sl37, R1.intN (OS.rd ho7_4), RdS.cells (OS.rd ho7_4), BoxAt.cellB hb0_0 eB, wrap_id]
      refine CallA.mono (sDof_ok _ X n _ xs _ ⟨_, _, rfl, (OS.rd hod7_1), (OS.rd hom7_1)⟩ (OS.rd ho7_4)) ?_
      intro v_ h7_5
      rintro ⟨vw7_5, fw7_5, rfl, how7_5, hfw7_5, e7_5⟩
      replace hod7_1 := OS.ext hod7_1 e7_5
      replace hom7_1 := OS.ext hom7_1 e7_5
      replace ho7_4 := OS.ext ho7_4 e7_5
      have := Ext.size e7_5
      replace eB := Ext.trans eB e7_5
      have hlhow7_5 := OS.lt how7_5
      try simp -implicitDefEqProofs (disch := first | decide | assumption | omega) only [go_sem, RdS.len hd sl37, RdS.idx hd sl37, R1.intB hd (Ext.pres eB), RdS.cells hd, RdS.len hm sl38, RdS.idx hm sl38, RdS.cellB hm (Ext.pres eB), RdS.cells hm, RdS.len hv sl37, RdS.idx hv sl37, R1.intB hv (Ext.pres eB), RdS.cells hv, RdS.len (OS.rd hod7_1) sl37, RdS.idx (OS.rd hod7_1) sl37, R1.intN (OS.rd hod7_1), RdS.cells (OS.rd hod7_1), RdS.len (OS.rd hom7_1) sl38, RdS.idx (OS.rd hom7_1) sl38, RdS.cellN (OS.rd hom7_1), RdS.cells (OS.rd hom7_1), RdS.len (OS.rd ho7_4) sl37, RdS.idx (OS.rd ho7_4) sl37, R1.intN (OS.rd ho7_4), RdS.cells (OS.rd ho7_4), RdS.len (OS.rd how7_5) sl37, RdS.idx (OS.rd how7_5) sl37, R1.intN (OS.rd how7_5), RdS.cells (OS.rd how7_5), BoxAt.cellB hb0_0 eB, wrap_id]
      refine hK _ _ ?_
      clear hK K
      refine den_seq ?_
      refine den_region TTok ?_
      intro K hK
      simp -implicitDefEqProofs (disch := first | decide | assumption | omega) only [go_sem, ld40, RdS.len hd sl37, RdS.idx hd sl37, R1.intB hd (Ext.pres eB), RdS.cells hd, RdS.len hm sl38, RdS.idx hm sl38, RdS.cellB hm (Ext.pres eB), RdS.cells hm, RdS.len hv sl37, RdS.idx hv sl37, R1.intB hv (Ext.pres eB), RdS.cells hv, RdS.len (OS.rd how7_5) sl37, RdS.idx (OS.rd how7_5) sl37, R1.intN (OS.rd how7_5), RdS.cells (OS.rd how7_5), BoxAt.cellB hb0_0 eB, wrap_id]
      try simp -implicitDefEqProofs (disch := first | decide | assumption | omega) only [go_sem, RdS.len hd sl37, RdS.idx hd sl37, R1.intB hd (Ext.pres eB), RdS.cells hd, RdS.len hm sl38, RdS.idx hm sl38, RdS.cellB hm (Ext.pres eB), RdS.cells hm, RdS.len hv sl37, RdS.idx hv sl37, R1.intB hv (Ext.pres eB), RdS.cells hv, RdS.len (OS.rd how7_5) sl37, RdS.idx (OS.rd how7_5) sl37, R1.intN (OS.rd how7_5), RdS.cells (OS.rd how7_5), BoxAt.cellB hb0_0 eB, wrap_id]
      refine CallA.mono (toC_ok _ X _ ⟨_, _, rfl, (RdS.pres hd (Ext.pres eB)), (RdS.pres hm (Ext.pres eB))⟩ hMX) ?_
      intro v_ h8_1
      rintro ⟨vd8_1, vm8_1, fd8_1, fm8_1, rfl, hod8_1, hom8_1, hf8_1, e8_1⟩
      replace how7_5 := OS.ext how7_5 e8_1
      have := Ext.size e8_1
      replace eB := Ext.trans eB e8_1
      have hfd8_1 := hf8_1.left
      have hfm8_1 := hf8_1.right
      have hlhod8_1 := OS.lt hod8_1
      have hlhom8_1 := OS.lt hom8_1
      try simp -implicitDefEqProofs (disch := first | decide | assumption | omega) only [go_sem, RdS.len hd sl37, RdS.idx hd sl37, R1.intB hd (Ext.pres eB), RdS.cells hd, RdS.len hm sl38, RdS.idx hm sl38, RdS.cellB hm (Ext.pres eB), RdS.cells hm, RdS.len hv sl37, RdS.idx hv sl37, R1.intB hv (Ext.pres eB), RdS.cells hv, RdS.len (OS.rd how7_5) sl37, RdS.idx (OS.rd how7_5) sl37, R1.intN (OS.rd how7_5), RdS.cells (OS.rd how7_5), RdS.len (OS.rd hod8_1) sl37, RdS.idx (OS.rd hod8_1) sl37, R1.intN (OS.rd hod8_1), RdS.cells (OS.rd hod8_1), RdS.len (OS.rd hom8_1) sl38, RdS.idx (OS.rd hom8_1) sl38, RdS.cellN (OS.rd hom8_1), RdS.cells (OS.rd hom8_1), BoxAt.cellB hb0_0 eB, wrap_id]
      refine op_alloc (cs := #[.int .i64 0, .slice none 0 0, .slice none 0 0]) (by kernel_rfl) ?_
      intro h8_2 e8_2 hb8_2 z8_2
      replace how7_5 := OS.ext how7_5 e8_2
      replace hod8_1 := OS.ext hod8_1 e8_2
      replace hom8_1 := OS.ext hom8_1 e8_2
      have := Ext.size e8_2
      replace eB := Ext.trans eB e8_2
      try simp -implicitDefEqProofs (disch := first | decide | assumption | omega) only [go_sem, RdS.len hd sl37, RdS.idx hd sl37, R1.intB hd (Ext.pres eB), RdS.cells hd, RdS.len hm sl38, RdS.idx hm sl38, RdS.cellB hm (Ext.pres eB), RdS.cells hm, RdS.len hv sl37, RdS.idx hv sl37, R1.intB hv (Ext.pres eB), RdS.cells hv, RdS.len (OS.rd how7_5) sl37, RdS.idx (OS.rd how7_5) sl37, R1.intN (OS.rd how7_5), RdS.cells (OS.rd how7_5), RdS.len (OS.rd hod8_1) sl37, RdS.idx (OS.rd hod8_1) sl37, R1.intN (OS.rd hod8_1), RdS.cells (OS.rd hod8_1), RdS.len (OS.rd hom8_1) sl38, RdS.idx (OS.rd hom8_1) sl38, RdS.cellN (OS.rd hom8_1), RdS.cells (OS.rd hom8_1), BoxAt.cellB hb0_0 eB, BoxAt.cell hb8_2, wrap_id]
      refine op_storeB (cs' := #[.int .i64 (X.p), vd8_1, vm8_1]) st44 hb8_2 rfl rfl rfl (by simp) (allOne_mem (l := [.int .i64 (X.p), vd8_1, vm8_1]) ⟨rfl, (OS.one hod8_1).1, (OS.one hom8_1).1, trivial⟩) rfl ?_
      intro h8_3 hb8_2 c8_3
      replace how7_5 := OS.chg how7_5 c8_3 (fun b hb hm => by simp at hm; have := hfw7_5.ge b hb; have := hlhow7_5 b hb; omega)
      replace hod8_1 := OS.chg hod8_1 c8_3 (fun b hb hm => by simp at hm; have := hfd8_1.ge b hb; have := hlhod8_1 b hb; omega)
      replace hom8_1 := OS.chg hom8_1 c8_3 (fun b hb hm => by simp at hm; have := hfm8_1.ge b hb; have := hlhom8_1 b hb; omega)
      have := c8_3.size
      replace eB := Ext.then eB c8_3 (fun b hb => by simp at hb; omega)
      try simp -implicitDefEqProofs (disch := first | decide | assumption | omega) only [go_sem, RdS.len hd sl37, RdS.idx hd sl37, R1.intB hd (Ext.pres eB), RdS.cells hd, RdS.len hm sl38, RdS.idx hm sl38, RdS.cellB hm (Ext.pres eB), RdS.cells hm, RdS.len hv sl37, RdS.idx hv sl37, R1.intB hv (Ext.pres eB), RdS.cells hv, RdS.len (OS.rd how7_5) sl37, RdS.idx (OS.rd how7_5) sl37, R1.intN (OS.rd how7_5), RdS.cells (OS.rd how7_5), RdS.len (OS.rd hod8_1) sl37, RdS.idx (OS.rd hod8_1) sl37, R1.intN (OS.rd hod8_1), RdS.cells (OS.rd hod8_1), RdS.len (OS.rd hom8_1) sl38, RdS.idx (OS.rd hom8_1) sl38, RdS.cellN (OS.rd hom8_1), RdS.cells (OS.rd hom8_1), BoxAt.cellB hb0_0 eB, BoxAt.cell hb8_2, wrap_id]
      refine hK _ _ ?_
      clear hK K
      refine den_seq ?_
      refine den_region TTok ?_
      intro K hK
      simp -implicitDefEqProofs (disch := first | decide | assumption | omega) only [go_sem, RdS.len hd sl37, RdS.idx hd sl37, R1.intB hd (Ext.pres eB), RdS.cells hd, RdS.len hm sl38, RdS.idx hm sl38, RdS.cellB hm (Ext.pres eB), RdS.cells hm, RdS.len hv sl37, RdS.idx hv sl37, R1.intB hv (Ext.pres eB), RdS.cells hv, RdS.len (OS.rd how7_5) sl37, RdS.idx (OS.rd how7_5) sl37, R1.intN (OS.rd how7_5), RdS.cells (OS.rd how7_5), RdS.len (OS.rd hod8_1) sl37, RdS.idx (OS.rd hod8_1) sl37, R1.intN (OS.rd hod8_1), RdS.cells (OS.rd hod8_1), RdS.len (OS.rd hom8_1) sl38, RdS.idx (OS.rd hom8_1) sl38, RdS.cellN (OS.rd hom8_1), RdS.cells (OS.rd hom8_1), BoxAt.cellB hb0_0 eB, BoxAt.cell hb8_2, wrap_id]
      try simp -implicitDefEqProofs (disch := first | decide | assumption | omega) only [go_sem, RdS.len hd sl37, RdS.idx hd sl37, R1.intB hd (Ext.pres eB), RdS.cells hd, RdS.len hm sl38, RdS.idx hm sl38, RdS.cellB hm (Ext.pres eB), RdS.cells hm, RdS.len hv sl37, RdS.idx hv sl37, R1.intB hv (Ext.pres eB), RdS.cells hv, RdS.len (OS.rd how7_5) sl37, RdS.idx (OS.rd how7_5) sl37, R1.intN (OS.rd how7_5), RdS.cells (OS.rd how7_5), RdS.len (OS.rd hod8_1) sl37, RdS.idx (OS.rd hod8_1) sl37, R1.intN (OS.rd hod8_1), RdS.cells (OS.rd hod8_1), RdS.len (OS.rd hom8_1) sl38, RdS.idx (OS.rd hom8_1) sl38, RdS.cellN (OS.rd hom8_1), RdS.cells (OS.rd hom8_1), BoxAt.cellB hb0_0 eB, BoxAt.cell hb8_2, wrap_id]
      refine CallA.mono (toS_ok _ _ _ (RdS.pres hv (Ext.pres eB)) hMV) ?_
      intro v9_1 h9_1
      rintro ⟨f9_1, ho9_1, hf9_1, e9_1⟩
      replace how7_5 := OS.ext how7_5 e9_1
      replace hod8_1 := OS.ext hod8_1 e9_1
      replace hom8_1 := OS.ext hom8_1 e9_1
      replace hb8_2 := BoxAt.ext hb8_2 e9_1
      have := Ext.size e9_1
      replace eB := Ext.trans eB e9_1
      have hlho9_1 := OS.lt ho9_1
      try simp -implicitDefEqProofs (disch := first | decide | assumption | omega) only [go_sem, RdS.len hd sl37, RdS.idx hd sl37, R1.intB hd (Ext.pres eB), RdS.cells hd, RdS.len hm sl38, RdS.idx hm sl38, RdS.cellB hm (Ext.pres eB), RdS.cells hm, RdS.len hv sl37, RdS.idx hv sl37, R1.intB hv (Ext.pres eB), RdS.cells hv, RdS.len (OS.rd how7_5) sl37, RdS.idx (OS.rd how7_5) sl37, R1.intN (OS.rd how7_5), RdS.cells (OS.rd how7_5), RdS.len (OS.rd hod8_1) sl37, RdS.idx (OS.rd hod8_1) sl37, R1.intN (OS.rd hod8_1), RdS.cells (OS.rd hod8_1), RdS.len (OS.rd hom8_1) sl38, RdS.idx (OS.rd hom8_1) sl38, RdS.cellN (OS.rd hom8_1), RdS.cells (OS.rd hom8_1), RdS.len (OS.rd ho9_1) sl37, RdS.idx (OS.rd ho9_1) sl37, R1.intN (OS.rd ho9_1), RdS.cells (OS.rd ho9_1), BoxAt.cellB hb0_0 eB, BoxAt.cell hb8_2, wrap_id]
      refine hK _ _ ?_
      clear hK K
      refine den_seq ?_
      refine den_region TTok ?_
      intro K hK
      simp -implicitDefEqProofs (disch := first | decide | assumption | omega) only [go_sem, ld44, RdS.len hd sl37, RdS.idx hd sl37, R1.intB hd (Ext.pres eB), RdS.cells hd, RdS.len hm sl38, RdS.idx hm sl38, RdS.cellB hm (Ext.pres eB), RdS.cells hm, RdS.len hv sl37, RdS.idx hv sl37, R1.intB hv (Ext.pres eB), RdS.cells hv, RdS.len (OS.rd how7_5) sl37, RdS.idx (OS.rd how7_5) sl37, R1.intN (OS.rd how7_5), RdS.cells (OS.rd how7_5), RdS.len (OS.rd hod8_1) sl37, RdS.idx (OS.rd hod8_1) sl37, R1.intN (OS.rd hod8_1), RdS.cells (OS.rd hod8_1), RdS.len (OS.rd hom8_1) sl38, RdS.idx (OS.rd hom8_1) sl38, RdS.cellN (OS.rd hom8_1), RdS.cells (OS.rd hom8_1), RdS.len (OS.rd ho9_1) sl37, RdS.idx (OS.rd ho9_1) sl37, R1.intN (OS.rd ho9_1), RdS.cells (OS.rd ho9_1), BoxAt.cellB hb0_0 eB, BoxAt.cell hb8_2, wrap_id]
      try simp -implicitDefEqProofs (disch := first | decide | assumption | omega) only [go_sem, RdS.len hd sl37, RdS.idx hd sl37, R1.intB hd (Ext.pres eB), RdS.cells hd, RdS.len hm sl38, RdS.idx hm sl38, RdS.cellB hm (Ext.pres eB), RdS.cells hm, RdS.len hv sl37, RdS.idx hv sl37, R1.intB hv (Ext.pres eB), RdS.cells hv, RdS.len (OS.rd how7_5) sl37, RdS.idx (OS.rd how7_5) sl37, R1.intN (OS.rd how7_5), RdS.cells (OS.rd how7_5), RdS.len (OS.rd hod8_1) sl37, RdS.idx (OS.rd hod8_1) sl37, R1.intN (OS.rd hod8_1), RdS.cells (OS.rd hod8_1), RdS.len (OS.rd hom8_1) sl38, RdS.idx (OS.rd hom8_1) sl38, RdS.cellN (OS.rd hom8_1), RdS.cells (OS.rd hom8_1), RdS.len (OS.rd ho9_1) sl37, RdS.idx (OS.rd ho9_1) sl37, R1.intN (OS.rd ho9_1), RdS.cells (OS.rd ho9_1), BoxAt.cellB hb0_0 eB, BoxAt.cell hb8_2, wrap_id]
      refine CallA.mono (iDof_ok _ X n _ xs _ ⟨_, _, rfl, (OS.rd hod8_1), (OS.rd hom8_1)⟩ (OS.rd ho9_1)) ?_
      intro v_ h10_3
      rintro ⟨vw10_3, fw10_3, rfl, how10_3, hfw10_3, e10_3⟩
      replace how7_5 := OS.ext how7_5 e10_3
      replace hod8_1 := OS.ext hod8_1 e10_3
      replace hom8_1 := OS.ext hom8_1 e10_3
      replace ho9_1 := OS.ext ho9_1 e10_3
      replace hb8_2 := BoxAt.ext hb8_2 e10_3
      have := Ext.size e10_3
      replace eB := Ext.trans eB e10_3
      have hlhow10_3 := OS.lt how10_3
      try simp -implicitDefEqProofs (disch := first | decide | assumption | omega) only [go_sem, RdS.len hd sl37, RdS.idx hd sl37, R1.intB hd (Ext.pres eB), RdS.cells hd, RdS.len hm sl38, RdS.idx hm sl38, RdS.cellB hm (Ext.pres eB), RdS.cells hm, RdS.len hv sl37, RdS.idx hv sl37, R1.intB hv (Ext.pres eB), RdS.cells hv, RdS.len (OS.rd how7_5) sl37, RdS.idx (OS.rd how7_5) sl37, R1.intN (OS.rd how7_5), RdS.cells (OS.rd how7_5), RdS.len (OS.rd hod8_1) sl37, RdS.idx (OS.rd hod8_1) sl37, R1.intN (OS.rd hod8_1), RdS.cells (OS.rd hod8_1), RdS.len (OS.rd hom8_1) sl38, RdS.idx (OS.rd hom8_1) sl38, RdS.cellN (OS.rd hom8_1), RdS.cells (OS.rd hom8_1), RdS.len (OS.rd ho9_1) sl37, RdS.idx (OS.rd ho9_1) sl37, R1.intN (OS.rd ho9_1), RdS.cells (OS.rd ho9_1), RdS.len (OS.rd how10_3) sl37, RdS.idx (OS.rd how10_3) sl37, R1.intN (OS.rd how10_3), RdS.cells (OS.rd how10_3), BoxAt.cellB hb0_0 eB, BoxAt.cell hb8_2, wrap_id]
      refine hK _ _ ?_
      clear hK K
      refine den_seq ?_
      refine den_seq ?_
      refine den_mergeH [(55, .bool (((!(true)) || (((dofP X n xs).2) != ((dofP X n xs).2)))))] [1, 2, 3, 8, 9, 10, 11, 12, 13] ?_ ?_
        -- a way
      · refine den_region TTok ?_
        intro K hK
        simp -implicitDefEqProofs (disch := first | decide | assumption | (simp (disch := decide) only [slotOf_zero, slotOf_succ, Option.map_some, puts_same, puts_ne, gv_bool, gv_undef, tt, tf, ft, ff, eq_self, if_true, if_false, Bool.false_eq_true, Bool.not_true, Bool.not_false]; done) | omega) only [go_sem, RdS.len hd sl37, RdS.idx hd sl37, R1.intB hd (Ext.pres eB), RdS.cells hd, RdS.len hm sl38, RdS.idx hm sl38, RdS.cellB hm (Ext.pres eB), RdS.cells hm, RdS.len hv sl37, RdS.idx hv sl37, R1.intB hv (Ext.pres eB), RdS.cells hv, RdS.len (OS.rd how7_5) sl37, RdS.idx (OS.rd how7_5) sl37, R1.intN (OS.rd how7_5), RdS.cells (OS.rd how7_5), RdS.len (OS.rd hod8_1) sl37, RdS.idx (OS.rd hod8_1) sl37, R1.intN (OS.rd hod8_1), RdS.cells (OS.rd hod8_1), RdS.len (OS.rd hom8_1) sl38, RdS.idx (OS.rd hom8_1) sl38, RdS.cellN (OS.rd hom8_1), RdS.cells (OS.rd hom8_1), RdS.len (OS.rd ho9_1) sl37, RdS.idx (OS.rd ho9_1) sl37, R1.intN (OS.rd ho9_1), RdS.cells (OS.rd ho9_1), RdS.len (OS.rd how10_3) sl37, RdS.idx (OS.rd how10_3) sl37, R1.intN (OS.rd how10_3), RdS.cells (OS.rd how10_3), BoxAt.cellB hb0_0 eB, BoxAt.cell hb8_2, wrap_id]
        try simp -implicitDefEqProofs (disch := first | decide | assumption | omega) only [go_sem, RdS.len hd sl37, RdS.idx hd sl37, R1.intB hd (Ext.pres eB), RdS.cells hd, RdS.len hm sl38, RdS.idx hm sl38, RdS.cellB hm (Ext.pres eB), RdS.cells hm, RdS.len hv sl37, RdS.idx hv sl37, R1.intB hv (Ext.pres eB), RdS.cells hv, RdS.len (OS.rd how7_5) sl37, RdS.idx (OS.rd how7_5) sl37, R1.intN (OS.rd how7_5), RdS.cells (OS.rd how7_5), RdS.len (OS.rd hod8_1) sl37, RdS.idx (OS.rd hod8_1) sl37, R1.intN (OS.rd hod8_1), RdS.cells (OS.rd hod8_1), RdS.len (OS.rd hom8_1) sl38, RdS.idx (OS.rd hom8_1) sl38, RdS.cellN (OS.rd hom8_1), RdS.cells (OS.rd hom8_1), RdS.len (OS.rd ho9_1) sl37, RdS.idx (OS.rd ho9_1) sl37, R1.intN (OS.rd ho9_1), RdS.cells (OS.rd ho9_1), RdS.len (OS.rd how10_3) sl37, RdS.idx (OS.rd how10_3) sl37, R1.intN (OS.rd how10_3), RdS.cells (OS.rd how10_3), BoxAt.cellB hb0_0 eB, BoxAt.cell hb8_2, wrap_id]
        refine CallA.pure (eqS_self _ _ _ _ (OS.rd how10_3) (OS.rd how7_5)) ?_
        try simp -implicitDefEqProofs (disch := first | decide | assumption | (simp (disch := decide) only [slotOf_zero, slotOf_succ, Option.map_some, puts_same, puts_ne, gv_bool, gv_undef, tt, tf, ft, ff, eq_self, if_true, if_false, Bool.false_eq_true, Bool.not_true, Bool.not_false]; done) | omega) only [go_sem, RdS.len hd sl37, RdS.idx hd sl37, R1.intB hd (Ext.pres eB), RdS.cells hd, RdS.len hm sl38, RdS.idx hm sl38, RdS.cellB hm (Ext.pres eB), RdS.cells hm, RdS.len hv sl37, RdS.idx hv sl37, R1.intB hv (Ext.pres eB), RdS.cells hv, RdS.len (OS.rd how7_5) sl37, RdS.idx (OS.rd how7_5) sl37, R1.intN (OS.rd how7_5), RdS.cells (OS.rd how7_5), RdS.len (OS.rd hod8_1) sl37, RdS.idx (OS.rd hod8_1) sl37, R1.intN (OS.rd hod8_1), RdS.cells (OS.rd hod8_1), RdS.len (OS.rd hom8_1) sl38, RdS.idx (OS.rd hom8_1) sl38, RdS.cellN (OS.rd hom8_1), RdS.cells (OS.rd hom8_1), RdS.len (OS.rd ho9_1) sl37, RdS.idx (OS.rd ho9_1) sl37, R1.intN (OS.rd ho9_1), RdS.cells (OS.rd ho9_1), RdS.len (OS.rd how10_3) sl37, RdS.idx (OS.rd how10_3) sl37, R1.intN (OS.rd how10_3), RdS.cells (OS.rd how10_3), BoxAt.cellB hb0_0 eB, BoxAt.cell hb8_2, wrap_id]
        try simp -implicitDefEqProofs (disch := first | decide | assumption | (simp (disch := decide) only [slotOf_zero, slotOf_succ, Option.map_some, puts_same, puts_ne, gv_bool, gv_undef, tt, tf, ft, ff, eq_self, if_true, if_false, Bool.false_eq_true, Bool.not_true, Bool.not_false]; done) | omega) only [go_sem, RdS.len hd sl37, RdS.idx hd sl37, R1.intB hd (Ext.pres eB), RdS.cells hd, RdS.len hm sl38, RdS.idx hm sl38, RdS.cellB hm (Ext.pres eB), RdS.cells hm, RdS.len hv sl37, RdS.idx hv sl37, R1.intB hv (Ext.pres eB), RdS.cells hv, RdS.len (OS.rd how7_5) sl37, RdS.idx (OS.rd how7_5) sl37, R1.intN (OS.rd how7_5), RdS.cells (OS.rd how7_5), RdS.len (OS.rd hod8_1) sl37, RdS.idx (OS.rd hod8_1) sl37, R1.intN (OS.rd hod8_1), RdS.cells (OS.rd hod8_1), RdS.len (OS.rd hom8_1) sl38, RdS.idx (OS.rd hom8_1) sl38, RdS.cellN (OS.rd hom8_1), RdS.cells (OS.rd hom8_1), RdS.len (OS.rd ho9_1) sl37, RdS.idx (OS.rd ho9_1) sl37, R1.intN (OS.rd ho9_1), RdS.cells (OS.rd ho9_1), RdS.len (OS.rd how10_3) sl37, RdS.idx (OS.rd how10_3) sl37, R1.intN (OS.rd how10_3), RdS.cells (OS.rd how10_3), BoxAt.cellB hb0_0 eB, BoxAt.cell hb8_2, wrap_id]
        refine hK _ _ ?_
        clear hK K
        refine den_stop ?_
        refine ⟨?_, rfl⟩
        first | (simp (disch := decide) only [go_sem, eq_self, Bool.true_and, Bool.and_true, Bool.false_and, Bool.and_false, Bool.true_or, Bool.or_true, Bool.false_or, Bool.or_false, if_true, if_false, Bool.false_eq_true]; done) | simp [HasL, sel, puts_at]
      intro en1
      simp (disch := decide) only [go_sem]
      refine den_cond rfl (fun c2 => ?_) (fun c2 => ?_)
      · try simp only [decide_eq_true_eq, decide_eq_false_iff_not, beq_iff_eq, beq_eq_false_iff_ne, bne_iff_ne, ne_eq, Bool.not_eq_true', Bool.not_eq_false', Bool.and_eq_true, Bool.or_eq_true, bne_eq_false_iff_eq] at c2
        refine den_seq ?_
        refine den_region TTok ?_
        intro K hK
        simp -implicitDefEqProofs (disch := first | decide | assumption | omega) only [go_sem, RdS.len hd sl37, RdS.idx hd sl37, R1.intB hd (Ext.pres eB), RdS.cells hd, RdS.len hm sl38, RdS.idx hm sl38, RdS.cellB hm (Ext.pres eB), RdS.cells hm, RdS.len hv sl37, RdS.idx hv sl37, R1.intB hv (Ext.pres eB), RdS.cells hv, BoxAt.cellB hb0_0 eB, wrap_id]
        refine hK _ _ ?_
        clear hK K
        refine den_ret ?_
        simp (disch := decide) only [resP_1, puts_same, puts_ne]
        exact absurd c2 (by simp)
      · try simp only [decide_eq_true_eq, decide_eq_false_iff_not, beq_iff_eq, beq_eq_false_iff_ne, bne_iff_ne, ne_eq, Bool.not_eq_true', Bool.not_eq_false', Bool.and_eq_true, Bool.or_eq_true, bne_eq_false_iff_eq] at c2
        refine den_skip ?_
        refine den_seq ?_
        refine den_seq ?_
        refine den_draw TTok mixed [] [(0, true), (1, true), (2, false), (3, false), (4, true)] (by kernel_rfl) ?_
        intro K hK
        simp -implicitDefEqProofs (disch := first | decide | assumption | omega) only [go_sem, ld44, ld40, RdS.len hd sl37, RdS.idx hd sl37, R1.intB hd (Ext.pres eB), RdS.cells hd, RdS.len hm sl38, RdS.idx hm sl38, RdS.cellB hm (Ext.pres eB), RdS.cells hm, RdS.len hv sl37, RdS.idx hv sl37, R1.intB hv (Ext.pres eB), RdS.cells hv, RdS.len (OS.rd how7_5) sl37, RdS.idx (OS.rd how7_5) sl37, R1.intN (OS.rd how7_5), RdS.cells (OS.rd how7_5), RdS.len (OS.rd hod8_1) sl37, RdS.idx (OS.rd hod8_1) sl37, R1.intN (OS.rd hod8_1), RdS.cells (OS.rd hod8_1), RdS.len (OS.rd hom8_1) sl38, RdS.idx (OS.rd hom8_1) sl38, RdS.cellN (OS.rd hom8_1), RdS.cells (OS.rd hom8_1), RdS.len (OS.rd ho9_1) sl37, RdS.idx (OS.rd ho9_1) sl37, R1.intN (OS.rd ho9_1), RdS.cells (OS.rd ho9_1), RdS.len (OS.rd how10_3) sl37, RdS.idx (OS.rd how10_3) sl37, R1.intN (OS.rd how10_3), RdS.cells (OS.rd how10_3), BoxAt.cellB hb0_0 eB, BoxAt.cell hb8_2, wrap_id]
        try simp -implicitDefEqProofs (disch := first | decide | assumption | omega) only [go_sem, RdS.len hd sl37, RdS.idx hd sl37, R1.intB hd (Ext.pres eB), RdS.cells hd, RdS.len hm sl38, RdS.idx hm sl38, RdS.cellB hm (Ext.pres eB), RdS.cells hm, RdS.len hv sl37, RdS.idx hv sl37, R1.intB hv (Ext.pres eB), RdS.cells hv, RdS.len (OS.rd how7_5) sl37, RdS.idx (OS.rd how7_5) sl37, R1.intN (OS.rd how7_5), RdS.cells (OS.rd how7_5), RdS.len (OS.rd hod8_1) sl37, RdS.idx (OS.rd hod8_1) sl37, R1.intN (OS.rd hod8_1), RdS.cells (OS.rd hod8_1), RdS.len (OS.rd hom8_1) sl38, RdS.idx (OS.rd hom8_1) sl38, RdS.cellN (OS.rd hom8_1), RdS.cells (OS.rd hom8_1), RdS.len (OS.rd ho9_1) sl37, RdS.idx (OS.rd ho9_1) sl37, R1.intN (OS.rd ho9_1), RdS.cells (OS.rd ho9_1), RdS.len (OS.rd how10_3) sl37, RdS.idx (OS.rd how10_3) sl37, R1.intN (OS.rd how10_3), RdS.cells (OS.rd how10_3), BoxAt.cellB hb0_0 eB, BoxAt.cell hb8_2, wrap_id]
        refine CallA.mono (toC_ok _ X _ ⟨_, _, rfl, (RdS.pres hd (Ext.pres eB)), (RdS.pres hm (Ext.pres eB))⟩ hMX) ?_
        intro v_ h13_2
        rintro ⟨vd13_2, vm13_2, fd13_2, fm13_2, rfl, hod13_2, hom13_2, hf13_2, e13_2⟩
        replace how7_5 := OS.ext how7_5 e13_2
        replace hod8_1 := OS.ext hod8_1 e13_2
        replace hom8_1 := OS.ext hom8_1 e13_2
        replace ho9_1 := OS.ext ho9_1 e13_2
        replace how10_3 := OS.ext how10_3 e13_2
        replace hb8_2 := BoxAt.ext hb8_2 e13_2
        have := Ext.size e13_2
        replace eB := Ext.trans eB e13_2
        have hfd13_2 := hf13_2.left
        have hfm13_2 := hf13_2.right
        have hlhod13_2 := OS.lt hod13_2
        have hlhom13_2 := OS.lt hom13_2
        try simp (disch := decide) only [outv_some, outv_none, put_puts]
        refine plK_pres (Ext.pres e13_2) ?_
        try simp -implicitDefEqProofs (disch := first | decide | assumption | omega) only [go_sem, RdS.len hd sl37, RdS.idx hd sl37, R1.intB hd (Ext.pres eB), RdS.cells hd, RdS.len hm sl38, RdS.idx hm sl38, RdS.cellB hm (Ext.pres eB), RdS.cells hm, RdS.len hv sl37, RdS.idx hv sl37, R1.intB hv (Ext.pres eB), RdS.cells hv, RdS.len (OS.rd how7_5) sl37, RdS.idx (OS.rd how7_5) sl37, R1.intN (OS.rd how7_5), RdS.cells (OS.rd how7_5), RdS.len (OS.rd hod8_1) sl37, RdS.idx (OS.rd hod8_1) sl37, R1.intN (OS.rd hod8_1), RdS.cells (OS.rd hod8_1), RdS.len (OS.rd hom8_1) sl38, RdS.idx (OS.rd hom8_1) sl38, RdS.cellN (OS.rd hom8_1), RdS.cells (OS.rd hom8_1), RdS.len (OS.rd ho9_1) sl37, RdS.idx (OS.rd ho9_1) sl37, R1.intN (OS.rd ho9_1), RdS.cells (OS.rd ho9_1), RdS.len (OS.rd how10_3) sl37, RdS.idx (OS.rd how10_3) sl37, R1.intN (OS.rd how10_3), RdS.cells (OS.rd how10_3), RdS.len (OS.rd hod13_2) sl37, RdS.idx (OS.rd hod13_2) sl37, R1.intN (OS.rd hod13_2), RdS.cells (OS.rd hod13_2), RdS.len (OS.rd hom13_2) sl38, RdS.idx (OS.rd hom13_2) sl38, RdS.cellN (OS.rd hom13_2), RdS.cells (OS.rd hom13_2), BoxAt.cellB hb0_0 eB, BoxAt.cell hb8_2, wrap_id]
        try simp -implicitDefEqProofs (disch := first | decide | assumption | omega) only [go_sem, RdS.len hd sl37, RdS.idx hd sl37, R1.intB hd (Ext.pres eB), RdS.cells hd, RdS.len hm sl38, RdS.idx hm sl38, RdS.cellB hm (Ext.pres eB), RdS.cells hm, RdS.len hv sl37, RdS.idx hv sl37, R1.intB hv (Ext.pres eB), RdS.cells hv, RdS.len (OS.rd how7_5) sl37, RdS.idx (OS.rd how7_5) sl37, R1.intN (OS.rd how7_5), RdS.cells (OS.rd how7_5), RdS.len (OS.rd hod8_1) sl37, RdS.idx (OS.rd hod8_1) sl37, R1.intN (OS.rd hod8_1), RdS.cells (OS.rd hod8_1), RdS.len (OS.rd hom8_1) sl38, RdS.idx (OS.rd hom8_1) sl38, RdS.cellN (OS.rd hom8_1), RdS.cells (OS.rd hom8_1), RdS.len (OS.rd ho9_1) sl37, RdS.idx (OS.rd ho9_1) sl37, R1.intN (OS.rd ho9_1), RdS.cells (OS.rd ho9_1), RdS.len (OS.rd how10_3) sl37, RdS.idx (OS.rd how10_3) sl37, R1.intN (OS.rd how10_3), RdS.cells (OS.rd how10_3), RdS.len (OS.rd hod13_2) sl37, RdS.idx (OS.rd hod13_2) sl37, R1.intN (OS.rd hod13_2), RdS.cells (OS.rd hod13_2), RdS.len (OS.rd hom13_2) sl38, RdS.idx (OS.rd hom13_2) sl38, RdS.cellN (OS.rd hom13_2), RdS.cells (OS.rd hom13_2), BoxAt.cellB hb0_0 eB, BoxAt.cell hb8_2, wrap_id]
        refine CallA.mono (eqC_ok _ _ X X _ ⟨_, _, rfl, (OS.rd hod8_1), (OS.rd hom8_1)⟩ ⟨_, _, rfl, (OS.rd hod13_2), (OS.rd hom13_2)⟩) ?_
        intro v_ h13_3
        rintro ⟨rfl, e13_3⟩
        replace how7_5 := OS.ext how7_5 e13_3
        replace hod8_1 := OS.ext hod8_1 e13_3
        replace hom8_1 := OS.ext hom8_1 e13_3
        replace ho9_1 := OS.ext ho9_1 e13_3
        replace how10_3 := OS.ext how10_3 e13_3
        replace hod13_2 := OS.ext hod13_2 e13_3
        replace hom13_2 := OS.ext hom13_2 e13_3
        replace hb8_2 := BoxAt.ext hb8_2 e13_3
        have := Ext.size e13_3
        replace eB := Ext.trans eB e13_3
        try simp (disch := decide) only [outv_some, outv_none, put_puts]
        refine plK_pres (Ext.pres e13_3) ?_
        try simp -implicitDefEqProofs (disch := first | decide | assumption | omega) only [go_sem, RdS.len hd sl37, RdS.idx hd sl37, R1.intB hd (Ext.pres eB), RdS.cells hd, RdS.len hm sl38, RdS.idx hm sl38, RdS.cellB hm (Ext.pres eB), RdS.cells hm, RdS.len hv sl37, RdS.idx hv sl37, R1.intB hv (Ext.pres eB), RdS.cells hv, RdS.len (OS.rd how7_5) sl37, RdS.idx (OS.rd how7_5) sl37, R1.intN (OS.rd how7_5), RdS.cells (OS.rd how7_5), RdS.len (OS.rd hod8_1) sl37, RdS.idx (OS.rd hod8_1) sl37, R1.intN (OS.rd hod8_1), RdS.cells (OS.rd hod8_1), RdS.len (OS.rd hom8_1) sl38, RdS.idx (OS.rd hom8_1) sl38, RdS.cellN (OS.rd hom8_1), RdS.cells (OS.rd hom8_1), RdS.len (OS.rd ho9_1) sl37, RdS.idx (OS.rd ho9_1) sl37, R1.intN (OS.rd ho9_1), RdS.cells (OS.rd ho9_1), RdS.len (OS.rd how10_3) sl37, RdS.idx (OS.rd how10_3) sl37, R1.intN (OS.rd how10_3), RdS.cells (OS.rd how10_3), RdS.len (OS.rd hod13_2) sl37, RdS.idx (OS.rd hod13_2) sl37, R1.intN (OS.rd hod13_2), RdS.cells (OS.rd hod13_2), RdS.len (OS.rd hom13_2) sl38, RdS.idx (OS.rd hom13_2) sl38, RdS.cellN (OS.rd hom13_2), RdS.cells (OS.rd hom13_2), BoxAt.cellB hb0_0 eB, BoxAt.cell hb8_2, wrap_id]
        refine hK _ _ ?_
        clear hK K
        refine den_cond rfl (fun c3 => ?_) (fun c3 => ?_)
        · try simp only [decide_eq_true_eq, decide_eq_false_iff_not, beq_iff_eq, beq_eq_false_iff_ne, bne_iff_ne, ne_eq, Bool.not_eq_true', Bool.not_eq_false', Bool.and_eq_true, Bool.or_eq_true, bne_eq_false_iff_eq] at c3
          refine den_seq ?_
          refine den_region TTok ?_
          intro K hK
          simp -implicitDefEqProofs (disch := first | decide | assumption | omega) only [go_sem, RdS.len hd sl37, RdS.idx hd sl37, R1.intB hd (Ext.pres eB), RdS.cells hd, RdS.len hm sl38, RdS.idx hm sl38, RdS.cellB hm (Ext.pres eB), RdS.cells hm, RdS.len hv sl37, RdS.idx hv sl37, R1.intB hv (Ext.pres eB), RdS.cells hv, BoxAt.cellB hb0_0 eB, wrap_id]
          refine hK _ _ ?_
          clear hK K
          refine den_ret ?_
          simp (disch := decide) only [resP_1, puts_same, puts_ne]
          exact absurd c3 (by simp [eqC_self])
        · try simp only [decide_eq_true_eq, decide_eq_false_iff_not, beq_iff_eq, beq_eq_false_iff_ne, bne_iff_ne, ne_eq, Bool.not_eq_true', Bool.not_eq_false', Bool.and_eq_true, Bool.or_eq_true, bne_eq_false_iff_eq] at c3
          refine den_skip ?_
          refine den_seq ?_
          refine den_seq ?_
          refine den_region TTok ?_
          intro K hK
          simp -implicitDefEqProofs (disch := first | decide | assumption | omega) only [go_sem, RdS.len hd sl37, RdS.idx hd sl37, R1.intB hd (Ext.pres eB), RdS.cells hd, RdS.len hm sl38, RdS.idx hm sl38, RdS.cellB hm (Ext.pres eB), RdS.cells hm, RdS.len hv sl37, RdS.idx hv sl37, R1.intB hv (Ext.pres eB), RdS.cells hv, RdS.len (OS.rd how7_5) sl37, RdS.idx (OS.rd how7_5) sl37, R1.intN (OS.rd how7_5), RdS.cells (OS.rd how7_5), RdS.len (OS.rd hod8_1) sl37, RdS.idx (OS.rd hod8_1) sl37, R1.intN (OS.rd hod8_1), RdS.cells (OS.rd hod8_1), RdS.len (OS.rd hom8_1) sl38, RdS.idx (OS.rd hom8_1) sl38, RdS.cellN (OS.rd hom8_1), RdS.cells (OS.rd hom8_1), RdS.len (OS.rd ho9_1) sl37, RdS.idx (OS.rd ho9_1) sl37, R1.intN (OS.rd ho9_1), RdS.cells (OS.rd ho9_1), RdS.len (OS.rd how10_3) sl37, RdS.idx (OS.rd how10_3) sl37, R1.intN (OS.rd how10_3), RdS.cells (OS.rd how10_3), BoxAt.cellB hb0_0 eB, BoxAt.cell hb8_2, wrap_id]
          try simp -implicitDefEqProofs (disch := first | decide | assumption | omega) only [go_sem, RdS.len hd sl37, RdS.idx hd sl37, R1.intB hd (Ext.pres eB), RdS.cells hd, RdS.len hm sl38, RdS.idx hm sl38, RdS.cellB hm (Ext.pres eB), RdS.cells hm, RdS.len hv sl37, RdS.idx hv sl37, R1.intB hv (Ext.pres eB), RdS.cells hv, RdS.len (OS.rd how7_5) sl37, RdS.idx (OS.rd how7_5) sl37, R1.intN (OS.rd how7_5), RdS.cells (OS.rd how7_5), RdS.len (OS.rd hod8_1) sl37, RdS.idx (OS.rd hod8_1) sl37, R1.intN (OS.rd hod8_1), RdS.cells (OS.rd hod8_1), RdS.len (OS.rd hom8_1) sl38, RdS.idx (OS.rd hom8_1) sl38, RdS.cellN (OS.rd hom8_1), RdS.cells (OS.rd hom8_1), RdS.len (OS.rd ho9_1) sl37, RdS.idx (OS.rd ho9_1) sl37, R1.intN (OS.rd ho9_1), RdS.cells (OS.rd ho9_1), RdS.len (OS.rd how10_3) sl37, RdS.idx (OS.rd how10_3) sl37, R1.intN (OS.rd how10_3), RdS.cells (OS.rd how10_3), BoxAt.cellB hb0_0 eB, BoxAt.cell hb8_2, wrap_id]
          refine CallA.mono (toS_ok _ _ _ (RdS.pres hv (Ext.pres eB)) hMV) ?_
          intro v15_2 h15_2
          rintro ⟨f15_2, ho15_2, hf15_2, e15_2⟩
          replace how7_5 := OS.ext how7_5 e15_2
          replace hod8_1 := OS.ext hod8_1 e15_2
          replace hom8_1 := OS.ext hom8_1 e15_2
          replace ho9_1 := OS.ext ho9_1 e15_2
          replace how10_3 := OS.ext how10_3 e15_2
          replace hb8_2 := BoxAt.ext hb8_2 e15_2
          have := Ext.size e15_2
          replace eB := Ext.trans eB e15_2
          have hlho15_2 := OS.lt ho15_2
          try simp -implicitDefEqProofs (disch := first | decide | assumption | omega) only [go_sem, RdS.len hd sl37, RdS.idx hd sl37, R1.intB hd (Ext.pres eB), RdS.cells hd, RdS.len hm sl38, RdS.idx hm sl38, RdS.cellB hm (Ext.pres eB), RdS.cells hm, RdS.len hv sl37, RdS.idx hv sl37, R1.intB hv (Ext.pres eB), RdS.cells hv, RdS.len (OS.rd how7_5) sl37, RdS.idx (OS.rd how7_5) sl37, R1.intN (OS.rd how7_5), RdS.cells (OS.rd how7_5), RdS.len (OS.rd hod8_1) sl37, RdS.idx (OS.rd hod8_1) sl37, R1.intN (OS.rd hod8_1), RdS.cells (OS.rd hod8_1), RdS.len (OS.rd hom8_1) sl38, RdS.idx (OS.rd hom8_1) sl38, RdS.cellN (OS.rd hom8_1), RdS.cells (OS.rd hom8_1), RdS.len (OS.rd ho9_1) sl37, RdS.idx (OS.rd ho9_1) sl37, R1.intN (OS.rd ho9_1), RdS.cells (OS.rd ho9_1), RdS.len (OS.rd how10_3) sl37, RdS.idx (OS.rd how10_3) sl37, R1.intN (OS.rd how10_3), RdS.cells (OS.rd how10_3), RdS.len (OS.rd ho15_2) sl37, RdS.idx (OS.rd ho15_2) sl37, R1.intN (OS.rd ho15_2), RdS.cells (OS.rd ho15_2), BoxAt.cellB hb0_0 eB, BoxAt.cell hb8_2, wrap_id]
          try simp -implicitDefEqProofs (disch := first | decide | assumption | omega) only [go_sem, RdS.len hd sl37, RdS.idx hd sl37, R1.intB hd (Ext.pres eB), RdS.cells hd, RdS.len hm sl38, RdS.idx hm sl38, RdS.cellB hm (Ext.pres eB), RdS.cells hm, RdS.len hv sl37, RdS.idx hv sl37, R1.intB hv (Ext.pres eB), RdS.cells hv, RdS.len (OS.rd how7_5) sl37, RdS.idx (OS.rd how7_5) sl37, R1.intN (OS.rd how7_5), RdS.cells (OS.rd how7_5), RdS.len (OS.rd hod8_1) sl37, RdS.idx (OS.rd hod8_1) sl37, R1.intN (OS.rd hod8_1), RdS.cells (OS.rd hod8_1), RdS.len (OS.rd hom8_1) sl38, RdS.idx (OS.rd hom8_1) sl38, RdS.cellN (OS.rd hom8_1), RdS.cells (OS.rd hom8_1), RdS.len (OS.rd ho9_1) sl37, RdS.idx (OS.rd ho9_1) sl37, R1.intN (OS.rd ho9_1), RdS.cells (OS.rd ho9_1), RdS.len (OS.rd how10_3) sl37, RdS.idx (OS.rd how10_3) sl37, R1.intN (OS.rd how10_3), RdS.cells (OS.rd how10_3), RdS.len (OS.rd ho15_2) sl37, RdS.idx (OS.rd ho15_2) sl37, R1.intN (OS.rd ho15_2), RdS.cells (OS.rd ho15_2), BoxAt.cellB hb0_0 eB, BoxAt.cell hb8_2, wrap_id]
          refine CallA.pure (eqS_self _ _ _ _ (OS.rd ho9_1) (OS.rd ho15_2)) ?_
          try simp -implicitDefEqProofs (disch := first | decide | assumption | omega) only [go_sem, RdS.len hd sl37, RdS.idx hd sl37, R1.intB hd (Ext.pres eB), RdS.cells hd, RdS.len hm sl38, RdS.idx hm sl38, RdS.cellB hm (Ext.pres eB), RdS.cells hm, RdS.len hv sl37, RdS.idx hv sl37, R1.intB hv (Ext.pres eB), RdS.cells hv, RdS.len (OS.rd how7_5) sl37, RdS.idx (OS.rd how7_5) sl37, R1.intN (OS.rd how7_5), RdS.cells (OS.rd how7_5), RdS.len (OS.rd hod8_1) sl37, RdS.idx (OS.rd hod8_1) sl37, R1.intN (OS.rd hod8_1), RdS.cells (OS.rd hod8_1), RdS.len (OS.rd hom8_1) sl38, RdS.idx (OS.rd hom8_1) sl38, RdS.cellN (OS.rd hom8_1), RdS.cells (OS.rd hom8_1), RdS.len (OS.rd ho9_1) sl37, RdS.idx (OS.rd ho9_1) sl37, R1.intN (OS.rd ho9_1), RdS.cells (OS.rd ho9_1), RdS.len (OS.rd how10_3) sl37, RdS.idx (OS.rd how10_3) sl37, R1.intN (OS.rd how10_3), RdS.cells (OS.rd how10_3), RdS.len (OS.rd ho15_2) sl37, RdS.idx (OS.rd ho15_2) sl37, R1.intN (OS.rd ho15_2), RdS.cells (OS.rd ho15_2), BoxAt.cellB hb0_0 eB, BoxAt.cell hb8_2, wrap_id]
          refine hK _ _ ?_
          clear hK K
          refine den_cond rfl (fun c4 => ?_) (fun c4 => ?_)
          · try simp only [decide_eq_true_eq, decide_eq_false_iff_not, beq_iff_eq, beq_eq_false_iff_ne, bne_iff_ne, ne_eq, Bool.not_eq_true', Bool.not_eq_false', Bool.and_eq_true, Bool.or_eq_true, bne_eq_false_iff_eq] at c4
            refine den_seq ?_
            refine den_region TTok ?_
            intro K hK
            simp -implicitDefEqProofs (disch := first | decide | assumption | omega) only [go_sem, RdS.len hd sl37, RdS.idx hd sl37, R1.intB hd (Ext.pres eB), RdS.cells hd, RdS.len hm sl38, RdS.idx hm sl38, RdS.cellB hm (Ext.pres eB), RdS.cells hm, RdS.len hv sl37, RdS.idx hv sl37, R1.intB hv (Ext.pres eB), RdS.cells hv, BoxAt.cellB hb0_0 eB, wrap_id]
            refine hK _ _ ?_
            clear hK K
            refine den_ret ?_
            simp (disch := decide) only [resP_1, puts_same, puts_ne]
            exact absurd c4 (by simp)
          · try simp only [decide_eq_true_eq, decide_eq_false_iff_not, beq_iff_eq, beq_eq_false_iff_ne, bne_iff_ne, ne_eq, Bool.not_eq_true', Bool.not_eq_false', Bool.and_eq_true, Bool.or_eq_true, bne_eq_false_iff_eq] at c4
            refine den_skip ?_
            refine den_seq ?_
            refine den_region TTok ?_
            intro K hK
            simp -implicitDefEqProofs (disch := first | decide | assumption | omega) only [go_sem, RdS.len hd sl37, RdS.idx hd sl37, R1.intB hd (Ext.pres eB), RdS.cells hd, RdS.len hm sl38, RdS.idx hm sl38, RdS.cellB hm (Ext.pres eB), RdS.cells hm, RdS.len hv sl37, RdS.idx hv sl37, R1.intB hv (Ext.pres eB), RdS.cells hv, RdS.len (OS.rd how7_5) sl37, RdS.idx (OS.rd how7_5) sl37, R1.intN (OS.rd how7_5), RdS.cells (OS.rd how7_5), RdS.len (OS.rd hod8_1) sl37, RdS.idx (OS.rd hod8_1) sl37, R1.intN (OS.rd hod8_1), RdS.cells (OS.rd hod8_1), RdS.len (OS.rd hom8_1) sl38, RdS.idx (OS.rd hom8_1) sl38, RdS.cellN (OS.rd hom8_1), RdS.cells (OS.rd hom8_1), RdS.len (OS.rd ho9_1) sl37, RdS.idx (OS.rd ho9_1) sl37, R1.intN (OS.rd ho9_1), RdS.cells (OS.rd ho9_1), RdS.len (OS.rd how10_3) sl37, RdS.idx (OS.rd how10_3) sl37, R1.intN (OS.rd how10_3), RdS.cells (OS.rd how10_3), BoxAt.cellB hb0_0 eB, BoxAt.cell hb8_2, wrap_id]
            refine hK _ _ ?_
            clear hK K
            refine den_seq ?_
            refine den_region TTok ?_
            intro K hK
            simp -implicitDefEqProofs (disch := first | decide | assumption | omega) only [go_sem, ld44, RdS.len hd sl37, RdS.idx hd sl37, R1.intB hd (Ext.pres eB), RdS.cells hd, RdS.len hm sl38, RdS.idx hm sl38, RdS.cellB hm (Ext.pres eB), RdS.cells hm, RdS.len hv sl37, RdS.idx hv sl37, R1.intB hv (Ext.pres eB), RdS.cells hv, RdS.len (OS.rd how7_5) sl37, RdS.idx (OS.rd how7_5) sl37, R1.intN (OS.rd how7_5), RdS.cells (OS.rd how7_5), RdS.len (OS.rd hod8_1) sl37, RdS.idx (OS.rd hod8_1) sl37, R1.intN (OS.rd hod8_1), RdS.cells (OS.rd hod8_1), RdS.len (OS.rd hom8_1) sl38, RdS.idx (OS.rd hom8_1) sl38, RdS.cellN (OS.rd hom8_1), RdS.cells (OS.rd hom8_1), RdS.len (OS.rd ho9_1) sl37, RdS.idx (OS.rd ho9_1) sl37, R1.intN (OS.rd ho9_1), RdS.cells (OS.rd ho9_1), RdS.len (OS.rd how10_3) sl37, RdS.idx (OS.rd how10_3) sl37, R1.intN (OS.rd how10_3), RdS.cells (OS.rd how10_3), BoxAt.cellB hb0_0 eB, BoxAt.cell hb8_2, wrap_id]
            try simp -implicitDefEqProofs (disch := first | decide | assumption | omega) only [go_sem, RdS.len hd sl37, RdS.idx hd sl37, R1.intB hd (Ext.pres eB), RdS.cells hd, RdS.len hm sl38, RdS.idx hm sl38, RdS.cellB hm (Ext.pres eB), RdS.cells hm, RdS.len hv sl37, RdS.idx hv sl37, R1.intB hv (Ext.pres eB), RdS.cells hv, RdS.len (OS.rd how7_5) sl37, RdS.idx (OS.rd how7_5) sl37, R1.intN (OS.rd how7_5), RdS.cells (OS.rd how7_5), RdS.len (OS.rd hod8_1) sl37, RdS.idx (OS.rd hod8_1) sl37, R1.intN (OS.rd hod8_1), RdS.cells (OS.rd hod8_1), RdS.len (OS.rd hom8_1) sl38, RdS.idx (OS.rd hom8_1) sl38, RdS.cellN (OS.rd hom8_1), RdS.cells (OS.rd hom8_1), RdS.len (OS.rd ho9_1) sl37, RdS.idx (OS.rd ho9_1) sl37, R1.intN (OS.rd ho9_1), RdS.cells (OS.rd ho9_1), RdS.len (OS.rd how10_3) sl37, RdS.idx (OS.rd how10_3) sl37, R1.intN (OS.rd how10_3), RdS.cells (OS.rd how10_3), BoxAt.cellB hb0_0 eB, BoxAt.cell hb8_2, wrap_id]
            refine CallA.mono (markC_ok _ _ X 1 _ _ _ hod8_1 hom8_1 hf8_1.nodup (by omega)) ?_
            intro v_ h18_2
            rintro ⟨⟨qm, rfl, hqm, hqM⟩, cM⟩
            replace how7_5 := OS.chg how7_5 cM (fun b hb hm => by
  have a1 := hfw7_5.ge b hb
  have a2 := hlhow7_5 b hb
  rcases List.mem_append.1 hm with hm | hm
  · have a3 := hfd8_1.ge b hm
    have a4 := hlhod8_1 b hm
    omega
  · have a3 := hfm8_1.ge b hm
    have a4 := hlhom8_1 b hm
    omega)
            replace how10_3 := OS.chg how10_3 cM (fun b hb hm => by
  have a1 := hfw10_3.ge b hb
  have a2 := hlhow10_3 b hb
  rcases List.mem_append.1 hm with hm | hm
  · have a3 := hfd8_1.ge b hm
    have a4 := hlhod8_1 b hm
    omega
  · have a3 := hfm8_1.ge b hm
    have a4 := hlhom8_1 b hm
    omega)
            replace ho9_1 := OS.chg ho9_1 cM (fun b hb hm => by
  have a1 := hf9_1.ge b hb
  have a2 := hlho9_1 b hb
  rcases List.mem_append.1 hm with hm | hm
  · have a3 := hfd8_1.ge b hm
    have a4 := hlhod8_1 b hm
    omega
  · have a3 := hfm8_1.ge b hm
    have a4 := hlhom8_1 b hm
    omega)
            have := cM.size
            replace eB := Ext.then eB cM (fun b hm => by
  rcases List.mem_append.1 hm with hm | hm
  · have a4 := hfd8_1.ge b hm
    omega
  · have a4 := hfm8_1.ge b hm
    omega)
            try simp -implicitDefEqProofs (disch := first | decide | assumption | omega) only [go_sem, RdS.len hd sl37, RdS.idx hd sl37, R1.intB hd (Ext.pres eB), RdS.cells hd, RdS.len hm sl38, RdS.idx hm sl38, RdS.cellB hm (Ext.pres eB), RdS.cells hm, RdS.len hv sl37, RdS.idx hv sl37, R1.intB hv (Ext.pres eB), RdS.cells hv, RdS.len (OS.rd how7_5) sl37, RdS.idx (OS.rd how7_5) sl37, R1.intN (OS.rd how7_5), RdS.cells (OS.rd how7_5), RdS.len (OS.rd hod8_1) sl37, RdS.idx (OS.rd hod8_1) sl37, R1.intN (OS.rd hod8_1), RdS.cells (OS.rd hod8_1), RdS.len (OS.rd hom8_1) sl38, RdS.idx (OS.rd hom8_1) sl38, RdS.cellN (OS.rd hom8_1), RdS.cells (OS.rd hom8_1), RdS.len (OS.rd ho9_1) sl37, RdS.idx (OS.rd ho9_1) sl37, R1.intN (OS.rd ho9_1), RdS.cells (OS.rd ho9_1), RdS.len (OS.rd how10_3) sl37, RdS.idx (OS.rd how10_3) sl37, R1.intN (OS.rd how10_3), RdS.cells (OS.rd how10_3), BoxAt.cellB hb0_0 eB, BoxAt.cell hb8_2, wrap_id]
            refine hK _ _ ?_
            clear hK K
            refine den_seq ?_
            refine den_region TTok ?_
            intro K hK
            simp -implicitDefEqProofs (disch := first | decide | assumption | omega) only [go_sem, RdS.len hd sl37, RdS.idx hd sl37, R1.intB hd (Ext.pres eB), RdS.cells hd, RdS.len hm sl38, RdS.idx hm sl38, RdS.cellB hm (Ext.pres eB), RdS.cells hm, RdS.len hv sl37, RdS.idx hv sl37, R1.intB hv (Ext.pres eB), RdS.cells hv, RdS.len (OS.rd how7_5) sl37, RdS.idx (OS.rd how7_5) sl37, R1.intN (OS.rd how7_5), RdS.cells (OS.rd how7_5), RdS.len (OS.rd ho9_1) sl37, RdS.idx (OS.rd ho9_1) sl37, R1.intN (OS.rd ho9_1), RdS.cells (OS.rd ho9_1), RdS.len (OS.rd how10_3) sl37, RdS.idx (OS.rd how10_3) sl37, R1.intN (OS.rd how10_3), RdS.cells (OS.rd how10_3), BoxAt.cellB hb0_0 eB, wrap_id]
            try simp -implicitDefEqProofs (disch := first | decide | assumption | omega) only [go_sem, RdS.len hd sl37, RdS.idx hd sl37, R1.intB hd (Ext.pres eB), RdS.cells hd, RdS.len hm sl38, RdS.idx hm sl38, RdS.cellB hm (Ext.pres eB), RdS.cells hm, RdS.len hv sl37, RdS.idx hv sl37, R1.intB hv (Ext.pres eB), RdS.cells hv, RdS.len (OS.rd how7_5) sl37, RdS.idx (OS.rd how7_5) sl37, R1.intN (OS.rd how7_5), RdS.cells (OS.rd how7_5), RdS.len (OS.rd ho9_1) sl37, RdS.idx (OS.rd ho9_1) sl37, R1.intN (OS.rd ho9_1), RdS.cells (OS.rd ho9_1), RdS.len (OS.rd how10_3) sl37, RdS.idx (OS.rd how10_3) sl37, R1.intN (OS.rd how10_3), RdS.cells (OS.rd how10_3), BoxAt.cellB hb0_0 eB, wrap_id]
            refine CallA.mono (markS_ok _ xs qm _ _ ho9_1 hf9_1.nodup ⟨hqm, by unfold cnt1 at *; omega⟩) ?_
            intro v_ h19_2
            rintro ⟨rfl, hov, cV⟩
            replace how7_5 := OS.chg how7_5 cV (fun b hb hm => by have a1 := hfw7_5.ge b hb; have a2 := hlhow7_5 b hb; have a3 := hf9_1.ge b hm; have a4 := hlho9_1 b hm; omega)
            replace how10_3 := OS.chg how10_3 cV (fun b hb hm => by have a1 := hfw10_3.ge b hb; have a2 := hlhow10_3 b hb; have a3 := hf9_1.ge b hm; have a4 := hlho9_1 b hm; omega)
            have := cV.size
            replace eB := Ext.then eB cV (fun b hm => by have a2 := hf9_1.ge b hm; omega)
            try simp -implicitDefEqProofs (disch := first | decide | assumption | omega) only [go_sem, RdS.len hd sl37, RdS.idx hd sl37, R1.intB hd (Ext.pres eB), RdS.cells hd, RdS.len hm sl38, RdS.idx hm sl38, RdS.cellB hm (Ext.pres eB), RdS.cells hm, RdS.len hv sl37, RdS.idx hv sl37, R1.intB hv (Ext.pres eB), RdS.cells hv, RdS.len (OS.rd how7_5) sl37, RdS.idx (OS.rd how7_5) sl37, R1.intN (OS.rd how7_5), RdS.cells (OS.rd how7_5), RdS.len (OS.rd how10_3) sl37, RdS.idx (OS.rd how10_3) sl37, R1.intN (OS.rd how10_3), RdS.cells (OS.rd how10_3), BoxAt.cellB hb0_0 eB, wrap_id]
            refine hK _ _ ?_
            clear hK K
            refine den_seq ?_
            refine den_seq ?_
            refine den_mergeH [(84, .bool ((((decide ((qm + cnt1 xs) < (0 : Int))) || (!(true))) || (((dofP X n xs).2) != ((dofP X n xs).2)))))] [1, 2, 3, 8, 9, 12] ?_ ?_
              -- a way
            · refine den_region TTok ?_
              intro K hK
              simp -implicitDefEqProofs (disch := first | decide | assumption | (simp (disch := decide) only [slotOf_zero, slotOf_succ, Option.map_some, puts_same, puts_ne, gv_bool, gv_undef, tt, tf, ft, ff, eq_self, if_true, if_false, Bool.false_eq_true, Bool.not_true, Bool.not_false]; done) | omega) only [go_sem, RdS.len hd sl37, RdS.idx hd sl37, R1.intB hd (Ext.pres eB), RdS.cells hd, RdS.len hm sl38, RdS.idx hm sl38, RdS.cellB hm (Ext.pres eB), RdS.cells hm, RdS.len hv sl37, RdS.idx hv sl37, R1.intB hv (Ext.pres eB), RdS.cells hv, RdS.len (OS.rd how7_5) sl37, RdS.idx (OS.rd how7_5) sl37, R1.intN (OS.rd how7_5), RdS.cells (OS.rd how7_5), RdS.len (OS.rd how10_3) sl37, RdS.idx (OS.rd how10_3) sl37, R1.intN (OS.rd how10_3), RdS.cells (OS.rd how10_3), BoxAt.cellB hb0_0 eB, wrap_id]
              refine opsP_F (by simp (disch := decide) only [slotOf_zero, slotOf_succ, Option.map_some, puts_same, puts_ne, gv_bool, gv_undef, tt, tf, ft, ff, eq_self, if_true, if_false, Bool.false_eq_true, Bool.not_true, Bool.not_false]; rfl) (fun g4 => ?_) (fun g4 => ?_)
              · try simp -implicitDefEqProofs (disch := first | decide | assumption | (simp (disch := decide) only [slotOf_zero, slotOf_succ, Option.map_some, puts_same, puts_ne, gv_bool, gv_undef, tt, tf, ft, ff, eq_self, if_true, if_false, Bool.false_eq_true, Bool.not_true, Bool.not_false, g4]; done) | omega) only [go_sem, RdS.len hd sl37, RdS.idx hd sl37, R1.intB hd (Ext.pres eB), RdS.cells hd, RdS.len hm sl38, RdS.idx hm sl38, RdS.cellB hm (Ext.pres eB), RdS.cells hm, RdS.len hv sl37, RdS.idx hv sl37, R1.intB hv (Ext.pres eB), RdS.cells hv, RdS.len (OS.rd how7_5) sl37, RdS.idx (OS.rd how7_5) sl37, R1.intN (OS.rd how7_5), RdS.cells (OS.rd how7_5), RdS.len (OS.rd how10_3) sl37, RdS.idx (OS.rd how10_3) sl37, R1.intN (OS.rd how10_3), RdS.cells (OS.rd how10_3), BoxAt.cellB hb0_0 eB, wrap_id, g4, eq_self, if_true, if_false, Bool.false_eq_true]
                try simp -implicitDefEqProofs (disch := first | decide | assumption | omega) only [go_sem, RdS.len hd sl37, RdS.idx hd sl37, R1.intB hd (Ext.pres eB), RdS.cells hd, RdS.len hm sl38, RdS.idx hm sl38, RdS.cellB hm (Ext.pres eB), RdS.cells hm, RdS.len hv sl37, RdS.idx hv sl37, R1.intB hv (Ext.pres eB), RdS.cells hv, RdS.len (OS.rd how7_5) sl37, RdS.idx (OS.rd how7_5) sl37, R1.intN (OS.rd how7_5), RdS.cells (OS.rd how7_5), RdS.len (OS.rd how10_3) sl37, RdS.idx (OS.rd how10_3) sl37, R1.intN (OS.rd how10_3), RdS.cells (OS.rd how10_3), BoxAt.cellB hb0_0 eB, wrap_id]
                refine CallA.pure (eqS_self _ _ _ _ (OS.rd how10_3) (OS.rd how7_5)) ?_
                try simp -implicitDefEqProofs (disch := first | decide | assumption | (simp (disch := decide) only [slotOf_zero, slotOf_succ, Option.map_some, puts_same, puts_ne, gv_bool, gv_undef, tt, tf, ft, ff, eq_self, if_true, if_false, Bool.false_eq_true, Bool.not_true, Bool.not_false, g4]; done) | omega) only [go_sem, RdS.len hd sl37, RdS.idx hd sl37, R1.intB hd (Ext.pres eB), RdS.cells hd, RdS.len hm sl38, RdS.idx hm sl38, RdS.cellB hm (Ext.pres eB), RdS.cells hm, RdS.len hv sl37, RdS.idx hv sl37, R1.intB hv (Ext.pres eB), RdS.cells hv, RdS.len (OS.rd how7_5) sl37, RdS.idx (OS.rd how7_5) sl37, R1.intN (OS.rd how7_5), RdS.cells (OS.rd how7_5), RdS.len (OS.rd how10_3) sl37, RdS.idx (OS.rd how10_3) sl37, R1.intN (OS.rd how10_3), RdS.cells (OS.rd how10_3), BoxAt.cellB hb0_0 eB, wrap_id, g4, eq_self, if_true, if_false, Bool.false_eq_true]
                try simp -implicitDefEqProofs (disch := first | decide | assumption | (simp (disch := decide) only [slotOf_zero, slotOf_succ, Option.map_some, puts_same, puts_ne, gv_bool, gv_undef, tt, tf, ft, ff, eq_self, if_true, if_false, Bool.false_eq_true, Bool.not_true, Bool.not_false, g4]; done) | omega) only [go_sem, RdS.len hd sl37, RdS.idx hd sl37, R1.intB hd (Ext.pres eB), RdS.cells hd, RdS.len hm sl38, RdS.idx hm sl38, RdS.cellB hm (Ext.pres eB), RdS.cells hm, RdS.len hv sl37, RdS.idx hv sl37, R1.intB hv (Ext.pres eB), RdS.cells hv, RdS.len (OS.rd how7_5) sl37, RdS.idx (OS.rd how7_5) sl37, R1.intN (OS.rd how7_5), RdS.cells (OS.rd how7_5), RdS.len (OS.rd how10_3) sl37, RdS.idx (OS.rd how10_3) sl37, R1.intN (OS.rd how10_3), RdS.cells (OS.rd how10_3), BoxAt.cellB hb0_0 eB, wrap_id, g4, eq_self, if_true, if_false, Bool.false_eq_true]
                refine hK _ _ ?_
                clear hK K
                refine den_stop ?_
                refine ⟨?_, rfl⟩
                first | (simp (disch := decide) only [go_sem, g4, eq_self, Bool.true_and, Bool.and_true, Bool.false_and, Bool.and_false, Bool.true_or, Bool.or_true, Bool.false_or, Bool.or_false, if_true, if_false, Bool.false_eq_true]; done) | simp [HasL, sel, puts_at, g4]
              · try simp -implicitDefEqProofs (disch := first | decide | assumption | (simp (disch := decide) only [slotOf_zero, slotOf_succ, Option.map_some, puts_same, puts_ne, gv_bool, gv_undef, tt, tf, ft, ff, eq_self, if_true, if_false, Bool.false_eq_true, Bool.not_true, Bool.not_false, g4]; done) | omega) only [go_sem, RdS.len hd sl37, RdS.idx hd sl37, R1.intB hd (Ext.pres eB), RdS.cells hd, RdS.len hm sl38, RdS.idx hm sl38, RdS.cellB hm (Ext.pres eB), RdS.cells hm, RdS.len hv sl37, RdS.idx hv sl37, R1.intB hv (Ext.pres eB), RdS.cells hv, RdS.len (OS.rd how7_5) sl37, RdS.idx (OS.rd how7_5) sl37, R1.intN (OS.rd how7_5), RdS.cells (OS.rd how7_5), RdS.len (OS.rd how10_3) sl37, RdS.idx (OS.rd how10_3) sl37, R1.intN (OS.rd how10_3), RdS.cells (OS.rd how10_3), BoxAt.cellB hb0_0 eB, wrap_id, g4, eq_self, if_true, if_false, Bool.false_eq_true]
                try simp -implicitDefEqProofs (disch := first | decide | assumption | (simp (disch := decide) only [slotOf_zero, slotOf_succ, Option.map_some, puts_same, puts_ne, gv_bool, gv_undef, tt, tf, ft, ff, eq_self, if_true, if_false, Bool.false_eq_true, Bool.not_true, Bool.not_false, g4]; done) | omega) only [go_sem, RdS.len hd sl37, RdS.idx hd sl37, R1.intB hd (Ext.pres eB), RdS.cells hd, RdS.len hm sl38, RdS.idx hm sl38, RdS.cellB hm (Ext.pres eB), RdS.cells hm, RdS.len hv sl37, RdS.idx hv sl37, R1.intB hv (Ext.pres eB), RdS.cells hv, RdS.len (OS.rd how7_5) sl37, RdS.idx (OS.rd how7_5) sl37, R1.intN (OS.rd how7_5), RdS.cells (OS.rd how7_5), RdS.len (OS.rd how10_3) sl37, RdS.idx (OS.rd how10_3) sl37, R1.intN (OS.rd how10_3), RdS.cells (OS.rd how10_3), BoxAt.cellB hb0_0 eB, wrap_id, g4, eq_self, if_true, if_false, Bool.false_eq_true]
                refine hK _ _ ?_
                clear hK K
                refine den_stop ?_
                refine ⟨?_, rfl⟩
                first | (simp (disch := decide) only [go_sem, g4, eq_self, Bool.true_and, Bool.and_true, Bool.false_and, Bool.and_false, Bool.true_or, Bool.or_true, Bool.false_or, Bool.or_false, if_true, if_false, Bool.false_eq_true]; done) | simp [HasL, sel, puts_at, g4]
            intro en5
            simp (disch := decide) only [go_sem]
            refine den_cond rfl (fun c5 => ?_) (fun c5 => ?_)
            · try simp only [decide_eq_true_eq, decide_eq_false_iff_not, beq_iff_eq, beq_eq_false_iff_ne, bne_iff_ne, ne_eq, Bool.not_eq_true', Bool.not_eq_false', Bool.and_eq_true, Bool.or_eq_true, bne_eq_false_iff_eq] at c5
              refine den_seq ?_
              refine den_region TTok ?_
              intro K hK
              simp -implicitDefEqProofs (disch := first | decide | assumption | omega) only [go_sem, RdS.len hd sl37, RdS.idx hd sl37, R1.intB hd (Ext.pres eB), RdS.cells hd, RdS.len hm sl38, RdS.idx hm sl38, RdS.cellB hm (Ext.pres eB), RdS.cells hm, RdS.len hv sl37, RdS.idx hv sl37, R1.intB hv (Ext.pres eB), RdS.cells hv, BoxAt.cellB hb0_0 eB, wrap_id]
              refine hK _ _ ?_
              clear hK K
              refine den_ret ?_
              simp (disch := decide) only [resP_1, puts_same, puts_ne]
              exact absurd c5 (by simp; omega)
            · try simp only [decide_eq_true_eq, decide_eq_false_iff_not, beq_iff_eq, beq_eq_false_iff_ne, bne_iff_ne, ne_eq, Bool.not_eq_true', Bool.not_eq_false', Bool.and_eq_true, Bool.or_eq_true, bne_eq_false_iff_eq] at c5
              refine den_skip ?_
              refine den_seq ?_
              refine den_region TTok ?_
              intro K hK
              simp -implicitDefEqProofs (disch := first | decide | assumption | omega) only [go_sem, RdS.len hd sl37, RdS.idx hd sl37, R1.intB hd (Ext.pres eB), RdS.cells hd, RdS.len hm sl38, RdS.idx hm sl38, RdS.cellB hm (Ext.pres eB), RdS.cells hm, RdS.len hv sl37, RdS.idx hv sl37, R1.intB hv (Ext.pres eB), RdS.cells hv, RdS.len (OS.rd how7_5) sl37, RdS.idx (OS.rd how7_5) sl37, R1.intN (OS.rd how7_5), RdS.cells (OS.rd how7_5), RdS.len (OS.rd how10_3) sl37, RdS.idx (OS.rd how10_3) sl37, R1.intN (OS.rd how10_3), RdS.cells (OS.rd how10_3), BoxAt.cellB hb0_0 eB, wrap_id]
              refine hK _ _ ?_
              clear hK K
              refine den_seq ?_
              refine den_region TTok ?_
              intro K hK
              simp -implicitDefEqProofs (disch := first | decide | assumption | omega) only [go_sem, RdS.len hd sl37, RdS.idx hd sl37, R1.intB hd (Ext.pres eB), RdS.cells hd, RdS.len hm sl38, RdS.idx hm sl38, RdS.cellB hm (Ext.pres eB), RdS.cells hm, RdS.len hv sl37, RdS.idx hv sl37, R1.intB hv (Ext.pres eB), RdS.cells hv, RdS.len (OS.rd how7_5) sl37, RdS.idx (OS.rd how7_5) sl37, R1.intN (OS.rd how7_5), RdS.cells (OS.rd how7_5), RdS.len (OS.rd how10_3) sl37, RdS.idx (OS.rd how10_3) sl37, R1.intN (OS.rd how10_3), RdS.cells (OS.rd how10_3), BoxAt.cellB hb0_0 eB, wrap_id]
              try simp -implicitDefEqProofs (disch := first | decide | assumption | omega) only [go_sem, RdS.len hd sl37, RdS.idx hd sl37, R1.intB hd (Ext.pres eB), RdS.cells hd, RdS.len hm sl38, RdS.idx hm sl38, RdS.cellB hm (Ext.pres eB), RdS.cells hm, RdS.len hv sl37, RdS.idx hv sl37, R1.intB hv (Ext.pres eB), RdS.cells hv, RdS.len (OS.rd how7_5) sl37, RdS.idx (OS.rd how7_5) sl37, R1.intN (OS.rd how7_5), RdS.cells (OS.rd how7_5), RdS.len (OS.rd how10_3) sl37, RdS.idx (OS.rd how10_3) sl37, R1.intN (OS.rd how10_3), RdS.cells (OS.rd how10_3), BoxAt.cellB hb0_0 eB, wrap_id]
              refine CallA.mono (markS_ok _ (dofP X n xs).1 1 _ _ how10_3 hfw10_3.nodup (by omega)) ?_
              intro v_ h23_2
              rintro ⟨rfl, hog, cG⟩
              replace how7_5 := OS.chg how7_5 cG (fun b hb hm => by have a1 := hfw7_5.ge b hb; have a2 := hlhow7_5 b hb; have a3 := hfw10_3.ge b hm; have a4 := hlhow10_3 b hm; omega)
              have := cG.size
              replace eB := Ext.then eB cG (fun b hm => by have a2 := hfw10_3.ge b hm; omega)
              try simp -implicitDefEqProofs (disch := first | decide | assumption | omega) only [go_sem, RdS.len hd sl37, RdS.idx hd sl37, R1.intB hd (Ext.pres eB), RdS.cells hd, RdS.len hm sl38, RdS.idx hm sl38, RdS.cellB hm (Ext.pres eB), RdS.cells hm, RdS.len hv sl37, RdS.idx hv sl37, R1.intB hv (Ext.pres eB), RdS.cells hv, RdS.len (OS.rd how7_5) sl37, RdS.idx (OS.rd how7_5) sl37, R1.intN (OS.rd how7_5), RdS.cells (OS.rd how7_5), RdS.len (OS.rd hog) sl37, RdS.idx (OS.rd hog) sl37, R1.intN (OS.rd hog), RdS.cells (OS.rd hog), BoxAt.cellB hb0_0 eB, wrap_id]
              refine hK _ _ ?_
              clear hK K
              refine den_seq ?_
              refine den_region TTok ?_
              intro K hK
              simp -implicitDefEqProofs (disch := first | decide | assumption | omega) only [go_sem, RdS.len hd sl37, RdS.idx hd sl37, R1.intB hd (Ext.pres eB), RdS.cells hd, RdS.len hm sl38, RdS.idx hm sl38, RdS.cellB hm (Ext.pres eB), RdS.cells hm, RdS.len hv sl37, RdS.idx hv sl37, R1.intB hv (Ext.pres eB), RdS.cells hv, RdS.len (OS.rd how7_5) sl37, RdS.idx (OS.rd how7_5) sl37, R1.intN (OS.rd how7_5), RdS.cells (OS.rd how7_5), RdS.len (OS.rd hog) sl37, RdS.idx (OS.rd hog) sl37, R1.intN (OS.rd hog), RdS.cells (OS.rd hog), BoxAt.cellB hb0_0 eB, wrap_id]
              refine hK _ _ ?_
              clear hK K
              refine den_seq ?_
              refine den_region TTok ?_
              intro K hK
              simp -implicitDefEqProofs (disch := first | decide | assumption | omega) only [go_sem, RdS.len hd sl37, RdS.idx hd sl37, R1.intB hd (Ext.pres eB), RdS.cells hd, RdS.len hm sl38, RdS.idx hm sl38, RdS.cellB hm (Ext.pres eB), RdS.cells hm, RdS.len hv sl37, RdS.idx hv sl37, R1.intB hv (Ext.pres eB), RdS.cells hv, RdS.len (OS.rd how7_5) sl37, RdS.idx (OS.rd how7_5) sl37, R1.intN (OS.rd how7_5), RdS.cells (OS.rd how7_5), RdS.len (OS.rd hog) sl37, RdS.idx (OS.rd hog) sl37, R1.intN (OS.rd hog), RdS.cells (OS.rd hog), BoxAt.cellB hb0_0 eB, wrap_id]
              try simp -implicitDefEqProofs (disch := first | decide | assumption | omega) only [go_sem, RdS.len hd sl37, RdS.idx hd sl37, R1.intB hd (Ext.pres eB), RdS.cells hd, RdS.len hm sl38, RdS.idx hm sl38, RdS.cellB hm (Ext.pres eB), RdS.cells hm, RdS.len hv sl37, RdS.idx hv sl37, R1.intB hv (Ext.pres eB), RdS.cells hv, RdS.len (OS.rd how7_5) sl37, RdS.idx (OS.rd how7_5) sl37, R1.intN (OS.rd how7_5), RdS.cells (OS.rd how7_5), RdS.len (OS.rd hog) sl37, RdS.idx (OS.rd hog) sl37, R1.intN (OS.rd hog), RdS.cells (OS.rd hog), BoxAt.cellB hb0_0 eB, wrap_id]
              refine CallA.pure (heldS_ok _ (dofP X n xs).1 1 _ (OS.rd hog) (by omega)) ?_
              try simp -implicitDefEqProofs (disch := first | decide | assumption | omega) only [go_sem, RdS.len hd sl37, RdS.idx hd sl37, R1.intB hd (Ext.pres eB), RdS.cells hd, RdS.len hm sl38, RdS.idx hm sl38, RdS.cellB hm (Ext.pres eB), RdS.cells hm, RdS.len hv sl37, RdS.idx hv sl37, R1.intB hv (Ext.pres eB), RdS.cells hv, RdS.len (OS.rd how7_5) sl37, RdS.idx (OS.rd how7_5) sl37, R1.intN (OS.rd how7_5), RdS.cells (OS.rd how7_5), RdS.len (OS.rd hog) sl37, RdS.idx (OS.rd hog) sl37, R1.intN (OS.rd hog), RdS.cells (OS.rd hog), BoxAt.cellB hb0_0 eB, wrap_id]
              refine hK _ _ ?_
              clear hK K
              refine den_seq ?_
              refine den_seq ?_
              refine den_region TTok ?_
              intro K hK
              simp -implicitDefEqProofs (disch := first | decide | assumption | omega) only [go_sem, RdS.len hd sl37, RdS.idx hd sl37, R1.intB hd (Ext.pres eB), RdS.cells hd, RdS.len hm sl38, RdS.idx hm sl38, RdS.cellB hm (Ext.pres eB), RdS.cells hm, RdS.len hv sl37, RdS.idx hv sl37, R1.intB hv (Ext.pres eB), RdS.cells hv, RdS.len (OS.rd how7_5) sl37, RdS.idx (OS.rd how7_5) sl37, R1.intN (OS.rd how7_5), RdS.cells (OS.rd how7_5), RdS.len (OS.rd hog) sl37, RdS.idx (OS.rd hog) sl37, R1.intN (OS.rd hog), RdS.cells (OS.rd hog), BoxAt.cellB hb0_0 eB, wrap_id]
              refine hK _ _ ?_
              clear hK K
              refine den_cond rfl (fun c6 => ?_) (fun c6 => ?_)
              · try simp only [decide_eq_true_eq, decide_eq_false_iff_not, beq_iff_eq, beq_eq_false_iff_ne, bne_iff_ne, ne_eq, Bool.not_eq_true', Bool.not_eq_false', Bool.and_eq_true, Bool.or_eq_true, bne_eq_false_iff_eq] at c6
                refine den_seq ?_
                refine den_region TTok ?_
                intro K hK
                simp -implicitDefEqProofs (disch := first | decide | assumption | omega) only [go_sem, RdS.len hd sl37, RdS.idx hd sl37, R1.intB hd (Ext.pres eB), RdS.cells hd, RdS.len hm sl38, RdS.idx hm sl38, RdS.cellB hm (Ext.pres eB), RdS.cells hm, RdS.len hv sl37, RdS.idx hv sl37, R1.intB hv (Ext.pres eB), RdS.cells hv, BoxAt.cellB hb0_0 eB, wrap_id]
                refine hK _ _ ?_
                clear hK K
                refine den_ret ?_
                simp (disch := decide) only [resP_1, puts_same, puts_ne]
                exact absurd c6 (by omega)
              · try simp only [decide_eq_true_eq, decide_eq_false_iff_not, beq_iff_eq, beq_eq_false_iff_ne, bne_iff_ne, ne_eq, Bool.not_eq_true', Bool.not_eq_false', Bool.and_eq_true, Bool.or_eq_true, bne_eq_false_iff_eq] at c6
                refine den_skip ?_
                refine den_seq ?_
                refine den_seq ?_
                refine den_region TTok ?_
                intro K hK
                simp -implicitDefEqProofs (disch := first | decide | assumption | omega) only [go_sem, RdS.len hd sl37, RdS.idx hd sl37, R1.intB hd (Ext.pres eB), RdS.cells hd, RdS.len hm sl38, RdS.idx hm sl38, RdS.cellB hm (Ext.pres eB), RdS.cells hm, RdS.len hv sl37, RdS.idx hv sl37, R1.intB hv (Ext.pres eB), RdS.cells hv, RdS.len (OS.rd how7_5) sl37, RdS.idx (OS.rd how7_5) sl37, R1.intN (OS.rd how7_5), RdS.cells (OS.rd how7_5), RdS.len (OS.rd hog) sl37, RdS.idx (OS.rd hog) sl37, R1.intN (OS.rd hog), RdS.cells (OS.rd hog), BoxAt.cellB hb0_0 eB, wrap_id]
                refine hK _ _ ?_
                clear hK K
                refine den_cond rfl (fun c7 => ?_) (fun c7 => ?_)
                · try simp only [decide_eq_true_eq, decide_eq_false_iff_not, beq_iff_eq, beq_eq_false_iff_ne, bne_iff_ne, ne_eq, Bool.not_eq_true', Bool.not_eq_false', Bool.and_eq_true, Bool.or_eq_true, bne_eq_false_iff_eq] at c7
                  refine den_seq ?_
                  refine den_region TTok ?_
                  intro K hK
                  simp -implicitDefEqProofs (disch := first | decide | assumption | omega) only [go_sem, RdS.len hd sl37, RdS.idx hd sl37, R1.intB hd (Ext.pres eB), RdS.cells hd, RdS.len hm sl38, RdS.idx hm sl38, RdS.cellB hm (Ext.pres eB), RdS.cells hm, RdS.len hv sl37, RdS.idx hv sl37, R1.intB hv (Ext.pres eB), RdS.cells hv, BoxAt.cellB hb0_0 eB, wrap_id]
                  refine hK _ _ ?_
                  clear hK K
                  refine den_ret ?_
                  simp (disch := decide) only [resP_1, puts_same, puts_ne]
                  exact absurd c7 (by simp)
                · try simp only [decide_eq_true_eq, decide_eq_false_iff_not, beq_iff_eq, beq_eq_false_iff_ne, bne_iff_ne, ne_eq, Bool.not_eq_true', Bool.not_eq_false', Bool.and_eq_true, Bool.or_eq_true, bne_eq_false_iff_eq] at c7
                  refine den_skip ?_
                  refine den_seq ?_
                  refine den_region TTok ?_
                  intro K hK
                  simp -implicitDefEqProofs (disch := first | decide | assumption | omega) only [go_sem, ld40, RdS.len hd sl37, RdS.idx hd sl37, R1.intB hd (Ext.pres eB), RdS.cells hd, RdS.len hm sl38, RdS.idx hm sl38, RdS.cellB hm (Ext.pres eB), RdS.cells hm, RdS.len hv sl37, RdS.idx hv sl37, R1.intB hv (Ext.pres eB), RdS.cells hv, RdS.len (OS.rd how7_5) sl37, RdS.idx (OS.rd how7_5) sl37, R1.intN (OS.rd how7_5), RdS.cells (OS.rd how7_5), RdS.len (OS.rd hog) sl37, RdS.idx (OS.rd hog) sl37, R1.intN (OS.rd hog), RdS.cells (OS.rd hog), BoxAt.cellB hb0_0 eB, wrap_id]
                  try simp -implicitDefEqProofs (disch := first | decide | assumption | omega) only [go_sem, RdS.len hd sl37, RdS.idx hd sl37, R1.intB hd (Ext.pres eB), RdS.cells hd, RdS.len hm sl38, RdS.idx hm sl38, RdS.cellB hm (Ext.pres eB), RdS.cells hm, RdS.len hv sl37, RdS.idx hv sl37, R1.intB hv (Ext.pres eB), RdS.cells hv, RdS.len (OS.rd how7_5) sl37, RdS.idx (OS.rd how7_5) sl37, R1.intN (OS.rd how7_5), RdS.cells (OS.rd how7_5), RdS.len (OS.rd hog) sl37, RdS.idx (OS.rd hog) sl37, R1.intN (OS.rd hog), RdS.cells (OS.rd hog), BoxAt.cellB hb0_0 eB, wrap_id]
                  refine CallA.mono (toC_ok _ X _ ⟨_, _, rfl, (RdS.pres hd (Ext.pres eB)), (RdS.pres hm (Ext.pres eB))⟩ hMX) ?_
                  intro v_ h30_1
                  rintro ⟨vd30_1, vm30_1, fd30_1, fm30_1, rfl, hod30_1, hom30_1, hf30_1, e30_1⟩
                  replace how7_5 := OS.ext how7_5 e30_1
                  replace hog := OS.ext hog e30_1
                  have := Ext.size e30_1
                  replace eB := Ext.trans eB e30_1
                  have hfd30_1 := hf30_1.left
                  have hfm30_1 := hf30_1.right
                  have hlhod30_1 := OS.lt hod30_1
                  have hlhom30_1 := OS.lt hom30_1
                  try simp -implicitDefEqProofs (disch := first | decide | assumption | omega) only [go_sem, RdS.len hd sl37, RdS.idx hd sl37, R1.intB hd (Ext.pres eB), RdS.cells hd, RdS.len hm sl38, RdS.idx hm sl38, RdS.cellB hm (Ext.pres eB), RdS.cells hm, RdS.len hv sl37, RdS.idx hv sl37, R1.intB hv (Ext.pres eB), RdS.cells hv, RdS.len (OS.rd how7_5) sl37, RdS.idx (OS.rd how7_5) sl37, R1.intN (OS.rd how7_5), RdS.cells (OS.rd how7_5), RdS.len (OS.rd hog) sl37, RdS.idx (OS.rd hog) sl37, R1.intN (OS.rd hog), RdS.cells (OS.rd hog), RdS.len (OS.rd hod30_1) sl37, RdS.idx (OS.rd hod30_1) sl37, R1.intN (OS.rd hod30_1), RdS.cells (OS.rd hod30_1), RdS.len (OS.rd hom30_1) sl38, RdS.idx (OS.rd hom30_1) sl38, RdS.cellN (OS.rd hom30_1), RdS.cells (OS.rd hom30_1), BoxAt.cellB hb0_0 eB, wrap_id]
                  try simp -implicitDefEqProofs (disch := first | decide | assumption | omega) only [go_sem, RdS.len hd sl37, RdS.idx hd sl37, R1.intB hd (Ext.pres eB), RdS.cells hd, RdS.len hm sl38, RdS.idx hm sl38, RdS.cellB hm (Ext.pres eB), RdS.cells hm, RdS.len hv sl37, RdS.idx hv sl37, R1.intB hv (Ext.pres eB), RdS.cells hv, RdS.len (OS.rd how7_5) sl37, RdS.idx (OS.rd how7_5) sl37, R1.intN (OS.rd how7_5), RdS.cells (OS.rd how7_5), RdS.len (OS.rd hog) sl37, RdS.idx (OS.rd hog) sl37, R1.intN (OS.rd hog), RdS.cells (OS.rd hog), RdS.len (OS.rd hod30_1) sl37, RdS.idx (OS.rd hod30_1) sl37, R1.intN (OS.rd hod30_1), RdS.cells (OS.rd hod30_1), RdS.len (OS.rd hom30_1) sl38, RdS.idx (OS.rd hom30_1) sl38, RdS.cellN (OS.rd hom30_1), RdS.cells (OS.rd hom30_1), BoxAt.cellB hb0_0 eB, wrap_id]
                  refine CallA.mono (toS_ok _ _ _ (RdS.pres hv (Ext.pres eB)) hMV) ?_
                  intro v30_4 h30_4
                  rintro ⟨f30_4, ho30_4, hf30_4, e30_4⟩
                  replace how7_5 := OS.ext how7_5 e30_4
                  replace hog := OS.ext hog e30_4
                  replace hod30_1 := OS.ext hod30_1 e30_4
                  replace hom30_1 := OS.ext hom30_1 e30_4
                  have := Ext.size e30_4
                  replace eB := Ext.trans eB e30_4
                  have hlho30_4 := OS.lt ho30_4
                  try simp -implicitDefEqProofs (disch := first | decide | assumption | omega) only [go_sem, RdS.len hd sl37, RdS.idx hd sl37, R1.intB hd (Ext.pres eB), RdS.cells hd, RdS.len hm sl38, RdS.idx hm sl38, RdS.cellB hm (Ext.pres eB), RdS.cells hm, RdS.len hv sl37, RdS.idx hv sl37, R1.intB hv (Ext.pres eB), RdS.cells hv, RdS.len (OS.rd how7_5) sl37, RdS.idx (OS.rd how7_5) sl37, R1.intN (OS.rd how7_5), RdS.cells (OS.rd how7_5), RdS.len (OS.rd hog) sl37, RdS.idx (OS.rd hog) sl37, R1.intN (OS.rd hog), RdS.cells (OS.rd hog), RdS.len (OS.rd hod30_1) sl37, RdS.idx (OS.rd hod30_1) sl37, R1.intN (OS.rd hod30_1), RdS.cells (OS.rd hod30_1), RdS.len (OS.rd hom30_1) sl38, RdS.idx (OS.rd hom30_1) sl38, RdS.cellN (OS.rd hom30_1), RdS.cells (OS.rd hom30_1), RdS.len (OS.rd ho30_4) sl37, RdS.idx (OS.rd ho30_4) sl37, R1.intN (OS.rd ho30_4), RdS.cells (OS.rd ho30_4), BoxAt.cellB hb0_0 eB, wrap_id]
                  try simp -implicitDefEqProofs (disch := first | decide | assumption | omega) only [go_sem, RdS.len hd sl37, RdS.idx hd sl37, R1.intB hd (Ext.pres eB), RdS.cells hd, RdS.len hm sl38, RdS.idx hm sl38, RdS.cellB hm (Ext.pres eB), RdS.cells hm, RdS.len hv sl37, RdS.idx hv sl37, R1.intB hv (Ext.pres eB), RdS.cells hv, RdS.len (OS.rd how7_5) sl37, RdS.idx (OS.rd how7_5) sl37, R1.intN (OS.rd how7_5), RdS.cells (OS.rd how7_5), RdS.len (OS.rd hog) sl37, RdS.idx (OS.rd hog) sl37, R1.intN (OS.rd hog), RdS.cells (OS.rd hog), RdS.len (OS.rd hod30_1) sl37, RdS.idx (OS.rd hod30_1) sl37, R1.intN (OS.rd hod30_1), RdS.cells (OS.rd hod30_1), RdS.len (OS.rd hom30_1) sl38, RdS.idx (OS.rd hom30_1) sl38, RdS.cellN (OS.rd hom30_1), RdS.cells (OS.rd hom30_1), RdS.len (OS.rd ho30_4) sl37, RdS.idx (OS.rd ho30_4) sl37, R1.intN (OS.rd ho30_4), RdS.cells (OS.rd ho30_4), BoxAt.cellB hb0_0 eB, wrap_id]
                  refine CallA.mono (iDof_ok _ X n _ xs _ ⟨_, _, rfl, (OS.rd hod30_1), (OS.rd hom30_1)⟩ (OS.rd ho30_4)) ?_
                  intro v_ h30_5
                  rintro ⟨vw30_5, fw30_5, rfl, how30_5, hfw30_5, e30_5⟩
                  replace how7_5 := OS.ext how7_5 e30_5
                  replace hog := OS.ext hog e30_5
                  replace hod30_1 := OS.ext hod30_1 e30_5
                  replace hom30_1 := OS.ext hom30_1 e30_5
                  replace ho30_4 := OS.ext ho30_4 e30_5
                  have := Ext.size e30_5
                  replace eB := Ext.trans eB e30_5
                  have hlhow30_5 := OS.lt how30_5
                  try simp -implicitDefEqProofs (disch := first | decide | assumption | omega) only [go_sem, RdS.len hd sl37, RdS.idx hd sl37, R1.intB hd (Ext.pres eB), RdS.cells hd, RdS.len hm sl38, RdS.idx hm sl38, RdS.cellB hm (Ext.pres eB), RdS.cells hm, RdS.len hv sl37, RdS.idx hv sl37, R1.intB hv (Ext.pres eB), RdS.cells hv, RdS.len (OS.rd how7_5) sl37, RdS.idx (OS.rd how7_5) sl37, R1.intN (OS.rd how7_5), RdS.cells (OS.rd how7_5), RdS.len (OS.rd hog) sl37, RdS.idx (OS.rd hog) sl37, R1.intN (OS.rd hog), RdS.cells (OS.rd hog), RdS.len (OS.rd hod30_1) sl37, RdS.idx (OS.rd hod30_1) sl37, R1.intN (OS.rd hod30_1), RdS.cells (OS.rd hod30_1), RdS.len (OS.rd hom30_1) sl38, RdS.idx (OS.rd hom30_1) sl38, RdS.cellN (OS.rd hom30_1), RdS.cells (OS.rd hom30_1), RdS.len (OS.rd ho30_4) sl37, RdS.idx (OS.rd ho30_4) sl37, R1.intN (OS.rd ho30_4), RdS.cells (OS.rd ho30_4), RdS.len (OS.rd how30_5) sl37, RdS.idx (OS.rd how30_5) sl37, R1.intN (OS.rd how30_5), RdS.cells (OS.rd how30_5), BoxAt.cellB hb0_0 eB, wrap_id]
                  refine hK _ _ ?_
                  clear hK K
                  refine den_seq ?_
                  refine den_seq ?_
                  refine den_mergeH [(113, .bool (((!(true)) || (((dofP X n xs).2) != ((dofP X n xs).2)))))] [12, 15] ?_ ?_
                    -- a way
                  · refine den_region TTok ?_
                    intro K hK
                    simp -implicitDefEqProofs (disch := first | decide | assumption | (simp (disch := decide) only [slotOf_zero, slotOf_succ, Option.map_some, puts_same, puts_ne, gv_bool, gv_undef, tt, tf, ft, ff, eq_self, if_true, if_false, Bool.false_eq_true, Bool.not_true, Bool.not_false]; done) | omega) only [go_sem, RdS.len hd sl37, RdS.idx hd sl37, R1.intB hd (Ext.pres eB), RdS.cells hd, RdS.len hm sl38, RdS.idx hm sl38, RdS.cellB hm (Ext.pres eB), RdS.cells hm, RdS.len hv sl37, RdS.idx hv sl37, R1.intB hv (Ext.pres eB), RdS.cells hv, RdS.len (OS.rd how7_5) sl37, RdS.idx (OS.rd how7_5) sl37, R1.intN (OS.rd how7_5), RdS.cells (OS.rd how7_5), RdS.len (OS.rd hog) sl37, RdS.idx (OS.rd hog) sl37, R1.intN (OS.rd hog), RdS.cells (OS.rd hog), RdS.len (OS.rd how30_5) sl37, RdS.idx (OS.rd how30_5) sl37, R1.intN (OS.rd how30_5), RdS.cells (OS.rd how30_5), BoxAt.cellB hb0_0 eB, wrap_id]
                    try simp -implicitDefEqProofs (disch := first | decide | assumption | omega) only [go_sem, RdS.len hd sl37, RdS.idx hd sl37, R1.intB hd (Ext.pres eB), RdS.cells hd, RdS.len hm sl38, RdS.idx hm sl38, RdS.cellB hm (Ext.pres eB), RdS.cells hm, RdS.len hv sl37, RdS.idx hv sl37, R1.intB hv (Ext.pres eB), RdS.cells hv, RdS.len (OS.rd how7_5) sl37, RdS.idx (OS.rd how7_5) sl37, R1.intN (OS.rd how7_5), RdS.cells (OS.rd how7_5), RdS.len (OS.rd hog) sl37, RdS.idx (OS.rd hog) sl37, R1.intN (OS.rd hog), RdS.cells (OS.rd hog), RdS.len (OS.rd how30_5) sl37, RdS.idx (OS.rd how30_5) sl37, R1.intN (OS.rd how30_5), RdS.cells (OS.rd how30_5), BoxAt.cellB hb0_0 eB, wrap_id]
                    refine CallA.pure (eqS_self _ _ _ _ (OS.rd how30_5) (OS.rd how7_5)) ?_
                    try simp -implicitDefEqProofs (disch := first | decide | assumption | (simp (disch := decide) only [slotOf_zero, slotOf_succ, Option.map_some, puts_same, puts_ne, gv_bool, gv_undef, tt, tf, ft, ff, eq_self, if_true, if_false, Bool.false_eq_true, Bool.not_true, Bool.not_false]; done) | omega) only [go_sem, RdS.len hd sl37, RdS.idx hd sl37, R1.intB hd (Ext.pres eB), RdS.cells hd, RdS.len hm sl38, RdS.idx hm sl38, RdS.cellB hm (Ext.pres eB), RdS.cells hm, RdS.len hv sl37, RdS.idx hv sl37, R1.intB hv (Ext.pres eB), RdS.cells hv, RdS.len (OS.rd how7_5) sl37, RdS.idx (OS.rd how7_5) sl37, R1.intN (OS.rd how7_5), RdS.cells (OS.rd how7_5), RdS.len (OS.rd hog) sl37, RdS.idx (OS.rd hog) sl37, R1.intN (OS.rd hog), RdS.cells (OS.rd hog), RdS.len (OS.rd how30_5) sl37, RdS.idx (OS.rd how30_5) sl37, R1.intN (OS.rd how30_5), RdS.cells (OS.rd how30_5), BoxAt.cellB hb0_0 eB, wrap_id]
                    try simp -implicitDefEqProofs (disch := first | decide | assumption | (simp (disch := decide) only [slotOf_zero, slotOf_succ, Option.map_some, puts_same, puts_ne, gv_bool, gv_undef, tt, tf, ft, ff, eq_self, if_true, if_false, Bool.false_eq_true, Bool.not_true, Bool.not_false]; done) | omega) only [go_sem, RdS.len hd sl37, RdS.idx hd sl37, R1.intB hd (Ext.pres eB), RdS.cells hd, RdS.len hm sl38, RdS.idx hm sl38, RdS.cellB hm (Ext.pres eB), RdS.cells hm, RdS.len hv sl37, RdS.idx hv sl37, R1.intB hv (Ext.pres eB), RdS.cells hv, RdS.len (OS.rd how7_5) sl37, RdS.idx (OS.rd how7_5) sl37, R1.intN (OS.rd how7_5), RdS.cells (OS.rd how7_5), RdS.len (OS.rd hog) sl37, RdS.idx (OS.rd hog) sl37, R1.intN (OS.rd hog), RdS.cells (OS.rd hog), RdS.len (OS.rd how30_5) sl37, RdS.idx (OS.rd how30_5) sl37, R1.intN (OS.rd how30_5), RdS.cells (OS.rd how30_5), BoxAt.cellB hb0_0 eB, wrap_id]
                    refine hK _ _ ?_
                    clear hK K
                    refine den_stop ?_
                    refine ⟨?_, rfl⟩
                    first | (simp (disch := decide) only [go_sem, eq_self, Bool.true_and, Bool.and_true, Bool.false_and, Bool.and_false, Bool.true_or, Bool.or_true, Bool.false_or, Bool.or_false, if_true, if_false, Bool.false_eq_true]; done) | simp [HasL, sel, puts_at]
                  intro en8
                  simp (disch := decide) only [go_sem]
                  refine den_cond rfl (fun c8 => ?_) (fun c8 => ?_)
                  · try simp only [decide_eq_true_eq, decide_eq_false_iff_not, beq_iff_eq, beq_eq_false_iff_ne, bne_iff_ne, ne_eq, Bool.not_eq_true', Bool.not_eq_false', Bool.and_eq_true, Bool.or_eq_true, bne_eq_false_iff_eq] at c8
                    refine den_seq ?_
                    refine den_region TTok ?_
                    intro K hK
                    simp -implicitDefEqProofs (disch := first | decide | assumption | omega) only [go_sem, RdS.len hd sl37, RdS.idx hd sl37, R1.intB hd (Ext.pres eB), RdS.cells hd, RdS.len hm sl38, RdS.idx hm sl38, RdS.cellB hm (Ext.pres eB), RdS.cells hm, RdS.len hv sl37, RdS.idx hv sl37, R1.intB hv (Ext.pres eB), RdS.cells hv, BoxAt.cellB hb0_0 eB, wrap_id]
                    refine hK _ _ ?_
                    clear hK K
                    refine den_ret ?_
                    simp (disch := decide) only [resP_1, puts_same, puts_ne]
                    exact absurd c8 (by simp)
                  · try simp only [decide_eq_true_eq, decide_eq_false_iff_not, beq_iff_eq, beq_eq_false_iff_ne, bne_iff_ne, ne_eq, Bool.not_eq_true', Bool.not_eq_false', Bool.and_eq_true, Bool.or_eq_true, bne_eq_false_iff_eq] at c8
                    refine den_skip ?_
                    refine den_seq ?_
                    refine den_region TTok ?_
                    intro K hK
                    simp -implicitDefEqProofs (disch := first | decide | assumption | omega) only [go_sem, RdS.len hd sl37, RdS.idx hd sl37, R1.intB hd (Ext.pres eB), RdS.cells hd, RdS.len hm sl38, RdS.idx hm sl38, RdS.cellB hm (Ext.pres eB), RdS.cells hm, RdS.len hv sl37, RdS.idx hv sl37, R1.intB hv (Ext.pres eB), RdS.cells hv, RdS.len (OS.rd hog) sl37, RdS.idx (OS.rd hog) sl37, R1.intN (OS.rd hog), RdS.cells (OS.rd hog), BoxAt.cellB hb0_0 eB, wrap_id]
                    refine hK _ _ ?_
                    clear hK K
                    refine den_seq ?_
                    refine den_region TTok ?_
                    intro K hK
                    simp -implicitDefEqProofs (disch := first | decide | assumption | omega) only [go_sem, RdS.len hd sl37, RdS.idx hd sl37, R1.intB hd (Ext.pres eB), RdS.cells hd, RdS.len hm sl38, RdS.idx hm sl38, RdS.cellB hm (Ext.pres eB), RdS.cells hm, RdS.len hv sl37, RdS.idx hv sl37, R1.intB hv (Ext.pres eB), RdS.cells hv, RdS.len (OS.rd hog) sl37, RdS.idx (OS.rd hog) sl37, R1.intN (OS.rd hog), RdS.cells (OS.rd hog), BoxAt.cellB hb0_0 eB, wrap_id]
                    try simp -implicitDefEqProofs (disch := first | decide | assumption | omega) only [go_sem, RdS.len hd sl37, RdS.idx hd sl37, R1.intB hd (Ext.pres eB), RdS.cells hd, RdS.len hm sl38, RdS.idx hm sl38, RdS.cellB hm (Ext.pres eB), RdS.cells hm, RdS.len hv sl37, RdS.idx hv sl37, R1.intB hv (Ext.pres eB), RdS.cells hv, RdS.len (OS.rd hog) sl37, RdS.idx (OS.rd hog) sl37, R1.intN (OS.rd hog), RdS.cells (OS.rd hog), BoxAt.cellB hb0_0 eB, wrap_id]
                    refine CallA.pure (heldS_ok _ (dofP X n xs).1 1 _ (OS.rd hog) (by omega)) ?_
                    try simp -implicitDefEqProofs (disch := first | decide | assumption | omega) only [go_sem, RdS.len hd sl37, RdS.idx hd sl37, R1.intB hd (Ext.pres eB), RdS.cells hd, RdS.len hm sl38, RdS.idx hm sl38, RdS.cellB hm (Ext.pres eB), RdS.cells hm, RdS.len hv sl37, RdS.idx hv sl37, R1.intB hv (Ext.pres eB), RdS.cells hv, RdS.len (OS.rd hog) sl37, RdS.idx (OS.rd hog) sl37, R1.intN (OS.rd hog), RdS.cells (OS.rd hog), BoxAt.cellB hb0_0 eB, wrap_id]
                    refine hK _ _ ?_
                    clear hK K
                    refine den_seq ?_
                    refine den_seq ?_
                    refine den_region TTok ?_
                    intro K hK
                    simp -implicitDefEqProofs (disch := first | decide | assumption | omega) only [go_sem, RdS.len hd sl37, RdS.idx hd sl37, R1.intB hd (Ext.pres eB), RdS.cells hd, RdS.len hm sl38, RdS.idx hm sl38, RdS.cellB hm (Ext.pres eB), RdS.cells hm, RdS.len hv sl37, RdS.idx hv sl37, R1.intB hv (Ext.pres eB), RdS.cells hv, BoxAt.cellB hb0_0 eB, wrap_id]
                    refine hK _ _ ?_
                    clear hK K
                    refine den_cond rfl (fun c9 => ?_) (fun c9 => ?_)
                    · try simp only [decide_eq_true_eq, decide_eq_false_iff_not, beq_iff_eq, beq_eq_false_iff_ne, bne_iff_ne, ne_eq, Bool.not_eq_true', Bool.not_eq_false', Bool.and_eq_true, Bool.or_eq_true, bne_eq_false_iff_eq] at c9
                      refine den_seq ?_
                      refine den_region TTok ?_
                      intro K hK
                      simp -implicitDefEqProofs (disch := first | decide | assumption | omega) only [go_sem, RdS.len hd sl37, RdS.idx hd sl37, R1.intB hd (Ext.pres eB), RdS.cells hd, RdS.len hm sl38, RdS.idx hm sl38, RdS.cellB hm (Ext.pres eB), RdS.cells hm, RdS.len hv sl37, RdS.idx hv sl37, R1.intB hv (Ext.pres eB), RdS.cells hv, BoxAt.cellB hb0_0 eB, wrap_id]
                      refine hK _ _ ?_
                      clear hK K
                      refine den_ret ?_
                      simp (disch := decide) only [resP_1, puts_same, puts_ne]
                      exact absurd c9 (by omega)
                    · try simp only [decide_eq_true_eq, decide_eq_false_iff_not, beq_iff_eq, beq_eq_false_iff_ne, bne_iff_ne, ne_eq, Bool.not_eq_true', Bool.not_eq_false', Bool.and_eq_true, Bool.or_eq_true, bne_eq_false_iff_eq] at c9
                      refine den_skip ?_
                      refine den_seq ?_
                      refine den_seq ?_
                      refine den_region TTok ?_
                      intro K hK
                      simp -implicitDefEqProofs (disch := first | decide | assumption | omega) only [go_sem, RdS.len hd sl37, RdS.idx hd sl37, R1.intB hd (Ext.pres eB), RdS.cells hd, RdS.len hm sl38, RdS.idx hm sl38, RdS.cellB hm (Ext.pres eB), RdS.cells hm, RdS.len hv sl37, RdS.idx hv sl37, R1.intB hv (Ext.pres eB), RdS.cells hv, BoxAt.cellB hb0_0 eB, wrap_id]
                      refine hK _ _ ?_
                      clear hK K
                      refine den_cond rfl (fun c10 => ?_) (fun c10 => ?_)
                      · try simp only [decide_eq_true_eq, decide_eq_false_iff_not, beq_iff_eq, beq_eq_false_iff_ne, bne_iff_ne, ne_eq, Bool.not_eq_true', Bool.not_eq_false', Bool.and_eq_true, Bool.or_eq_true, bne_eq_false_iff_eq] at c10
                        refine den_seq ?_
                        refine den_region TTok ?_
                        intro K hK
                        simp -implicitDefEqProofs (disch := first | decide | assumption | omega) only [go_sem, RdS.len hd sl37, RdS.idx hd sl37, R1.intB hd (Ext.pres eB), RdS.cells hd, RdS.len hm sl38, RdS.idx hm sl38, RdS.cellB hm (Ext.pres eB), RdS.cells hm, RdS.len hv sl37, RdS.idx hv sl37, R1.intB hv (Ext.pres eB), RdS.cells hv, BoxAt.cellB hb0_0 eB, wrap_id]
                        refine hK _ _ ?_
                        clear hK K
                        refine den_ret ?_
                        simp (disch := decide) only [resP_1, puts_same, puts_ne]
                        exact absurd c10 (by simp)
                      · try simp only [decide_eq_true_eq, decide_eq_false_iff_not, beq_iff_eq, beq_eq_false_iff_ne, bne_iff_ne, ne_eq, Bool.not_eq_true', Bool.not_eq_false', Bool.and_eq_true, Bool.or_eq_true, bne_eq_false_iff_eq] at c10
                        refine den_skip ?_
                        refine den_seq ?_
                        refine den_region TTok ?_
                        intro K hK
                        simp -implicitDefEqProofs (disch := first | decide | assumption | omega) only [go_sem, RdS.len hd sl37, RdS.idx hd sl37, R1.intB hd (Ext.pres eB), RdS.cells hd, RdS.len hm sl38, RdS.idx hm sl38, RdS.cellB hm (Ext.pres eB), RdS.cells hm, RdS.len hv sl37, RdS.idx hv sl37, R1.intB hv (Ext.pres eB), RdS.cells hv, BoxAt.cellB hb0_0 eB, wrap_id]
                        refine hK _ _ ?_
                        clear hK K
                        refine den_ret ?_
                        simp (disch := decide) only [resP_1, puts_same, puts_ne]
                        exact ⟨by first | rfl | trivial, (Ext.trans e0_0 eB)⟩

end Go.Proofs.Ytkkjhomhndpphaa
