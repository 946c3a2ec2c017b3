/-
  Walks: DifferentialOf of the reference.
  Conditions: each theorem's own.
-/
import Derived.Test.YtkkjhomhndpphaaS24
set_option linter.unusedVariables false
set_option linter.unusedSimpArgs false
namespace Go.Proofs.Ytkkjhomhndpphaa
open Go
set_option maxRecDepth 100000 in
theorem sDof_ok (vx : Value) (X : Cx) (n : Int) (v : Value) (xs : List Int) (h : Heap) (hx : RC h vx X) (hv : R1 h v xs) : CallA Try.prog 29 #[vx, .int .i64 n, v] h fun v' h' => ∃ w fp, v' = .tuple #[w, .int .i64 (dofP X n xs).2] ∧ O1 h' w (dofP X n xs).1 fp ∧ Fresh h.size fp ∧ Ext h h' := by
  obtain ⟨vd, vm, rfl, hd, hm⟩ := hx
  have hle := RdS.le hd
  refine callA_intro TTok (args := [_, _, _]) Try.func29 (by kernel_rfl) rfl 36 rfl (by simp) [.tmp 6, .tmp 7] rfl ?_
  simp only [idxs, Nat.reduceAdd]
  refine den_seq ?_
  refine den_region TTok ?_
  intro K hK
  simp -implicitDefEqProofs (disch := first | decide | assumption | omega) only [go_sem, RdS.len hd sl37, RdS.idx hd sl37, R1.intB hd (HPres.refl _), RdS.cells hd, RdS.len hm sl38, RdS.idx hm sl38, RdS.cellB hm (HPres.refl _), RdS.cells hm, RdS.len hv sl37, RdS.idx hv sl37, R1.intB hv (HPres.refl _), RdS.cells hv, wrap_id]
  refine op_box (cs := #[.int .i64 (X.p), vd, vm]) rfl ?_
  intro h0_0 e0_0 hb0_0 z0_0
  replace hd := RdS.pres hd (Ext.pres e0_0)
  replace hm := RdS.pres hm (Ext.pres e0_0)
  replace hv := RdS.pres hv (Ext.pres e0_0)
  try simp -implicitDefEqProofs (disch := first | decide | assumption | omega) only [go_sem, RdS.len hd sl37, RdS.idx hd sl37, R1.intB hd (HPres.refl _), RdS.cells hd, RdS.len hm sl38, RdS.idx hm sl38, RdS.cellB hm (HPres.refl _), RdS.cells hm, RdS.len hv sl37, RdS.idx hv sl37, R1.intB hv (HPres.refl _), RdS.cells hv, BoxAt.cell hb0_0, wrap_id]
  refine hK _ _ ?_
  clear hK K
  refine den_seq ?_
  refine den_seq ?_
  refine den_region TTok ?_
  intro K hK
  simp -implicitDefEqProofs (disch := first | decide | assumption | omega) only [go_sem, ld44, RdS.len hd sl37, RdS.idx hd sl37, R1.intB hd (HPres.refl _), RdS.cells hd, RdS.len hm sl38, RdS.idx hm sl38, RdS.cellB hm (HPres.refl _), RdS.cells hm, RdS.len hv sl37, RdS.idx hv sl37, R1.intB hv (HPres.refl _), RdS.cells hv, BoxAt.cell hb0_0, wrap_id]
  try simp -implicitDefEqProofs (disch := first | decide | assumption | omega) only [go_sem, RdS.len hd sl37, RdS.idx hd sl37, R1.intB hd (HPres.refl _), RdS.cells hd, RdS.len hm sl38, RdS.idx hm sl38, RdS.cellB hm (HPres.refl _), RdS.cells hm, RdS.len hv sl37, RdS.idx hv sl37, R1.intB hv (HPres.refl _), RdS.cells hv, BoxAt.cell hb0_0, wrap_id]
  refine CallA.mono (sCode_ok _ X _ _ ⟨_, _, rfl, hd, hm⟩) ?_
  intro v_ h1_2
  rintro ⟨rfl, e1_2⟩
  have := Ext.size e1_2
  have eB := e1_2
  try simp -implicitDefEqProofs (disch := first | decide | assumption | omega) only [go_sem, RdS.len hd sl37, RdS.idx hd sl37, R1.intB hd (Ext.pres eB), RdS.cells hd, RdS.len hm sl38, RdS.idx hm sl38, RdS.cellB hm (Ext.pres eB), RdS.cells hm, RdS.len hv sl37, RdS.idx hv sl37, R1.intB hv (Ext.pres eB), RdS.cells hv, BoxAt.cellB hb0_0 eB, wrap_id]
  refine hK _ _ ?_
  clear hK K
  refine den_seq ?_
  refine den_region TTok ?_
  intro K hK
  simp -implicitDefEqProofs (disch := first | decide | assumption | omega) only [go_sem, RdS.len hd sl37, RdS.idx hd sl37, R1.intB hd (Ext.pres eB), RdS.cells hd, RdS.len hm sl38, RdS.idx hm sl38, RdS.cellB hm (Ext.pres eB), RdS.cells hm, RdS.len hv sl37, RdS.idx hv sl37, R1.intB hv (Ext.pres eB), RdS.cells hv, BoxAt.cellB hb0_0 eB, wrap_id]
  refine hK _ _ ?_
  clear hK K
  refine den_cond rfl (fun c0 => ?_) (fun c0 => ?_)
  · try simp only [decide_eq_true_eq, decide_eq_false_iff_not, beq_iff_eq, beq_eq_false_iff_ne, bne_iff_ne, ne_eq, Bool.not_eq_true', Bool.not_eq_false', Bool.and_eq_true, Bool.or_eq_true, bne_eq_false_iff_eq, Bool.not_eq_true] at c0
    refine den_seq ?_
    refine den_region TTok ?_
    intro K hK
    simp -implicitDefEqProofs (disch := first | decide | assumption | omega) only [go_sem, RdS.len hd sl37, RdS.idx hd sl37, R1.intB hd (Ext.pres eB), RdS.cells hd, RdS.len hm sl38, RdS.idx hm sl38, RdS.cellB hm (Ext.pres eB), RdS.cells hm, RdS.len hv sl37, RdS.idx hv sl37, R1.intB hv (Ext.pres eB), RdS.cells hv, BoxAt.cellB hb0_0 eB, wrap_id]
    refine hK _ _ ?_
    clear hK K
    refine den_ret ?_
    simp (disch := decide) only [resP_2, puts_same, puts_ne]
    have hz : dofP X n xs = ([], codeP X n) := by rw [dofP, if_neg c0]
    rw [hz]
    exact ⟨.slice none 0 0, [], rfl, OS.nil, Fresh.nil _, (Ext.trans e0_0 eB)⟩
  · try simp only [decide_eq_true_eq, decide_eq_false_iff_not, beq_iff_eq, beq_eq_false_iff_ne, bne_iff_ne, ne_eq, Bool.not_eq_true', Bool.not_eq_false', Bool.and_eq_true, Bool.or_eq_true, bne_eq_false_iff_eq, Bool.not_eq_true] at c0
    refine den_skip ?_
    refine den_seq ?_
    refine den_seq ?_
    obtain ⟨hC, hn0, hn1⟩ := codeP_0 c0
    have hpb := isP_bnd hC.p
    refine den_draw TTok mixed [] [(0, true), (1, true), (2, true), (3, true), (4, true), (5, true), (6, true), (7, true), (8, false), (9, true)] (by kernel_rfl) ?_
    intro K hK
    simp -implicitDefEqProofs (disch := first | decide | assumption | omega) only [go_sem, fa44_0, fa44_1, ld37, ld2, RdS.len hd sl37, RdS.idx hd sl37, R1.intB hd (Ext.pres eB), RdS.cells hd, RdS.len hm sl38, RdS.idx hm sl38, RdS.cellB hm (Ext.pres eB), RdS.cells hm, RdS.len hv sl37, RdS.idx hv sl37, R1.intB hv (Ext.pres eB), RdS.cells hv, BoxAt.cellB hb0_0 eB, wrap_id]
    try simp -implicitDefEqProofs (disch := first | decide | assumption | omega) only [go_sem, RdS.len hd sl37, RdS.idx hd sl37, R1.intB hd (Ext.pres eB), RdS.cells hd, RdS.len hm sl38, RdS.idx hm sl38, RdS.cellB hm (Ext.pres eB), RdS.cells hm, RdS.len hv sl37, RdS.idx hv sl37, R1.intB hv (Ext.pres eB), RdS.cells hv, BoxAt.cellB hb0_0 eB, wrap_id]
    refine CallA.mono (sVec_ok _ _ _ _ _ (RdS.pres hv (Ext.pres eB)) (by omega)) ?_
    intro v_ h4_8
    rintro ⟨rfl, e4_8⟩
    have := Ext.size e4_8
    replace eB := Ext.trans eB e4_8
    try simp (disch := decide) only [outv_some, outv_none, put_puts]
    refine plK_pres (Ext.pres e4_8) ?_
    try simp -implicitDefEqProofs (disch := first | decide | assumption | omega) only [go_sem, RdS.len hd sl37, RdS.idx hd sl37, R1.intB hd (Ext.pres eB), RdS.cells hd, RdS.len hm sl38, RdS.idx hm sl38, RdS.cellB hm (Ext.pres eB), RdS.cells hm, RdS.len hv sl37, RdS.idx hv sl37, R1.intB hv (Ext.pres eB), RdS.cells hv, BoxAt.cellB hb0_0 eB, wrap_id]
    refine hK _ _ ?_
    clear hK K
    refine den_cond rfl (fun c1 => ?_) (fun c1 => ?_)
    · try simp only [decide_eq_true_eq, decide_eq_false_iff_not, beq_iff_eq, beq_eq_false_iff_ne, bne_iff_ne, ne_eq, Bool.not_eq_true', Bool.not_eq_false', Bool.and_eq_true, Bool.or_eq_true, bne_eq_false_iff_eq, Bool.not_eq_true] at c1
      refine den_seq ?_
      refine den_region TTok ?_
      intro K hK
      simp -implicitDefEqProofs (disch := first | decide | assumption | omega) only [go_sem, RdS.len hd sl37, RdS.idx hd sl37, R1.intB hd (Ext.pres eB), RdS.cells hd, RdS.len hm sl38, RdS.idx hm sl38, RdS.cellB hm (Ext.pres eB), RdS.cells hm, RdS.len hv sl37, RdS.idx hv sl37, R1.intB hv (Ext.pres eB), RdS.cells hv, BoxAt.cellB hb0_0 eB, wrap_id]
      refine hK _ _ ?_
      clear hK K
      refine den_ret ?_
      simp (disch := decide) only [resP_2, puts_same, puts_ne]
      have hz : dofP X n xs = ([], 2) := by rw [dofP, if_pos c0, if_neg (by rw [c1]; decide)]
      rw [hz]
      exact ⟨.slice none 0 0, [], rfl, OS.nil, Fresh.nil _, (Ext.trans e0_0 eB)⟩
    · try simp only [decide_eq_true_eq, decide_eq_false_iff_not, beq_iff_eq, beq_eq_false_iff_ne, bne_iff_ne, ne_eq, Bool.not_eq_true', Bool.not_eq_false', Bool.and_eq_true, Bool.or_eq_true, bne_eq_false_iff_eq, Bool.not_eq_true] at c1
      refine den_skip ?_
      refine den_seq ?_
      have hmk := mapP_ok hC hn0 hn1
      have hvr := isRow_iff.1 c1
      have hdb := dimP_bnd hC (n - 1)
      have hlen := hC.len
      refine den_draw TTok mixed [] [(0, true), (1, true), (2, true), (3, true), (5, true), (6, true), (7, true), (8, true), (4, false), (9, false), (10, false), (11, true), (12, true)] (by kernel_rfl) ?_
      intro K hK
      simp -implicitDefEqProofs (disch := first | decide | assumption | omega) only [go_sem, fa44_0, ld2, ld44, RdS.len hd sl37, RdS.idx hd sl37, R1.intB hd (Ext.pres eB), RdS.cells hd, RdS.len hm sl38, RdS.idx hm sl38, RdS.cellB hm (Ext.pres eB), RdS.cells hm, RdS.len hv sl37, RdS.idx hv sl37, R1.intB hv (Ext.pres eB), RdS.cells hv, BoxAt.cellB hb0_0 eB, wrap_id]
      try simp -implicitDefEqProofs (disch := first | decide | assumption | omega) only [go_sem, RdS.len hd sl37, RdS.idx hd sl37, R1.intB hd (Ext.pres eB), RdS.cells hd, RdS.len hm sl38, RdS.idx hm sl38, RdS.cellB hm (Ext.pres eB), RdS.cells hm, RdS.len hv sl37, RdS.idx hv sl37, R1.intB hv (Ext.pres eB), RdS.cells hv, BoxAt.cellB hb0_0 eB, wrap_id]
      refine CallA.mono (sMap_ok _ X _ _ ⟨_, _, rfl, (RdS.pres hd (Ext.pres eB)), (RdS.pres hm (Ext.pres eB))⟩ hC) ?_
      intro vmp6_4 h6_4
      rintro ⟨hmp6_4, e6_4⟩
      have := Ext.size e6_4
      replace eB := Ext.trans eB e6_4
      try simp (disch := decide) only [outv_some, outv_none, put_puts]
      refine plK_pres (Ext.pres e6_4) ?_
      try simp -implicitDefEqProofs (disch := first | decide | assumption | omega) only [go_sem, RdS.len hd sl37, RdS.idx hd sl37, R1.intB hd (Ext.pres eB), RdS.cells hd, RdS.len hm sl38, RdS.idx hm sl38, RdS.cellB hm (Ext.pres eB), RdS.cells hm, RdS.len hv sl37, RdS.idx hv sl37, R1.intB hv (Ext.pres eB), RdS.cells hv, BoxAt.cellB hb0_0 eB, wrap_id]
      try simp -implicitDefEqProofs (disch := first | decide | assumption | omega) only [go_sem, RdS.len hd sl37, RdS.idx hd sl37, R1.intB hd (Ext.pres eB), RdS.cells hd, RdS.len hm sl38, RdS.idx hm sl38, RdS.cellB hm (Ext.pres eB), RdS.cells hm, RdS.len hv sl37, RdS.idx hv sl37, R1.intB hv (Ext.pres eB), RdS.cells hv, BoxAt.cellB hb0_0 eB, wrap_id]
      refine CallA.mono (sDim_ok _ X _ _ ⟨_, _, rfl, (RdS.pres hd (Ext.pres eB)), (RdS.pres hm (Ext.pres eB))⟩) ?_
      intro v_ h6_9
      rintro ⟨rfl, e6_9⟩
      replace hmp6_4 := RdS.pres hmp6_4 (Ext.pres e6_9)
      have := Ext.size e6_9
      replace eB := Ext.trans eB e6_9
      try simp (disch := decide) only [outv_some, outv_none, put_puts]
      refine plK_pres (Ext.pres e6_9) ?_
      try simp -implicitDefEqProofs (disch := first | decide | assumption | omega) only [go_sem, RdS.len hd sl37, RdS.idx hd sl37, R1.intB hd (Ext.pres eB), RdS.cells hd, RdS.len hm sl38, RdS.idx hm sl38, RdS.cellB hm (Ext.pres eB), RdS.cells hm, RdS.len hv sl37, RdS.idx hv sl37, R1.intB hv (Ext.pres eB), RdS.cells hv, BoxAt.cellB hb0_0 eB, wrap_id]
      try simp -implicitDefEqProofs (disch := first | decide | assumption | omega) only [go_sem, RdS.len hd sl37, RdS.idx hd sl37, R1.intB hd (Ext.pres eB), RdS.cells hd, RdS.len hm sl38, RdS.idx hm sl38, RdS.cellB hm (Ext.pres eB), RdS.cells hm, RdS.len hv sl37, RdS.idx hv sl37, R1.intB hv (Ext.pres eB), RdS.cells hv, BoxAt.cellB hb0_0 eB, wrap_id]
      refine CallA.mono (sApply_ok _ _ _ _ _ _ _ (RdS.pres hv (Ext.pres eB)) hmp6_4 (isP_bnd hC.p) (by omega) (by omega) hvr.2 hmk.2) ?_
      intro v6_10 h6_10
      rintro ⟨f6_10, ho6_10, hf6_10, e6_10⟩
      replace hmp6_4 := RdS.pres hmp6_4 (Ext.pres e6_10)
      have := Ext.size e6_10
      replace eB := Ext.trans eB e6_10
      have hlho6_10 := OS.lt ho6_10
      try simp (disch := decide) only [outv_some, outv_none, put_puts]
      refine plK_pres (Ext.pres e6_10) ?_
      try simp -implicitDefEqProofs (disch := first | decide | assumption | omega) only [go_sem, RdS.len hd sl37, RdS.idx hd sl37, R1.intB hd (Ext.pres eB), RdS.cells hd, RdS.len hm sl38, RdS.idx hm sl38, RdS.cellB hm (Ext.pres eB), RdS.cells hm, RdS.len hv sl37, RdS.idx hv sl37, R1.intB hv (Ext.pres eB), RdS.cells hv, RdS.len (OS.rd ho6_10) sl37, RdS.idx (OS.rd ho6_10) sl37, R1.intN (OS.rd ho6_10), RdS.cells (OS.rd ho6_10), BoxAt.cellB hb0_0 eB, wrap_id]
      refine hK _ _ ?_
      clear hK K
      refine den_ret ?_
      simp (disch := decide) only [resP_2, puts_same, puts_ne]
      have hz : dofP X n xs = (diffP X n xs, 0) := by rw [dofP, if_pos c0, if_pos c1]
      rw [hz]
      rw [diff_spec hC hn0 hn1] at ho6_10
      exact ⟨_, _, rfl, ho6_10, hf6_10.mono (by omega), (Ext.trans e0_0 eB)⟩

end Go.Proofs.Ytkkjhomhndpphaa
