/-
  Walks: the code of a degree.
  Conditions: each theorem's own.
-/
import Derived.Test.YtkkjhomhndpphaaS20
set_option linter.unusedVariables false
set_option linter.unusedSimpArgs false
namespace Go.Proofs.Ytkkjhomhndpphaa
open Go
noncomputable def codeP (X : Cx) (n : Int) : Int := if isC X = true then (if in3 n 0 ((X.dims.length : Int) - 1) = true then 0 else 2) else 1
theorem codeP_0 {X : Cx} {n : Int} (h : codeP X n = 0) : IsC X ∧ 0 ≤ n ∧ n ≤ (X.dims.length : Int) - 1 := by
  unfold codeP at h
  split at h
  · rename_i hc
    split at h
    · rename_i hr; exact ⟨isC_t.1 hc, in3_iff.1 hr⟩
    · cases h
  · cases h

set_option maxRecDepth 100000 in
theorem sCode_ok (v : Value) (X : Cx) (n : Int) (h : Heap) (hv : RC h v X) : CallA Try.prog 93 #[v, .int .i64 n] h fun v' h' => v' = .int .i64 (codeP X n) ∧ Ext h h' := by
  obtain ⟨vd, vm, rfl, hd, hm⟩ := hv
  have hle := RdS.le hd
  refine callA_intro TTok (args := [_, _]) Try.func93 (by kernel_rfl) rfl 17 rfl (by simp) [.tmp 4] rfl ?_
  simp only [idxs, Nat.reduceAdd]
  refine den_seq ?_
  refine den_region TTok ?_
  intro K hK
  simp -implicitDefEqProofs (disch := first | decide | assumption | omega) only [go_sem, RdS.len hd sl37, RdS.idx hd sl37, R1.intB hd (HPres.refl _), RdS.cells hd, RdS.len hm sl38, RdS.idx hm sl38, RdS.cellB hm (HPres.refl _), RdS.cells hm, wrap_id]
  refine op_box (cs := #[.int .i64 (X.p), vd, vm]) rfl ?_
  intro h0_0 e0_0 hb0_0 z0_0
  replace hd := RdS.pres hd (Ext.pres e0_0)
  replace hm := RdS.pres hm (Ext.pres e0_0)
  try simp -implicitDefEqProofs (disch := first | decide | assumption | omega) only [go_sem, RdS.len hd sl37, RdS.idx hd sl37, R1.intB hd (HPres.refl _), RdS.cells hd, RdS.len hm sl38, RdS.idx hm sl38, RdS.cellB hm (HPres.refl _), RdS.cells hm, BoxAt.cell hb0_0, wrap_id]
  refine hK _ _ ?_
  clear hK K
  refine den_seq ?_
  refine den_block ?_
  refine den_seq ?_
  refine den_region TTok ?_
  intro K hK
  simp -implicitDefEqProofs (disch := first | decide | assumption | omega) only [go_sem, ld44, RdS.len hd sl37, RdS.idx hd sl37, R1.intB hd (HPres.refl _), RdS.cells hd, RdS.len hm sl38, RdS.idx hm sl38, RdS.cellB hm (HPres.refl _), RdS.cells hm, BoxAt.cell hb0_0, wrap_id]
  try simp -implicitDefEqProofs (disch := first | decide | assumption | omega) only [go_sem, RdS.len hd sl37, RdS.idx hd sl37, R1.intB hd (HPres.refl _), RdS.cells hd, RdS.len hm sl38, RdS.idx hm sl38, RdS.cellB hm (HPres.refl _), RdS.cells hm, BoxAt.cell hb0_0, wrap_id]
  refine CallA.mono (sIs_ok _ X _ ⟨_, _, rfl, hd, hm⟩) ?_
  intro v_ h1_1
  rintro ⟨rfl, e1_1⟩
  have := Ext.size e1_1
  have eB := e1_1
  try simp -implicitDefEqProofs (disch := first | decide | assumption | omega) only [go_sem, RdS.len hd sl37, RdS.idx hd sl37, R1.intB hd (Ext.pres eB), RdS.cells hd, RdS.len hm sl38, RdS.idx hm sl38, RdS.cellB hm (Ext.pres eB), RdS.cells hm, BoxAt.cellB hb0_0 eB, wrap_id]
  refine hK _ _ ?_
  clear hK K
  refine den_cond rfl (fun c0 => ?_) (fun c0 => ?_)
  · try simp only [decide_eq_true_eq, decide_eq_false_iff_not, beq_iff_eq, beq_eq_false_iff_ne, bne_iff_ne, ne_eq, Bool.not_eq_true', Bool.not_eq_false', Bool.and_eq_true, Bool.or_eq_true, bne_eq_false_iff_eq, Bool.not_eq_true] at c0
    refine den_seq ?_
    refine den_region TTok ?_
    intro K hK
    simp -implicitDefEqProofs (disch := first | decide | assumption | omega) only [go_sem, RdS.len hd sl37, RdS.idx hd sl37, R1.intB hd (Ext.pres eB), RdS.cells hd, RdS.len hm sl38, RdS.idx hm sl38, RdS.cellB hm (Ext.pres eB), RdS.cells hm, BoxAt.cellB hb0_0 eB, wrap_id]
    refine hK _ _ ?_
    clear hK K
    refine den_ret ?_
    simp (disch := decide) only [resP_1, puts_same, puts_ne]
    exact ⟨vint (by rw [codeP, if_neg (by rw [c0]; decide)]), (Ext.trans e0_0 eB)⟩
  · try simp only [decide_eq_true_eq, decide_eq_false_iff_not, beq_iff_eq, beq_eq_false_iff_ne, bne_iff_ne, ne_eq, Bool.not_eq_true', Bool.not_eq_false', Bool.and_eq_true, Bool.or_eq_true, bne_eq_false_iff_eq, Bool.not_eq_true] at c0
    refine den_seq ?_
    refine den_region TTok ?_
    intro K hK
    simp -implicitDefEqProofs (disch := first | decide | assumption | omega) only [go_sem, fa44_1, ld37, RdS.len hd sl37, RdS.idx hd sl37, R1.intB hd (Ext.pres eB), RdS.cells hd, RdS.len hm sl38, RdS.idx hm sl38, RdS.cellB hm (Ext.pres eB), RdS.cells hm, BoxAt.cellB hb0_0 eB, wrap_id]
    try simp -implicitDefEqProofs (disch := first | decide | assumption | omega) only [go_sem, RdS.len hd sl37, RdS.idx hd sl37, R1.intB hd (Ext.pres eB), RdS.cells hd, RdS.len hm sl38, RdS.idx hm sl38, RdS.cellB hm (Ext.pres eB), RdS.cells hm, BoxAt.cellB hb0_0 eB, wrap_id]
    refine CallA.pure (sIn_ok _ _ _ _) ?_
    try simp -implicitDefEqProofs (disch := first | decide | assumption | omega) only [go_sem, RdS.len hd sl37, RdS.idx hd sl37, R1.intB hd (Ext.pres eB), RdS.cells hd, RdS.len hm sl38, RdS.idx hm sl38, RdS.cellB hm (Ext.pres eB), RdS.cells hm, BoxAt.cellB hb0_0 eB, wrap_id]
    refine hK _ _ ?_
    clear hK K
    refine den_cond rfl (fun c1 => ?_) (fun c1 => ?_)
    · try simp only [decide_eq_true_eq, decide_eq_false_iff_not, beq_iff_eq, beq_eq_false_iff_ne, bne_iff_ne, ne_eq, Bool.not_eq_true', Bool.not_eq_false', Bool.and_eq_true, Bool.or_eq_true, bne_eq_false_iff_eq, Bool.not_eq_true] at c1
      refine den_seq ?_
      refine den_region TTok ?_
      intro K hK
      simp -implicitDefEqProofs (disch := first | decide | assumption | omega) only [go_sem, RdS.len hd sl37, RdS.idx hd sl37, R1.intB hd (Ext.pres eB), RdS.cells hd, RdS.len hm sl38, RdS.idx hm sl38, RdS.cellB hm (Ext.pres eB), RdS.cells hm, BoxAt.cellB hb0_0 eB, wrap_id]
      refine hK _ _ ?_
      clear hK K
      refine den_ret ?_
      simp (disch := decide) only [resP_1, puts_same, puts_ne]
      exact ⟨vint (by rw [codeP, if_pos c0, if_neg (by rw [c1]; decide)]), (Ext.trans e0_0 eB)⟩
    · try simp only [decide_eq_true_eq, decide_eq_false_iff_not, beq_iff_eq, beq_eq_false_iff_ne, bne_iff_ne, ne_eq, Bool.not_eq_true', Bool.not_eq_false', Bool.and_eq_true, Bool.or_eq_true, bne_eq_false_iff_eq, Bool.not_eq_true] at c1
      refine den_skip ?_
      refine den_blk ?_
      refine den_seq ?_
      refine den_region TTok ?_
      intro K hK
      simp -implicitDefEqProofs (disch := first | decide | assumption | omega) only [go_sem, RdS.len hd sl37, RdS.idx hd sl37, R1.intB hd (Ext.pres eB), RdS.cells hd, RdS.len hm sl38, RdS.idx hm sl38, RdS.cellB hm (Ext.pres eB), RdS.cells hm, BoxAt.cellB hb0_0 eB, wrap_id]
      refine hK _ _ ?_
      clear hK K
      refine den_ret ?_
      simp (disch := decide) only [resP_1, puts_same, puts_ne]
      exact ⟨vint (by rw [codeP, if_pos c0, if_pos c1]), (Ext.trans e0_0 eB)⟩

set_option maxRecDepth 100000 in
theorem iCode_ok (v : Value) (X : Cx) (n : Int) (h : Heap) (hv : RC h v X) : CallA Try.prog 97 #[v, .int .i64 n] h fun v' h' => v' = .int .i64 (codeP X n) ∧ Ext h h' := by
  obtain ⟨vd, vm, rfl, hd, hm⟩ := hv
  have hle := RdS.le hd
  refine callA_intro TTok (args := [_, _]) Try.func97 (by kernel_rfl) rfl 15 rfl (by simp) [.tmp 4] rfl ?_
  simp only [idxs, Nat.reduceAdd]
  refine den_seq ?_
  refine den_region TTok ?_
  intro K hK
  simp -implicitDefEqProofs (disch := first | decide | assumption | omega) only [go_sem, RdS.len hd sl37, RdS.idx hd sl37, R1.intB hd (HPres.refl _), RdS.cells hd, RdS.len hm sl38, RdS.idx hm sl38, RdS.cellB hm (HPres.refl _), RdS.cells hm, wrap_id]
  refine op_box (cs := #[.int .i64 (X.p), vd, vm]) rfl ?_
  intro h0_0 e0_0 hb0_0 z0_0
  replace hd := RdS.pres hd (Ext.pres e0_0)
  replace hm := RdS.pres hm (Ext.pres e0_0)
  try simp -implicitDefEqProofs (disch := first | decide | assumption | omega) only [go_sem, RdS.len hd sl37, RdS.idx hd sl37, R1.intB hd (HPres.refl _), RdS.cells hd, RdS.len hm sl38, RdS.idx hm sl38, RdS.cellB hm (HPres.refl _), RdS.cells hm, BoxAt.cell hb0_0, wrap_id]
  refine hK _ _ ?_
  clear hK K
  refine den_seq ?_
  refine den_block ?_
  refine den_seq ?_
  refine den_region TTok ?_
  intro K hK
  simp -implicitDefEqProofs (disch := first | decide | assumption | omega) only [go_sem, ld44, RdS.len hd sl37, RdS.idx hd sl37, R1.intB hd (HPres.refl _), RdS.cells hd, RdS.len hm sl38, RdS.idx hm sl38, RdS.cellB hm (HPres.refl _), RdS.cells hm, BoxAt.cell hb0_0, wrap_id]
  try simp -implicitDefEqProofs (disch := first | decide | assumption | omega) only [go_sem, RdS.len hd sl37, RdS.idx hd sl37, R1.intB hd (HPres.refl _), RdS.cells hd, RdS.len hm sl38, RdS.idx hm sl38, RdS.cellB hm (HPres.refl _), RdS.cells hm, BoxAt.cell hb0_0, wrap_id]
  refine CallA.mono (iIs_ok _ X _ ⟨_, _, rfl, hd, hm⟩) ?_
  intro v_ h1_1
  rintro ⟨rfl, e1_1⟩
  have := Ext.size e1_1
  have eB := e1_1
  try simp -implicitDefEqProofs (disch := first | decide | assumption | omega) only [go_sem, RdS.len hd sl37, RdS.idx hd sl37, R1.intB hd (Ext.pres eB), RdS.cells hd, RdS.len hm sl38, RdS.idx hm sl38, RdS.cellB hm (Ext.pres eB), RdS.cells hm, BoxAt.cellB hb0_0 eB, wrap_id]
  refine hK _ _ ?_
  clear hK K
  refine den_cond rfl (fun c0 => ?_) (fun c0 => ?_)
  · try simp only [decide_eq_true_eq, decide_eq_false_iff_not, beq_iff_eq, beq_eq_false_iff_ne, bne_iff_ne, ne_eq, Bool.not_eq_true', Bool.not_eq_false', Bool.and_eq_true, Bool.or_eq_true, bne_eq_false_iff_eq, Bool.not_eq_true] at c0
    refine den_seq ?_
    refine den_region TTok ?_
    intro K hK
    simp -implicitDefEqProofs (disch := first | decide | assumption | omega) only [go_sem, RdS.len hd sl37, RdS.idx hd sl37, R1.intB hd (Ext.pres eB), RdS.cells hd, RdS.len hm sl38, RdS.idx hm sl38, RdS.cellB hm (Ext.pres eB), RdS.cells hm, BoxAt.cellB hb0_0 eB, wrap_id]
    refine hK _ _ ?_
    clear hK K
    refine den_ret ?_
    simp (disch := decide) only [resP_1, puts_same, puts_ne]
    exact ⟨vint (by rw [codeP, if_neg (by rw [c0]; decide)]), (Ext.trans e0_0 eB)⟩
  · try simp only [decide_eq_true_eq, decide_eq_false_iff_not, beq_iff_eq, beq_eq_false_iff_ne, bne_iff_ne, ne_eq, Bool.not_eq_true', Bool.not_eq_false', Bool.and_eq_true, Bool.or_eq_true, bne_eq_false_iff_eq, Bool.not_eq_true] at c0
    refine den_seq ?_
    refine den_region TTok ?_
    intro K hK
    simp -implicitDefEqProofs (disch := first | decide | assumption | omega) only [go_sem, ld44, RdS.len hd sl37, RdS.idx hd sl37, R1.intB hd (Ext.pres eB), RdS.cells hd, RdS.len hm sl38, RdS.idx hm sl38, RdS.cellB hm (Ext.pres eB), RdS.cells hm, BoxAt.cellB hb0_0 eB, wrap_id]
    try simp -implicitDefEqProofs (disch := first | decide | assumption | omega) only [go_sem, RdS.len hd sl37, RdS.idx hd sl37, R1.intB hd (Ext.pres eB), RdS.cells hd, RdS.len hm sl38, RdS.idx hm sl38, RdS.cellB hm (Ext.pres eB), RdS.cells hm, BoxAt.cellB hb0_0 eB, wrap_id]
    refine CallA.mono (top_ok _ X _ ⟨_, _, rfl, (RdS.pres hd (Ext.pres eB)), (RdS.pres hm (Ext.pres eB))⟩) ?_
    intro v_ h3_2
    rintro ⟨rfl, e3_2⟩
    have := Ext.size e3_2
    replace eB := Ext.trans eB e3_2
    try simp -implicitDefEqProofs (disch := first | decide | assumption | omega) only [go_sem, RdS.len hd sl37, RdS.idx hd sl37, R1.intB hd (Ext.pres eB), RdS.cells hd, RdS.len hm sl38, RdS.idx hm sl38, RdS.cellB hm (Ext.pres eB), RdS.cells hm, BoxAt.cellB hb0_0 eB, wrap_id]
    try simp -implicitDefEqProofs (disch := first | decide | assumption | omega) only [go_sem, RdS.len hd sl37, RdS.idx hd sl37, R1.intB hd (Ext.pres eB), RdS.cells hd, RdS.len hm sl38, RdS.idx hm sl38, RdS.cellB hm (Ext.pres eB), RdS.cells hm, BoxAt.cellB hb0_0 eB, wrap_id]
    refine CallA.pure (iIn_ok _ _ _ _) ?_
    try simp -implicitDefEqProofs (disch := first | decide | assumption | omega) only [go_sem, RdS.len hd sl37, RdS.idx hd sl37, R1.intB hd (Ext.pres eB), RdS.cells hd, RdS.len hm sl38, RdS.idx hm sl38, RdS.cellB hm (Ext.pres eB), RdS.cells hm, BoxAt.cellB hb0_0 eB, wrap_id]
    refine hK _ _ ?_
    clear hK K
    refine den_cond rfl (fun c1 => ?_) (fun c1 => ?_)
    · try simp only [decide_eq_true_eq, decide_eq_false_iff_not, beq_iff_eq, beq_eq_false_iff_ne, bne_iff_ne, ne_eq, Bool.not_eq_true', Bool.not_eq_false', Bool.and_eq_true, Bool.or_eq_true, bne_eq_false_iff_eq, Bool.not_eq_true] at c1
      refine den_seq ?_
      refine den_region TTok ?_
      intro K hK
      simp -implicitDefEqProofs (disch := first | decide | assumption | omega) only [go_sem, RdS.len hd sl37, RdS.idx hd sl37, R1.intB hd (Ext.pres eB), RdS.cells hd, RdS.len hm sl38, RdS.idx hm sl38, RdS.cellB hm (Ext.pres eB), RdS.cells hm, BoxAt.cellB hb0_0 eB, wrap_id]
      refine hK _ _ ?_
      clear hK K
      refine den_ret ?_
      simp (disch := decide) only [resP_1, puts_same, puts_ne]
      exact ⟨vint (by rw [codeP, if_pos c0, if_neg (by rw [c1]; decide)]), (Ext.trans e0_0 eB)⟩
    · try simp only [decide_eq_true_eq, decide_eq_false_iff_not, beq_iff_eq, beq_eq_false_iff_ne, bne_iff_ne, ne_eq, Bool.not_eq_true', Bool.not_eq_false', Bool.and_eq_true, Bool.or_eq_true, bne_eq_false_iff_eq, Bool.not_eq_true] at c1
      refine den_skip ?_
      refine den_blk ?_
      refine den_seq ?_
      refine den_region TTok ?_
      intro K hK
      simp -implicitDefEqProofs (disch := first | decide | assumption | omega) only [go_sem, RdS.len hd sl37, RdS.idx hd sl37, R1.intB hd (Ext.pres eB), RdS.cells hd, RdS.len hm sl38, RdS.idx hm sl38, RdS.cellB hm (Ext.pres eB), RdS.cells hm, BoxAt.cellB hb0_0 eB, wrap_id]
      refine hK _ _ ?_
      clear hK K
      refine den_ret ?_
      simp (disch := decide) only [resP_1, puts_same, puts_ne]
      exact ⟨vint (by rw [codeP, if_pos c0, if_pos c1]), (Ext.trans e0_0 eB)⟩

end Go.Proofs.Ytkkjhomhndpphaa
