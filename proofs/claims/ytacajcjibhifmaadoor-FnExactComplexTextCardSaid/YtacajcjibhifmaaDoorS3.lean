/-
  Walks, third part: complexes as arguments.
  Conditions: each theorem's own.
-/
import Derived.Test.YtacajcjibhifmaaDoorS2
import Derived.Test.YtacajcjibhifmaaDoorG14
set_option linter.unusedVariables false
set_option linter.unusedSimpArgs false
namespace Go.Proofs.YtacajcjibhifmaaDoor
open Go
def szC (X : Cx) (l : Int) : Int := if szI X.dims l < 0 then -1 else if sz3 X.maps (szI X.dims l) < 0 then -1 else sz3 X.maps (szI X.dims l)
theorem szC_le (X : Cx) (l : Int) (h : 0 ≤ l) : -1 ≤ szC X l ∧ szC X l ≤ l := by
  unfold szC
  have h1 := szI_le X.dims l h
  split
  · omega
  · have h2 := sz3_le X.maps (szI X.dims l) (by omega)
    split <;> omega
def eqC (X Y : Cx) : Bool := decide (X.p = Y.p) && (decide (X.dims = Y.dims) && decide (X.maps = Y.maps))
theorem eqC_self (X : Cx) : eqC X X = true := by simp [eqC]
def HMC (X : Cx) : Prop := HM1 X.dims ∧ HM3 X.maps

set_option maxRecDepth 100000 in
theorem szC_ok (v : Value) (X : Cx) (left : Int) (h : Heap) (hv : RC h v X) (h0 : 0 ≤ left) (h1 : left ≤ 1048576) : CallA Tryd.prog 4 #[v, .int .i64 left] h fun v h' => v = .int .i64 (szC X left) ∧ Ext h h' := by
  obtain ⟨vd, vm, rfl, hd, hm⟩ := hv
  have hle := szI_le X.dims left h0
  refine callA_intro TTok (args := [_, _]) Tryd.func4 (by kernel_rfl) rfl 18 rfl (by simp) [.tmp 4] rfl ?_
  simp only [idxs, Nat.reduceAdd]
  refine den_seq ?_
  refine den_region TTok ?_
  intro K hK
  simp -implicitDefEqProofs (disch := first | decide | assumption | omega) only [go_sem, RdS.len hd sl22, RdS.idx hd sl22, R1.intB hd (HPres.refl _), RdS.cells hd, RdS.len hm sl23, RdS.idx hm sl23, RdS.cellB hm (HPres.refl _), RdS.cells hm]
  refine op_box (cs := #[.int .i64 (X.p), vd, vm]) rfl ?_
  intro h0_0 e0_0 hb0_0 z0_0
  replace hd := RdS.pres hd (Ext.pres e0_0)
  replace hm := RdS.pres hm (Ext.pres e0_0)
  try simp -implicitDefEqProofs (disch := first | decide | assumption | omega) only [go_sem, RdS.len hd sl22, RdS.idx hd sl22, R1.intB hd (HPres.refl _), RdS.cells hd, RdS.len hm sl23, RdS.idx hm sl23, RdS.cellB hm (HPres.refl _), RdS.cells hm, BoxAt.cell hb0_0]
  refine hK _ _ ?_
  clear hK K
  refine den_seq ?_
  refine den_region TTok ?_
  intro K hK
  simp -implicitDefEqProofs (disch := first | decide | assumption | omega) only [go_sem, fa25_1, ld22, RdS.len hd sl22, RdS.idx hd sl22, R1.intB hd (HPres.refl _), RdS.cells hd, RdS.len hm sl23, RdS.idx hm sl23, RdS.cellB hm (HPres.refl _), RdS.cells hm, BoxAt.cell hb0_0]
  try simp -implicitDefEqProofs (disch := first | decide | assumption | omega) only [go_sem, RdS.len hd sl22, RdS.idx hd sl22, R1.intB hd (HPres.refl _), RdS.cells hd, RdS.len hm sl23, RdS.idx hm sl23, RdS.cellB hm (HPres.refl _), RdS.cells hm, BoxAt.cell hb0_0]
  refine CallA.pure (szS_ok _ _ _ _ hd (by omega) (by omega)) ?_
  try simp -implicitDefEqProofs (disch := first | decide | assumption | omega) only [go_sem, RdS.len hd sl22, RdS.idx hd sl22, R1.intB hd (HPres.refl _), RdS.cells hd, RdS.len hm sl23, RdS.idx hm sl23, RdS.cellB hm (HPres.refl _), RdS.cells hm, BoxAt.cell hb0_0]
  refine hK _ _ ?_
  clear hK K
  refine den_seq ?_
  refine den_seq ?_
  refine den_region TTok ?_
  intro K hK
  simp -implicitDefEqProofs (disch := first | decide | assumption | omega) only [go_sem, RdS.len hd sl22, RdS.idx hd sl22, R1.intB hd (HPres.refl _), RdS.cells hd, RdS.len hm sl23, RdS.idx hm sl23, RdS.cellB hm (HPres.refl _), RdS.cells hm, BoxAt.cell hb0_0]
  refine hK _ _ ?_
  clear hK K
  refine den_cond rfl (fun c0 => ?_) (fun c0 => ?_)
  · try simp only [decide_eq_true_eq, decide_eq_false_iff_not, beq_iff_eq, beq_eq_false_iff_ne, bne_iff_ne, ne_eq, Bool.not_eq_true', Bool.not_eq_false', Bool.and_eq_true, Bool.or_eq_true, bne_eq_false_iff_eq] at c0
    refine den_seq ?_
    refine den_region TTok ?_
    intro K hK
    simp -implicitDefEqProofs (disch := first | decide | assumption | omega) only [go_sem, RdS.len hd sl22, RdS.idx hd sl22, R1.intB hd (HPres.refl _), RdS.cells hd, RdS.len hm sl23, RdS.idx hm sl23, RdS.cellB hm (HPres.refl _), RdS.cells hm, BoxAt.cell hb0_0]
    refine hK _ _ ?_
    clear hK K
    refine den_ret ?_
    simp (disch := decide) only [resP_1, puts_same, puts_ne]
    exact ⟨vint (by rw [szC, if_pos c0]), e0_0⟩
  · try simp only [decide_eq_true_eq, decide_eq_false_iff_not, beq_iff_eq, beq_eq_false_iff_ne, bne_iff_ne, ne_eq, Bool.not_eq_true', Bool.not_eq_false', Bool.and_eq_true, Bool.or_eq_true, bne_eq_false_iff_eq] at c0
    refine den_skip ?_
    refine den_seq ?_
    refine den_region TTok ?_
    intro K hK
    simp -implicitDefEqProofs (disch := first | decide | assumption | omega) only [go_sem, fa25_2, ld23, RdS.len hd sl22, RdS.idx hd sl22, R1.intB hd (HPres.refl _), RdS.cells hd, RdS.len hm sl23, RdS.idx hm sl23, RdS.cellB hm (HPres.refl _), RdS.cells hm, BoxAt.cell hb0_0]
    try simp -implicitDefEqProofs (disch := first | decide | assumption | omega) only [go_sem, RdS.len hd sl22, RdS.idx hd sl22, R1.intB hd (HPres.refl _), RdS.cells hd, RdS.len hm sl23, RdS.idx hm sl23, RdS.cellB hm (HPres.refl _), RdS.cells hm, BoxAt.cell hb0_0]
    refine CallA.pure (szSSS_ok _ _ _ _ hm (by omega) (by omega)) ?_
    try simp -implicitDefEqProofs (disch := first | decide | assumption | omega) only [go_sem, RdS.len hd sl22, RdS.idx hd sl22, R1.intB hd (HPres.refl _), RdS.cells hd, RdS.len hm sl23, RdS.idx hm sl23, RdS.cellB hm (HPres.refl _), RdS.cells hm, BoxAt.cell hb0_0]
    refine hK _ _ ?_
    clear hK K
    refine den_seq ?_
    refine den_seq ?_
    refine den_region TTok ?_
    intro K hK
    simp -implicitDefEqProofs (disch := first | decide | assumption | omega) only [go_sem, RdS.len hd sl22, RdS.idx hd sl22, R1.intB hd (HPres.refl _), RdS.cells hd, RdS.len hm sl23, RdS.idx hm sl23, RdS.cellB hm (HPres.refl _), RdS.cells hm, BoxAt.cell hb0_0]
    refine hK _ _ ?_
    clear hK K
    refine den_cond rfl (fun c1 => ?_) (fun c1 => ?_)
    · try simp only [decide_eq_true_eq, decide_eq_false_iff_not, beq_iff_eq, beq_eq_false_iff_ne, bne_iff_ne, ne_eq, Bool.not_eq_true', Bool.not_eq_false', Bool.and_eq_true, Bool.or_eq_true, bne_eq_false_iff_eq] at c1
      refine den_seq ?_
      refine den_region TTok ?_
      intro K hK
      simp -implicitDefEqProofs (disch := first | decide | assumption | omega) only [go_sem, RdS.len hd sl22, RdS.idx hd sl22, R1.intB hd (HPres.refl _), RdS.cells hd, RdS.len hm sl23, RdS.idx hm sl23, RdS.cellB hm (HPres.refl _), RdS.cells hm, BoxAt.cell hb0_0]
      refine hK _ _ ?_
      clear hK K
      refine den_ret ?_
      simp (disch := decide) only [resP_1, puts_same, puts_ne]
      exact ⟨vint (by rw [szC, if_neg c0, if_pos c1]), e0_0⟩
    · try simp only [decide_eq_true_eq, decide_eq_false_iff_not, beq_iff_eq, beq_eq_false_iff_ne, bne_iff_ne, ne_eq, Bool.not_eq_true', Bool.not_eq_false', Bool.and_eq_true, Bool.or_eq_true, bne_eq_false_iff_eq] at c1
      refine den_skip ?_
      refine den_seq ?_
      refine den_region TTok ?_
      intro K hK
      simp -implicitDefEqProofs (disch := first | decide | assumption | omega) only [go_sem, RdS.len hd sl22, RdS.idx hd sl22, R1.intB hd (HPres.refl _), RdS.cells hd, RdS.len hm sl23, RdS.idx hm sl23, RdS.cellB hm (HPres.refl _), RdS.cells hm, BoxAt.cell hb0_0]
      refine hK _ _ ?_
      clear hK K
      refine den_ret ?_
      simp (disch := decide) only [resP_1, puts_same, puts_ne]
      exact ⟨vint (by rw [szC, if_neg c0, if_neg c1]), e0_0⟩

set_option maxRecDepth 100000 in
theorem toC_ok (v : Value) (X : Cx) (h : Heap) (hv : RC h v X) (hM : HMC X) : CallA Tryd.prog 6 #[v] h fun v h' => ∃ vd vm f1 f2, v = .agg #[.int .i64 X.p, vd, vm] ∧ O1 h' vd X.dims f1 ∧ O3 h' vm X.maps f2 ∧ Fresh h.size (f1 ++ f2) ∧ Ext h h' := by
  obtain ⟨vd, vm, rfl, hd, hm⟩ := hv
  refine callA_intro TTok (args := [_]) Tryd.func6 (by kernel_rfl) rfl 16 rfl (by simp) [.cell 2 29] rfl ?_
  simp only [idxs, Nat.reduceAdd]
  refine den_seq ?_
  refine den_region TTok ?_
  intro K hK
  simp -implicitDefEqProofs (disch := first | decide | assumption | omega) only [go_sem, RdS.len hd sl22, RdS.idx hd sl22, R1.intB hd (HPres.refl _), RdS.cells hd, RdS.len hm sl23, RdS.idx hm sl23, RdS.cellB hm (HPres.refl _), RdS.cells hm]
  refine op_box (cs := #[.int .i64 (X.p), vd, vm]) rfl ?_
  intro h0_0 e0_0 hb0_0 z0_0
  replace hd := RdS.pres hd (Ext.pres e0_0)
  replace hm := RdS.pres hm (Ext.pres e0_0)
  try simp -implicitDefEqProofs (disch := first | decide | assumption | omega) only [go_sem, RdS.len hd sl22, RdS.idx hd sl22, R1.intB hd (HPres.refl _), RdS.cells hd, RdS.len hm sl23, RdS.idx hm sl23, RdS.cellB hm (HPres.refl _), RdS.cells hm, BoxAt.cell hb0_0]
  refine op_alloc (cs := #[.int .i64 0, .slice none 0 0, .slice none 0 0]) (by kernel_rfl) ?_
  intro h0_1 e0_1 hb0_1 z0_1
  have := Ext.size e0_1
  have eB := e0_1
  try simp -implicitDefEqProofs (disch := first | decide | assumption | omega) only [go_sem, RdS.len hd sl22, RdS.idx hd sl22, R1.intB hd (Ext.pres eB), RdS.cells hd, RdS.len hm sl23, RdS.idx hm sl23, RdS.cellB hm (Ext.pres eB), RdS.cells hm, BoxAt.cellB hb0_0 eB, BoxAt.cell hb0_1]
  refine hK _ _ ?_
  clear hK K
  refine den_seq ?_
  refine den_region TTok ?_
  intro K hK
  simp -implicitDefEqProofs (disch := first | decide | assumption | omega) only [go_sem, RdS.len hd sl22, RdS.idx hd sl22, R1.intB hd (Ext.pres eB), RdS.cells hd, RdS.len hm sl23, RdS.idx hm sl23, RdS.cellB hm (Ext.pres eB), RdS.cells hm, BoxAt.cellB hb0_0 eB, BoxAt.cell hb0_1]
  refine op_alloc (cs := #[.int .i64 0, .slice none 0 0, .slice none 0 0]) (by kernel_rfl) ?_
  intro h1_0 e1_0 hb1_0 z1_0
  replace hb0_1 := BoxAt.ext hb0_1 e1_0
  have := Ext.size e1_0
  replace eB := Ext.trans eB e1_0
  try simp -implicitDefEqProofs (disch := first | decide | assumption | omega) only [go_sem, RdS.len hd sl22, RdS.idx hd sl22, R1.intB hd (Ext.pres eB), RdS.cells hd, RdS.len hm sl23, RdS.idx hm sl23, RdS.cellB hm (Ext.pres eB), RdS.cells hm, BoxAt.cellB hb0_0 eB, BoxAt.cell hb0_1, BoxAt.cell hb1_0]
  refine hK _ _ ?_
  clear hK K
  refine den_seq ?_
  refine den_region TTok ?_
  intro K hK
  simp -implicitDefEqProofs (disch := first | decide | assumption | omega) only [go_sem, fa29_0, fa25_0, ld2, RdS.len hd sl22, RdS.idx hd sl22, R1.intB hd (Ext.pres eB), RdS.cells hd, RdS.len hm sl23, RdS.idx hm sl23, RdS.cellB hm (Ext.pres eB), RdS.cells hm, BoxAt.cellB hb0_0 eB, BoxAt.cell hb0_1, BoxAt.cell hb1_0]
  refine op_storeB (cs' := #[.int .i64 (X.p), .slice none 0 0, .slice none 0 0]) st2 hb1_0 rfl rfl rfl (by simp) (allOne_mem (l := [.int .i64 (X.p)]) ⟨rfl, trivial⟩) rfl ?_
  intro h2_3 hb1_0 c2_3
  replace hb0_1 := BoxAt.chg hb0_1 c2_3 (by simp; omega)
  have := c2_3.size
  replace eB := Ext.then eB c2_3 (fun b hb => by simp at hb; omega)
  try simp -implicitDefEqProofs (disch := first | decide | assumption | omega) only [go_sem, RdS.len hd sl22, RdS.idx hd sl22, R1.intB hd (Ext.pres eB), RdS.cells hd, RdS.len hm sl23, RdS.idx hm sl23, RdS.cellB hm (Ext.pres eB), RdS.cells hm, BoxAt.cellB hb0_0 eB, BoxAt.cell hb0_1, BoxAt.cell hb1_0]
  refine hK _ _ ?_
  clear hK K
  refine den_seq ?_
  refine den_region TTok ?_
  intro K hK
  simp -implicitDefEqProofs (disch := first | decide | assumption | omega) only [go_sem, fa25_1, ld22, RdS.len hd sl22, RdS.idx hd sl22, R1.intB hd (Ext.pres eB), RdS.cells hd, RdS.len hm sl23, RdS.idx hm sl23, RdS.cellB hm (Ext.pres eB), RdS.cells hm, BoxAt.cellB hb0_0 eB, BoxAt.cell hb0_1, BoxAt.cell hb1_0]
  try simp -implicitDefEqProofs (disch := first | decide | assumption | omega) only [go_sem, RdS.len hd sl22, RdS.idx hd sl22, R1.intB hd (Ext.pres eB), RdS.cells hd, RdS.len hm sl23, RdS.idx hm sl23, RdS.cellB hm (Ext.pres eB), RdS.cells hm, BoxAt.cellB hb0_0 eB, BoxAt.cell hb0_1, BoxAt.cell hb1_0]
  refine CallA.mono (toS_ok _ _ _ (RdS.pres hd (Ext.pres eB)) hM.1) ?_
  intro v3_2 h3_2
  rintro ⟨f3_2, ho3_2, hf3_2, e3_2⟩
  replace hb0_1 := BoxAt.ext hb0_1 e3_2
  replace hb1_0 := BoxAt.ext hb1_0 e3_2
  have := Ext.size e3_2
  replace eB := Ext.trans eB e3_2
  have hlho3_2 := OS.lt ho3_2
  try simp -implicitDefEqProofs (disch := first | decide | assumption | omega) only [go_sem, fa29_1, RdS.len hd sl22, RdS.idx hd sl22, R1.intB hd (Ext.pres eB), RdS.cells hd, RdS.len hm sl23, RdS.idx hm sl23, RdS.cellB hm (Ext.pres eB), RdS.cells hm, RdS.len (OS.rd ho3_2) sl22, RdS.idx (OS.rd ho3_2) sl22, R1.intN (OS.rd ho3_2), RdS.cells (OS.rd ho3_2), BoxAt.cellB hb0_0 eB, BoxAt.cell hb0_1, BoxAt.cell hb1_0]
  refine op_storeB (cs' := #[.int .i64 (X.p), v3_2, .slice none 0 0]) st22 hb1_0 rfl (OS.one ho3_2).2 rfl (by simp) (allOne_mem (l := [v3_2]) ⟨(OS.one ho3_2).1, trivial⟩) rfl ?_
  intro h3_4 hb1_0 c3_4
  replace ho3_2 := OS.chg ho3_2 c3_4 (fun b hb hm => by simp at hm; have := hf3_2.ge b hb; have := hlho3_2 b hb; omega)
  replace hb0_1 := BoxAt.chg hb0_1 c3_4 (by simp; omega)
  have := c3_4.size
  replace eB := Ext.then eB c3_4 (fun b hb => by simp at hb; omega)
  try simp -implicitDefEqProofs (disch := first | decide | assumption | omega) only [go_sem, RdS.len hd sl22, RdS.idx hd sl22, R1.intB hd (Ext.pres eB), RdS.cells hd, RdS.len hm sl23, RdS.idx hm sl23, RdS.cellB hm (Ext.pres eB), RdS.cells hm, RdS.len (OS.rd ho3_2) sl22, RdS.idx (OS.rd ho3_2) sl22, R1.intN (OS.rd ho3_2), RdS.cells (OS.rd ho3_2), BoxAt.cellB hb0_0 eB, BoxAt.cell hb0_1, BoxAt.cell hb1_0]
  refine hK _ _ ?_
  clear hK K
  refine den_seq ?_
  refine den_region TTok ?_
  intro K hK
  simp -implicitDefEqProofs (disch := first | decide | assumption | omega) only [go_sem, fa25_2, ld23, RdS.len hd sl22, RdS.idx hd sl22, R1.intB hd (Ext.pres eB), RdS.cells hd, RdS.len hm sl23, RdS.idx hm sl23, RdS.cellB hm (Ext.pres eB), RdS.cells hm, RdS.len (OS.rd ho3_2) sl22, RdS.idx (OS.rd ho3_2) sl22, R1.intN (OS.rd ho3_2), RdS.cells (OS.rd ho3_2), BoxAt.cellB hb0_0 eB, BoxAt.cell hb0_1, BoxAt.cell hb1_0]
  try simp -implicitDefEqProofs (disch := first | decide | assumption | omega) only [go_sem, RdS.len hd sl22, RdS.idx hd sl22, R1.intB hd (Ext.pres eB), RdS.cells hd, RdS.len hm sl23, RdS.idx hm sl23, RdS.cellB hm (Ext.pres eB), RdS.cells hm, RdS.len (OS.rd ho3_2) sl22, RdS.idx (OS.rd ho3_2) sl22, R1.intN (OS.rd ho3_2), RdS.cells (OS.rd ho3_2), BoxAt.cellB hb0_0 eB, BoxAt.cell hb0_1, BoxAt.cell hb1_0]
  refine CallA.mono (toSSS_ok _ _ _ (RdS.pres hm (Ext.pres eB)) hM.2) ?_
  intro v4_2 h4_2
  rintro ⟨f4_2, ho4_2, hf4_2, e4_2⟩
  replace ho3_2 := OS.ext ho3_2 e4_2
  replace hb0_1 := BoxAt.ext hb0_1 e4_2
  replace hb1_0 := BoxAt.ext hb1_0 e4_2
  have := Ext.size e4_2
  replace eB := Ext.trans eB e4_2
  have hlho4_2 := OS.lt ho4_2
  try simp -implicitDefEqProofs (disch := first | decide | assumption | omega) only [go_sem, fa29_2, RdS.len hd sl22, RdS.idx hd sl22, R1.intB hd (Ext.pres eB), RdS.cells hd, RdS.len hm sl23, RdS.idx hm sl23, RdS.cellB hm (Ext.pres eB), RdS.cells hm, RdS.len (OS.rd ho3_2) sl22, RdS.idx (OS.rd ho3_2) sl22, R1.intN (OS.rd ho3_2), RdS.cells (OS.rd ho3_2), RdS.len (OS.rd ho4_2) sl23, RdS.idx (OS.rd ho4_2) sl23, RdS.cellN (OS.rd ho4_2), RdS.cells (OS.rd ho4_2), BoxAt.cellB hb0_0 eB, BoxAt.cell hb0_1, BoxAt.cell hb1_0]
  refine op_storeB (cs' := #[.int .i64 (X.p), v3_2, v4_2]) st23 hb1_0 rfl (OS.one ho4_2).2 rfl (by simp) (allOne_mem (l := [v4_2]) ⟨(OS.one ho4_2).1, trivial⟩) rfl ?_
  intro h4_4 hb1_0 c4_4
  replace ho3_2 := OS.chg ho3_2 c4_4 (fun b hb hm => by simp at hm; have := hf3_2.ge b hb; have := hlho3_2 b hb; omega)
  replace ho4_2 := OS.chg ho4_2 c4_4 (fun b hb hm => by simp at hm; have := hf4_2.ge b hb; have := hlho4_2 b hb; omega)
  replace hb0_1 := BoxAt.chg hb0_1 c4_4 (by simp; omega)
  have := c4_4.size
  replace eB := Ext.then eB c4_4 (fun b hb => by simp at hb; omega)
  try simp -implicitDefEqProofs (disch := first | decide | assumption | omega) only [go_sem, RdS.len hd sl22, RdS.idx hd sl22, R1.intB hd (Ext.pres eB), RdS.cells hd, RdS.len hm sl23, RdS.idx hm sl23, RdS.cellB hm (Ext.pres eB), RdS.cells hm, RdS.len (OS.rd ho3_2) sl22, RdS.idx (OS.rd ho3_2) sl22, R1.intN (OS.rd ho3_2), RdS.cells (OS.rd ho3_2), RdS.len (OS.rd ho4_2) sl23, RdS.idx (OS.rd ho4_2) sl23, RdS.cellN (OS.rd ho4_2), RdS.cells (OS.rd ho4_2), BoxAt.cellB hb0_0 eB, BoxAt.cell hb0_1, BoxAt.cell hb1_0]
  refine hK _ _ ?_
  clear hK K
  refine den_seq ?_
  refine den_region TTok ?_
  intro K hK
  simp -implicitDefEqProofs (disch := first | decide | assumption | omega) only [go_sem, ld29, RdS.len hd sl22, RdS.idx hd sl22, R1.intB hd (Ext.pres eB), RdS.cells hd, RdS.len hm sl23, RdS.idx hm sl23, RdS.cellB hm (Ext.pres eB), RdS.cells hm, RdS.len (OS.rd ho3_2) sl22, RdS.idx (OS.rd ho3_2) sl22, R1.intN (OS.rd ho3_2), RdS.cells (OS.rd ho3_2), RdS.len (OS.rd ho4_2) sl23, RdS.idx (OS.rd ho4_2) sl23, RdS.cellN (OS.rd ho4_2), RdS.cells (OS.rd ho4_2), BoxAt.cellB hb0_0 eB, BoxAt.cell hb0_1, BoxAt.cell hb1_0]
  refine op_storeB (cs' := #[.int .i64 (X.p), v3_2, v4_2]) st29 hb0_1 rfl rfl rfl (by simp) (allOne_mem (l := [.int .i64 (X.p), v3_2, v4_2]) ⟨rfl, (OS.one ho3_2).1, (OS.one ho4_2).1, trivial⟩) rfl ?_
  intro h5_1 hb0_1 c5_1
  replace ho3_2 := OS.chg ho3_2 c5_1 (fun b hb hm => by simp at hm; have := hf3_2.ge b hb; have := hlho3_2 b hb; omega)
  replace ho4_2 := OS.chg ho4_2 c5_1 (fun b hb hm => by simp at hm; have := hf4_2.ge b hb; have := hlho4_2 b hb; omega)
  replace hb1_0 := BoxAt.chg hb1_0 c5_1 (by simp; omega)
  have := c5_1.size
  replace eB := Ext.then eB c5_1 (fun b hb => by simp at hb; omega)
  try simp -implicitDefEqProofs (disch := first | decide | assumption | omega) only [go_sem, RdS.len hd sl22, RdS.idx hd sl22, R1.intB hd (Ext.pres eB), RdS.cells hd, RdS.len hm sl23, RdS.idx hm sl23, RdS.cellB hm (Ext.pres eB), RdS.cells hm, RdS.len (OS.rd ho3_2) sl22, RdS.idx (OS.rd ho3_2) sl22, R1.intN (OS.rd ho3_2), RdS.cells (OS.rd ho3_2), RdS.len (OS.rd ho4_2) sl23, RdS.idx (OS.rd ho4_2) sl23, RdS.cellN (OS.rd ho4_2), RdS.cells (OS.rd ho4_2), BoxAt.cellB hb0_0 eB, BoxAt.cell hb0_1, BoxAt.cell hb1_0]
  refine hK _ _ ?_
  clear hK K
  refine den_ret ?_
  simp -implicitDefEqProofs (disch := first | decide | assumption | omega) only [go_sem, RdS.len hd sl22, RdS.idx hd sl22, R1.intB hd (Ext.pres eB), RdS.cells hd, RdS.len hm sl23, RdS.idx hm sl23, RdS.cellB hm (Ext.pres eB), RdS.cells hm, RdS.len (OS.rd ho3_2) sl22, RdS.idx (OS.rd ho3_2) sl22, R1.intN (OS.rd ho3_2), RdS.cells (OS.rd ho3_2), RdS.len (OS.rd ho4_2) sl23, RdS.idx (OS.rd ho4_2) sl23, RdS.cellN (OS.rd ho4_2), RdS.cells (OS.rd ho4_2), BoxAt.cellB hb0_0 eB, BoxAt.cell hb0_1, BoxAt.cell hb1_0, resP_c1, ld29]
  exact ⟨_, _, _, _, rfl, ho3_2, ho4_2, Fresh.append (hf3_2.mono (by omega)) (fun b hb => by have := hlho3_2 b hb; omega) (hf4_2.mono (by omega)) (by omega), (Ext.trans e0_0 eB)⟩

set_option maxRecDepth 100000 in
theorem eqS_ok (v w : Value) (xs ys : List Int) (h : Heap) (hv : R1 h v xs) (hw : R1 h w ys) : CallA Tryd.prog 17 #[v, w] h fun v h' => v = .bool (decide (xs = ys)) ∧ h' = h := by
  have hle := RdS.le hv
  refine callA_intro TTok (args := [_, _]) Tryd.func17 (by kernel_rfl) rfl 26 rfl (by simp) [.tmp 4] rfl ?_
  simp only [idxs, Nat.reduceAdd]
  refine den_seq ?_
  refine den_region TTok ?_
  intro K hK
  simp -implicitDefEqProofs (disch := first | decide | assumption | omega) only [go_sem, RdS.len hv sl22, RdS.idx hv sl22, R1.intB hv (HPres.refl _), RdS.cells hv, RdS.len hw sl22, RdS.idx hw sl22, R1.intB hw (HPres.refl _), RdS.cells hw, wrap_id]
  refine hK _ _ ?_
  clear hK K
  refine den_seq ?_
  refine den_seq ?_
  refine den_region TTok ?_
  intro K hK
  simp -implicitDefEqProofs (disch := first | decide | assumption | omega) only [go_sem, RdS.len hv sl22, RdS.idx hv sl22, R1.intB hv (HPres.refl _), RdS.cells hv, RdS.len hw sl22, RdS.idx hw sl22, R1.intB hw (HPres.refl _), RdS.cells hw, wrap_id]
  refine hK _ _ ?_
  clear hK K
  refine den_cond rfl (fun c0 => ?_) (fun c0 => ?_)
  · try simp only [decide_eq_true_eq, decide_eq_false_iff_not, beq_iff_eq, beq_eq_false_iff_ne, bne_iff_ne, ne_eq, Bool.not_eq_true', Bool.not_eq_false', Bool.and_eq_true, Bool.or_eq_true, bne_eq_false_iff_eq] at c0
    refine den_seq ?_
    refine den_region TTok ?_
    intro K hK
    simp -implicitDefEqProofs (disch := first | decide | assumption | omega) only [go_sem, RdS.len hv sl22, RdS.idx hv sl22, R1.intB hv (HPres.refl _), RdS.cells hv, RdS.len hw sl22, RdS.idx hw sl22, R1.intB hw (HPres.refl _), RdS.cells hw, wrap_id]
    refine hK _ _ ?_
    clear hK K
    refine den_ret ?_
    simp (disch := decide) only [resP_1, puts_same, puts_ne]
    exact ⟨vbool (by simp; intro he; rw [he] at c0; omega), trivial⟩
  · try simp only [decide_eq_true_eq, decide_eq_false_iff_not, beq_iff_eq, beq_eq_false_iff_ne, bne_iff_ne, ne_eq, Bool.not_eq_true', Bool.not_eq_false', Bool.and_eq_true, Bool.or_eq_true, bne_eq_false_iff_eq] at c0
    refine den_skip ?_
    refine den_seq ?_
    refine den_seq ?_
    refine den_region TTok ?_
    intro K hK
    simp -implicitDefEqProofs (disch := first | decide | assumption | omega) only [go_sem, RdS.len hv sl22, RdS.idx hv sl22, R1.intB hv (HPres.refl _), RdS.cells hv, RdS.len hw sl22, RdS.idx hw sl22, R1.intB hw (HPres.refl _), RdS.cells hw, wrap_id]
    refine hK _ _ ?_
    clear hK K
    refine den_block ?_
    refine den_sel [5, 0, 1] ?_
    intro env_1
    simp only [go_sem]
    refine den_loopP (σ := Nat) (fun s => [(5, .int .i64 (s : Int))]) (fun s => s ≤ xs.length ∧ xs.take s = ys.take s) (fun s => xs.length - s) 0 ?_ ?_
    · exact ⟨rfl, by omega, by simp⟩
    · rintro k ee3 ⟨hk, heq⟩
      simp only [List.cons_append, List.nil_append]
      refine den_seq ?_
      refine den_seq ?_
      refine den_region TTok ?_
      intro K hK
      simp -implicitDefEqProofs (disch := first | decide | assumption | omega) only [go_sem, RdS.len hv sl22, RdS.idx hv sl22, R1.intB hv (HPres.refl _), RdS.cells hv, RdS.len hw sl22, RdS.idx hw sl22, R1.intB hw (HPres.refl _), RdS.cells hw, wrap_id]
      refine hK _ _ ?_
      clear hK K
      refine den_cond rfl (fun c1 => ?_) (fun c1 => ?_)
      · try simp only [decide_eq_true_eq, decide_eq_false_iff_not, beq_iff_eq, beq_eq_false_iff_ne, bne_iff_ne, ne_eq, Bool.not_eq_true', Bool.not_eq_false', Bool.and_eq_true, Bool.or_eq_true, bne_eq_false_iff_eq] at c1
        refine den_skip ?_
        refine den_seq ?_
        refine den_block ?_
        refine den_seq ?_
        refine den_draw TTok mixed [] [(0, true), (1, true), (2, true), (3, true), (4, true), (5, true), (6, true), (7, true), (8, true)] (by kernel_rfl) ?_
        intro K hK
        simp -implicitDefEqProofs (disch := first | decide | assumption | omega) only [go_sem, ld2, RdS.len hv sl22, RdS.idx hv sl22, R1.intB hv (HPres.refl _), RdS.cells hv, RdS.len hw sl22, RdS.idx hw sl22, R1.intB hw (HPres.refl _), RdS.cells hw, wrap_id]
        refine hK _ _ ?_
        clear hK K
        refine den_cond rfl (fun c2 => ?_) (fun c2 => ?_)
        · try simp only [decide_eq_true_eq, decide_eq_false_iff_not, beq_iff_eq, beq_eq_false_iff_ne, bne_iff_ne, ne_eq, Bool.not_eq_true', Bool.not_eq_false', Bool.and_eq_true, Bool.or_eq_true, bne_eq_false_iff_eq] at c2
          refine den_seq ?_
          refine den_region TTok ?_
          intro K hK
          simp -implicitDefEqProofs (disch := first | decide | assumption | omega) only [go_sem, RdS.len hv sl22, RdS.idx hv sl22, R1.intB hv (HPres.refl _), RdS.cells hv, RdS.len hw sl22, RdS.idx hw sl22, R1.intB hw (HPres.refl _), RdS.cells hw, wrap_id]
          refine hK _ _ ?_
          clear hK K
          refine den_ret ?_
          simp (disch := decide) only [resP_1, puts_same, puts_ne]
          exact ⟨vbool (by simp; exact eq_stop (d := 0) (by simpa using c2)), trivial⟩
        · try simp only [decide_eq_true_eq, decide_eq_false_iff_not, beq_iff_eq, beq_eq_false_iff_ne, bne_iff_ne, ne_eq, Bool.not_eq_true', Bool.not_eq_false', Bool.and_eq_true, Bool.or_eq_true, bne_eq_false_iff_eq] at c2
          refine den_skip ?_
          refine den_blk ?_
          refine den_region TTok ?_
          intro K hK
          simp -implicitDefEqProofs (disch := first | decide | assumption | omega) only [go_sem, RdS.len hv sl22, RdS.idx hv sl22, R1.intB hv (HPres.refl _), RdS.cells hv, RdS.len hw sl22, RdS.idx hw sl22, R1.intB hw (HPres.refl _), RdS.cells hw, wrap_id]
          refine hK _ _ ?_
          clear hK K
          refine den_stop ?_
          exact ⟨k + 1, by simp [HasL, puts_at], ⟨rfl, by omega, eq_step (by omega) (by omega) heq (d := 0) (d' := 0) (by simpa using c2)⟩, by omega⟩
      · try simp only [decide_eq_true_eq, decide_eq_false_iff_not, beq_iff_eq, beq_eq_false_iff_ne, bne_iff_ne, ne_eq, Bool.not_eq_true', Bool.not_eq_false', Bool.and_eq_true, Bool.or_eq_true, bne_eq_false_iff_eq] at c1
        refine den_exit ?_
        refine denX_code ?_
        refine denX_stop ?_
        refine denX_hit ?_
        refine den_seq ?_
        refine den_region TTok ?_
        intro K hK
        simp -implicitDefEqProofs (disch := first | decide | assumption | omega) only [go_sem, RdS.len hv sl22, RdS.idx hv sl22, R1.intB hv (HPres.refl _), RdS.cells hv, RdS.len hw sl22, RdS.idx hw sl22, R1.intB hw (HPres.refl _), RdS.cells hw, wrap_id]
        refine hK _ _ ?_
        clear hK K
        refine den_ret ?_
        simp (disch := decide) only [resP_1, puts_same, puts_ne]
        exact ⟨vbool (by simp; exact eq_end (by omega) (by omega) heq), trivial⟩

set_option maxRecDepth 100000 in
theorem eqSS_ok (v w : Value) (xs ys : List (List Int)) (h : Heap) (hv : R2 h v xs) (hw : R2 h w ys) : CallA Tryd.prog 42 #[v, w] h fun v h' => v = .bool (decide (xs = ys)) ∧ h' = h := by
  have hle := RdS.le hv
  refine callA_intro TTok (args := [_, _]) Tryd.func42 (by kernel_rfl) rfl 27 rfl (by simp) [.tmp 4] rfl ?_
  simp only [idxs, Nat.reduceAdd]
  refine den_seq ?_
  refine den_region TTok ?_
  intro K hK
  simp -implicitDefEqProofs (disch := first | decide | assumption | omega) only [go_sem, RdS.len hv sl43, RdS.idx hv sl43, RdS.cellB hv (HPres.refl _), RdS.cells hv, RdS.len hw sl43, RdS.idx hw sl43, RdS.cellB hw (HPres.refl _), RdS.cells hw, wrap_id]
  refine hK _ _ ?_
  clear hK K
  refine den_seq ?_
  refine den_seq ?_
  refine den_region TTok ?_
  intro K hK
  simp -implicitDefEqProofs (disch := first | decide | assumption | omega) only [go_sem, RdS.len hv sl43, RdS.idx hv sl43, RdS.cellB hv (HPres.refl _), RdS.cells hv, RdS.len hw sl43, RdS.idx hw sl43, RdS.cellB hw (HPres.refl _), RdS.cells hw, wrap_id]
  refine hK _ _ ?_
  clear hK K
  refine den_cond rfl (fun c0 => ?_) (fun c0 => ?_)
  · try simp only [decide_eq_true_eq, decide_eq_false_iff_not, beq_iff_eq, beq_eq_false_iff_ne, bne_iff_ne, ne_eq, Bool.not_eq_true', Bool.not_eq_false', Bool.and_eq_true, Bool.or_eq_true, bne_eq_false_iff_eq] at c0
    refine den_seq ?_
    refine den_region TTok ?_
    intro K hK
    simp -implicitDefEqProofs (disch := first | decide | assumption | omega) only [go_sem, RdS.len hv sl43, RdS.idx hv sl43, RdS.cellB hv (HPres.refl _), RdS.cells hv, RdS.len hw sl43, RdS.idx hw sl43, RdS.cellB hw (HPres.refl _), RdS.cells hw, wrap_id]
    refine hK _ _ ?_
    clear hK K
    refine den_ret ?_
    simp (disch := decide) only [resP_1, puts_same, puts_ne]
    exact ⟨vbool (by simp; intro he; rw [he] at c0; omega), trivial⟩
  · try simp only [decide_eq_true_eq, decide_eq_false_iff_not, beq_iff_eq, beq_eq_false_iff_ne, bne_iff_ne, ne_eq, Bool.not_eq_true', Bool.not_eq_false', Bool.and_eq_true, Bool.or_eq_true, bne_eq_false_iff_eq] at c0
    refine den_skip ?_
    refine den_seq ?_
    refine den_seq ?_
    refine den_region TTok ?_
    intro K hK
    simp -implicitDefEqProofs (disch := first | decide | assumption | omega) only [go_sem, RdS.len hv sl43, RdS.idx hv sl43, RdS.cellB hv (HPres.refl _), RdS.cells hv, RdS.len hw sl43, RdS.idx hw sl43, RdS.cellB hw (HPres.refl _), RdS.cells hw, wrap_id]
    refine hK _ _ ?_
    clear hK K
    refine den_block ?_
    refine den_sel [5, 0, 1] ?_
    intro env_1
    simp only [go_sem]
    refine den_loopP (σ := Nat) (fun s => [(5, .int .i64 (s : Int))]) (fun s => s ≤ xs.length ∧ xs.take s = ys.take s) (fun s => xs.length - s) 0 ?_ ?_
    · exact ⟨rfl, by omega, by simp⟩
    · rintro k ee3 ⟨hk, heq⟩
      simp only [List.cons_append, List.nil_append]
      refine den_seq ?_
      refine den_seq ?_
      refine den_region TTok ?_
      intro K hK
      simp -implicitDefEqProofs (disch := first | decide | assumption | omega) only [go_sem, RdS.len hv sl43, RdS.idx hv sl43, RdS.cellB hv (HPres.refl _), RdS.cells hv, RdS.len hw sl43, RdS.idx hw sl43, RdS.cellB hw (HPres.refl _), RdS.cells hw, wrap_id]
      refine hK _ _ ?_
      clear hK K
      refine den_cond rfl (fun c1 => ?_) (fun c1 => ?_)
      · try simp only [decide_eq_true_eq, decide_eq_false_iff_not, beq_iff_eq, beq_eq_false_iff_ne, bne_iff_ne, ne_eq, Bool.not_eq_true', Bool.not_eq_false', Bool.and_eq_true, Bool.or_eq_true, bne_eq_false_iff_eq] at c1
        refine den_skip ?_
        refine den_seq ?_
        refine den_block ?_
        refine den_seq ?_
        refine den_draw TTok mixed [] [(0, true), (1, true), (2, true), (3, true), (4, true), (5, true), (6, true), (7, true), (8, false), (9, true)] (by kernel_rfl) ?_
        intro K hK
        have hr4 := RdS.rowN hv k (by omega)
        have hlhr4 := RdS.le hr4
        have hr5 := RdS.rowN hw k (by omega)
        have hlhr5 := RdS.le hr5
        simp -implicitDefEqProofs (disch := first | decide | assumption | omega) only [go_sem, ld22, RdS.len hv sl43, RdS.idx hv sl43, RdS.cellB hv (HPres.refl _), RdS.cells hv, RdS.len hw sl43, RdS.idx hw sl43, RdS.cellB hw (HPres.refl _), RdS.cells hw, RdS.len hr4 sl22, RdS.idx hr4 sl22, R1.intB hr4 (HPres.refl _), RdS.cells hr4, RdS.len hr5 sl22, RdS.idx hr5 sl22, R1.intB hr5 (HPres.refl _), RdS.cells hr5, wrap_id]
        try simp -implicitDefEqProofs (disch := first | decide | assumption | omega) only [go_sem, RdS.len hv sl43, RdS.idx hv sl43, RdS.cellB hv (HPres.refl _), RdS.cells hv, RdS.len hw sl43, RdS.idx hw sl43, RdS.cellB hw (HPres.refl _), RdS.cells hw, RdS.len hr4 sl22, RdS.idx hr4 sl22, R1.intB hr4 (HPres.refl _), RdS.cells hr4, RdS.len hr5 sl22, RdS.idx hr5 sl22, R1.intB hr5 (HPres.refl _), RdS.cells hr5, wrap_id]
        refine CallA.pure (eqS_ok _ _ _ _ _ hr4 hr5) ?_
        try simp -implicitDefEqProofs (disch := first | decide | assumption | omega) only [go_sem, RdS.len hv sl43, RdS.idx hv sl43, RdS.cellB hv (HPres.refl _), RdS.cells hv, RdS.len hw sl43, RdS.idx hw sl43, RdS.cellB hw (HPres.refl _), RdS.cells hw, RdS.len hr4 sl22, RdS.idx hr4 sl22, R1.intB hr4 (HPres.refl _), RdS.cells hr4, RdS.len hr5 sl22, RdS.idx hr5 sl22, R1.intB hr5 (HPres.refl _), RdS.cells hr5, wrap_id]
        refine hK _ _ ?_
        clear hK K
        refine den_cond rfl (fun c2 => ?_) (fun c2 => ?_)
        · try simp only [decide_eq_true_eq, decide_eq_false_iff_not, beq_iff_eq, beq_eq_false_iff_ne, bne_iff_ne, ne_eq, Bool.not_eq_true', Bool.not_eq_false', Bool.and_eq_true, Bool.or_eq_true, bne_eq_false_iff_eq] at c2
          refine den_seq ?_
          refine den_region TTok ?_
          intro K hK
          simp -implicitDefEqProofs (disch := first | decide | assumption | omega) only [go_sem, RdS.len hv sl43, RdS.idx hv sl43, RdS.cellB hv (HPres.refl _), RdS.cells hv, RdS.len hw sl43, RdS.idx hw sl43, RdS.cellB hw (HPres.refl _), RdS.cells hw, RdS.len hr4 sl22, RdS.idx hr4 sl22, R1.intB hr4 (HPres.refl _), RdS.cells hr4, RdS.len hr5 sl22, RdS.idx hr5 sl22, R1.intB hr5 (HPres.refl _), RdS.cells hr5, wrap_id]
          refine hK _ _ ?_
          clear hK K
          refine den_ret ?_
          simp (disch := decide) only [resP_1, puts_same, puts_ne]
          exact ⟨vbool (by simp; exact eq_stop (d := default) (by simpa using c2)), trivial⟩
        · try simp only [decide_eq_true_eq, decide_eq_false_iff_not, beq_iff_eq, beq_eq_false_iff_ne, bne_iff_ne, ne_eq, Bool.not_eq_true', Bool.not_eq_false', Bool.and_eq_true, Bool.or_eq_true, bne_eq_false_iff_eq] at c2
          refine den_skip ?_
          refine den_blk ?_
          refine den_region TTok ?_
          intro K hK
          simp -implicitDefEqProofs (disch := first | decide | assumption | omega) only [go_sem, RdS.len hv sl43, RdS.idx hv sl43, RdS.cellB hv (HPres.refl _), RdS.cells hv, RdS.len hw sl43, RdS.idx hw sl43, RdS.cellB hw (HPres.refl _), RdS.cells hw, RdS.len hr4 sl22, RdS.idx hr4 sl22, R1.intB hr4 (HPres.refl _), RdS.cells hr4, RdS.len hr5 sl22, RdS.idx hr5 sl22, R1.intB hr5 (HPres.refl _), RdS.cells hr5, wrap_id]
          refine hK _ _ ?_
          clear hK K
          refine den_stop ?_
          exact ⟨k + 1, by simp [HasL, puts_at], ⟨rfl, by omega, eq_step (by omega) (by omega) heq (d := default) (d' := default) (by simpa using c2)⟩, by omega⟩
      · try simp only [decide_eq_true_eq, decide_eq_false_iff_not, beq_iff_eq, beq_eq_false_iff_ne, bne_iff_ne, ne_eq, Bool.not_eq_true', Bool.not_eq_false', Bool.and_eq_true, Bool.or_eq_true, bne_eq_false_iff_eq] at c1
        refine den_exit ?_
        refine denX_code ?_
        refine denX_stop ?_
        refine denX_hit ?_
        refine den_seq ?_
        refine den_region TTok ?_
        intro K hK
        simp -implicitDefEqProofs (disch := first | decide | assumption | omega) only [go_sem, RdS.len hv sl43, RdS.idx hv sl43, RdS.cellB hv (HPres.refl _), RdS.cells hv, RdS.len hw sl43, RdS.idx hw sl43, RdS.cellB hw (HPres.refl _), RdS.cells hw, wrap_id]
        refine hK _ _ ?_
        clear hK K
        refine den_ret ?_
        simp (disch := decide) only [resP_1, puts_same, puts_ne]
        exact ⟨vbool (by simp; exact eq_end (by omega) (by omega) heq), trivial⟩

set_option maxRecDepth 100000 in
theorem eqSSS_ok (v w : Value) (xs ys : List (List (List Int))) (h : Heap) (hv : R3 h v xs) (hw : R3 h w ys) : CallA Tryd.prog 18 #[v, w] h fun v h' => v = .bool (decide (xs = ys)) ∧ h' = h := by
  have hle := RdS.le hv
  refine callA_intro TTok (args := [_, _]) Tryd.func18 (by kernel_rfl) rfl 27 rfl (by simp) [.tmp 4] rfl ?_
  simp only [idxs, Nat.reduceAdd]
  refine den_seq ?_
  refine den_region TTok ?_
  intro K hK
  simp -implicitDefEqProofs (disch := first | decide | assumption | omega) only [go_sem, RdS.len hv sl23, RdS.idx hv sl23, RdS.cellB hv (HPres.refl _), RdS.cells hv, RdS.len hw sl23, RdS.idx hw sl23, RdS.cellB hw (HPres.refl _), RdS.cells hw, wrap_id]
  refine hK _ _ ?_
  clear hK K
  refine den_seq ?_
  refine den_seq ?_
  refine den_region TTok ?_
  intro K hK
  simp -implicitDefEqProofs (disch := first | decide | assumption | omega) only [go_sem, RdS.len hv sl23, RdS.idx hv sl23, RdS.cellB hv (HPres.refl _), RdS.cells hv, RdS.len hw sl23, RdS.idx hw sl23, RdS.cellB hw (HPres.refl _), RdS.cells hw, wrap_id]
  refine hK _ _ ?_
  clear hK K
  refine den_cond rfl (fun c0 => ?_) (fun c0 => ?_)
  · try simp only [decide_eq_true_eq, decide_eq_false_iff_not, beq_iff_eq, beq_eq_false_iff_ne, bne_iff_ne, ne_eq, Bool.not_eq_true', Bool.not_eq_false', Bool.and_eq_true, Bool.or_eq_true, bne_eq_false_iff_eq] at c0
    refine den_seq ?_
    refine den_region TTok ?_
    intro K hK
    simp -implicitDefEqProofs (disch := first | decide | assumption | omega) only [go_sem, RdS.len hv sl23, RdS.idx hv sl23, RdS.cellB hv (HPres.refl _), RdS.cells hv, RdS.len hw sl23, RdS.idx hw sl23, RdS.cellB hw (HPres.refl _), RdS.cells hw, wrap_id]
    refine hK _ _ ?_
    clear hK K
    refine den_ret ?_
    simp (disch := decide) only [resP_1, puts_same, puts_ne]
    exact ⟨vbool (by simp; intro he; rw [he] at c0; omega), trivial⟩
  · try simp only [decide_eq_true_eq, decide_eq_false_iff_not, beq_iff_eq, beq_eq_false_iff_ne, bne_iff_ne, ne_eq, Bool.not_eq_true', Bool.not_eq_false', Bool.and_eq_true, Bool.or_eq_true, bne_eq_false_iff_eq] at c0
    refine den_skip ?_
    refine den_seq ?_
    refine den_seq ?_
    refine den_region TTok ?_
    intro K hK
    simp -implicitDefEqProofs (disch := first | decide | assumption | omega) only [go_sem, RdS.len hv sl23, RdS.idx hv sl23, RdS.cellB hv (HPres.refl _), RdS.cells hv, RdS.len hw sl23, RdS.idx hw sl23, RdS.cellB hw (HPres.refl _), RdS.cells hw, wrap_id]
    refine hK _ _ ?_
    clear hK K
    refine den_block ?_
    refine den_sel [5, 0, 1] ?_
    intro env_1
    simp only [go_sem]
    refine den_loopP (σ := Nat) (fun s => [(5, .int .i64 (s : Int))]) (fun s => s ≤ xs.length ∧ xs.take s = ys.take s) (fun s => xs.length - s) 0 ?_ ?_
    · exact ⟨rfl, by omega, by simp⟩
    · rintro k ee3 ⟨hk, heq⟩
      simp only [List.cons_append, List.nil_append]
      refine den_seq ?_
      refine den_seq ?_
      refine den_region TTok ?_
      intro K hK
      simp -implicitDefEqProofs (disch := first | decide | assumption | omega) only [go_sem, RdS.len hv sl23, RdS.idx hv sl23, RdS.cellB hv (HPres.refl _), RdS.cells hv, RdS.len hw sl23, RdS.idx hw sl23, RdS.cellB hw (HPres.refl _), RdS.cells hw, wrap_id]
      refine hK _ _ ?_
      clear hK K
      refine den_cond rfl (fun c1 => ?_) (fun c1 => ?_)
      · try simp only [decide_eq_true_eq, decide_eq_false_iff_not, beq_iff_eq, beq_eq_false_iff_ne, bne_iff_ne, ne_eq, Bool.not_eq_true', Bool.not_eq_false', Bool.and_eq_true, Bool.or_eq_true, bne_eq_false_iff_eq] at c1
        refine den_skip ?_
        refine den_seq ?_
        refine den_block ?_
        refine den_seq ?_
        refine den_draw TTok mixed [] [(0, true), (1, true), (2, true), (3, true), (4, true), (5, true), (6, true), (7, true), (8, false), (9, true)] (by kernel_rfl) ?_
        intro K hK
        have hr4 := RdS.rowN hv k (by omega)
        have hlhr4 := RdS.le hr4
        have hr5 := RdS.rowN hw k (by omega)
        have hlhr5 := RdS.le hr5
        simp -implicitDefEqProofs (disch := first | decide | assumption | omega) only [go_sem, ld43, RdS.len hv sl23, RdS.idx hv sl23, RdS.cellB hv (HPres.refl _), RdS.cells hv, RdS.len hw sl23, RdS.idx hw sl23, RdS.cellB hw (HPres.refl _), RdS.cells hw, RdS.len hr4 sl43, RdS.idx hr4 sl43, RdS.cellB hr4 (HPres.refl _), RdS.cells hr4, RdS.len hr5 sl43, RdS.idx hr5 sl43, RdS.cellB hr5 (HPres.refl _), RdS.cells hr5, wrap_id]
        try simp -implicitDefEqProofs (disch := first | decide | assumption | omega) only [go_sem, RdS.len hv sl23, RdS.idx hv sl23, RdS.cellB hv (HPres.refl _), RdS.cells hv, RdS.len hw sl23, RdS.idx hw sl23, RdS.cellB hw (HPres.refl _), RdS.cells hw, RdS.len hr4 sl43, RdS.idx hr4 sl43, RdS.cellB hr4 (HPres.refl _), RdS.cells hr4, RdS.len hr5 sl43, RdS.idx hr5 sl43, RdS.cellB hr5 (HPres.refl _), RdS.cells hr5, wrap_id]
        refine CallA.pure (eqSS_ok _ _ _ _ _ hr4 hr5) ?_
        try simp -implicitDefEqProofs (disch := first | decide | assumption | omega) only [go_sem, RdS.len hv sl23, RdS.idx hv sl23, RdS.cellB hv (HPres.refl _), RdS.cells hv, RdS.len hw sl23, RdS.idx hw sl23, RdS.cellB hw (HPres.refl _), RdS.cells hw, RdS.len hr4 sl43, RdS.idx hr4 sl43, RdS.cellB hr4 (HPres.refl _), RdS.cells hr4, RdS.len hr5 sl43, RdS.idx hr5 sl43, RdS.cellB hr5 (HPres.refl _), RdS.cells hr5, wrap_id]
        refine hK _ _ ?_
        clear hK K
        refine den_cond rfl (fun c2 => ?_) (fun c2 => ?_)
        · try simp only [decide_eq_true_eq, decide_eq_false_iff_not, beq_iff_eq, beq_eq_false_iff_ne, bne_iff_ne, ne_eq, Bool.not_eq_true', Bool.not_eq_false', Bool.and_eq_true, Bool.or_eq_true, bne_eq_false_iff_eq] at c2
          refine den_seq ?_
          refine den_region TTok ?_
          intro K hK
          simp -implicitDefEqProofs (disch := first | decide | assumption | omega) only [go_sem, RdS.len hv sl23, RdS.idx hv sl23, RdS.cellB hv (HPres.refl _), RdS.cells hv, RdS.len hw sl23, RdS.idx hw sl23, RdS.cellB hw (HPres.refl _), RdS.cells hw, RdS.len hr4 sl43, RdS.idx hr4 sl43, RdS.cellB hr4 (HPres.refl _), RdS.cells hr4, RdS.len hr5 sl43, RdS.idx hr5 sl43, RdS.cellB hr5 (HPres.refl _), RdS.cells hr5, wrap_id]
          refine hK _ _ ?_
          clear hK K
          refine den_ret ?_
          simp (disch := decide) only [resP_1, puts_same, puts_ne]
          exact ⟨vbool (by simp; exact eq_stop (d := default) (by simpa using c2)), trivial⟩
        · try simp only [decide_eq_true_eq, decide_eq_false_iff_not, beq_iff_eq, beq_eq_false_iff_ne, bne_iff_ne, ne_eq, Bool.not_eq_true', Bool.not_eq_false', Bool.and_eq_true, Bool.or_eq_true, bne_eq_false_iff_eq] at c2
          refine den_skip ?_
          refine den_blk ?_
          refine den_region TTok ?_
          intro K hK
          simp -implicitDefEqProofs (disch := first | decide | assumption | omega) only [go_sem, RdS.len hv sl23, RdS.idx hv sl23, RdS.cellB hv (HPres.refl _), RdS.cells hv, RdS.len hw sl23, RdS.idx hw sl23, RdS.cellB hw (HPres.refl _), RdS.cells hw, RdS.len hr4 sl43, RdS.idx hr4 sl43, RdS.cellB hr4 (HPres.refl _), RdS.cells hr4, RdS.len hr5 sl43, RdS.idx hr5 sl43, RdS.cellB hr5 (HPres.refl _), RdS.cells hr5, wrap_id]
          refine hK _ _ ?_
          clear hK K
          refine den_stop ?_
          exact ⟨k + 1, by simp [HasL, puts_at], ⟨rfl, by omega, eq_step (by omega) (by omega) heq (d := default) (d' := default) (by simpa using c2)⟩, by omega⟩
      · try simp only [decide_eq_true_eq, decide_eq_false_iff_not, beq_iff_eq, beq_eq_false_iff_ne, bne_iff_ne, ne_eq, Bool.not_eq_true', Bool.not_eq_false', Bool.and_eq_true, Bool.or_eq_true, bne_eq_false_iff_eq] at c1
        refine den_exit ?_
        refine denX_code ?_
        refine denX_stop ?_
        refine denX_hit ?_
        refine den_seq ?_
        refine den_region TTok ?_
        intro K hK
        simp -implicitDefEqProofs (disch := first | decide | assumption | omega) only [go_sem, RdS.len hv sl23, RdS.idx hv sl23, RdS.cellB hv (HPres.refl _), RdS.cells hv, RdS.len hw sl23, RdS.idx hw sl23, RdS.cellB hw (HPres.refl _), RdS.cells hw, wrap_id]
        refine hK _ _ ?_
        clear hK K
        refine den_ret ?_
        simp (disch := decide) only [resP_1, puts_same, puts_ne]
        exact ⟨vbool (by simp; exact eq_end (by omega) (by omega) heq), trivial⟩

set_option maxRecDepth 100000 in
theorem eqC_ok (v w : Value) (X Y : Cx) (h : Heap) (hv : RC h v X) (hw : RC h w Y) : CallA Tryd.prog 8 #[v, w] h fun v h' => v = .bool (eqC X Y) ∧ Ext h h' := by
  obtain ⟨vd, vm, rfl, hd, hm⟩ := hv
  obtain ⟨vdy, vmy, rfl, hdy, hmy⟩ := hw
  refine callA_intro TTok (args := [_, _]) Tryd.func8 (by kernel_rfl) rfl 22 rfl (by simp) [.tmp 4] rfl ?_
  simp only [idxs, Nat.reduceAdd]
  refine den_seq ?_
  refine den_region TTok ?_
  intro K hK
  simp -implicitDefEqProofs (disch := first | decide | assumption | omega) only [go_sem, RdS.len hd sl22, RdS.idx hd sl22, R1.intB hd (HPres.refl _), RdS.cells hd, RdS.len hm sl23, RdS.idx hm sl23, RdS.cellB hm (HPres.refl _), RdS.cells hm, RdS.len hdy sl22, RdS.idx hdy sl22, R1.intB hdy (HPres.refl _), RdS.cells hdy, RdS.len hmy sl23, RdS.idx hmy sl23, RdS.cellB hmy (HPres.refl _), RdS.cells hmy]
  refine op_box (cs := #[.int .i64 (X.p), vd, vm]) rfl ?_
  intro h0_0 e0_0 hb0_0 z0_0
  replace hd := RdS.pres hd (Ext.pres e0_0)
  replace hm := RdS.pres hm (Ext.pres e0_0)
  replace hdy := RdS.pres hdy (Ext.pres e0_0)
  replace hmy := RdS.pres hmy (Ext.pres e0_0)
  try simp -implicitDefEqProofs (disch := first | decide | assumption | omega) only [go_sem, RdS.len hd sl22, RdS.idx hd sl22, R1.intB hd (HPres.refl _), RdS.cells hd, RdS.len hm sl23, RdS.idx hm sl23, RdS.cellB hm (HPres.refl _), RdS.cells hm, RdS.len hdy sl22, RdS.idx hdy sl22, R1.intB hdy (HPres.refl _), RdS.cells hdy, RdS.len hmy sl23, RdS.idx hmy sl23, RdS.cellB hmy (HPres.refl _), RdS.cells hmy, BoxAt.cell hb0_0]
  refine op_box (cs := #[.int .i64 (Y.p), vdy, vmy]) rfl ?_
  intro h0_1 e0_1 hb0_1 z0_1
  replace hd := RdS.pres hd (Ext.pres e0_1)
  replace hm := RdS.pres hm (Ext.pres e0_1)
  replace hdy := RdS.pres hdy (Ext.pres e0_1)
  replace hmy := RdS.pres hmy (Ext.pres e0_1)
  replace hb0_0 := BoxAt.ext hb0_0 e0_1
  try simp -implicitDefEqProofs (disch := first | decide | assumption | omega) only [go_sem, RdS.len hd sl22, RdS.idx hd sl22, R1.intB hd (HPres.refl _), RdS.cells hd, RdS.len hm sl23, RdS.idx hm sl23, RdS.cellB hm (HPres.refl _), RdS.cells hm, RdS.len hdy sl22, RdS.idx hdy sl22, R1.intB hdy (HPres.refl _), RdS.cells hdy, RdS.len hmy sl23, RdS.idx hmy sl23, RdS.cellB hmy (HPres.refl _), RdS.cells hmy, BoxAt.cell hb0_0, BoxAt.cell hb0_1]
  refine hK _ _ ?_
  clear hK K
  refine den_seq ?_
  refine den_seq ?_
  refine den_region TTok ?_
  intro K hK
  simp -implicitDefEqProofs (disch := first | decide | assumption | omega) only [go_sem, fa29_0, ld2, RdS.len hd sl22, RdS.idx hd sl22, R1.intB hd (HPres.refl _), RdS.cells hd, RdS.len hm sl23, RdS.idx hm sl23, RdS.cellB hm (HPres.refl _), RdS.cells hm, RdS.len hdy sl22, RdS.idx hdy sl22, R1.intB hdy (HPres.refl _), RdS.cells hdy, RdS.len hmy sl23, RdS.idx hmy sl23, RdS.cellB hmy (HPres.refl _), RdS.cells hmy, BoxAt.cell hb0_0, BoxAt.cell hb0_1]
  refine hK _ _ ?_
  clear hK K
  refine den_cond rfl (fun c0 => ?_) (fun c0 => ?_)
  · try simp only [decide_eq_true_eq, decide_eq_false_iff_not, beq_iff_eq, beq_eq_false_iff_ne, bne_iff_ne, ne_eq, Bool.not_eq_true', Bool.not_eq_false', Bool.and_eq_true, Bool.or_eq_true, bne_eq_false_iff_eq] at c0
    refine den_seq ?_
    refine den_region TTok ?_
    intro K hK
    simp -implicitDefEqProofs (disch := first | decide | assumption | omega) only [go_sem, RdS.len hd sl22, RdS.idx hd sl22, R1.intB hd (HPres.refl _), RdS.cells hd, RdS.len hm sl23, RdS.idx hm sl23, RdS.cellB hm (HPres.refl _), RdS.cells hm, RdS.len hdy sl22, RdS.idx hdy sl22, R1.intB hdy (HPres.refl _), RdS.cells hdy, RdS.len hmy sl23, RdS.idx hmy sl23, RdS.cellB hmy (HPres.refl _), RdS.cells hmy, BoxAt.cell hb0_0, BoxAt.cell hb0_1]
    refine hK _ _ ?_
    clear hK K
    refine den_ret ?_
    simp (disch := decide) only [resP_1, puts_same, puts_ne]
    exact ⟨vbool (by simp [eqC, c0]), (Ext.trans e0_0 e0_1)⟩
  · try simp only [decide_eq_true_eq, decide_eq_false_iff_not, beq_iff_eq, beq_eq_false_iff_ne, bne_iff_ne, ne_eq, Bool.not_eq_true', Bool.not_eq_false', Bool.and_eq_true, Bool.or_eq_true, bne_eq_false_iff_eq] at c0
    refine den_skip ?_
    refine den_seq ?_
    refine den_seq ?_
    refine den_region TTok ?_
    intro K hK
    simp -implicitDefEqProofs (disch := first | decide | assumption | omega) only [go_sem, fa29_1, ld22, RdS.len hd sl22, RdS.idx hd sl22, R1.intB hd (HPres.refl _), RdS.cells hd, RdS.len hm sl23, RdS.idx hm sl23, RdS.cellB hm (HPres.refl _), RdS.cells hm, RdS.len hdy sl22, RdS.idx hdy sl22, R1.intB hdy (HPres.refl _), RdS.cells hdy, RdS.len hmy sl23, RdS.idx hmy sl23, RdS.cellB hmy (HPres.refl _), RdS.cells hmy, BoxAt.cell hb0_0, BoxAt.cell hb0_1]
    try simp -implicitDefEqProofs (disch := first | decide | assumption | omega) only [go_sem, RdS.len hd sl22, RdS.idx hd sl22, R1.intB hd (HPres.refl _), RdS.cells hd, RdS.len hm sl23, RdS.idx hm sl23, RdS.cellB hm (HPres.refl _), RdS.cells hm, RdS.len hdy sl22, RdS.idx hdy sl22, R1.intB hdy (HPres.refl _), RdS.cells hdy, RdS.len hmy sl23, RdS.idx hmy sl23, RdS.cellB hmy (HPres.refl _), RdS.cells hmy, BoxAt.cell hb0_0, BoxAt.cell hb0_1]
    refine CallA.pure (eqS_ok _ _ _ _ _ hd hdy) ?_
    try simp -implicitDefEqProofs (disch := first | decide | assumption | omega) only [go_sem, RdS.len hd sl22, RdS.idx hd sl22, R1.intB hd (HPres.refl _), RdS.cells hd, RdS.len hm sl23, RdS.idx hm sl23, RdS.cellB hm (HPres.refl _), RdS.cells hm, RdS.len hdy sl22, RdS.idx hdy sl22, R1.intB hdy (HPres.refl _), RdS.cells hdy, RdS.len hmy sl23, RdS.idx hmy sl23, RdS.cellB hmy (HPres.refl _), RdS.cells hmy, BoxAt.cell hb0_0, BoxAt.cell hb0_1]
    refine hK _ _ ?_
    clear hK K
    refine den_cond rfl (fun c1 => ?_) (fun c1 => ?_)
    · try simp only [decide_eq_true_eq, decide_eq_false_iff_not, beq_iff_eq, beq_eq_false_iff_ne, bne_iff_ne, ne_eq, Bool.not_eq_true', Bool.not_eq_false', Bool.and_eq_true, Bool.or_eq_true, bne_eq_false_iff_eq] at c1
      refine den_seq ?_
      refine den_region TTok ?_
      intro K hK
      simp -implicitDefEqProofs (disch := first | decide | assumption | omega) only [go_sem, RdS.len hd sl22, RdS.idx hd sl22, R1.intB hd (HPres.refl _), RdS.cells hd, RdS.len hm sl23, RdS.idx hm sl23, RdS.cellB hm (HPres.refl _), RdS.cells hm, RdS.len hdy sl22, RdS.idx hdy sl22, R1.intB hdy (HPres.refl _), RdS.cells hdy, RdS.len hmy sl23, RdS.idx hmy sl23, RdS.cellB hmy (HPres.refl _), RdS.cells hmy, BoxAt.cell hb0_0, BoxAt.cell hb0_1]
      refine hK _ _ ?_
      clear hK K
      refine den_ret ?_
      simp (disch := decide) only [resP_1, puts_same, puts_ne]
      exact ⟨vbool (by simp [eqC, c1]), (Ext.trans e0_0 e0_1)⟩
    · try simp only [decide_eq_true_eq, decide_eq_false_iff_not, beq_iff_eq, beq_eq_false_iff_ne, bne_iff_ne, ne_eq, Bool.not_eq_true', Bool.not_eq_false', Bool.and_eq_true, Bool.or_eq_true, bne_eq_false_iff_eq] at c1
      refine den_skip ?_
      refine den_seq ?_
      refine den_seq ?_
      refine den_region TTok ?_
      intro K hK
      simp -implicitDefEqProofs (disch := first | decide | assumption | omega) only [go_sem, fa29_2, ld23, RdS.len hd sl22, RdS.idx hd sl22, R1.intB hd (HPres.refl _), RdS.cells hd, RdS.len hm sl23, RdS.idx hm sl23, RdS.cellB hm (HPres.refl _), RdS.cells hm, RdS.len hdy sl22, RdS.idx hdy sl22, R1.intB hdy (HPres.refl _), RdS.cells hdy, RdS.len hmy sl23, RdS.idx hmy sl23, RdS.cellB hmy (HPres.refl _), RdS.cells hmy, BoxAt.cell hb0_0, BoxAt.cell hb0_1]
      try simp -implicitDefEqProofs (disch := first | decide | assumption | omega) only [go_sem, RdS.len hd sl22, RdS.idx hd sl22, R1.intB hd (HPres.refl _), RdS.cells hd, RdS.len hm sl23, RdS.idx hm sl23, RdS.cellB hm (HPres.refl _), RdS.cells hm, RdS.len hdy sl22, RdS.idx hdy sl22, R1.intB hdy (HPres.refl _), RdS.cells hdy, RdS.len hmy sl23, RdS.idx hmy sl23, RdS.cellB hmy (HPres.refl _), RdS.cells hmy, BoxAt.cell hb0_0, BoxAt.cell hb0_1]
      refine CallA.pure (eqSSS_ok _ _ _ _ _ hm hmy) ?_
      try simp -implicitDefEqProofs (disch := first | decide | assumption | omega) only [go_sem, RdS.len hd sl22, RdS.idx hd sl22, R1.intB hd (HPres.refl _), RdS.cells hd, RdS.len hm sl23, RdS.idx hm sl23, RdS.cellB hm (HPres.refl _), RdS.cells hm, RdS.len hdy sl22, RdS.idx hdy sl22, R1.intB hdy (HPres.refl _), RdS.cells hdy, RdS.len hmy sl23, RdS.idx hmy sl23, RdS.cellB hmy (HPres.refl _), RdS.cells hmy, BoxAt.cell hb0_0, BoxAt.cell hb0_1]
      refine hK _ _ ?_
      clear hK K
      refine den_cond rfl (fun c2 => ?_) (fun c2 => ?_)
      · try simp only [decide_eq_true_eq, decide_eq_false_iff_not, beq_iff_eq, beq_eq_false_iff_ne, bne_iff_ne, ne_eq, Bool.not_eq_true', Bool.not_eq_false', Bool.and_eq_true, Bool.or_eq_true, bne_eq_false_iff_eq] at c2
        refine den_seq ?_
        refine den_region TTok ?_
        intro K hK
        simp -implicitDefEqProofs (disch := first | decide | assumption | omega) only [go_sem, RdS.len hd sl22, RdS.idx hd sl22, R1.intB hd (HPres.refl _), RdS.cells hd, RdS.len hm sl23, RdS.idx hm sl23, RdS.cellB hm (HPres.refl _), RdS.cells hm, RdS.len hdy sl22, RdS.idx hdy sl22, R1.intB hdy (HPres.refl _), RdS.cells hdy, RdS.len hmy sl23, RdS.idx hmy sl23, RdS.cellB hmy (HPres.refl _), RdS.cells hmy, BoxAt.cell hb0_0, BoxAt.cell hb0_1]
        refine hK _ _ ?_
        clear hK K
        refine den_ret ?_
        simp (disch := decide) only [resP_1, puts_same, puts_ne]
        exact ⟨vbool (by simp [eqC, c2]), (Ext.trans e0_0 e0_1)⟩
      · try simp only [decide_eq_true_eq, decide_eq_false_iff_not, beq_iff_eq, beq_eq_false_iff_ne, bne_iff_ne, ne_eq, Bool.not_eq_true', Bool.not_eq_false', Bool.and_eq_true, Bool.or_eq_true, bne_eq_false_iff_eq] at c2
        refine den_skip ?_
        refine den_seq ?_
        refine den_region TTok ?_
        intro K hK
        simp -implicitDefEqProofs (disch := first | decide | assumption | omega) only [go_sem, RdS.len hd sl22, RdS.idx hd sl22, R1.intB hd (HPres.refl _), RdS.cells hd, RdS.len hm sl23, RdS.idx hm sl23, RdS.cellB hm (HPres.refl _), RdS.cells hm, RdS.len hdy sl22, RdS.idx hdy sl22, R1.intB hdy (HPres.refl _), RdS.cells hdy, RdS.len hmy sl23, RdS.idx hmy sl23, RdS.cellB hmy (HPres.refl _), RdS.cells hmy, BoxAt.cell hb0_0, BoxAt.cell hb0_1]
        refine hK _ _ ?_
        clear hK K
        refine den_ret ?_
        simp (disch := decide) only [resP_1, puts_same, puts_ne]
        exact ⟨vbool (by simp [eqC, c0, c1, c2]), (Ext.trans e0_0 e0_1)⟩

end Go.Proofs.YtacajcjibhifmaaDoor
