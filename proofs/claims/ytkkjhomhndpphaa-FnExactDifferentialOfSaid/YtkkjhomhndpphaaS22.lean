/-
  Walks: the map of a degree.
  Conditions: each theorem's own.
-/
import Derived.Test.YtkkjhomhndpphaaS21
set_option linter.unusedVariables false
set_option linter.unusedSimpArgs false
namespace Go.Proofs.Ytkkjhomhndpphaa
open Go
def mapP (X : Cx) (n : Int) : List (List Int) := if in3 n 1 ((X.dims.length : Int) - 1) = true then X.maps.getD (n - 1).toNat default else List.replicate (dimP X n).toNat []

set_option maxRecDepth 100000 in
theorem sMap_ok (v : Value) (X : Cx) (n : Int) (h : Heap) (hv : RC h v X) (hC : IsC X) : CallA Try.prog 96 #[v, .int .i64 n] h fun v' h' => R2 h' v' (mapP X n) ∧ Ext h h' := by
  obtain ⟨vd, vm, rfl, hd, hm⟩ := hv
  have hle := RdS.le hd
  have hml := hC.ml
  have hdb := dimP_bnd hC n
  refine callA_intro TTok (args := [_, _]) Try.func96 (by kernel_rfl) rfl 32 rfl (by simp) [.tmp 4] rfl ?_
  simp only [idxs, Nat.reduceAdd]
  refine den_seq ?_
  refine den_region TTok ?_
  intro K hK
  simp -implicitDefEqProofs (disch := first | decide | assumption | omega) only [go_sem, RdS.len hd sl37, RdS.idx hd sl37, R1.intB hd (HPres.refl _), RdS.cells hd, RdS.len hm sl38, RdS.idx hm sl38, RdS.cellB hm (HPres.refl _), RdS.cells hm, wrap_id]
  refine op_box (cs := #[.int .i64 (X.p), vd, vm]) rfl ?_
  intro h0_0 e0_0 hb0_0 z0_0
  replace hd := RdS.pres hd (Ext.pres e0_0)
  replace hm := RdS.pres hm (Ext.pres e0_0)
  try simp -implicitDefEqProofs (disch := first | decide | assumption | omega) only [go_sem, RdS.len hd sl37, RdS.idx hd sl37, R1.intB hd (HPres.refl _), RdS.cells hd, RdS.len hm sl38, RdS.idx hm sl38, RdS.cellB hm (HPres.refl _), RdS.cells hm, BoxAt.cell hb0_0, wrap_id]
  refine hK _ _ ?_
  clear hK K
  refine den_seq ?_
  refine den_seq ?_
  refine den_region TTok ?_
  intro K hK
  simp -implicitDefEqProofs (disch := first | decide | assumption | omega) only [go_sem, fa44_1, ld37, RdS.len hd sl37, RdS.idx hd sl37, R1.intB hd (HPres.refl _), RdS.cells hd, RdS.len hm sl38, RdS.idx hm sl38, RdS.cellB hm (HPres.refl _), RdS.cells hm, BoxAt.cell hb0_0, wrap_id]
  try simp -implicitDefEqProofs (disch := first | decide | assumption | omega) only [go_sem, RdS.len hd sl37, RdS.idx hd sl37, R1.intB hd (HPres.refl _), RdS.cells hd, RdS.len hm sl38, RdS.idx hm sl38, RdS.cellB hm (HPres.refl _), RdS.cells hm, BoxAt.cell hb0_0, wrap_id]
  refine CallA.pure (sIn_ok _ _ _ _) ?_
  try simp -implicitDefEqProofs (disch := first | decide | assumption | omega) only [go_sem, RdS.len hd sl37, RdS.idx hd sl37, R1.intB hd (HPres.refl _), RdS.cells hd, RdS.len hm sl38, RdS.idx hm sl38, RdS.cellB hm (HPres.refl _), RdS.cells hm, BoxAt.cell hb0_0, wrap_id]
  refine hK _ _ ?_
  clear hK K
  refine den_cond rfl (fun c0 => ?_) (fun c0 => ?_)
  · try simp only [decide_eq_true_eq, decide_eq_false_iff_not, beq_iff_eq, beq_eq_false_iff_ne, bne_iff_ne, ne_eq, Bool.not_eq_true', Bool.not_eq_false', Bool.and_eq_true, Bool.or_eq_true, bne_eq_false_iff_eq, in3_iff, in3_f] at c0
    refine den_seq ?_
    refine den_region TTok ?_
    intro K hK
    have hr1 := RdS.rowN hm ((n - (1 : Int))).toNat (by omega)
    have hlhr1 := RdS.le hr1
    simp -implicitDefEqProofs (disch := first | decide | assumption | omega) only [go_sem, fa44_2, ld38, ld65, RdS.len hd sl37, RdS.idx hd sl37, R1.intB hd (HPres.refl _), RdS.cells hd, RdS.len hm sl38, RdS.idx hm sl38, RdS.cellB hm (HPres.refl _), RdS.cells hm, RdS.len hr1 sl65, RdS.idx hr1 sl65, RdS.cellB hr1 (HPres.refl _), RdS.cells hr1, BoxAt.cell hb0_0, wrap_id]
    refine hK _ _ ?_
    clear hK K
    refine den_ret ?_
    simp (disch := decide) only [resP_1, puts_same, puts_ne]
    exact ⟨by rw [mapP, if_pos (in3_iff.2 c0)]; exact RdS.pres (RdS.rowN hm _ (by omega)) (Ext.pres (Ext.refl _)), e0_0⟩
  · try simp only [decide_eq_true_eq, decide_eq_false_iff_not, beq_iff_eq, beq_eq_false_iff_ne, bne_iff_ne, ne_eq, Bool.not_eq_true', Bool.not_eq_false', Bool.and_eq_true, Bool.or_eq_true, bne_eq_false_iff_eq, in3_iff, in3_f] at c0
    refine den_skip ?_
    refine den_seq ?_
    refine den_region TTok ?_
    intro K hK
    simp -implicitDefEqProofs (disch := first | decide | assumption | omega) only [go_sem, RdS.len hd sl37, RdS.idx hd sl37, R1.intB hd (HPres.refl _), RdS.cells hd, RdS.len hm sl38, RdS.idx hm sl38, RdS.cellB hm (HPres.refl _), RdS.cells hm, BoxAt.cell hb0_0, wrap_id]
    refine op_bs0 sz65 O1 ?_
    intro v3_0 h3_0 ho3_0 e3_0
    have := Ext.size e3_0
    have eB := e3_0
    try simp -implicitDefEqProofs (disch := first | decide | assumption | omega) only [go_sem, RdS.len hd sl37, RdS.idx hd sl37, R1.intB hd (Ext.pres eB), RdS.cells hd, RdS.len hm sl38, RdS.idx hm sl38, RdS.cellB hm (Ext.pres eB), RdS.cells hm, RdS.len (OS.rd ho3_0) sl65, RdS.idx (OS.rd ho3_0) sl65, RdS.cellN (OS.rd ho3_0), RdS.cells (OS.rd ho3_0), BoxAt.cellB hb0_0 eB, wrap_id]
    refine hK _ _ ?_
    clear hK K
    refine den_seq ?_
    refine den_seq ?_
    refine den_region TTok ?_
    intro K hK
    simp -implicitDefEqProofs (disch := first | decide | assumption | omega) only [go_sem, RdS.len hd sl37, RdS.idx hd sl37, R1.intB hd (Ext.pres eB), RdS.cells hd, RdS.len hm sl38, RdS.idx hm sl38, RdS.cellB hm (Ext.pres eB), RdS.cells hm, RdS.len (OS.rd ho3_0) sl65, RdS.idx (OS.rd ho3_0) sl65, RdS.cellN (OS.rd ho3_0), RdS.cells (OS.rd ho3_0), BoxAt.cellB hb0_0 eB, wrap_id]
    refine hK _ _ ?_
    clear hK K
    refine den_block ?_
    refine den_sel [5, 6, 1, 2] ?_
    intro env_2
    simp only [go_sem]
    refine den_loopS (σ := Nat × Value × List Nat) (fun s => [(5, s.2.1), (6, .int .i64 (s.1 : Int))]) (fun s H => Ext h0_0 H ∧ (s.1 : Int) ≤ dimP X n ∧ O2 H s.2.1 (List.replicate s.1 []) s.2.2 ∧ Fresh h0_0.size s.2.2) (fun s => (dimP X n).toNat - s.1) (0, v3_0, [h0_0.size]) ?_ ?_
    · exact ⟨eB, by dsimp only; omega, by simpa using ho3_0, (Fresh.one _).mono (by omega)⟩
    · rintro ⟨k, vI, fpI⟩ h5 ee4 ⟨eB, hk, hI, hfI⟩
      simp only [List.cons_append, List.nil_append]
      have := Ext.size eB
      dsimp only at hk hI hfI
      refine den_seq ?_
      refine den_seq ?_
      refine den_region TTok ?_
      intro K hK
      simp -implicitDefEqProofs (disch := first | decide | assumption | omega) only [go_sem, ld44, RdS.len hd sl37, RdS.idx hd sl37, R1.intB hd (Ext.pres eB), RdS.cells hd, RdS.len hm sl38, RdS.idx hm sl38, RdS.cellB hm (Ext.pres eB), RdS.cells hm, RdS.len (OS.rd hI) sl65, RdS.idx (OS.rd hI) sl65, RdS.cellN (OS.rd hI), RdS.cells (OS.rd hI), BoxAt.cellB hb0_0 eB, wrap_id]
      try simp -implicitDefEqProofs (disch := first | decide | assumption | omega) only [go_sem, RdS.len hd sl37, RdS.idx hd sl37, R1.intB hd (Ext.pres eB), RdS.cells hd, RdS.len hm sl38, RdS.idx hm sl38, RdS.cellB hm (Ext.pres eB), RdS.cells hm, RdS.len (OS.rd hI) sl65, RdS.idx (OS.rd hI) sl65, RdS.cellN (OS.rd hI), RdS.cells (OS.rd hI), BoxAt.cellB hb0_0 eB, wrap_id]
      refine CallA.mono (sDim_ok _ X _ _ ⟨_, _, rfl, (RdS.pres hd (Ext.pres eB)), (RdS.pres hm (Ext.pres eB))⟩) ?_
      intro v_ h5_3
      rintro ⟨rfl, e5_3⟩
      replace hI := OS.ext hI e5_3
      have := Ext.size e5_3
      replace eB := Ext.trans eB e5_3
      try simp -implicitDefEqProofs (disch := first | decide | assumption | omega) only [go_sem, RdS.len hd sl37, RdS.idx hd sl37, R1.intB hd (Ext.pres eB), RdS.cells hd, RdS.len hm sl38, RdS.idx hm sl38, RdS.cellB hm (Ext.pres eB), RdS.cells hm, RdS.len (OS.rd hI) sl65, RdS.idx (OS.rd hI) sl65, RdS.cellN (OS.rd hI), RdS.cells (OS.rd hI), BoxAt.cellB hb0_0 eB, wrap_id]
      refine hK _ _ ?_
      clear hK K
      refine den_cond rfl (fun c1 => ?_) (fun c1 => ?_)
      · try simp only [decide_eq_true_eq, decide_eq_false_iff_not, beq_iff_eq, beq_eq_false_iff_ne, bne_iff_ne, ne_eq, Bool.not_eq_true', Bool.not_eq_false', Bool.and_eq_true, Bool.or_eq_true, bne_eq_false_iff_eq, in3_iff, in3_f] at c1
        refine den_skip ?_
        refine den_seq ?_
        refine den_block ?_
        have hlI := OS.lt hI
        refine den_region TTok ?_
        intro K hK
        simp -implicitDefEqProofs (disch := first | decide | assumption | omega) only [go_sem, RdS.len hd sl37, RdS.idx hd sl37, R1.intB hd (Ext.pres eB), RdS.cells hd, RdS.len hm sl38, RdS.idx hm sl38, RdS.cellB hm (Ext.pres eB), RdS.cells hm, RdS.len (OS.rd hI) sl65, RdS.idx (OS.rd hI) sl65, RdS.cellN (OS.rd hI), RdS.cells (OS.rd hI), BoxAt.cellB hb0_0 eB, wrap_id]
        refine op_bs0 sz37 OI ?_
        intro v7_1 h7_1 ho7_1 e7_1
        replace hI := OS.ext hI e7_1
        have := Ext.size e7_1
        replace eB := Ext.trans eB e7_1
        try simp -implicitDefEqProofs (disch := first | decide | assumption | omega) only [go_sem, RdS.len hd sl37, RdS.idx hd sl37, R1.intB hd (Ext.pres eB), RdS.cells hd, RdS.len hm sl38, RdS.idx hm sl38, RdS.cellB hm (Ext.pres eB), RdS.cells hm, RdS.len (OS.rd hI) sl65, RdS.idx (OS.rd hI) sl65, RdS.cellN (OS.rd hI), RdS.cells (OS.rd hI), RdS.len (OS.rd ho7_1) sl37, RdS.idx (OS.rd ho7_1) sl37, R1.intN (OS.rd ho7_1), RdS.cells (OS.rd ho7_1), BoxAt.cellB hb0_0 eB, wrap_id]
        refine op_bs1 sz65 rfl (OS.one ho7_1).2 ?_
        try simp -implicitDefEqProofs (disch := first | decide | assumption | omega) only [go_sem, RdS.len hd sl37, RdS.idx hd sl37, R1.intB hd (Ext.pres eB), RdS.cells hd, RdS.len hm sl38, RdS.idx hm sl38, RdS.cellB hm (Ext.pres eB), RdS.cells hm, RdS.len (OS.rd hI) sl65, RdS.idx (OS.rd hI) sl65, RdS.cellN (OS.rd hI), RdS.cells (OS.rd hI), RdS.len (OS.rd ho7_1) sl37, RdS.idx (OS.rd ho7_1) sl37, R1.intN (OS.rd ho7_1), RdS.cells (OS.rd ho7_1), BoxAt.cellB hb0_0 eB, wrap_id]
        refine op_append1 sz65 hI hfI.nodup ho7_1 (by simp) (apart_new (by simpa using hlI)) (by simp; omega) rfl rfl ?_
        intro v7 h7 fp7 ho7 hn7 hs7 c7
        replace eB := Ext.then eB c7 (fun b hb => Nat.le_trans (by omega) (hfI.ge b hb))
        rw [← List.replicate_succ'] at ho7
        try simp -implicitDefEqProofs (disch := first | decide | assumption | omega) only [go_sem, RdS.len hd sl37, RdS.idx hd sl37, R1.intB hd (Ext.pres eB), RdS.cells hd, RdS.len hm sl38, RdS.idx hm sl38, RdS.cellB hm (Ext.pres eB), RdS.cells hm, RdS.len (OS.rd hI) sl65, RdS.idx (OS.rd hI) sl65, RdS.cellN (OS.rd hI), RdS.cells (OS.rd hI), RdS.len (OS.rd ho7_1) sl37, RdS.idx (OS.rd ho7_1) sl37, R1.intN (OS.rd ho7_1), RdS.cells (OS.rd ho7_1), BoxAt.cellB hb0_0 eB, wrap_id]
        refine hK _ _ ?_
        clear hK K
        refine den_blk ?_
        refine den_region TTok ?_
        intro K hK
        simp -implicitDefEqProofs (disch := first | decide | assumption | omega) only [go_sem, RdS.len hd sl37, RdS.idx hd sl37, R1.intB hd (Ext.pres eB), RdS.cells hd, RdS.len hm sl38, RdS.idx hm sl38, RdS.cellB hm (Ext.pres eB), RdS.cells hm, RdS.len (OS.rd hI) sl65, RdS.idx (OS.rd hI) sl65, RdS.cellN (OS.rd hI), RdS.cells (OS.rd hI), RdS.len (OS.rd ho7_1) sl37, RdS.idx (OS.rd ho7_1) sl37, R1.intN (OS.rd ho7_1), RdS.cells (OS.rd ho7_1), BoxAt.cellB hb0_0 eB, wrap_id]
        refine hK _ _ ?_
        clear hK K
        refine den_stop ?_
        exact ⟨(k + 1, v7, fp7), by simp [HasL, puts_at], ⟨eB, by dsimp only; omega, ho7, hfI.app ((Fresh.one _).mono (by omega)) (by omega) hn7 hs7⟩, by dsimp only; omega⟩
      · try simp only [decide_eq_true_eq, decide_eq_false_iff_not, beq_iff_eq, beq_eq_false_iff_ne, bne_iff_ne, ne_eq, Bool.not_eq_true', Bool.not_eq_false', Bool.and_eq_true, Bool.or_eq_true, bne_eq_false_iff_eq, in3_iff, in3_f] at c1
        refine den_exit ?_
        refine denX_code ?_
        refine denX_stop ?_
        refine denX_hit ?_
        refine den_seq ?_
        refine den_region TTok ?_
        intro K hK
        simp -implicitDefEqProofs (disch := first | decide | assumption | omega) only [go_sem, RdS.len hd sl37, RdS.idx hd sl37, R1.intB hd (Ext.pres eB), RdS.cells hd, RdS.len hm sl38, RdS.idx hm sl38, RdS.cellB hm (Ext.pres eB), RdS.cells hm, RdS.len (OS.rd hI) sl65, RdS.idx (OS.rd hI) sl65, RdS.cellN (OS.rd hI), RdS.cells (OS.rd hI), BoxAt.cellB hb0_0 eB, wrap_id]
        refine hK _ _ ?_
        clear hK K
        refine den_ret ?_
        simp (disch := decide) only [resP_1, puts_same, puts_ne]
        have e : (dimP X n).toNat = k := by omega
        exact ⟨by rw [mapP, if_neg (by rw [in3_iff]; omega), e]; exact OS.rd hI, (Ext.trans e0_0 eB)⟩

end Go.Proofs.Ytkkjhomhndpphaa
