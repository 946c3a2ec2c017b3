/-
  Walks, second part: copies of the arguments, comparisons.
  Conditions: each theorem's own.
-/
import Derived.Test.YtacajcjibhifmaaDoorS1
import Derived.Test.YtacajcjibhifmaaDoorG13
set_option linter.unusedVariables false
set_option linter.unusedSimpArgs false
namespace Go.Proofs.YtacajcjibhifmaaDoor
open Go
def HM1 (xs : List Int) : Prop := (xs.length : Int) ≤ 1048576
def HM2 (R : List (List Int)) : Prop := (R.length : Int) ≤ 1048576 ∧ ∀ r ∈ R, HM1 r
def HM3 (R : List (List (List Int))) : Prop := (R.length : Int) ≤ 1048576 ∧ ∀ r ∈ R, HM2 r
theorem HM2.len {R : List (List Int)} (h : HM2 R) : (R.length : Int) ≤ 1048576 := h.1
theorem HM3.len {R : List (List (List Int))} (h : HM3 R) : (R.length : Int) ≤ 1048576 := h.1
theorem getD_mem {α : Type} [Inhabited α] {R : List α} {k : Nat} (hk : k < R.length) : R.getD k default ∈ R := by rw [List.getD_eq_getElem?_getD, List.getElem?_eq_getElem hk]; exact List.getElem_mem hk
theorem HM2.at {R : List (List Int)} (h : HM2 R) (k : Nat) (hk : k < R.length) : HM1 (R.getD k default) := h.2 _ (getD_mem hk)
theorem HM3.at {R : List (List (List Int))} (h : HM3 R) (k : Nat) (hk : k < R.length) : HM2 (R.getD k default) := h.2 _ (getD_mem hk)
theorem repl_len (m : Nat) : ((m : Int)).toNat = m := by omega

set_option maxRecDepth 100000 in
theorem toS_ok (v : Value) (xs : List Int) (h : Heap) (hv : R1 h v xs) (hm : (xs.length : Int) ≤ 1048576) : CallA Tryd.prog 13 #[v] h fun v h' => ∃ fp, O1 h' v xs fp ∧ Fresh h.size fp ∧ Ext h h' := by
  refine callA_intro TTok (args := [_]) Tryd.func13 (by kernel_rfl) rfl 22 rfl (by simp) [.tmp 2] rfl ?_
  simp only [idxs, Nat.reduceAdd]
  refine den_seq ?_
  refine den_region TTok ?_
  intro K hK
  simp -implicitDefEqProofs (disch := first | decide | assumption | omega) only [go_sem, RdS.len hv sl22, RdS.idx hv sl22, R1.intB hv (HPres.refl _), RdS.cells hv, wrap_id]
  refine hK _ _ ?_
  clear hK K
  refine den_seq ?_
  refine den_region TTok ?_
  intro K hK
  simp -implicitDefEqProofs (disch := first | decide | assumption | omega) only [go_sem, RdS.len hv sl22, RdS.idx hv sl22, R1.intB hv (HPres.refl _), RdS.cells hv, wrap_id]
  refine op_make sz22 rfl rfl (by omega) (by omega) OI 0 (fun _ => ⟨rfl, rfl⟩) ?_
  intro v1_2 h1_2 ho1_2 e1_2
  have := Ext.size e1_2
  have eB := e1_2
  try simp -implicitDefEqProofs (disch := first | decide | assumption | omega) only [go_sem, RdS.len hv sl22, RdS.idx hv sl22, R1.intB hv (Ext.pres eB), RdS.cells hv, RdS.len (OS.rd ho1_2) sl22, RdS.idx (OS.rd ho1_2) sl22, R1.intN (OS.rd ho1_2), RdS.cells (OS.rd ho1_2), wrap_id]
  refine hK _ _ ?_
  clear hK K
  refine den_seq ?_
  refine den_seq ?_
  refine den_region TTok ?_
  intro K hK
  simp -implicitDefEqProofs (disch := first | decide | assumption | omega) only [go_sem, RdS.len hv sl22, RdS.idx hv sl22, R1.intB hv (Ext.pres eB), RdS.cells hv, RdS.len (OS.rd ho1_2) sl22, RdS.idx (OS.rd ho1_2) sl22, R1.intN (OS.rd ho1_2), RdS.cells (OS.rd ho1_2), wrap_id]
  refine hK _ _ ?_
  clear hK K
  refine den_block ?_
  refine den_sel [4, 0, 3] ?_
  intro env_1
  simp only [go_sem]
  refine den_loopS (σ := Nat) (fun s => [(4, .int .i64 (s : Int))]) (fun s H => Ext h H ∧ s ≤ xs.length ∧ O1 H v1_2 (xs.take s ++ List.replicate (xs.length - s) 0) [h.size]) (fun s => xs.length - s) 0 ?_ ?_
  · exact ⟨eB, by omega, by rw [fill_zero]; simpa using ho1_2⟩
  · rintro k h4 ee3 ⟨eB, hk, ho⟩
    simp only [List.cons_append, List.nil_append]
    have := Ext.size eB
    refine den_seq ?_
    refine den_seq ?_
    refine den_region TTok ?_
    intro K hK
    simp -implicitDefEqProofs (disch := first | decide | assumption | omega) only [go_sem, RdS.len hv sl22, RdS.idx hv sl22, R1.intB hv (Ext.pres eB), RdS.cells hv, RdS.len (OS.rd ho) sl22, RdS.idx (OS.rd ho) sl22, R1.intN (OS.rd ho), RdS.cells (OS.rd ho), wrap_id]
    refine hK _ _ ?_
    clear hK K
    refine den_cond rfl (fun c0 => ?_) (fun c0 => ?_)
    · try simp only [decide_eq_true_eq, decide_eq_false_iff_not, beq_iff_eq, beq_eq_false_iff_ne, bne_iff_ne, ne_eq, Bool.not_eq_true', Bool.not_eq_false', Bool.and_eq_true, Bool.or_eq_true, bne_eq_false_iff_eq] at c0
      refine den_skip ?_
      refine den_seq ?_
      refine den_block ?_
      have hlen := fill_len xs 0 k hk
      refine den_region TTok ?_
      intro K hK
      simp -implicitDefEqProofs (disch := first | decide | assumption | omega) only [go_sem, ld2, RdS.len hv sl22, RdS.idx hv sl22, R1.intB hv (Ext.pres eB), RdS.cells hv, RdS.len (OS.rd ho) sl22, RdS.idx (OS.rd ho) sl22, R1.intN (OS.rd ho), RdS.cells (OS.rd ho), wrap_id]
      refine op_store1 (j := k) st2 ho (by simp) (by omega) rfl rfl ?_
      intro h8 ho8 c8
      replace eB := Ext.then eB c8 (fun b hb => by simp at hb; omega)
      rw [fill_step xs 0 0 k (by omega)] at ho8
      try simp -implicitDefEqProofs (disch := first | decide | assumption | omega) only [go_sem, RdS.len hv sl22, RdS.idx hv sl22, R1.intB hv (Ext.pres eB), RdS.cells hv, RdS.len (OS.rd ho) sl22, RdS.idx (OS.rd ho) sl22, R1.intN (OS.rd ho), RdS.cells (OS.rd ho), wrap_id]
      refine hK _ _ ?_
      clear hK K
      refine den_blk ?_
      refine den_region TTok ?_
      intro K hK
      simp -implicitDefEqProofs (disch := first | decide | assumption | omega) only [go_sem, RdS.len hv sl22, RdS.idx hv sl22, R1.intB hv (Ext.pres eB), RdS.cells hv, RdS.len (OS.rd ho) sl22, RdS.idx (OS.rd ho) sl22, R1.intN (OS.rd ho), RdS.cells (OS.rd ho), wrap_id]
      refine hK _ _ ?_
      clear hK K
      refine den_stop ?_
      exact ⟨k + 1, by simp [HasL, puts_at], ⟨eB, by omega, ho8⟩, by omega⟩
    · try simp only [decide_eq_true_eq, decide_eq_false_iff_not, beq_iff_eq, beq_eq_false_iff_ne, bne_iff_ne, ne_eq, Bool.not_eq_true', Bool.not_eq_false', Bool.and_eq_true, Bool.or_eq_true, bne_eq_false_iff_eq] at c0
      refine den_exit ?_
      refine denX_code ?_
      refine denX_stop ?_
      refine denX_hit ?_
      refine den_seq ?_
      refine den_region TTok ?_
      intro K hK
      simp -implicitDefEqProofs (disch := first | decide | assumption | omega) only [go_sem, RdS.len hv sl22, RdS.idx hv sl22, R1.intB hv (Ext.pres eB), RdS.cells hv, RdS.len (OS.rd ho) sl22, RdS.idx (OS.rd ho) sl22, R1.intN (OS.rd ho), RdS.cells (OS.rd ho), wrap_id]
      refine hK _ _ ?_
      clear hK K
      refine den_ret ?_
      simp (disch := decide) only [resP_1, puts_same, puts_ne]
      rw [fill_end _ _ _ (by omega)] at ho
      exact ⟨_, ho, Fresh.one _, eB⟩

set_option maxRecDepth 100000 in
theorem toSS_ok (v : Value) (R : List (List Int)) (h : Heap) (hv : R2 h v R) (hm : HM2 R) : CallA Tryd.prog 27 #[v] h fun v h' => ∃ fp, O2 h' v R fp ∧ Fresh h.size fp ∧ Ext h h' := by
  have hml := HM2.len hm
  refine callA_intro TTok (args := [_]) Tryd.func27 (by kernel_rfl) rfl 23 rfl (by simp) [.tmp 2] rfl ?_
  simp only [idxs, Nat.reduceAdd]
  refine den_seq ?_
  refine den_region TTok ?_
  intro K hK
  simp -implicitDefEqProofs (disch := first | decide | assumption | omega) only [go_sem, RdS.len hv sl43, RdS.idx hv sl43, RdS.cellB hv (HPres.refl _), RdS.cells hv, wrap_id]
  refine hK _ _ ?_
  clear hK K
  refine den_seq ?_
  refine den_region TTok ?_
  intro K hK
  simp -implicitDefEqProofs (disch := first | decide | assumption | omega) only [go_sem, RdS.len hv sl43, RdS.idx hv sl43, RdS.cellB hv (HPres.refl _), RdS.cells hv, wrap_id]
  refine op_make sz43 rfl rfl (by omega) (by omega) O1 [] (fun _ => OS.nil) ?_
  intro v1_2 h1_2 ho1_2 e1_2
  have := Ext.size e1_2
  have eB := e1_2
  try simp -implicitDefEqProofs (disch := first | decide | assumption | omega) only [go_sem, RdS.len hv sl43, RdS.idx hv sl43, RdS.cellB hv (Ext.pres eB), RdS.cells hv, RdS.len (OS.rd ho1_2) sl43, RdS.idx (OS.rd ho1_2) sl43, RdS.cellN (OS.rd ho1_2), RdS.cells (OS.rd ho1_2), wrap_id]
  refine hK _ _ ?_
  clear hK K
  refine den_seq ?_
  refine den_seq ?_
  refine den_region TTok ?_
  intro K hK
  simp -implicitDefEqProofs (disch := first | decide | assumption | omega) only [go_sem, RdS.len hv sl43, RdS.idx hv sl43, RdS.cellB hv (Ext.pres eB), RdS.cells hv, RdS.len (OS.rd ho1_2) sl43, RdS.idx (OS.rd ho1_2) sl43, RdS.cellN (OS.rd ho1_2), RdS.cells (OS.rd ho1_2), wrap_id]
  refine hK _ _ ?_
  clear hK K
  refine den_block ?_
  refine den_sel [4, 0, 3] ?_
  intro env_1
  simp only [go_sem]
  refine den_loopS (σ := Nat) (fun s => [(4, .int .i64 (s : Int))]) (fun s H => Ext h H ∧ s ≤ R.length ∧ ∃ fp, O2 H v1_2 (R.take s ++ List.replicate (R.length - s) []) fp ∧ Fresh h.size fp) (fun s => R.length - s) 0 ?_ ?_
  · exact ⟨eB, by omega, _, by rw [fill_zero]; simpa using ho1_2, Fresh.one _⟩
  · rintro k h4 ee3 ⟨eB, hk, fp, ho, hf⟩
    simp only [List.cons_append, List.nil_append]
    have := Ext.size eB
    refine den_seq ?_
    refine den_seq ?_
    refine den_region TTok ?_
    intro K hK
    simp -implicitDefEqProofs (disch := first | decide | assumption | omega) only [go_sem, RdS.len hv sl43, RdS.idx hv sl43, RdS.cellB hv (Ext.pres eB), RdS.cells hv, RdS.len (OS.rd ho) sl43, RdS.idx (OS.rd ho) sl43, RdS.cellN (OS.rd ho), RdS.cells (OS.rd ho), wrap_id]
    refine hK _ _ ?_
    clear hK K
    refine den_cond rfl (fun c0 => ?_) (fun c0 => ?_)
    · try simp only [decide_eq_true_eq, decide_eq_false_iff_not, beq_iff_eq, beq_eq_false_iff_ne, bne_iff_ne, ne_eq, Bool.not_eq_true', Bool.not_eq_false', Bool.and_eq_true, Bool.or_eq_true, bne_eq_false_iff_eq] at c0
      refine den_skip ?_
      refine den_seq ?_
      refine den_block ?_
      have hlen := fill_len R [] k hk
      refine den_region TTok ?_
      intro K hK
      have hr5 := RdS.rowN hv k (by omega)
      have hlhr5 := RdS.le hr5
      simp -implicitDefEqProofs (disch := first | decide | assumption | omega) only [go_sem, ld22, RdS.len hv sl43, RdS.idx hv sl43, RdS.cellB hv (Ext.pres eB), RdS.cells hv, RdS.len hr5 sl22, RdS.idx hr5 sl22, R1.intB hr5 (Ext.pres eB), RdS.cells hr5, RdS.len (OS.rd ho) sl43, RdS.idx (OS.rd ho) sl43, RdS.cellN (OS.rd ho), RdS.cells (OS.rd ho), wrap_id]
      try simp -implicitDefEqProofs (disch := first | decide | assumption | omega) only [go_sem, RdS.len hv sl43, RdS.idx hv sl43, RdS.cellB hv (Ext.pres eB), RdS.cells hv, RdS.len hr5 sl22, RdS.idx hr5 sl22, R1.intB hr5 (Ext.pres eB), RdS.cells hr5, RdS.len (OS.rd ho) sl43, RdS.idx (OS.rd ho) sl43, RdS.cellN (OS.rd ho), RdS.cells (OS.rd ho), wrap_id]
      have hlt := OS.lt ho
      have hs0 := eB.size
      refine CallA.mono (toS_ok _ _ _ (RdS.pres hr5 (Ext.pres eB)) (HM2.at hm k (by omega))) ?_
      intro v_ h5_6
      rintro ⟨f5_6, ho5_6, hf5_6, e5_6⟩
      replace ho := OS.ext ho e5_6
      have := Ext.size e5_6
      replace eB := Ext.trans eB e5_6
      try simp -implicitDefEqProofs (disch := first | decide | assumption | omega) only [go_sem, RdS.len hv sl43, RdS.idx hv sl43, RdS.cellB hv (Ext.pres eB), RdS.cells hv, RdS.len hr5 sl22, RdS.idx hr5 sl22, R1.intB hr5 (Ext.pres eB), RdS.cells hr5, RdS.len (OS.rd ho) sl43, RdS.idx (OS.rd ho) sl43, RdS.cellN (OS.rd ho), RdS.cells (OS.rd ho), wrap_id]
      refine op_put (j := k) st22 ho hf.nodup (by omega) ho5_6 hf5_6.nodup (Fresh.apart hlt hf5_6) rfl rfl ?_
      intro h8 fp8 ho8 hn8 hs8 c8
      replace eB := Ext.then eB c8 hf.ge
      rw [fill_step R [] default k (by omega)] at ho8
      try simp -implicitDefEqProofs (disch := first | decide | assumption | omega) only [go_sem, RdS.len hv sl43, RdS.idx hv sl43, RdS.cellB hv (Ext.pres eB), RdS.cells hv, RdS.len hr5 sl22, RdS.idx hr5 sl22, R1.intB hr5 (Ext.pres eB), RdS.cells hr5, RdS.len (OS.rd ho) sl43, RdS.idx (OS.rd ho) sl43, RdS.cellN (OS.rd ho), RdS.cells (OS.rd ho), wrap_id]
      refine hK _ _ ?_
      clear hK K
      refine den_blk ?_
      refine den_region TTok ?_
      intro K hK
      simp -implicitDefEqProofs (disch := first | decide | assumption | omega) only [go_sem, RdS.len hv sl43, RdS.idx hv sl43, RdS.cellB hv (Ext.pres eB), RdS.cells hv, RdS.len hr5 sl22, RdS.idx hr5 sl22, R1.intB hr5 (Ext.pres eB), RdS.cells hr5, RdS.len (OS.rd ho) sl43, RdS.idx (OS.rd ho) sl43, RdS.cellN (OS.rd ho), RdS.cells (OS.rd ho), wrap_id]
      refine hK _ _ ?_
      clear hK K
      refine den_stop ?_
      exact ⟨k + 1, by simp [HasL, puts_at], ⟨eB, by omega, fp8, ho8, hf.put hf5_6 hs0 hn8 hs8⟩, by omega⟩
    · try simp only [decide_eq_true_eq, decide_eq_false_iff_not, beq_iff_eq, beq_eq_false_iff_ne, bne_iff_ne, ne_eq, Bool.not_eq_true', Bool.not_eq_false', Bool.and_eq_true, Bool.or_eq_true, bne_eq_false_iff_eq] at c0
      refine den_exit ?_
      refine denX_code ?_
      refine denX_stop ?_
      refine denX_hit ?_
      refine den_seq ?_
      refine den_region TTok ?_
      intro K hK
      simp -implicitDefEqProofs (disch := first | decide | assumption | omega) only [go_sem, RdS.len hv sl43, RdS.idx hv sl43, RdS.cellB hv (Ext.pres eB), RdS.cells hv, RdS.len (OS.rd ho) sl43, RdS.idx (OS.rd ho) sl43, RdS.cellN (OS.rd ho), RdS.cells (OS.rd ho), wrap_id]
      refine hK _ _ ?_
      clear hK K
      refine den_ret ?_
      simp (disch := decide) only [resP_1, puts_same, puts_ne]
      rw [fill_end _ _ _ (by omega)] at ho
      exact ⟨_, ho, hf, eB⟩

set_option maxRecDepth 100000 in
theorem toSSS_ok (v : Value) (R : List (List (List Int))) (h : Heap) (hv : R3 h v R) (hm : HM3 R) : CallA Tryd.prog 14 #[v] h fun v h' => ∃ fp, O3 h' v R fp ∧ Fresh h.size fp ∧ Ext h h' := by
  have hml := HM3.len hm
  refine callA_intro TTok (args := [_]) Tryd.func14 (by kernel_rfl) rfl 23 rfl (by simp) [.tmp 2] rfl ?_
  simp only [idxs, Nat.reduceAdd]
  refine den_seq ?_
  refine den_region TTok ?_
  intro K hK
  simp -implicitDefEqProofs (disch := first | decide | assumption | omega) only [go_sem, RdS.len hv sl23, RdS.idx hv sl23, RdS.cellB hv (HPres.refl _), RdS.cells hv, wrap_id]
  refine hK _ _ ?_
  clear hK K
  refine den_seq ?_
  refine den_region TTok ?_
  intro K hK
  simp -implicitDefEqProofs (disch := first | decide | assumption | omega) only [go_sem, RdS.len hv sl23, RdS.idx hv sl23, RdS.cellB hv (HPres.refl _), RdS.cells hv, wrap_id]
  refine op_make sz23 rfl rfl (by omega) (by omega) O2 [] (fun _ => OS.nil) ?_
  intro v1_2 h1_2 ho1_2 e1_2
  have := Ext.size e1_2
  have eB := e1_2
  try simp -implicitDefEqProofs (disch := first | decide | assumption | omega) only [go_sem, RdS.len hv sl23, RdS.idx hv sl23, RdS.cellB hv (Ext.pres eB), RdS.cells hv, RdS.len (OS.rd ho1_2) sl23, RdS.idx (OS.rd ho1_2) sl23, RdS.cellN (OS.rd ho1_2), RdS.cells (OS.rd ho1_2), wrap_id]
  refine hK _ _ ?_
  clear hK K
  refine den_seq ?_
  refine den_seq ?_
  refine den_region TTok ?_
  intro K hK
  simp -implicitDefEqProofs (disch := first | decide | assumption | omega) only [go_sem, RdS.len hv sl23, RdS.idx hv sl23, RdS.cellB hv (Ext.pres eB), RdS.cells hv, RdS.len (OS.rd ho1_2) sl23, RdS.idx (OS.rd ho1_2) sl23, RdS.cellN (OS.rd ho1_2), RdS.cells (OS.rd ho1_2), wrap_id]
  refine hK _ _ ?_
  clear hK K
  refine den_block ?_
  refine den_sel [4, 0, 3] ?_
  intro env_1
  simp only [go_sem]
  refine den_loopS (σ := Nat) (fun s => [(4, .int .i64 (s : Int))]) (fun s H => Ext h H ∧ s ≤ R.length ∧ ∃ fp, O3 H v1_2 (R.take s ++ List.replicate (R.length - s) []) fp ∧ Fresh h.size fp) (fun s => R.length - s) 0 ?_ ?_
  · exact ⟨eB, by omega, _, by rw [fill_zero]; simpa using ho1_2, Fresh.one _⟩
  · rintro k h4 ee3 ⟨eB, hk, fp, ho, hf⟩
    simp only [List.cons_append, List.nil_append]
    have := Ext.size eB
    refine den_seq ?_
    refine den_seq ?_
    refine den_region TTok ?_
    intro K hK
    simp -implicitDefEqProofs (disch := first | decide | assumption | omega) only [go_sem, RdS.len hv sl23, RdS.idx hv sl23, RdS.cellB hv (Ext.pres eB), RdS.cells hv, RdS.len (OS.rd ho) sl23, RdS.idx (OS.rd ho) sl23, RdS.cellN (OS.rd ho), RdS.cells (OS.rd ho), wrap_id]
    refine hK _ _ ?_
    clear hK K
    refine den_cond rfl (fun c0 => ?_) (fun c0 => ?_)
    · try simp only [decide_eq_true_eq, decide_eq_false_iff_not, beq_iff_eq, beq_eq_false_iff_ne, bne_iff_ne, ne_eq, Bool.not_eq_true', Bool.not_eq_false', Bool.and_eq_true, Bool.or_eq_true, bne_eq_false_iff_eq] at c0
      refine den_skip ?_
      refine den_seq ?_
      refine den_block ?_
      have hlen := fill_len R [] k hk
      refine den_region TTok ?_
      intro K hK
      have hr5 := RdS.rowN hv k (by omega)
      have hlhr5 := RdS.le hr5
      simp -implicitDefEqProofs (disch := first | decide | assumption | omega) only [go_sem, ld43, RdS.len hv sl23, RdS.idx hv sl23, RdS.cellB hv (Ext.pres eB), RdS.cells hv, RdS.len hr5 sl43, RdS.idx hr5 sl43, RdS.cellB hr5 (Ext.pres eB), RdS.cells hr5, RdS.len (OS.rd ho) sl23, RdS.idx (OS.rd ho) sl23, RdS.cellN (OS.rd ho), RdS.cells (OS.rd ho), wrap_id]
      try simp -implicitDefEqProofs (disch := first | decide | assumption | omega) only [go_sem, RdS.len hv sl23, RdS.idx hv sl23, RdS.cellB hv (Ext.pres eB), RdS.cells hv, RdS.len hr5 sl43, RdS.idx hr5 sl43, RdS.cellB hr5 (Ext.pres eB), RdS.cells hr5, RdS.len (OS.rd ho) sl23, RdS.idx (OS.rd ho) sl23, RdS.cellN (OS.rd ho), RdS.cells (OS.rd ho), wrap_id]
      have hlt := OS.lt ho
      have hs0 := eB.size
      refine CallA.mono (toSS_ok _ _ _ (RdS.pres hr5 (Ext.pres eB)) (HM3.at hm k (by omega))) ?_
      intro v_ h5_6
      rintro ⟨f5_6, ho5_6, hf5_6, e5_6⟩
      replace ho := OS.ext ho e5_6
      have := Ext.size e5_6
      replace eB := Ext.trans eB e5_6
      try simp -implicitDefEqProofs (disch := first | decide | assumption | omega) only [go_sem, RdS.len hv sl23, RdS.idx hv sl23, RdS.cellB hv (Ext.pres eB), RdS.cells hv, RdS.len hr5 sl43, RdS.idx hr5 sl43, RdS.cellB hr5 (Ext.pres eB), RdS.cells hr5, RdS.len (OS.rd ho) sl23, RdS.idx (OS.rd ho) sl23, RdS.cellN (OS.rd ho), RdS.cells (OS.rd ho), wrap_id]
      refine op_put (j := k) st43 ho hf.nodup (by omega) ho5_6 hf5_6.nodup (Fresh.apart hlt hf5_6) rfl rfl ?_
      intro h8 fp8 ho8 hn8 hs8 c8
      replace eB := Ext.then eB c8 hf.ge
      rw [fill_step R [] default k (by omega)] at ho8
      try simp -implicitDefEqProofs (disch := first | decide | assumption | omega) only [go_sem, RdS.len hv sl23, RdS.idx hv sl23, RdS.cellB hv (Ext.pres eB), RdS.cells hv, RdS.len hr5 sl43, RdS.idx hr5 sl43, RdS.cellB hr5 (Ext.pres eB), RdS.cells hr5, RdS.len (OS.rd ho) sl23, RdS.idx (OS.rd ho) sl23, RdS.cellN (OS.rd ho), RdS.cells (OS.rd ho), wrap_id]
      refine hK _ _ ?_
      clear hK K
      refine den_blk ?_
      refine den_region TTok ?_
      intro K hK
      simp -implicitDefEqProofs (disch := first | decide | assumption | omega) only [go_sem, RdS.len hv sl23, RdS.idx hv sl23, RdS.cellB hv (Ext.pres eB), RdS.cells hv, RdS.len hr5 sl43, RdS.idx hr5 sl43, RdS.cellB hr5 (Ext.pres eB), RdS.cells hr5, RdS.len (OS.rd ho) sl23, RdS.idx (OS.rd ho) sl23, RdS.cellN (OS.rd ho), RdS.cells (OS.rd ho), wrap_id]
      refine hK _ _ ?_
      clear hK K
      refine den_stop ?_
      exact ⟨k + 1, by simp [HasL, puts_at], ⟨eB, by omega, fp8, ho8, hf.put hf5_6 hs0 hn8 hs8⟩, by omega⟩
    · try simp only [decide_eq_true_eq, decide_eq_false_iff_not, beq_iff_eq, beq_eq_false_iff_ne, bne_iff_ne, ne_eq, Bool.not_eq_true', Bool.not_eq_false', Bool.and_eq_true, Bool.or_eq_true, bne_eq_false_iff_eq] at c0
      refine den_exit ?_
      refine denX_code ?_
      refine denX_stop ?_
      refine denX_hit ?_
      refine den_seq ?_
      refine den_region TTok ?_
      intro K hK
      simp -implicitDefEqProofs (disch := first | decide | assumption | omega) only [go_sem, RdS.len hv sl23, RdS.idx hv sl23, RdS.cellB hv (Ext.pres eB), RdS.cells hv, RdS.len (OS.rd ho) sl23, RdS.idx (OS.rd ho) sl23, RdS.cellN (OS.rd ho), RdS.cells (OS.rd ho), wrap_id]
      refine hK _ _ ?_
      clear hK K
      refine den_ret ?_
      simp (disch := decide) only [resP_1, puts_same, puts_ne]
      rw [fill_end _ _ _ (by omega)] at ho
      exact ⟨_, ho, hf, eB⟩

end Go.Proofs.YtacajcjibhifmaaDoor
