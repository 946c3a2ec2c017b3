/-
  Walks: blank complexes.
  Conditions: each theorem's own.
-/
import Derived.Test.YtkkjhomhndpphaaS17
set_option linter.unusedVariables false
set_option linter.unusedSimpArgs false
namespace Go.Proofs.Ytkkjhomhndpphaa
open Go
theorem bC {v : Value} {xs : List Int} {h : Heap} (hv : R1 h v xs) (p : Int) : buildV TT 44 [(0, .int .i64 p), (1, v)] = some (.agg #[.int .i64 p, v, .slice none 0 0]) := by
  obtain ⟨A, c, rfl, _⟩ := hv
  kernel_rfl
def zblk (D : List Int) (k : Nat) : List (List (List Int)) := (List.range k).map fun j => List.replicate (D.getD (j + 1) 0).toNat (List.replicate (D.getD j 0).toNat 0)
theorem zblk_step (D : List Int) (k : Nat) : zblk D k ++ [List.replicate (D.getD (k + 1) 0).toNat (List.replicate (D.getD k 0).toNat 0)] = zblk D (k + 1) := by simp [zblk, List.range_succ]
theorem zblk_len (D : List Int) (k : Nat) : (zblk D k).length = k := by simp [zblk]
theorem D_at {D : List Int} (h : D.all (fun x => in3 x 0 8) = true) {k : Nat} (hk : k < D.length) : 0 ≤ D.getD k 0 ∧ D.getD k 0 ≤ 8 := in3_iff.1 (all_at (d := 0) h hk)
theorem not_fresh {lo b : Nat} {fp : List Nat} (f : Fresh lo fp) (h : b < lo) : b ∉ fp := fun hm => by have := f.ge b hm; omega

set_option maxRecDepth 100000 in
theorem blank_ok (p : Int) (v : Value) (D : List Int) (h : Heap) (hv : R1 h v D) (hD : D.all (fun x => in3 x 0 8) = true) (hl : D.length ≤ 6) : CallA Try.prog 89 #[.int .i64 p, v] h fun v' h' => ∃ w fp, v' = .agg #[.int .i64 p, v, w] ∧ O3 h' w (zblk D (D.length - 1)) fp ∧ Fresh h.size fp ∧ Ext h h' := by
  have hle := RdS.le hv
  refine callA_intro TTok (args := [_, _]) Try.func89 (by kernel_rfl) rfl 41 rfl (by simp) [.cell 4 44] rfl ?_
  simp only [idxs, Nat.reduceAdd]
  refine den_seq ?_
  refine den_region TTok ?_
  intro K hK
  simp -implicitDefEqProofs (disch := first | decide | assumption | omega) only [go_sem, RdS.len hv sl37, RdS.idx hv sl37, R1.intB hv (HPres.refl _), RdS.cells hv, wrap_id, List.toList_toArray, bC hv, Int.add_sub_cancel]
  refine op_alloc (cs := #[.int .i64 0, .slice none 0 0, .slice none 0 0]) (by kernel_rfl) ?_
  intro h0_0 e0_0 hb0_0 z0_0
  have := Ext.size e0_0
  have eB := e0_0
  try simp -implicitDefEqProofs (disch := first | decide | assumption | omega) only [go_sem, RdS.len hv sl37, RdS.idx hv sl37, R1.intB hv (Ext.pres eB), RdS.cells hv, BoxAt.cell hb0_0, wrap_id, List.toList_toArray, bC hv, Int.add_sub_cancel]
  refine hK _ _ ?_
  clear hK K
  refine den_seq ?_
  refine den_region TTok ?_
  intro K hK
  simp -implicitDefEqProofs (disch := first | decide | assumption | omega) only [go_sem, RdS.len hv sl37, RdS.idx hv sl37, R1.intB hv (Ext.pres eB), RdS.cells hv, BoxAt.cell hb0_0, wrap_id, List.toList_toArray, bC hv, Int.add_sub_cancel]
  refine op_alloc (cs := #[.int .i64 0, .slice none 0 0, .slice none 0 0]) (by kernel_rfl) ?_
  intro h1_3 e1_3 hb1_3 z1_3
  replace hb0_0 := BoxAt.ext hb0_0 e1_3
  have := Ext.size e1_3
  replace eB := Ext.trans eB e1_3
  try simp -implicitDefEqProofs (disch := first | decide | assumption | omega) only [go_sem, RdS.len hv sl37, RdS.idx hv sl37, R1.intB hv (Ext.pres eB), RdS.cells hv, BoxAt.cell hb0_0, BoxAt.cell hb1_3, wrap_id, List.toList_toArray, bC hv, Int.add_sub_cancel]
  refine op_storeB (cs' := #[.int .i64 (p), v, _]) st44 hb1_3 rfl rfl rfl (by simp) (allOne_mem (l := [.int .i64 (p), v, _]) ⟨rfl, (RdS.one hv), rfl, trivial⟩) rfl ?_
  intro h1_4 hb1_3 c1_4
  replace hb0_0 := BoxAt.chg hb0_0 c1_4 (by simp; omega)
  have := c1_4.size
  replace eB := Ext.then eB c1_4 (fun b hb => by simp at hb; omega)
  try simp -implicitDefEqProofs (disch := first | decide | assumption | omega) only [go_sem, RdS.len hv sl37, RdS.idx hv sl37, R1.intB hv (Ext.pres eB), RdS.cells hv, BoxAt.cell hb0_0, BoxAt.cell hb1_3, wrap_id, List.toList_toArray, bC hv, Int.add_sub_cancel]
  refine hK _ _ ?_
  clear hK K
  refine den_seq ?_
  refine den_seq ?_
  refine den_region TTok ?_
  intro K hK
  simp -implicitDefEqProofs (disch := first | decide | assumption | omega) only [go_sem, RdS.len hv sl37, RdS.idx hv sl37, R1.intB hv (Ext.pres eB), RdS.cells hv, BoxAt.cell hb0_0, BoxAt.cell hb1_3, wrap_id, List.toList_toArray, bC hv, Int.add_sub_cancel]
  refine hK _ _ ?_
  clear hK K
  refine den_block ?_
  refine den_sel [6, 1, 4, 5] ?_
  intro env_1
  simp only [go_sem]
  refine den_loopS (σ := Nat × Value × List Nat) (fun s => [(6, .int .i64 ((s.1 : Int) + 1))]) (fun s H => Ext h H ∧ (s.1 = 0 ∨ s.1 + 1 ≤ D.length) ∧ O3 H s.2.1 (zblk D s.1) s.2.2 ∧ Fresh (h0_0.size + 1) s.2.2 ∧ BoxAt H h.size #[.int .i64 0, .slice none 0 0, .slice none 0 0] 44 ∧ BoxAt H h0_0.size #[.int .i64 p, v, s.2.1] 44) (fun s => D.length - s.1) (0, .slice none 0 0, []) ?_ ?_
  · exact ⟨eB, .inl rfl, by exact OS.nil, Fresh.nil _, hb0_0, hb1_3⟩
  · rintro ⟨k, vO, fpO⟩ h4 ee3 ⟨eB, hk, hO, hfO, hb4, hb5⟩
    simp only [List.cons_append, List.nil_append]
    have := Ext.size eB
    dsimp only at hk hO hfO hb5
    have hbl := hb5.lt
    refine den_seq ?_
    refine den_seq ?_
    refine den_region TTok ?_
    intro K hK
    simp -implicitDefEqProofs (disch := first | decide | assumption | omega) only [go_sem, RdS.len hv sl37, RdS.idx hv sl37, R1.intB hv (Ext.pres eB), RdS.cells hv, RdS.len (OS.rd hO) sl38, RdS.idx (OS.rd hO) sl38, RdS.cellN (OS.rd hO), RdS.cells (OS.rd hO), BoxAt.cell hb4, BoxAt.cell hb5, wrap_id, List.toList_toArray, bC hv, Int.add_sub_cancel]
    try simp -implicitDefEqProofs (disch := first | decide | assumption | omega) only [go_sem, RdS.len hv sl37, RdS.idx hv sl37, R1.intB hv (Ext.pres eB), RdS.cells hv, RdS.len (OS.rd hO) sl38, RdS.idx (OS.rd hO) sl38, RdS.cellN (OS.rd hO), RdS.cells (OS.rd hO), BoxAt.cell hb4, BoxAt.cell hb5, wrap_id, List.toList_toArray, bC hv, Int.add_sub_cancel]
    refine CallA.pure (size1_ok _ _ _ (RdS.pres hv (Ext.pres eB))) ?_
    try simp -implicitDefEqProofs (disch := first | decide | assumption | omega) only [go_sem, RdS.len hv sl37, RdS.idx hv sl37, R1.intB hv (Ext.pres eB), RdS.cells hv, RdS.len (OS.rd hO) sl38, RdS.idx (OS.rd hO) sl38, RdS.cellN (OS.rd hO), RdS.cells (OS.rd hO), BoxAt.cell hb4, BoxAt.cell hb5, wrap_id, List.toList_toArray, bC hv, Int.add_sub_cancel]
    refine hK _ _ ?_
    clear hK K
    refine den_cond rfl (fun c0 => ?_) (fun c0 => ?_)
    · try simp only [decide_eq_true_eq, decide_eq_false_iff_not, beq_iff_eq, beq_eq_false_iff_ne, bne_iff_ne, ne_eq, Bool.not_eq_true', Bool.not_eq_false', Bool.and_eq_true, Bool.or_eq_true, bne_eq_false_iff_eq] at c0
      refine den_skip ?_
      refine den_seq ?_
      refine den_block ?_
      refine den_seq ?_
      have ek : ((k : Int) + 1).toNat = k + 1 := by omega
      have hlO0 := OS.lt hO
      refine den_region TTok ?_
      intro K hK
      simp -implicitDefEqProofs (disch := first | decide | assumption | omega) only [go_sem, RdS.len hv sl37, RdS.idx hv sl37, R1.intB hv (Ext.pres eB), RdS.cells hv, RdS.len (OS.rd hO) sl38, RdS.idx (OS.rd hO) sl38, RdS.cellN (OS.rd hO), RdS.cells (OS.rd hO), BoxAt.cell hb4, BoxAt.cell hb5, wrap_id, List.toList_toArray, bC hv, Int.add_sub_cancel]
      refine op_bs0 sz65 O1 ?_
      intro v5_0 h5_0 ho5_0 e5_0
      replace hO := OS.ext hO e5_0
      replace hb4 := BoxAt.ext hb4 e5_0
      replace hb5 := BoxAt.ext hb5 e5_0
      have := Ext.size e5_0
      replace eB := Ext.trans eB e5_0
      try simp -implicitDefEqProofs (disch := first | decide | assumption | omega) only [go_sem, RdS.len hv sl37, RdS.idx hv sl37, R1.intB hv (Ext.pres eB), RdS.cells hv, RdS.len (OS.rd hO) sl38, RdS.idx (OS.rd hO) sl38, RdS.cellN (OS.rd hO), RdS.cells (OS.rd hO), RdS.len (OS.rd ho5_0) sl65, RdS.idx (OS.rd ho5_0) sl65, RdS.cellN (OS.rd ho5_0), RdS.cells (OS.rd ho5_0), BoxAt.cell hb4, BoxAt.cell hb5, wrap_id, List.toList_toArray, bC hv, Int.add_sub_cancel]
      refine hK _ _ ?_
      clear hK K
      refine den_seq ?_
      refine den_seq ?_
      have hd2 := D_at hD (k := ((k : Int) + 1).toNat) (by omega)
      refine den_region TTok ?_
      intro K hK
      simp -implicitDefEqProofs (disch := first | decide | assumption | omega) only [go_sem, ld2, RdS.len hv sl37, RdS.idx hv sl37, R1.intB hv (Ext.pres eB), RdS.cells hv, RdS.len (OS.rd hO) sl38, RdS.idx (OS.rd hO) sl38, RdS.cellN (OS.rd hO), RdS.cells (OS.rd hO), RdS.len (OS.rd ho5_0) sl65, RdS.idx (OS.rd ho5_0) sl65, RdS.cellN (OS.rd ho5_0), RdS.cells (OS.rd ho5_0), BoxAt.cell hb4, BoxAt.cell hb5, wrap_id, List.toList_toArray, bC hv, Int.add_sub_cancel]
      refine hK _ _ ?_
      clear hK K
      refine den_block ?_
      refine den_sel [7, 22, 1, 4, 5, 6, 21] ?_
      intro env_5
      simp only [go_sem]
      refine den_loopS (σ := Nat × Value × List Nat) (fun s => [(7, s.2.1), (22, .int .i64 (s.1 : Int))]) (fun s H => Ext h H ∧ (s.1 : Int) ≤ D.getD ((k : Int) + 1).toNat 0 ∧ O2 H s.2.1 (List.replicate s.1 (List.replicate (D.getD k 0).toNat 0)) s.2.2 ∧ Fresh (h0_0.size + 1) s.2.2 ∧ (∀ b ∈ fpO, b ∉ s.2.2) ∧ O3 H vO (zblk D k) fpO ∧ BoxAt H h.size #[.int .i64 0, .slice none 0 0, .slice none 0 0] 44 ∧ BoxAt H h0_0.size #[.int .i64 p, v, vO] 44) (fun s => (D.getD ((k : Int) + 1).toNat 0).toNat - s.1) (0, v5_0, [h4.size]) ?_ ?_
      · exact ⟨eB, by dsimp only; omega, by simpa using ho5_0, (Fresh.one _).mono (by omega), apart_new hlO0, hO, hb4, hb5⟩
      · rintro ⟨m, vI, fpI⟩ h8 ee7 ⟨eB, hm2, hI, hfI, haI, hO, hb4, hb5⟩
        simp only [List.cons_append, List.nil_append]
        have := Ext.size eB
        dsimp only at hm2 hI hfI haI
        have hbl := hb5.lt
        refine den_seq ?_
        refine den_region TTok ?_
        intro K hK
        simp -implicitDefEqProofs (disch := first | decide | assumption | omega) only [go_sem, RdS.len hv sl37, RdS.idx hv sl37, R1.intB hv (Ext.pres eB), RdS.cells hv, RdS.len (OS.rd hI) sl65, RdS.idx (OS.rd hI) sl65, RdS.cellN (OS.rd hI), RdS.cells (OS.rd hI), RdS.len (OS.rd hO) sl38, RdS.idx (OS.rd hO) sl38, RdS.cellN (OS.rd hO), RdS.cells (OS.rd hO), BoxAt.cell hb4, BoxAt.cell hb5, wrap_id, List.toList_toArray, bC hv, Int.add_sub_cancel]
        refine hK _ _ ?_
        clear hK K
        refine den_seq ?_
        refine den_cond rfl (fun c1 => ?_) (fun c1 => ?_)
        · try simp only [decide_eq_true_eq, decide_eq_false_iff_not, beq_iff_eq, beq_eq_false_iff_ne, bne_iff_ne, ne_eq, Bool.not_eq_true', Bool.not_eq_false', Bool.and_eq_true, Bool.or_eq_true, bne_eq_false_iff_eq] at c1
          refine den_skip ?_
          refine den_seq ?_
          refine den_block ?_
          have hd1 := D_at hD (k := k) (by omega)
          have hlI := OS.lt hI
          have hlO := OS.lt hO
          refine den_region TTok ?_
          intro K hK
          simp -implicitDefEqProofs (disch := first | decide | assumption | omega) only [go_sem, ld2, RdS.len hv sl37, RdS.idx hv sl37, R1.intB hv (Ext.pres eB), RdS.cells hv, RdS.len (OS.rd hI) sl65, RdS.idx (OS.rd hI) sl65, RdS.cellN (OS.rd hI), RdS.cells (OS.rd hI), RdS.len (OS.rd hO) sl38, RdS.idx (OS.rd hO) sl38, RdS.cellN (OS.rd hO), RdS.cells (OS.rd hO), BoxAt.cell hb4, BoxAt.cell hb5, wrap_id, List.toList_toArray, bC hv, Int.add_sub_cancel]
          refine op_make sz37 rfl rfl (by omega) (by omega) OI 0 (fun _ => ⟨rfl, rfl⟩) ?_
          intro v8_6 h8_6 ho8_6 e8_6
          replace hI := OS.ext hI e8_6
          replace hO := OS.ext hO e8_6
          replace hb4 := BoxAt.ext hb4 e8_6
          replace hb5 := BoxAt.ext hb5 e8_6
          have := Ext.size e8_6
          replace eB := Ext.trans eB e8_6
          try simp -implicitDefEqProofs (disch := first | decide | assumption | omega) only [go_sem, RdS.len hv sl37, RdS.idx hv sl37, R1.intB hv (Ext.pres eB), RdS.cells hv, RdS.len (OS.rd hI) sl65, RdS.idx (OS.rd hI) sl65, RdS.cellN (OS.rd hI), RdS.cells (OS.rd hI), RdS.len (OS.rd hO) sl38, RdS.idx (OS.rd hO) sl38, RdS.cellN (OS.rd hO), RdS.cells (OS.rd hO), RdS.len (OS.rd ho8_6) sl37, RdS.idx (OS.rd ho8_6) sl37, R1.intN (OS.rd ho8_6), RdS.cells (OS.rd ho8_6), BoxAt.cell hb4, BoxAt.cell hb5, wrap_id, List.toList_toArray, bC hv, Int.add_sub_cancel]
          refine op_bs1 sz65 rfl (OS.one ho8_6).2 ?_
          try simp -implicitDefEqProofs (disch := first | decide | assumption | omega) only [go_sem, RdS.len hv sl37, RdS.idx hv sl37, R1.intB hv (Ext.pres eB), RdS.cells hv, RdS.len (OS.rd hI) sl65, RdS.idx (OS.rd hI) sl65, RdS.cellN (OS.rd hI), RdS.cells (OS.rd hI), RdS.len (OS.rd hO) sl38, RdS.idx (OS.rd hO) sl38, RdS.cellN (OS.rd hO), RdS.cells (OS.rd hO), RdS.len (OS.rd ho8_6) sl37, RdS.idx (OS.rd ho8_6) sl37, R1.intN (OS.rd ho8_6), RdS.cells (OS.rd ho8_6), BoxAt.cell hb4, BoxAt.cell hb5, wrap_id, List.toList_toArray, bC hv, Int.add_sub_cancel]
          have hlI0 := hlI
          have hlO2 := OS.lt hO
          refine op_append1 sz65 hI hfI.nodup ho8_6 (by simp) (apart_new (by simpa using hlI0)) (by simp; omega) rfl rfl ?_
          intro v8 h8 fp8 ho8 hn8 hs8 c8
          have := c8.size
          replace eB := Ext.then eB c8 (fun b hb => Nat.le_trans (by omega) (hfI.ge b hb))
          replace hO := OS.chg hO c8 haI
          replace hb4 := BoxAt.chg hb4 c8 (not_fresh hfI (by omega))
          replace hb5 := BoxAt.chg hb5 c8 (not_fresh hfI (by omega))
          rw [← List.replicate_succ'] at ho8
          try simp -implicitDefEqProofs (disch := first | decide | assumption | omega) only [go_sem, RdS.len hv sl37, RdS.idx hv sl37, R1.intB hv (Ext.pres eB), RdS.cells hv, RdS.len (OS.rd hI) sl65, RdS.idx (OS.rd hI) sl65, RdS.cellN (OS.rd hI), RdS.cells (OS.rd hI), RdS.len (OS.rd hO) sl38, RdS.idx (OS.rd hO) sl38, RdS.cellN (OS.rd hO), RdS.cells (OS.rd hO), RdS.len (OS.rd ho8_6) sl37, RdS.idx (OS.rd ho8_6) sl37, R1.intN (OS.rd ho8_6), RdS.cells (OS.rd ho8_6), BoxAt.cell hb4, BoxAt.cell hb5, wrap_id, List.toList_toArray, bC hv, Int.add_sub_cancel]
          refine hK _ _ ?_
          clear hK K
          refine den_blk ?_
          refine den_region TTok ?_
          intro K hK
          simp -implicitDefEqProofs (disch := first | decide | assumption | omega) only [go_sem, RdS.len hv sl37, RdS.idx hv sl37, R1.intB hv (Ext.pres eB), RdS.cells hv, RdS.len (OS.rd hI) sl65, RdS.idx (OS.rd hI) sl65, RdS.cellN (OS.rd hI), RdS.cells (OS.rd hI), RdS.len (OS.rd hO) sl38, RdS.idx (OS.rd hO) sl38, RdS.cellN (OS.rd hO), RdS.cells (OS.rd hO), RdS.len (OS.rd ho8_6) sl37, RdS.idx (OS.rd ho8_6) sl37, R1.intN (OS.rd ho8_6), RdS.cells (OS.rd ho8_6), BoxAt.cell hb4, BoxAt.cell hb5, wrap_id, List.toList_toArray, bC hv, Int.add_sub_cancel]
          refine hK _ _ ?_
          clear hK K
          refine den_stop ?_
          exact ⟨(m + 1, v8, fp8), by simp [HasL, puts_at], ⟨eB, by dsimp only; omega, ho8, hfI.app ((Fresh.one _).mono (by omega)) (by omega) hn8 hs8, apart_app hlO2 haI (apart_new hlO) hs8, hO, hb4, hb5⟩, by dsimp only; omega⟩
        · try simp only [decide_eq_true_eq, decide_eq_false_iff_not, beq_iff_eq, beq_eq_false_iff_ne, bne_iff_ne, ne_eq, Bool.not_eq_true', Bool.not_eq_false', Bool.and_eq_true, Bool.or_eq_true, bne_eq_false_iff_eq] at c1
          refine den_exit ?_
          refine denX_code ?_
          refine denX_stop ?_
          refine denX_hit ?_
          refine den_region TTok ?_
          intro K hK
          simp -implicitDefEqProofs (disch := first | decide | assumption | omega) only [go_sem, fa44_2, ld38, RdS.len hv sl37, RdS.idx hv sl37, R1.intB hv (Ext.pres eB), RdS.cells hv, RdS.len (OS.rd hI) sl65, RdS.idx (OS.rd hI) sl65, RdS.cellN (OS.rd hI), RdS.cells (OS.rd hI), RdS.len (OS.rd hO) sl38, RdS.idx (OS.rd hO) sl38, RdS.cellN (OS.rd hO), RdS.cells (OS.rd hO), BoxAt.cell hb4, BoxAt.cell hb5, wrap_id, List.toList_toArray, bC hv, Int.add_sub_cancel]
          refine op_bs1 sz38 rfl (OS.one hI).2 ?_
          try simp -implicitDefEqProofs (disch := first | decide | assumption | omega) only [go_sem, RdS.len hv sl37, RdS.idx hv sl37, R1.intB hv (Ext.pres eB), RdS.cells hv, RdS.len (OS.rd hI) sl65, RdS.idx (OS.rd hI) sl65, RdS.cellN (OS.rd hI), RdS.cells (OS.rd hI), RdS.len (OS.rd hO) sl38, RdS.idx (OS.rd hO) sl38, RdS.cellN (OS.rd hO), RdS.cells (OS.rd hO), BoxAt.cell hb4, BoxAt.cell hb5, wrap_id, List.toList_toArray, bC hv, Int.add_sub_cancel]
          refine op_append1 sz38 hO hfO.nodup hI hfI.nodup haI (by rw [zblk_len]; omega) rfl rfl ?_
          intro v10 h10 fp10 ho10 hn10 hs10 c10
          have := c10.size
          have hf10 := hfO.app hfI (by omega) hn10 hs10
          replace eB := Ext.then eB c10 (fun b hb => Nat.le_trans (by omega) (hfO.ge b hb))
          replace hb4 := BoxAt.chg hb4 c10 (not_fresh hfO (by omega))
          replace hb5 := BoxAt.chg hb5 c10 (not_fresh hfO (by omega))
          try simp -implicitDefEqProofs (disch := first | decide | assumption | omega) only [go_sem, fa44_2, RdS.len hv sl37, RdS.idx hv sl37, R1.intB hv (Ext.pres eB), RdS.cells hv, RdS.len (OS.rd hI) sl65, RdS.idx (OS.rd hI) sl65, RdS.cellN (OS.rd hI), RdS.cells (OS.rd hI), RdS.len (OS.rd hO) sl38, RdS.idx (OS.rd hO) sl38, RdS.cellN (OS.rd hO), RdS.cells (OS.rd hO), BoxAt.cell hb4, BoxAt.cell hb5, wrap_id, List.toList_toArray, bC hv, Int.add_sub_cancel]
          refine op_storeB (cs' := #[.int .i64 p, v, v10]) st38 hb5 rfl (OS.one ho10).2 rfl (by simp) (allOne_mem (l := [v10]) ⟨(OS.one ho10).1, trivial⟩) rfl ?_
          intro h10b hb5 c10b
          have := c10b.size
          replace ho10 := OS.chg ho10 c10b (fun b hb hm => by simp at hm; have := hf10.ge b hb; omega)
          replace hb4 := BoxAt.chg hb4 c10b (by simp; omega)
          replace eB := Ext.then eB c10b (fun b hb => by simp at hb; omega)
          try simp -implicitDefEqProofs (disch := first | decide | assumption | omega) only [go_sem, RdS.len hv sl37, RdS.idx hv sl37, R1.intB hv (Ext.pres eB), RdS.cells hv, RdS.len (OS.rd hI) sl65, RdS.idx (OS.rd hI) sl65, RdS.cellN (OS.rd hI), RdS.cells (OS.rd hI), RdS.len (OS.rd hO) sl38, RdS.idx (OS.rd hO) sl38, RdS.cellN (OS.rd hO), RdS.cells (OS.rd hO), BoxAt.cell hb4, BoxAt.cell hb5, wrap_id, List.toList_toArray, bC hv, Int.add_sub_cancel]
          refine hK _ _ ?_
          clear hK K
          refine den_blk ?_
          refine den_region TTok ?_
          intro K hK
          simp -implicitDefEqProofs (disch := first | decide | assumption | omega) only [go_sem, RdS.len hv sl37, RdS.idx hv sl37, R1.intB hv (Ext.pres eB), RdS.cells hv, RdS.len (OS.rd hI) sl65, RdS.idx (OS.rd hI) sl65, RdS.cellN (OS.rd hI), RdS.cells (OS.rd hI), RdS.len (OS.rd hO) sl38, RdS.idx (OS.rd hO) sl38, RdS.cellN (OS.rd hO), RdS.cells (OS.rd hO), BoxAt.cell hb4, BoxAt.cell hb5, wrap_id, List.toList_toArray, bC hv, Int.add_sub_cancel]
          refine hK _ _ ?_
          clear hK K
          refine den_stop ?_
          have em : m = (D.getD (k + 1) 0).toNat := by rw [ek] at *; omega
          rw [em, zblk_step] at ho10
          exact ⟨(k + 1, v10, fp10), by simp [HasL, puts_at], ⟨eB, .inr (by dsimp only; omega), ho10, hf10, hb4, hb5⟩, by dsimp only; omega⟩
    · try simp only [decide_eq_true_eq, decide_eq_false_iff_not, beq_iff_eq, beq_eq_false_iff_ne, bne_iff_ne, ne_eq, Bool.not_eq_true', Bool.not_eq_false', Bool.and_eq_true, Bool.or_eq_true, bne_eq_false_iff_eq] at c0
      refine den_exit ?_
      refine denX_code ?_
      refine denX_stop ?_
      refine denX_hit ?_
      refine den_seq ?_
      have hlhO := OS.lt hO
      refine den_region TTok ?_
      intro K hK
      simp -implicitDefEqProofs (disch := first | decide | assumption | omega) only [go_sem, ld44, RdS.len hv sl37, RdS.idx hv sl37, R1.intB hv (Ext.pres eB), RdS.cells hv, RdS.len (OS.rd hO) sl38, RdS.idx (OS.rd hO) sl38, RdS.cellN (OS.rd hO), RdS.cells (OS.rd hO), BoxAt.cell hb4, BoxAt.cell hb5, wrap_id, List.toList_toArray, bC hv, Int.add_sub_cancel]
      refine op_storeB (cs' := #[.int .i64 (p), v, vO]) st44 hb4 rfl rfl rfl (by simp) (allOne_mem (l := [.int .i64 (p), v, vO]) ⟨rfl, (RdS.one hv), (OS.one hO).1, trivial⟩) rfl ?_
      intro h11_1 hb4 c11_1
      replace hO := OS.chg hO c11_1 (fun b hb hm => by simp at hm; have := hfO.ge b hb; have := hlhO b hb; omega)
      replace hb5 := BoxAt.chg hb5 c11_1 (by simp; omega)
      have := c11_1.size
      replace eB := Ext.then eB c11_1 (fun b hb => by simp at hb; omega)
      try simp -implicitDefEqProofs (disch := first | decide | assumption | omega) only [go_sem, RdS.len hv sl37, RdS.idx hv sl37, R1.intB hv (Ext.pres eB), RdS.cells hv, RdS.len (OS.rd hO) sl38, RdS.idx (OS.rd hO) sl38, RdS.cellN (OS.rd hO), RdS.cells (OS.rd hO), BoxAt.cell hb4, BoxAt.cell hb5, wrap_id, List.toList_toArray, bC hv, Int.add_sub_cancel]
      refine hK _ _ ?_
      clear hK K
      refine den_ret ?_
      simp -implicitDefEqProofs (disch := first | decide | assumption | omega) only [go_sem, RdS.len hv sl37, RdS.idx hv sl37, R1.intB hv (Ext.pres eB), RdS.cells hv, RdS.len (OS.rd hO) sl38, RdS.idx (OS.rd hO) sl38, RdS.cellN (OS.rd hO), RdS.cells (OS.rd hO), BoxAt.cell hb4, BoxAt.cell hb5, wrap_id, List.toList_toArray, bC hv, Int.add_sub_cancel, resP_c1, ld44]
      have e : D.length - 1 = k := by omega
      rw [e]
      exact ⟨_, fpO, rfl, hO, hfO.mono (by omega), eB⟩

end Go.Proofs.Ytkkjhomhndpphaa
