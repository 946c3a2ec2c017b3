/-
  Walks: texts, the reference's.
  Conditions: each theorem's own.
-/
import Derived.Test.YtacajcjibhifmaaDoorK2
set_option linter.unusedVariables false
set_option linter.unusedSimpArgs false
namespace Go.Proofs.YtacajcjibhifmaaDoor
open Go
set_option maxRecDepth 100000 in
theorem sRt_ok (vR : Value) (R : List (List Int)) (h : Heap) (rR : R2 h vR R) (hR : SmR R) : CallA Tryd.prog 26 #[vR] h fun v' h' => v' = sV (rowsT R) ∧ Ext h h' := by
  have hleR := RdS.le rR
  have hR8 := hR.1
  refine callA_intro TTok (args := [_]) Tryd.func26 (by kernel_rfl) rfl 47 rfl (by simp) [.tmp 2] rfl ?_
  simp only [idxs, Nat.reduceAdd]
  refine den_seq ?_
  refine den_region TTok ?_
  intro K hK
  simp -implicitDefEqProofs (disch := first | decide | assumption | omega) only [go_sem, wrap_id, sV_0, sV_44, sV_45, sV_58, sV_59, sV_cells, bin_sadd, bin_sne, bin_seq, cv_i64, wrap_u8]
  refine hK _ _ ?_
  clear hK K
  refine den_seq ?_
  refine den_seq ?_
  refine den_region TTok ?_
  intro K hK
  simp -implicitDefEqProofs (disch := first | decide | assumption | omega) only [go_sem, RdS.len rR sl43, RdS.idx rR sl43, RdS.cellB rR (HPres.refl _), RdS.cells rR, wrap_id, sV_0, sV_44, sV_45, sV_58, sV_59, sV_cells, bin_sadd, bin_sne, bin_seq, cv_i64, wrap_u8]
  refine hK _ _ ?_
  clear hK K
  refine den_cond rfl (fun c0 => ?_) (fun c0 => ?_)
  · try simp only [decide_eq_true_eq, decide_eq_false_iff_not, beq_iff_eq, beq_eq_false_iff_ne, bne_iff_ne, ne_eq, Bool.not_eq_true', Bool.not_eq_false', Bool.and_eq_true, Bool.or_eq_true, bne_eq_false_iff_eq] at c0
    refine den_seq ?_
    refine den_region TTok ?_
    intro K hK
    simp -implicitDefEqProofs (disch := first | decide | assumption | omega) only [go_sem, wrap_id, sV_0, sV_44, sV_45, sV_58, sV_59, sV_cells, bin_sadd, bin_sne, bin_seq, cv_i64, wrap_u8]
    refine hK _ _ ?_
    clear hK K
    refine den_ret ?_
    simp (disch := decide) only [resP_1, puts_same, puts_ne]
    exact ⟨by rw [rowsT, if_pos (by simpa using c0)], (Ext.refl _)⟩
  · try simp only [decide_eq_true_eq, decide_eq_false_iff_not, beq_iff_eq, beq_eq_false_iff_ne, bne_iff_ne, ne_eq, Bool.not_eq_true', Bool.not_eq_false', Bool.and_eq_true, Bool.or_eq_true, bne_eq_false_iff_eq] at c0
    refine den_skip ?_
    refine den_seq ?_
    refine den_region TTok ?_
    intro K hK
    simp -implicitDefEqProofs (disch := first | decide | assumption | omega) only [go_sem, wrap_id, sV_0, sV_44, sV_45, sV_58, sV_59, sV_cells, bin_sadd, bin_sne, bin_seq, cv_i64, wrap_u8]
    refine hK _ _ ?_
    clear hK K
    refine den_seq ?_
    refine den_seq ?_
    refine den_region TTok ?_
    intro K hK
    simp -implicitDefEqProofs (disch := first | decide | assumption | omega) only [go_sem, wrap_id, sV_0, sV_44, sV_45, sV_58, sV_59, sV_cells, bin_sadd, bin_sne, bin_seq, cv_i64, wrap_u8]
    refine hK _ _ ?_
    clear hK K
    refine den_block ?_
    refine den_sel [3, 4, 0] ?_
    intro env_1
    simp only [go_sem]
    refine den_loopS (σ := Nat × List UInt8) (fun st_ => [(3, sV st_.2), (4, .int .i64 (st_.1 : Int))]) (fun st_ H => (st_.1 ≤ R.length) ∧ (st_.2 = jtN [44] (R.map rowT) st_.1) ∧ (Ext h H)) (fun st_ => R.length - st_.1) (0, []) ?_ ?_
    · exact ⟨by omega, rfl, Ext.refl _⟩
    · rintro ⟨i, T⟩ h4 ee3 ⟨hi, hT, cL2⟩
      dsimp only at hi hT cL2
      have := Ext.size cL2
      have eB := cL2
      simp only [List.cons_append, List.nil_append]
      refine den_seq ?_
      refine den_seq ?_
      refine den_region TTok ?_
      intro K hK
      simp -implicitDefEqProofs (disch := first | decide | assumption | omega) only [go_sem, RdS.len rR sl43, RdS.idx rR sl43, RdS.cellB rR (Ext.pres eB), RdS.cells rR, wrap_id, sV_0, sV_44, sV_45, sV_58, sV_59, sV_cells, bin_sadd, bin_sne, bin_seq, cv_i64, wrap_u8]
      refine hK _ _ ?_
      clear hK K
      refine den_cond rfl (fun c1 => ?_) (fun c1 => ?_)
      · try simp only [decide_eq_true_eq, decide_eq_false_iff_not, beq_iff_eq, beq_eq_false_iff_ne, bne_iff_ne, ne_eq, Bool.not_eq_true', Bool.not_eq_false', Bool.and_eq_true, Bool.or_eq_true, bne_eq_false_iff_eq] at c1
        refine den_skip ?_
        refine den_seq ?_
        refine den_block ?_
        refine den_seq ?_
        refine den_seq ?_
        have hrw := hR.row (i := i) (by omega)
        have hTl : T.length ≤ 72 := by rw [hT]; exact jtN_le (m := 8) (c := 8) hR.ws (by rw [List.length_map]; omega) (by rw [List.length_map]; omega) (by simp)
        have hs1 : T.length + ([44] : List UInt8).length ≤ 1000000 := by simp; omega
        have hA : ((if decide ((0 : Int) < (i : Int)) = true then T ++ [44] else T)).length ≤ 73 := ifl (by rw [app1]; omega) (by omega)
        have hs2 : ((if decide ((0 : Int) < (i : Int)) = true then T ++ [44] else T)).length + ([45] : List UInt8).length ≤ 1000000 := by simp only [List.length_cons, List.length_nil]; omega
        have hB : ((if ((((R).getD i default).length : Int) == (0 : Int)) = true then (if decide ((0 : Int) < (i : Int)) = true then T ++ [44] else T) ++ [45] else (if decide ((0 : Int) < (i : Int)) = true then T ++ [44] else T))).length ≤ 74 := ifl (by rw [app1]; omega) (by omega)
        refine den_region TTok ?_
        intro K hK
        simp -implicitDefEqProofs (disch := first | decide | assumption | omega) only [go_sem, wrap_id, sV_0, sV_44, sV_45, sV_58, sV_59, sV_cells, bin_sadd, bin_sne, bin_seq, cv_i64, wrap_u8]
        refine hK _ _ ?_
        clear hK K
        refine den_mergeH [(3, sV ((if decide ((0 : Int) < (i : Int)) = true then T ++ [44] else T)))] [0, 4] ?_ ?_
        · refine den_cond rfl (fun c2 => ?_) (fun c2 => ?_)
          · refine den_region TTok ?_
            intro K hK
            simp -implicitDefEqProofs (disch := first | decide | assumption | omega) only [go_sem, wrap_id, sV_0, sV_44, sV_45, sV_58, sV_59, sV_cells, bin_sadd, bin_sne, bin_seq, cv_i64, wrap_u8]
            refine hK _ _ ?_
            clear hK K
            refine den_stop ?_
            refine ⟨?_, rfl⟩; simp (disch := decide) only [go_sem, c2, eq_self, if_true, if_false, Bool.false_eq_true, reduceCtorEq]
          · refine den_skip ?_
            refine den_stop ?_
            refine ⟨?_, rfl⟩; simp (disch := decide) only [go_sem, c2, eq_self, if_true, if_false, Bool.false_eq_true, reduceCtorEq]
        intro en5
        simp (disch := decide) only [go_sem]
        refine den_seq ?_
        refine den_seq ?_
        refine den_region TTok ?_
        intro K hK
        have hr6 := RdS.rowN rR i (by omega)
        have hlhr6 := RdS.le hr6
        simp -implicitDefEqProofs (disch := first | decide | assumption | omega) only [go_sem, ld22, RdS.len rR sl43, RdS.idx rR sl43, RdS.cellB rR (Ext.pres eB), RdS.cells rR, RdS.len hr6 sl22, RdS.idx hr6 sl22, R1.intB hr6 (Ext.pres eB), RdS.cells hr6, wrap_id, sV_0, sV_44, sV_45, sV_58, sV_59, sV_cells, bin_sadd, bin_sne, bin_seq, cv_i64, wrap_u8]
        refine hK _ _ ?_
        clear hK K
        refine den_mergeH [(3, sV ((if ((((R).getD i default).length : Int) == (0 : Int)) = true then (if decide ((0 : Int) < (i : Int)) = true then T ++ [44] else T) ++ [45] else (if decide ((0 : Int) < (i : Int)) = true then T ++ [44] else T))))] [0, 4] ?_ ?_
        · refine den_cond rfl (fun c3 => ?_) (fun c3 => ?_)
          · refine den_region TTok ?_
            intro K hK
            simp -implicitDefEqProofs (disch := first | decide | assumption | omega) only [go_sem, wrap_id, sV_0, sV_44, sV_45, sV_58, sV_59, sV_cells, bin_sadd, bin_sne, bin_seq, cv_i64, wrap_u8]
            refine hK _ _ ?_
            clear hK K
            refine den_stop ?_
            refine ⟨?_, rfl⟩; simp (disch := decide) only [go_sem, c3, eq_self, if_true, if_false, Bool.false_eq_true, reduceCtorEq]
          · refine den_skip ?_
            refine den_stop ?_
            refine ⟨?_, rfl⟩; simp (disch := decide) only [go_sem, c3, eq_self, if_true, if_false, Bool.false_eq_true, reduceCtorEq]
        intro en7
        simp (disch := decide) only [go_sem]
        refine den_seq ?_
        refine den_region TTok ?_
        intro K hK
        simp -implicitDefEqProofs (disch := first | decide | assumption | omega) only [go_sem, wrap_id, sV_0, sV_44, sV_45, sV_58, sV_59, sV_cells, bin_sadd, bin_sne, bin_seq, cv_i64, wrap_u8]
        refine hK _ _ ?_
        clear hK K
        refine den_block ?_
        refine den_sel [3, 5, 0, 4] ?_
        intro env_8
        simp only [go_sem]
        refine den_loopS (σ := Nat × List UInt8) (fun st_ => [(3, sV st_.2), (5, .int .i64 (st_.1 : Int))]) (fun st_ H => (st_.1 ≤ ((R).getD i default).length) ∧ (st_.2 = (if ((((R).getD i default).length : Int) == (0 : Int)) = true then (if decide ((0 : Int) < (i : Int)) = true then T ++ [44] else T) ++ [45] else (if decide ((0 : Int) < (i : Int)) = true then T ++ [44] else T)) ++ dgs (((R).getD i default).take st_.1)) ∧ (Ext h4 H)) (fun st_ => ((R).getD i default).length - st_.1) (0, (if ((((R).getD i default).length : Int) == (0 : Int)) = true then (if decide ((0 : Int) < (i : Int)) = true then T ++ [44] else T) ++ [45] else (if decide ((0 : Int) < (i : Int)) = true then T ++ [44] else T))) ?_ ?_
        · exact ⟨by omega, by rw [List.take_zero]; exact (List.append_nil _).symm, Ext.refl _⟩
        · rintro ⟨k, U⟩ h11 ee10 ⟨hk, hU, cL9⟩
          dsimp only at hk hU cL9
          have := Ext.size cL9
          replace eB := Ext.trans eB cL9
          replace cL2 := Ext.trans cL2 cL9
          simp only [List.cons_append, List.nil_append]
          refine den_seq ?_
          refine den_seq ?_
          refine den_region TTok ?_
          intro K hK
          have hr12 := RdS.rowN rR i (by omega)
          have hlhr12 := RdS.le hr12
          simp -implicitDefEqProofs (disch := first | decide | assumption | omega) only [go_sem, ld22, RdS.len rR sl43, RdS.idx rR sl43, RdS.cellB rR (Ext.pres eB), RdS.cells rR, RdS.len hr12 sl22, RdS.idx hr12 sl22, R1.intB hr12 (Ext.pres eB), RdS.cells hr12, wrap_id, sV_0, sV_44, sV_45, sV_58, sV_59, sV_cells, bin_sadd, bin_sne, bin_seq, cv_i64, wrap_u8]
          refine hK _ _ ?_
          clear hK K
          refine den_cond rfl (fun c4 => ?_) (fun c4 => ?_)
          · try simp only [decide_eq_true_eq, decide_eq_false_iff_not, beq_iff_eq, beq_eq_false_iff_ne, bne_iff_ne, ne_eq, Bool.not_eq_true', Bool.not_eq_false', Bool.and_eq_true, Bool.or_eq_true, bne_eq_false_iff_eq] at c4
            refine den_skip ?_
            refine den_seq ?_
            refine den_block ?_
            have hxk := hrw.2 k (by omega)
            have hs3 : U.length + (dg8 (((R).getD i default).getD k 0)).length ≤ 1000000 := by rw [hU, List.length_append, dgs_len, List.length_take, dg8_len]; omega
            refine den_region TTok ?_
            intro K hK
            have hr13 := RdS.rowN rR i (by omega)
            have hlhr13 := RdS.le hr13
            simp -implicitDefEqProofs (disch := first | decide | assumption | omega) only [go_sem, ld22, ld2, RdS.len rR sl43, RdS.idx rR sl43, RdS.cellB rR (Ext.pres eB), RdS.cells rR, RdS.len hr13 sl22, RdS.idx hr13 sl22, R1.intB hr13 (Ext.pres eB), RdS.cells hr13, wrap_id, sV_0, sV_44, sV_45, sV_58, sV_59, sV_cells, bin_sadd, bin_sne, bin_seq, cv_i64, wrap_u8]
            try simp -implicitDefEqProofs (disch := first | decide | assumption | omega) only [go_sem, wrap_id, sV_0, sV_44, sV_45, sV_58, sV_59, sV_cells, bin_sadd, bin_sne, bin_seq, cv_i64, wrap_u8]
            refine CallA.mono (sDec_ok  (((R).getD i default).getD k 0) _  (by omega)) ?_
            intro v_ h14_8
            rintro ⟨rfl, e14_8⟩
            have := Ext.size e14_8
            replace eB := Ext.trans eB e14_8
            replace cL2 := Ext.trans cL2 e14_8
            replace cL9 := Ext.trans cL9 e14_8
            try simp -implicitDefEqProofs (disch := first | decide | assumption | omega) only [go_sem, wrap_id, sV_0, sV_44, sV_45, sV_58, sV_59, sV_cells, bin_sadd, bin_sne, bin_seq, cv_i64, wrap_u8]
            refine hK _ _ ?_
            clear hK K
            refine den_blk ?_
            refine den_region TTok ?_
            intro K hK
            simp -implicitDefEqProofs (disch := first | decide | assumption | omega) only [go_sem, wrap_id, sV_0, sV_44, sV_45, sV_58, sV_59, sV_cells, bin_sadd, bin_sne, bin_seq, cv_i64, wrap_u8]
            refine hK _ _ ?_
            clear hK K
            refine den_stop ?_
            exact ⟨(k + 1, U ++ dg8 (((R).getD i default).getD k 0)), by simp [HasL, puts_at], ⟨by first | omega | (dsimp only; omega), by rw [hU, List.append_assoc, dgs_step (by omega)], cL9⟩, by first | omega | (dsimp only; omega)⟩
          · try simp only [decide_eq_true_eq, decide_eq_false_iff_not, beq_iff_eq, beq_eq_false_iff_ne, bne_iff_ne, ne_eq, Bool.not_eq_true', Bool.not_eq_false', Bool.and_eq_true, Bool.or_eq_true, bne_eq_false_iff_eq] at c4
            refine den_exit ?_
            refine denX_code ?_
            refine denX_stop ?_
            refine denX_hit ?_
            refine den_blk ?_
            refine den_region TTok ?_
            intro K hK
            simp -implicitDefEqProofs (disch := first | decide | assumption | omega) only [go_sem, wrap_id, sV_0, sV_44, sV_45, sV_58, sV_59, sV_cells, bin_sadd, bin_sne, bin_seq, cv_i64, wrap_u8]
            refine hK _ _ ?_
            clear hK K
            refine den_stop ?_
            exact ⟨(i + 1, U), by simp [HasL, puts_at], ⟨by first | omega | (dsimp only; omega), by rw [hU, List.take_of_length_le (by omega)]; exact rt_step (by omega) hT, cL2⟩, by first | omega | (dsimp only; omega)⟩
      · try simp only [decide_eq_true_eq, decide_eq_false_iff_not, beq_iff_eq, beq_eq_false_iff_ne, bne_iff_ne, ne_eq, Bool.not_eq_true', Bool.not_eq_false', Bool.and_eq_true, Bool.or_eq_true, bne_eq_false_iff_eq] at c1
        refine den_exit ?_
        refine denX_code ?_
        refine denX_stop ?_
        refine denX_hit ?_
        refine den_seq ?_
        refine den_region TTok ?_
        intro K hK
        simp -implicitDefEqProofs (disch := first | decide | assumption | omega) only [go_sem, wrap_id, sV_0, sV_44, sV_45, sV_58, sV_59, sV_cells, bin_sadd, bin_sne, bin_seq, cv_i64, wrap_u8]
        refine hK _ _ ?_
        clear hK K
        refine den_ret ?_
        simp (disch := decide) only [resP_1, puts_same, puts_ne]
        exact ⟨by rw [rowsT, if_neg (by simpa using c0), hT, jtN_end (by rw [List.length_map]; omega)], eB⟩

end Go.Proofs.YtacajcjibhifmaaDoor
