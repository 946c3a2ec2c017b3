/-
  Walks: texts.
  Conditions: each theorem's own.
-/
import Derived.Test.YtacajcjibhifmaaDoorK3
import Derived.Test.YtacajcjibhifmaaDoorS10
set_option linter.unusedVariables false
set_option linter.unusedSimpArgs false
namespace Go.Proofs.YtacajcjibhifmaaDoor
open Go
theorem pre_step {P J T sep w : List UInt8} {c : Prop} [Decidable c] (h : T = P ++ J) : (if c then T ++ sep else T) ++ w = P ++ ((if c then J ++ sep else J) ++ w) := by
  subst h
  split <;> simp
theorem map_getD {α : Type} [Inhabited α] {f : α → List UInt8} {xs : List α} {k : Nat} {d : α} (h : k < xs.length) : (xs.map f).getD k [] = f (xs.getD k d) := by
  rw [List.getD_eq_getElem?_getD, List.getElem?_map, List.getElem?_eq_getElem h, List.getD_eq_getElem?_getD, List.getElem?_eq_getElem h]; rfl
theorem isC_dm {X : Cx} (h : IsC X) {n : Nat} (hn : n < X.dims.length) : 0 ≤ X.dims.getD n 0 ∧ X.dims.getD n 0 ≤ 8 := dm_at h.dm hn
theorem isC_sm {X : Cx} (h : IsC X) {k : Nat} (hk : k < X.maps.length) : SmR (X.maps.getD k default) := by
  have hp := isP_bnd h.p
  have hm := h.ml
  have h1 := tableP_iff.1 (h.tb k hk)
  have d1 := isC_dm h (n := k + 1) (by omega)
  have d2 := isC_dm h (n := k) (by omega)
  rw [show ((k : Int) + 1).toNat = k + 1 by omega] at h1
  refine ⟨by omega, fun r hr => ⟨by have := (h1.2 r hr).1; omega, fun x hx => by have := (h1.2 r hr).2 x hx; omega⟩⟩
theorem wd_dims {X : Cx} : ∀ w ∈ X.dims.map dg8, w.length ≤ 1 := fun w hw => by
  obtain ⟨x, _, rfl⟩ := List.mem_map.1 hw
  exact Nat.le_refl _
theorem wd_maps {X : Cx} (h : IsC X) : ∀ w ∈ X.maps.map rowsT, w.length ≤ 72 := fun w hw => by
  obtain ⟨R, hR, rfl⟩ := List.mem_map.1 hw
  obtain ⟨k, hk, rfl⟩ := List.getElem_of_mem hR
  have := isC_sm h hk
  rw [List.getD_eq_getElem?_getD, List.getElem?_eq_getElem hk] at this
  exact rowsT_le this

set_option maxRecDepth 100000 in
theorem sTx_ok (vX : Value) (X : Cx) (h : Heap) (rX : RC h vX X) (hC : IsC X) : CallA Tryd.prog 12 #[vX] h fun v' h' => v' = sV (txtC X) ∧ Ext h h' := by
  obtain ⟨vdX, vmX, rfl, hdX, hmX⟩ := rX
  have hledX := RdS.le hdX
  have hlemX := RdS.le hmX
  have hlX := hC.len
  have hmlX := hC.ml
  have hpb := isP_bnd hC.p
  refine callA_intro TTok (args := [_]) Tryd.func12 (by kernel_rfl) rfl 51 rfl (by simp) [.tmp 2] rfl ?_
  simp only [idxs, Nat.reduceAdd]
  refine den_seq ?_
  refine den_region TTok ?_
  intro K hK
  simp -implicitDefEqProofs (disch := first | decide | assumption | omega) only [go_sem, wrap_id, sV_0, sV_44, sV_45, sV_58, sV_59, sV_cells, bin_sadd, bin_sne, bin_seq, cv_i64, wrap_u8]
  refine op_box (cs := #[.int .i64 (X.p), vdX, vmX]) rfl ?_
  intro h0_0 e0_0 hb0_0 z0_0
  have := Ext.size e0_0
  have eB := e0_0
  have hfhb0_0 : Fresh h.size [h.size] := Fresh.one _
  have hlhb0_0 := one_lt (show h.size < h0_0.size by omega)
  try simp -implicitDefEqProofs (disch := first | decide | assumption | omega) only [go_sem, wrap_id, sV_0, sV_44, sV_45, sV_58, sV_59, sV_cells, bin_sadd, bin_sne, bin_seq, cv_i64, wrap_u8]
  refine hK _ _ ?_
  clear hK K
  refine den_seq ?_
  have hs0 : (dg8 X.p).length + ([58] : List UInt8).length ≤ 1000000 := by rw [dg8_len]; simp
  refine den_region TTok ?_
  intro K hK
  simp -implicitDefEqProofs (disch := first | decide | assumption | omega) only [go_sem, fa29_0, ld2, RdS.len hdX sl22, RdS.idx hdX sl22, R1.intB hdX (Ext.pres eB), RdS.cells hdX, RdS.len hmX sl23, RdS.idx hmX sl23, RdS.cellB hmX (Ext.pres eB), RdS.cells hmX, BoxAt.cell hb0_0, wrap_id, sV_0, sV_44, sV_45, sV_58, sV_59, sV_cells, bin_sadd, bin_sne, bin_seq, cv_i64, wrap_u8]
  try simp -implicitDefEqProofs (disch := first | decide | assumption | omega) only [go_sem, wrap_id, sV_0, sV_44, sV_45, sV_58, sV_59, sV_cells, bin_sadd, bin_sne, bin_seq, cv_i64, wrap_u8]
  refine CallA.mono (sDec_ok  X.p _  (by omega)) ?_
  intro v_ h1_2
  rintro ⟨rfl, e1_2⟩
  replace hb0_0 := BoxAt.ext hb0_0 e1_2
  have := Ext.size e1_2
  replace eB := Ext.trans eB e1_2
  try simp -implicitDefEqProofs (disch := first | decide | assumption | omega) only [go_sem, wrap_id, sV_0, sV_44, sV_45, sV_58, sV_59, sV_cells, bin_sadd, bin_sne, bin_seq, cv_i64, wrap_u8]
  refine hK _ _ ?_
  clear hK K
  refine den_seq ?_
  refine den_seq ?_
  refine den_region TTok ?_
  intro K hK
  simp -implicitDefEqProofs (disch := first | decide | assumption | omega) only [go_sem, wrap_id, sV_0, sV_44, sV_45, sV_58, sV_59, sV_cells, bin_sadd, bin_sne, bin_seq, cv_i64, wrap_u8]
  refine hK _ _ ?_
  clear hK K
  refine den_block ?_
  refine den_sel [3, 4, 1] ?_
  intro env_1
  simp only [go_sem]
  refine den_loopS (σ := Nat × List UInt8) (fun st_ => [(3, sV st_.2), (4, .int .i64 (st_.1 : Int))]) (fun st_ H => (st_.1 ≤ X.dims.length) ∧ (st_.2 = dg8 X.p ++ [58] ++ jtN [44] (X.dims.map dg8) st_.1) ∧ (Ext h1_2 H)) (fun st_ => X.dims.length - st_.1) (0, (dg8 X.p ++ [58])) ?_ ?_
  · exact ⟨by omega, (List.append_nil _).symm, Ext.refl _⟩
  · rintro ⟨n, T⟩ h4 ee3 ⟨hn, hT, cL2⟩
    dsimp only at hn hT cL2
    replace hb0_0 := BoxAt.ext hb0_0 cL2
    have := Ext.size cL2
    replace eB := Ext.trans eB cL2
    simp only [List.cons_append, List.nil_append]
    refine den_seq ?_
    refine den_seq ?_
    refine den_region TTok ?_
    intro K hK
    simp -implicitDefEqProofs (disch := first | decide | assumption | omega) only [go_sem, fa29_1, ld22, RdS.len hdX sl22, RdS.idx hdX sl22, R1.intB hdX (Ext.pres eB), RdS.cells hdX, RdS.len hmX sl23, RdS.idx hmX sl23, RdS.cellB hmX (Ext.pres eB), RdS.cells hmX, BoxAt.cell hb0_0, wrap_id, sV_0, sV_44, sV_45, sV_58, sV_59, sV_cells, bin_sadd, bin_sne, bin_seq, cv_i64, wrap_u8]
    refine hK _ _ ?_
    clear hK K
    refine den_cond rfl (fun c0 => ?_) (fun c0 => ?_)
    · try simp only [decide_eq_true_eq, decide_eq_false_iff_not, beq_iff_eq, beq_eq_false_iff_ne, bne_iff_ne, ne_eq, Bool.not_eq_true', Bool.not_eq_false', Bool.and_eq_true, Bool.or_eq_true, bne_eq_false_iff_eq] at c0
      refine den_skip ?_
      refine den_seq ?_
      refine den_block ?_
      refine den_seq ?_
      refine den_seq ?_
      have hdn := isC_dm hC (n := n) (by omega)
      have hTl : T.length ≤ 14 := by rw [hT, List.length_append, app1, dg8_len]; have := jtN_le (m := 6) (c := 1) (sep := [44]) (wd_dims (X := X)) (k := n) (by rw [List.length_map]; omega) (by rw [List.length_map]; omega) (by simp); omega
      have hs1 : T.length + ([44] : List UInt8).length ≤ 1000000 := by simp; omega
      have hA : ((if decide ((0 : Int) < (n : Int)) = true then T ++ [44] else T)).length ≤ 15 := ifl (by rw [app1]; omega) (by omega)
      have hs2 : ((if decide ((0 : Int) < (n : Int)) = true then T ++ [44] else T)).length + (dg8 (X.dims.getD n 0)).length ≤ 1000000 := by rw [dg8_len]; omega
      refine den_region TTok ?_
      intro K hK
      simp -implicitDefEqProofs (disch := first | decide | assumption | omega) only [go_sem, wrap_id, sV_0, sV_44, sV_45, sV_58, sV_59, sV_cells, bin_sadd, bin_sne, bin_seq, cv_i64, wrap_u8]
      refine hK _ _ ?_
      clear hK K
      refine den_mergeH [(3, sV ((if decide ((0 : Int) < (n : Int)) = true then T ++ [44] else T)))] [1, 4] ?_ ?_
      · refine den_cond rfl (fun c1 => ?_) (fun c1 => ?_)
        · refine den_region TTok ?_
          intro K hK
          simp -implicitDefEqProofs (disch := first | decide | assumption | omega) only [go_sem, wrap_id, sV_0, sV_44, sV_45, sV_58, sV_59, sV_cells, bin_sadd, bin_sne, bin_seq, cv_i64, wrap_u8]
          refine hK _ _ ?_
          clear hK K
          refine den_stop ?_
          refine ⟨?_, rfl⟩; simp (disch := decide) only [go_sem, c1, eq_self, if_true, if_false, Bool.false_eq_true, reduceCtorEq]
        · refine den_skip ?_
          refine den_stop ?_
          refine ⟨?_, rfl⟩; simp (disch := decide) only [go_sem, c1, eq_self, if_true, if_false, Bool.false_eq_true, reduceCtorEq]
      intro en5
      simp (disch := decide) only [go_sem]
      refine den_region TTok ?_
      intro K hK
      simp -implicitDefEqProofs (disch := first | decide | assumption | omega) only [go_sem, fa29_1, ld22, ld2, RdS.len hdX sl22, RdS.idx hdX sl22, R1.intB hdX (Ext.pres eB), RdS.cells hdX, RdS.len hmX sl23, RdS.idx hmX sl23, RdS.cellB hmX (Ext.pres eB), RdS.cells hmX, BoxAt.cell hb0_0, wrap_id, sV_0, sV_44, sV_45, sV_58, sV_59, sV_cells, bin_sadd, bin_sne, bin_seq, cv_i64, wrap_u8]
      try simp -implicitDefEqProofs (disch := first | decide | assumption | omega) only [go_sem, wrap_id, sV_0, sV_44, sV_45, sV_58, sV_59, sV_cells, bin_sadd, bin_sne, bin_seq, cv_i64, wrap_u8]
      refine CallA.mono (sDec_ok  ((X.dims).getD n 0) _  (by omega)) ?_
      intro v_ h7_6
      rintro ⟨rfl, e7_6⟩
      replace hb0_0 := BoxAt.ext hb0_0 e7_6
      have := Ext.size e7_6
      replace eB := Ext.trans eB e7_6
      replace cL2 := Ext.trans cL2 e7_6
      try simp -implicitDefEqProofs (disch := first | decide | assumption | omega) only [go_sem, wrap_id, sV_0, sV_44, sV_45, sV_58, sV_59, sV_cells, bin_sadd, bin_sne, bin_seq, cv_i64, wrap_u8]
      refine hK _ _ ?_
      clear hK K
      refine den_blk ?_
      refine den_region TTok ?_
      intro K hK
      simp -implicitDefEqProofs (disch := first | decide | assumption | omega) only [go_sem, wrap_id, sV_0, sV_44, sV_45, sV_58, sV_59, sV_cells, bin_sadd, bin_sne, bin_seq, cv_i64, wrap_u8]
      refine hK _ _ ?_
      clear hK K
      refine den_stop ?_
      exact ⟨(n + 1, (if decide ((0 : Int) < (n : Int)) = true then T ++ [44] else T) ++ dg8 (X.dims.getD n 0)), by simp [HasL, puts_at], ⟨by first | omega | (dsimp only; omega), by rw [pre_step hT, jtN, map_getD (d := 0) (by omega)], cL2⟩, by first | omega | (dsimp only; omega)⟩
    · try simp only [decide_eq_true_eq, decide_eq_false_iff_not, beq_iff_eq, beq_eq_false_iff_ne, bne_iff_ne, ne_eq, Bool.not_eq_true', Bool.not_eq_false', Bool.and_eq_true, Bool.or_eq_true, bne_eq_false_iff_eq] at c0
      refine den_exit ?_
      refine denX_code ?_
      refine denX_stop ?_
      refine denX_hit ?_
      refine den_seq ?_
      have hTl : T.length ≤ 14 := by rw [hT, List.length_append, app1, dg8_len]; have := jtN_le (m := 6) (c := 1) (sep := [44]) (wd_dims (X := X)) (k := n) (by rw [List.length_map]; omega) (by rw [List.length_map]; omega) (by simp); omega
      have hs1 : T.length + ([58] : List UInt8).length ≤ 1000000 := by simp; omega
      refine den_region TTok ?_
      intro K hK
      simp -implicitDefEqProofs (disch := first | decide | assumption | omega) only [go_sem, wrap_id, sV_0, sV_44, sV_45, sV_58, sV_59, sV_cells, bin_sadd, bin_sne, bin_seq, cv_i64, wrap_u8]
      refine hK _ _ ?_
      clear hK K
      refine den_seq ?_
      refine den_seq ?_
      refine den_region TTok ?_
      intro K hK
      simp -implicitDefEqProofs (disch := first | decide | assumption | omega) only [go_sem, wrap_id, sV_0, sV_44, sV_45, sV_58, sV_59, sV_cells, bin_sadd, bin_sne, bin_seq, cv_i64, wrap_u8]
      refine hK _ _ ?_
      clear hK K
      refine den_block ?_
      refine den_sel [3, 5, 1] ?_
      intro env_6
      simp only [go_sem]
      refine den_loopS (σ := Nat × List UInt8) (fun st_ => [(3, sV st_.2), (5, .int .i64 (st_.1 : Int))]) (fun st_ H => (st_.1 ≤ X.maps.length) ∧ (st_.2 = T ++ [58] ++ jtN [59] (X.maps.map rowsT) st_.1) ∧ (Ext h4 H)) (fun st_ => X.maps.length - st_.1) (0, (T ++ [58])) ?_ ?_
      · exact ⟨by omega, (List.append_nil _).symm, Ext.refl _⟩
      · rintro ⟨k, U⟩ h9 ee8 ⟨hk, hU, cL7⟩
        dsimp only at hk hU cL7
        replace hb0_0 := BoxAt.ext hb0_0 cL7
        have := Ext.size cL7
        replace eB := Ext.trans eB cL7
        simp only [List.cons_append, List.nil_append]
        refine den_seq ?_
        refine den_seq ?_
        refine den_region TTok ?_
        intro K hK
        simp -implicitDefEqProofs (disch := first | decide | assumption | omega) only [go_sem, fa29_2, ld23, RdS.len hdX sl22, RdS.idx hdX sl22, R1.intB hdX (Ext.pres eB), RdS.cells hdX, RdS.len hmX sl23, RdS.idx hmX sl23, RdS.cellB hmX (Ext.pres eB), RdS.cells hmX, BoxAt.cell hb0_0, wrap_id, sV_0, sV_44, sV_45, sV_58, sV_59, sV_cells, bin_sadd, bin_sne, bin_seq, cv_i64, wrap_u8]
        refine hK _ _ ?_
        clear hK K
        refine den_cond rfl (fun c2 => ?_) (fun c2 => ?_)
        · try simp only [decide_eq_true_eq, decide_eq_false_iff_not, beq_iff_eq, beq_eq_false_iff_ne, bne_iff_ne, ne_eq, Bool.not_eq_true', Bool.not_eq_false', Bool.and_eq_true, Bool.or_eq_true, bne_eq_false_iff_eq] at c2
          refine den_skip ?_
          refine den_seq ?_
          refine den_block ?_
          refine den_seq ?_
          refine den_seq ?_
          have hsm := isC_sm hC (k := k) (by omega)
          have hUl : U.length ≤ 400 := by rw [hU, List.length_append, app1]; have := jtN_le (m := 5) (c := 72) (sep := [59]) (wd_maps hC) (k := k) (by rw [List.length_map]; omega) (by rw [List.length_map]; omega) (by simp); omega
          have hs3 : U.length + ([59] : List UInt8).length ≤ 1000000 := by simp; omega
          have hB : ((if decide ((0 : Int) < (k : Int)) = true then U ++ [59] else U)).length ≤ 401 := ifl (by rw [app1]; omega) (by omega)
          have hs4 : ((if decide ((0 : Int) < (k : Int)) = true then U ++ [59] else U)).length + (rowsT (X.maps.getD k default)).length ≤ 1000000 := by have := rowsT_le hsm; omega
          refine den_region TTok ?_
          intro K hK
          simp -implicitDefEqProofs (disch := first | decide | assumption | omega) only [go_sem, wrap_id, sV_0, sV_44, sV_45, sV_58, sV_59, sV_cells, bin_sadd, bin_sne, bin_seq, cv_i64, wrap_u8]
          refine hK _ _ ?_
          clear hK K
          refine den_mergeH [(3, sV ((if decide ((0 : Int) < (k : Int)) = true then U ++ [59] else U)))] [1, 5] ?_ ?_
          · refine den_cond rfl (fun c3 => ?_) (fun c3 => ?_)
            · refine den_region TTok ?_
              intro K hK
              simp -implicitDefEqProofs (disch := first | decide | assumption | omega) only [go_sem, wrap_id, sV_0, sV_44, sV_45, sV_58, sV_59, sV_cells, bin_sadd, bin_sne, bin_seq, cv_i64, wrap_u8]
              refine hK _ _ ?_
              clear hK K
              refine den_stop ?_
              refine ⟨?_, rfl⟩; simp (disch := decide) only [go_sem, c3, eq_self, if_true, if_false, Bool.false_eq_true, reduceCtorEq]
            · refine den_skip ?_
              refine den_stop ?_
              refine ⟨?_, rfl⟩; simp (disch := decide) only [go_sem, c3, eq_self, if_true, if_false, Bool.false_eq_true, reduceCtorEq]
          intro en10
          simp (disch := decide) only [go_sem]
          refine den_region TTok ?_
          intro K hK
          have hr11 := RdS.rowN hmX k (by omega)
          have hlhr11 := RdS.le hr11
          simp -implicitDefEqProofs (disch := first | decide | assumption | omega) only [go_sem, fa29_2, ld23, ld43, RdS.len hdX sl22, RdS.idx hdX sl22, R1.intB hdX (Ext.pres eB), RdS.cells hdX, RdS.len hmX sl23, RdS.idx hmX sl23, RdS.cellB hmX (Ext.pres eB), RdS.cells hmX, RdS.len hr11 sl43, RdS.idx hr11 sl43, RdS.cellB hr11 (Ext.pres eB), RdS.cells hr11, BoxAt.cell hb0_0, wrap_id, sV_0, sV_44, sV_45, sV_58, sV_59, sV_cells, bin_sadd, bin_sne, bin_seq, cv_i64, wrap_u8]
          try simp -implicitDefEqProofs (disch := first | decide | assumption | omega) only [go_sem, wrap_id, sV_0, sV_44, sV_45, sV_58, sV_59, sV_cells, bin_sadd, bin_sne, bin_seq, cv_i64, wrap_u8]
          refine CallA.mono (sRt_ok _ ((X.maps).getD k default) _ (RdS.pres hr11 (Ext.pres eB)) hsm) ?_
          intro v_ h14_6
          rintro ⟨rfl, e14_6⟩
          replace hb0_0 := BoxAt.ext hb0_0 e14_6
          have := Ext.size e14_6
          replace eB := Ext.trans eB e14_6
          replace cL7 := Ext.trans cL7 e14_6
          try simp -implicitDefEqProofs (disch := first | decide | assumption | omega) only [go_sem, wrap_id, sV_0, sV_44, sV_45, sV_58, sV_59, sV_cells, bin_sadd, bin_sne, bin_seq, cv_i64, wrap_u8]
          refine hK _ _ ?_
          clear hK K
          refine den_blk ?_
          refine den_region TTok ?_
          intro K hK
          simp -implicitDefEqProofs (disch := first | decide | assumption | omega) only [go_sem, wrap_id, sV_0, sV_44, sV_45, sV_58, sV_59, sV_cells, bin_sadd, bin_sne, bin_seq, cv_i64, wrap_u8]
          refine hK _ _ ?_
          clear hK K
          refine den_stop ?_
          exact ⟨(k + 1, (if decide ((0 : Int) < (k : Int)) = true then U ++ [59] else U) ++ rowsT (X.maps.getD k default)), by simp [HasL, puts_at], ⟨by first | omega | (dsimp only; omega), by rw [pre_step hU, jtN, map_getD (d := default) (by omega)], cL7⟩, by first | omega | (dsimp only; omega)⟩
        · try simp only [decide_eq_true_eq, decide_eq_false_iff_not, beq_iff_eq, beq_eq_false_iff_ne, bne_iff_ne, ne_eq, Bool.not_eq_true', Bool.not_eq_false', Bool.and_eq_true, Bool.or_eq_true, bne_eq_false_iff_eq] at c2
          refine den_exit ?_
          refine denX_code ?_
          refine denX_stop ?_
          refine denX_hit ?_
          refine den_seq ?_
          refine den_region TTok ?_
          intro K hK
          simp -implicitDefEqProofs (disch := first | decide | assumption | omega) only [go_sem, wrap_id, sV_0, sV_44, sV_45, sV_58, sV_59, sV_cells, bin_sadd, bin_sne, bin_seq, cv_i64, wrap_u8]
          refine hK _ _ ?_
          clear hK K
          refine den_ret ?_
          simp (disch := decide) only [resP_1, puts_same, puts_ne]
          exact ⟨by rw [hU, hT, jtN_end (by rw [List.length_map]; omega), jtN_end (by rw [List.length_map]; omega)]; rfl, eB⟩

noncomputable def txR (X : Cx) : List UInt8 × Int := if isC X = true then (txtC X, 0) else ([], 1)
theorem txR_y {X : Cx} (h : isC X = true) : txR X = (txtC X, 0) := if_pos h
theorem txR_n {X : Cx} (h : ¬ isC X = true) : txR X = ([], 1) := if_neg h

set_option maxRecDepth 100000 in
theorem sCT_ok (vX : Value) (X : Cx) (h : Heap) (rX : RC h vX X)  : CallA Tryd.prog 5 #[vX] h fun v' h' => v' = .tuple #[sV ((txR X).1), .int .i64 ((txR X).2)] ∧ Ext h h' := by
  obtain ⟨vdX, vmX, rfl, hdX, hmX⟩ := rX
  have hledX := RdS.le hdX
  have hlemX := RdS.le hmX
  refine callA_intro TTok (args := [_]) Tryd.func5 (by kernel_rfl) rfl 9 rfl (by simp) [.tmp 2, .tmp 3] rfl ?_
  simp only [idxs, Nat.reduceAdd]
  refine den_seq ?_
  refine den_region TTok ?_
  intro K hK
  simp -implicitDefEqProofs (disch := first | decide | assumption | omega) only [go_sem, wrap_id, sV_0, sV_44, sV_45, sV_58, sV_59, sV_cells, bin_sadd, bin_sne, bin_seq, cv_i64, wrap_u8]
  refine op_box (cs := #[.int .i64 (X.p), vdX, vmX]) rfl ?_
  intro h0_0 e0_0 hb0_0 z0_0
  have := Ext.size e0_0
  have eB := e0_0
  have hfhb0_0 : Fresh h.size [h.size] := Fresh.one _
  have hlhb0_0 := one_lt (show h.size < h0_0.size by omega)
  try simp -implicitDefEqProofs (disch := first | decide | assumption | omega) only [go_sem, wrap_id, sV_0, sV_44, sV_45, sV_58, sV_59, sV_cells, bin_sadd, bin_sne, bin_seq, cv_i64, wrap_u8]
  refine hK _ _ ?_
  clear hK K
  refine den_seq ?_
  refine den_seq ?_
  refine den_region TTok ?_
  intro K hK
  simp -implicitDefEqProofs (disch := first | decide | assumption | omega) only [go_sem, ld29, RdS.len hdX sl22, RdS.idx hdX sl22, R1.intB hdX (Ext.pres eB), RdS.cells hdX, RdS.len hmX sl23, RdS.idx hmX sl23, RdS.cellB hmX (Ext.pres eB), RdS.cells hmX, BoxAt.cell hb0_0, wrap_id, sV_0, sV_44, sV_45, sV_58, sV_59, sV_cells, bin_sadd, bin_sne, bin_seq, cv_i64, wrap_u8]
  try simp -implicitDefEqProofs (disch := first | decide | assumption | omega) only [go_sem, wrap_id, sV_0, sV_44, sV_45, sV_58, sV_59, sV_cells, bin_sadd, bin_sne, bin_seq, cv_i64, wrap_u8]
  refine CallA.mono (sIs_ok _ X _ ⟨_, _, rfl, (RdS.pres hdX (Ext.pres eB)), (RdS.pres hmX (Ext.pres eB))⟩) ?_
  intro v_ h1_1
  rintro ⟨rfl, e1_1⟩
  replace hb0_0 := BoxAt.ext hb0_0 e1_1
  have := Ext.size e1_1
  replace eB := Ext.trans eB e1_1
  try simp -implicitDefEqProofs (disch := first | decide | assumption | omega) only [go_sem, wrap_id, sV_0, sV_44, sV_45, sV_58, sV_59, sV_cells, bin_sadd, bin_sne, bin_seq, cv_i64, wrap_u8]
  refine hK _ _ ?_
  clear hK K
  refine den_cond rfl (fun c0 => ?_) (fun c0 => ?_)
  · try simp only [decide_eq_true_eq, decide_eq_false_iff_not, beq_iff_eq, beq_eq_false_iff_ne, bne_iff_ne, ne_eq, Bool.not_eq_true', Bool.not_eq_false', Bool.and_eq_true, Bool.or_eq_true, bne_eq_false_iff_eq, Bool.not_eq_true] at c0
    refine den_seq ?_
    refine den_region TTok ?_
    intro K hK
    simp -implicitDefEqProofs (disch := first | decide | assumption | omega) only [go_sem, wrap_id, sV_0, sV_44, sV_45, sV_58, sV_59, sV_cells, bin_sadd, bin_sne, bin_seq, cv_i64, wrap_u8]
    refine hK _ _ ?_
    clear hK K
    refine den_ret ?_
    simp (disch := decide) only [resP_2, puts_same, puts_ne]
    rw [txR_n (by rw [c0]; decide)]
    exact ⟨by first | rfl | trivial, eB⟩
  · try simp only [decide_eq_true_eq, decide_eq_false_iff_not, beq_iff_eq, beq_eq_false_iff_ne, bne_iff_ne, ne_eq, Bool.not_eq_true', Bool.not_eq_false', Bool.and_eq_true, Bool.or_eq_true, bne_eq_false_iff_eq, Bool.not_eq_true] at c0
    have hCx := isC_t.1 c0
    refine den_skip ?_
    refine den_seq ?_
    refine den_region TTok ?_
    intro K hK
    simp -implicitDefEqProofs (disch := first | decide | assumption | omega) only [go_sem, ld29, RdS.len hdX sl22, RdS.idx hdX sl22, R1.intB hdX (Ext.pres eB), RdS.cells hdX, RdS.len hmX sl23, RdS.idx hmX sl23, RdS.cellB hmX (Ext.pres eB), RdS.cells hmX, BoxAt.cell hb0_0, wrap_id, sV_0, sV_44, sV_45, sV_58, sV_59, sV_cells, bin_sadd, bin_sne, bin_seq, cv_i64, wrap_u8]
    try simp -implicitDefEqProofs (disch := first | decide | assumption | omega) only [go_sem, wrap_id, sV_0, sV_44, sV_45, sV_58, sV_59, sV_cells, bin_sadd, bin_sne, bin_seq, cv_i64, wrap_u8]
    refine CallA.mono (sTx_ok _ X _ ⟨_, _, rfl, (RdS.pres hdX (Ext.pres eB)), (RdS.pres hmX (Ext.pres eB))⟩ hCx) ?_
    intro v_ h3_1
    rintro ⟨rfl, e3_1⟩
    replace hb0_0 := BoxAt.ext hb0_0 e3_1
    have := Ext.size e3_1
    replace eB := Ext.trans eB e3_1
    try simp -implicitDefEqProofs (disch := first | decide | assumption | omega) only [go_sem, wrap_id, sV_0, sV_44, sV_45, sV_58, sV_59, sV_cells, bin_sadd, bin_sne, bin_seq, cv_i64, wrap_u8]
    refine hK _ _ ?_
    clear hK K
    refine den_ret ?_
    simp (disch := decide) only [resP_2, puts_same, puts_ne]
    rw [txR_y c0]
    exact ⟨by first | rfl | trivial, eB⟩

set_option maxRecDepth 100000 in
theorem iLt_ok (vxs : Value) (xs : List Int) (h : Heap) (rxs : R1 h vxs xs) (hl : xs.length ≤ 8) (hx : ∀ k, k < xs.length → 0 ≤ xs.getD k 0 ∧ xs.getD k 0 < 10) : CallA Tryd.prog 40 #[vxs] h fun v' h' => v' = sV (Lib.join (xs.map dg8) [44]) ∧ Ext h h' := by
  have hlexs := RdS.le rxs
  refine callA_intro TTok (args := [_]) Tryd.func40 (by kernel_rfl) rfl 21 rfl (by simp) [.tmp 2] rfl ?_
  simp only [idxs, Nat.reduceAdd]
  refine den_seq ?_
  refine den_region TTok ?_
  intro K hK
  simp -implicitDefEqProofs (disch := first | decide | assumption | omega) only [go_sem, wrap_id, sV_0, sV_44, sV_45, sV_58, sV_59, sV_cells, bin_sadd, bin_sne, bin_seq, cv_i64, wrap_u8]
  refine hK _ _ ?_
  clear hK K
  refine den_seq ?_
  refine den_region TTok ?_
  intro K hK
  simp -implicitDefEqProofs (disch := first | decide | assumption | omega) only [go_sem, wrap_id, sV_0, sV_44, sV_45, sV_58, sV_59, sV_cells, bin_sadd, bin_sne, bin_seq, cv_i64, wrap_u8]
  refine op_bs0 sz59 OSt ?_
  intro v1_0 h1_0 ho1_0 e1_0
  have := Ext.size e1_0
  have eB := e1_0
  have hfho1_0 : Fresh h.size [h.size] := Fresh.one _
  have hlho1_0 := OS.lt ho1_0
  try simp -implicitDefEqProofs (disch := first | decide | assumption | omega) only [go_sem, wrap_id, sV_0, sV_44, sV_45, sV_58, sV_59, sV_cells, bin_sadd, bin_sne, bin_seq, cv_i64, wrap_u8]
  refine hK _ _ ?_
  clear hK K
  refine den_seq ?_
  refine den_seq ?_
  refine den_region TTok ?_
  intro K hK
  simp -implicitDefEqProofs (disch := first | decide | assumption | omega) only [go_sem, RdS.len rxs sl22, RdS.idx rxs sl22, R1.intB rxs (Ext.pres eB), RdS.cells rxs, wrap_id, sV_0, sV_44, sV_45, sV_58, sV_59, sV_cells, bin_sadd, bin_sne, bin_seq, cv_i64, wrap_u8]
  refine hK _ _ ?_
  clear hK K
  refine den_block ?_
  refine den_sel [3, 9, 7, 8] ?_
  intro env_1
  simp only [go_sem]
  refine den_loopS (σ := Nat × Value × List Nat) (fun st_ => [(3, st_.2.1), (9, .int .i64 (st_.1 : Int))]) (fun st_ H => (st_.1 ≤ xs.length) ∧ (OT H st_.2.1 ((xs.take st_.1).map dg8) st_.2.2) ∧ (Fresh (h.size) st_.2.2) ∧ (Sub [h.size] h1_0.size st_.2.2) ∧ (Chg [h.size] h1_0 H)) (fun st_ => xs.length - st_.1) (0, v1_0, [h.size]) ?_ ?_
  · exact ⟨by first | (simp; done) | (dsimp only; omega) | (simp; omega), by simpa using ho1_0, hfho1_0, Sub.refl, Chg.refl _ _⟩
  · rintro ⟨n, vhO, fphO⟩ h4 ee3 ⟨hi0, hO, hfhO, sbhO, cL2⟩
    dsimp only at hi0 hO hfhO sbhO cL2
    have := cL2.size
    replace eB := Ext.then eB cL2 (ge_of hfho1_0 (by omega))
    have hlhO := OS.lt hO
    simp only [List.cons_append, List.nil_append]
    have hol : ((xs.take n).map dg8).length ≤ 8 := by rw [List.length_map, List.length_take]; omega
    refine den_seq ?_
    refine den_region TTok ?_
    intro K hK
    simp -implicitDefEqProofs (disch := first | decide | assumption | omega) only [go_sem, wrap_id, sV_0, sV_44, sV_45, sV_58, sV_59, sV_cells, bin_sadd, bin_sne, bin_seq, cv_i64, wrap_u8]
    refine hK _ _ ?_
    clear hK K
    refine den_seq ?_
    refine den_cond rfl (fun c0 => ?_) (fun c0 => ?_)
    · try simp only [decide_eq_true_eq, decide_eq_false_iff_not, beq_iff_eq, beq_eq_false_iff_ne, bne_iff_ne, ne_eq, Bool.not_eq_true', Bool.not_eq_false', Bool.and_eq_true, Bool.or_eq_true, bne_eq_false_iff_eq] at c0
      refine den_skip ?_
      refine den_seq ?_
      refine den_block ?_
      refine den_seq ?_
      have hxn := hx n (by omega)
      refine den_region TTok ?_
      intro K hK
      simp -implicitDefEqProofs (disch := first | decide | assumption | omega) only [go_sem, ld2, RdS.len rxs sl22, RdS.idx rxs sl22, R1.intB rxs (Ext.pres eB), RdS.cells rxs, wrap_id, sV_0, sV_44, sV_45, sV_58, sV_59, sV_cells, bin_sadd, bin_sne, bin_seq, cv_i64, wrap_u8]
      refine hK _ _ ?_
      clear hK K
      refine den_region TTok ?_
      intro K hK
      simp -implicitDefEqProofs (disch := first | decide | assumption | omega) only [go_sem, wrap_id, sV_0, sV_44, sV_45, sV_58, sV_59, sV_cells, bin_sadd, bin_sne, bin_seq, cv_i64, wrap_u8]
      try simp -implicitDefEqProofs (disch := first | decide | assumption | omega) only [go_sem, wrap_id, sV_0, sV_44, sV_45, sV_58, sV_59, sV_cells, bin_sadd, bin_sne, bin_seq, cv_i64, wrap_u8]
      refine CallA.mono (iDec_ok  ((xs).getD n 0) _  (by omega)) ?_
      intro v_ h5_2
      rintro ⟨rfl, e5_2⟩
      replace hO := OS.ext hO e5_2
      have := Ext.size e5_2
      replace eB := Ext.trans eB e5_2
      replace cL2 := Chg.stepE cL2 e5_2
      try simp -implicitDefEqProofs (disch := first | decide | assumption | omega) only [go_sem, wrap_id, sV_0, sV_44, sV_45, sV_58, sV_59, sV_cells, bin_sadd, bin_sne, bin_seq, cv_i64, wrap_u8]
      refine op_bs1 sz59 rfl rfl ?_
      try simp -implicitDefEqProofs (disch := first | decide | assumption | omega) only [go_sem, wrap_id, sV_0, sV_44, sV_45, sV_58, sV_59, sV_cells, bin_sadd, bin_sne, bin_seq, cv_i64, wrap_u8]
      refine op_append1 sz59 hO hfhO.nodup ⟨rfl, rfl⟩ List.nodup_nil (Apart.nil _) (by first | omega | (simp; omega)) rfl rfl ?_
      intro v5_4 h5_4 fp5_4 ho5_4 hn5_4 hs5_4 c5_4
      have hsz5_4 := c5_4.size
      have hfho5_4 : Fresh h.size fp5_4 := Fresh.appd hfhO (Fresh.nil h5_2.size) (by omega) (by omega) hn5_4 hs5_4
      have sb5 : Sub [h.size] h1_0.size fp5_4 := Sub.grow sbhO Sub.nil (by omega) hs5_4
      have := c5_4.size
      replace eB := Ext.then eB c5_4 (ge_of hfhO (by omega))
      replace cL2 := Chg.step cL2 c5_4 sbhO
      have hlho5_4 := OS.lt ho5_4
      try simp -implicitDefEqProofs (disch := first | decide | assumption | omega) only [go_sem, wrap_id, sV_0, sV_44, sV_45, sV_58, sV_59, sV_cells, bin_sadd, bin_sne, bin_seq, cv_i64, wrap_u8]
      refine hK _ _ ?_
      clear hK K
      refine den_blk ?_
      refine den_region TTok ?_
      intro K hK
      simp -implicitDefEqProofs (disch := first | decide | assumption | omega) only [go_sem, wrap_id, sV_0, sV_44, sV_45, sV_58, sV_59, sV_cells, bin_sadd, bin_sne, bin_seq, cv_i64, wrap_u8]
      refine hK _ _ ?_
      clear hK K
      refine den_stop ?_
      rw [map_takeK (f := dg8) (d := 0) (by omega)] at ho5_4
      exact ⟨(n + 1, v5_4, fp5_4), by simp [HasL, puts_at], ⟨by first | omega | (dsimp only; omega), ho5_4, hfho5_4, sb5, cL2⟩, by first | omega | (dsimp only; omega)⟩
    · try simp only [decide_eq_true_eq, decide_eq_false_iff_not, beq_iff_eq, beq_eq_false_iff_ne, bne_iff_ne, ne_eq, Bool.not_eq_true', Bool.not_eq_false', Bool.and_eq_true, Bool.or_eq_true, bne_eq_false_iff_eq] at c0
      refine den_exit ?_
      refine denX_code ?_
      refine denX_stop ?_
      refine denX_hit ?_
      refine den_seq ?_
      have hjl : (Lib.join ((xs.take n).map dg8) [44]).length ≤ 16 := join_all (m := 8) (c := 1) (fun w hw => by obtain ⟨x, _, rfl⟩ := List.mem_map.1 hw; exact Nat.le_refl _) (by rw [List.length_map, List.length_take]; omega) (by simp)
      have hjn : ((xs.take n).map dg8).length ≤ 8 := by rw [List.length_map, List.length_take]; omega
      refine den_region TTok ?_
      intro K hK
      simp -implicitDefEqProofs (disch := first | decide | assumption | omega) only [go_sem, wrap_id, sV_0, sV_44, sV_45, sV_58, sV_59, sV_cells, bin_sadd, bin_sne, bin_seq, cv_i64, wrap_u8]
      try simp -implicitDefEqProofs (disch := first | decide | assumption | omega) only [go_sem, wrap_id, sV_0, sV_44, sV_45, sV_58, sV_59, sV_cells, bin_sadd, bin_sne, bin_seq, cv_i64, wrap_u8]
      refine CallA.mono (join_ok _ ((xs.take n).map dg8) ([44]) _ _ hO (by omega) (by omega)) ?_
      intro v_ h7_1
      rintro ⟨rfl, e7_1⟩
      replace hO := OS.ext hO e7_1
      have := Ext.size e7_1
      replace eB := Ext.trans eB e7_1
      try simp -implicitDefEqProofs (disch := first | decide | assumption | omega) only [go_sem, wrap_id, sV_0, sV_44, sV_45, sV_58, sV_59, sV_cells, bin_sadd, bin_sne, bin_seq, cv_i64, wrap_u8]
      refine hK _ _ ?_
      clear hK K
      refine den_ret ?_
      simp (disch := decide) only [resP_1, puts_same, puts_ne]
      rw [map_endK (by omega)]
      exact ⟨by first | rfl | trivial, eB⟩

set_option maxRecDepth 100000 in
theorem iRt_ok (vR : Value) (R : List (List Int)) (h : Heap) (rR : R2 h vR R) (hR : SmR R) : CallA Tryd.prog 38 #[vR] h fun v' h' => v' = sV (rowsT R) ∧ Ext h h' := by
  have hleR := RdS.le rR
  have hR8 := hR.1
  refine callA_intro TTok (args := [_]) Tryd.func38 (by kernel_rfl) rfl 47 rfl (by simp) [.tmp 2] rfl ?_
  simp only [idxs, Nat.reduceAdd]
  refine den_seq ?_
  refine den_region TTok ?_
  intro K hK
  simp -implicitDefEqProofs (disch := first | decide | assumption | omega) only [go_sem, wrap_id, sV_0, sV_44, sV_45, sV_58, sV_59, sV_cells, bin_sadd, bin_sne, bin_seq, cv_i64, wrap_u8]
  refine hK _ _ ?_
  clear hK K
  refine den_seq ?_
  refine den_seq ?_
  refine den_region TTok ?_
  intro K hK
  simp -implicitDefEqProofs (disch := first | decide | assumption | omega) only [go_sem, RdS.len rR sl43, RdS.idx rR sl43, RdS.cellB rR (HPres.refl _), RdS.cells rR, wrap_id, sV_0, sV_44, sV_45, sV_58, sV_59, sV_cells, bin_sadd, bin_sne, bin_seq, cv_i64, wrap_u8]
  refine hK _ _ ?_
  clear hK K
  refine den_cond rfl (fun c0 => ?_) (fun c0 => ?_)
  · try simp only [decide_eq_true_eq, decide_eq_false_iff_not, beq_iff_eq, beq_eq_false_iff_ne, bne_iff_ne, ne_eq, Bool.not_eq_true', Bool.not_eq_false', Bool.and_eq_true, Bool.or_eq_true, bne_eq_false_iff_eq] at c0
    refine den_seq ?_
    refine den_region TTok ?_
    intro K hK
    simp -implicitDefEqProofs (disch := first | decide | assumption | omega) only [go_sem, wrap_id, sV_0, sV_44, sV_45, sV_58, sV_59, sV_cells, bin_sadd, bin_sne, bin_seq, cv_i64, wrap_u8]
    refine hK _ _ ?_
    clear hK K
    refine den_ret ?_
    simp (disch := decide) only [resP_1, puts_same, puts_ne]
    exact ⟨by rw [rowsT, if_pos (by simpa using c0)], (Ext.refl _)⟩
  · try simp only [decide_eq_true_eq, decide_eq_false_iff_not, beq_iff_eq, beq_eq_false_iff_ne, bne_iff_ne, ne_eq, Bool.not_eq_true', Bool.not_eq_false', Bool.and_eq_true, Bool.or_eq_true, bne_eq_false_iff_eq] at c0
    refine den_skip ?_
    refine den_seq ?_
    refine den_region TTok ?_
    intro K hK
    simp -implicitDefEqProofs (disch := first | decide | assumption | omega) only [go_sem, wrap_id, sV_0, sV_44, sV_45, sV_58, sV_59, sV_cells, bin_sadd, bin_sne, bin_seq, cv_i64, wrap_u8]
    refine op_bs0 sz59 OSt ?_
    intro v3_0 h3_0 ho3_0 e3_0
    have := Ext.size e3_0
    have eB := e3_0
    have hfho3_0 : Fresh h.size [h.size] := Fresh.one _
    have hlho3_0 := OS.lt ho3_0
    try simp -implicitDefEqProofs (disch := first | decide | assumption | omega) only [go_sem, wrap_id, sV_0, sV_44, sV_45, sV_58, sV_59, sV_cells, bin_sadd, bin_sne, bin_seq, cv_i64, wrap_u8]
    refine hK _ _ ?_
    clear hK K
    refine den_seq ?_
    refine den_seq ?_
    refine den_region TTok ?_
    intro K hK
    simp -implicitDefEqProofs (disch := first | decide | assumption | omega) only [go_sem, RdS.len rR sl43, RdS.idx rR sl43, RdS.cellB rR (Ext.pres eB), RdS.cells rR, wrap_id, sV_0, sV_44, sV_45, sV_58, sV_59, sV_cells, bin_sadd, bin_sne, bin_seq, cv_i64, wrap_u8]
    refine hK _ _ ?_
    clear hK K
    refine den_block ?_
    refine den_sel [3, 15, 13, 14] ?_
    intro env_1
    simp only [go_sem]
    refine den_loopS (σ := Nat × Value × List Nat) (fun st_ => [(3, st_.2.1), (15, .int .i64 (st_.1 : Int))]) (fun st_ H => (st_.1 ≤ R.length) ∧ (OT H st_.2.1 ((R.take st_.1).map rowT) st_.2.2) ∧ (Fresh (h.size) st_.2.2) ∧ (Sub [h.size] h3_0.size st_.2.2) ∧ (Chg [h.size] h3_0 H)) (fun st_ => R.length - st_.1) (0, v3_0, [h.size]) ?_ ?_
    · exact ⟨by first | (simp; done) | (dsimp only; omega) | (simp; omega), by simpa using ho3_0, hfho3_0, Sub.refl, Chg.refl _ _⟩
    · rintro ⟨i, vhO, fphO⟩ h4 ee3 ⟨hi0, hO, hfhO, sbhO, cL2⟩
      dsimp only at hi0 hO hfhO sbhO cL2
      have := cL2.size
      replace eB := Ext.then eB cL2 (ge_of hfho3_0 (by omega))
      have hlhO := OS.lt hO
      simp only [List.cons_append, List.nil_append]
      have hol : ((R.take i).map rowT).length ≤ 8 := by rw [List.length_map, List.length_take]; omega
      refine den_seq ?_
      refine den_region TTok ?_
      intro K hK
      simp -implicitDefEqProofs (disch := first | decide | assumption | omega) only [go_sem, wrap_id, sV_0, sV_44, sV_45, sV_58, sV_59, sV_cells, bin_sadd, bin_sne, bin_seq, cv_i64, wrap_u8]
      refine hK _ _ ?_
      clear hK K
      refine den_seq ?_
      refine den_cond rfl (fun c1 => ?_) (fun c1 => ?_)
      · try simp only [decide_eq_true_eq, decide_eq_false_iff_not, beq_iff_eq, beq_eq_false_iff_ne, bne_iff_ne, ne_eq, Bool.not_eq_true', Bool.not_eq_false', Bool.and_eq_true, Bool.or_eq_true, bne_eq_false_iff_eq] at c1
        refine den_skip ?_
        refine den_seq ?_
        refine den_block ?_
        refine den_seq ?_
        have hrw := hR.row (i := i) (by omega)
        refine den_region TTok ?_
        intro K hK
        have hr5 := RdS.rowN rR i (by omega)
        have hlhr5 := RdS.le hr5
        simp -implicitDefEqProofs (disch := first | decide | assumption | omega) only [go_sem, ld22, RdS.len rR sl43, RdS.idx rR sl43, RdS.cellB rR (Ext.pres eB), RdS.cells rR, RdS.len hr5 sl22, RdS.idx hr5 sl22, R1.intB hr5 (Ext.pres eB), RdS.cells hr5, wrap_id, sV_0, sV_44, sV_45, sV_58, sV_59, sV_cells, bin_sadd, bin_sne, bin_seq, cv_i64, wrap_u8]
        refine hK _ _ ?_
        clear hK K
        refine den_seq ?_
        refine den_seq ?_
        refine den_region TTok ?_
        intro K hK
        simp -implicitDefEqProofs (disch := first | decide | assumption | omega) only [go_sem, RdS.len hr5 sl22, RdS.idx hr5 sl22, R1.intB hr5 (Ext.pres eB), RdS.cells hr5, wrap_id, sV_0, sV_44, sV_45, sV_58, sV_59, sV_cells, bin_sadd, bin_sne, bin_seq, cv_i64, wrap_u8]
        refine hK _ _ ?_
        clear hK K
        refine den_cond rfl (fun c2 => ?_) (fun c2 => ?_)
        · try simp only [decide_eq_true_eq, decide_eq_false_iff_not, beq_iff_eq, beq_eq_false_iff_ne, bne_iff_ne, ne_eq, Bool.not_eq_true', Bool.not_eq_false', Bool.and_eq_true, Bool.or_eq_true, bne_eq_false_iff_eq] at c2
          refine den_seq ?_
          refine den_region TTok ?_
          intro K hK
          simp -implicitDefEqProofs (disch := first | decide | assumption | omega) only [go_sem, wrap_id, sV_0, sV_44, sV_45, sV_58, sV_59, sV_cells, bin_sadd, bin_sne, bin_seq, cv_i64, wrap_u8]
          refine op_bs1 sz59 rfl rfl ?_
          try simp -implicitDefEqProofs (disch := first | decide | assumption | omega) only [go_sem, wrap_id, sV_0, sV_44, sV_45, sV_58, sV_59, sV_cells, bin_sadd, bin_sne, bin_seq, cv_i64, wrap_u8]
          refine op_append1 sz59 hO hfhO.nodup ⟨rfl, rfl⟩ List.nodup_nil (Apart.nil _) (by first | omega | (simp; omega)) rfl rfl ?_
          intro v8_2 h8_2 fp8_2 ho8_2 hn8_2 hs8_2 c8_2
          have hsz8_2 := c8_2.size
          have hfho8_2 : Fresh h.size fp8_2 := Fresh.appd hfhO (Fresh.nil h4.size) (by omega) (by omega) hn8_2 hs8_2
          have sb6 : Sub [h.size] h3_0.size fp8_2 := Sub.grow sbhO Sub.nil (by omega) hs8_2
          have := c8_2.size
          replace eB := Ext.then eB c8_2 (ge_of hfhO (by omega))
          replace cL2 := Chg.step cL2 c8_2 sbhO
          have hlho8_2 := OS.lt ho8_2
          try simp -implicitDefEqProofs (disch := first | decide | assumption | omega) only [go_sem, wrap_id, sV_0, sV_44, sV_45, sV_58, sV_59, sV_cells, bin_sadd, bin_sne, bin_seq, cv_i64, wrap_u8]
          refine hK _ _ ?_
          clear hK K
          refine den_exit ?_
          refine denX_code ?_
          refine denX_hit ?_
          refine den_region TTok ?_
          intro K hK
          simp -implicitDefEqProofs (disch := first | decide | assumption | omega) only [go_sem, wrap_id, sV_0, sV_44, sV_45, sV_58, sV_59, sV_cells, bin_sadd, bin_sne, bin_seq, cv_i64, wrap_u8]
          refine hK _ _ ?_
          clear hK K
          refine den_stop ?_
          first | rw [show ([45] : List UInt8) = rowT (R.getD i default) by rw [rowT, if_pos (by simpa using c2)], map_takeK (f := rowT) (d := default) (by omega)] at ho8_2 | rw [map_endK (f := fun x : Int => 48 + x) (xs := R.getD i default) (k := k) (by omega), show strB ((R.getD i default).map fun x => 48 + x) = rowT (R.getD i default) by rw [rowT, if_neg (by simpa using c2)]; rfl, map_takeK (f := rowT) (d := default) (by omega)] at ho8_2
          exact ⟨(i + 1, v8_2, fp8_2), by simp [HasL, puts_at], ⟨by first | omega | (dsimp only; omega), ho8_2, hfho8_2, sb6, cL2⟩, by first | omega | (dsimp only; omega)⟩
        · try simp only [decide_eq_true_eq, decide_eq_false_iff_not, beq_iff_eq, beq_eq_false_iff_ne, bne_iff_ne, ne_eq, Bool.not_eq_true', Bool.not_eq_false', Bool.and_eq_true, Bool.or_eq_true, bne_eq_false_iff_eq] at c2
          refine den_skip ?_
          refine den_seq ?_
          refine den_region TTok ?_
          intro K hK
          simp -implicitDefEqProofs (disch := first | decide | assumption | omega) only [go_sem, wrap_id, sV_0, sV_44, sV_45, sV_58, sV_59, sV_cells, bin_sadd, bin_sne, bin_seq, cv_i64, wrap_u8]
          refine op_bs0 sz63 OYe ?_
          intro v9_0 h9_0 ho9_0 e9_0
          replace hO := OS.ext hO e9_0
          have := Ext.size e9_0
          replace eB := Ext.trans eB e9_0
          replace cL2 := Chg.stepE cL2 e9_0
          have hfho9_0 : Fresh h4.size [h4.size] := Fresh.one _
          have hlho9_0 := OS.lt ho9_0
          try simp -implicitDefEqProofs (disch := first | decide | assumption | omega) only [go_sem, OY.cv ho9_0, wrap_id, sV_0, sV_44, sV_45, sV_58, sV_59, sV_cells, bin_sadd, bin_sne, bin_seq, cv_i64, wrap_u8]
          refine hK _ _ ?_
          clear hK K
          refine den_seq ?_
          refine den_seq ?_
          refine den_region TTok ?_
          intro K hK
          simp -implicitDefEqProofs (disch := first | decide | assumption | omega) only [go_sem, RdS.len hr5 sl22, RdS.idx hr5 sl22, R1.intB hr5 (Ext.pres eB), RdS.cells hr5, wrap_id, sV_0, sV_44, sV_45, sV_58, sV_59, sV_cells, bin_sadd, bin_sne, bin_seq, cv_i64, wrap_u8]
          refine hK _ _ ?_
          clear hK K
          refine den_block ?_
          refine den_sel [6, 28, 3, 13, 14, 15, 26, 27] ?_
          intro env_7
          simp only [go_sem]
          refine den_loopS (σ := Nat × Value × List Nat) (fun st_ => [(6, st_.2.1), (28, .int .i64 (st_.1 : Int))]) (fun st_ H => (st_.1 ≤ ((R).getD i default).length) ∧ (OY H st_.2.1 ((((R).getD i default).take st_.1).map (fun x => 48 + x)) st_.2.2) ∧ (Fresh (h4.size) st_.2.2) ∧ (Sub [h4.size] h9_0.size st_.2.2) ∧ (Chg [h4.size] h9_0 H)) (fun st_ => ((R).getD i default).length - st_.1) (0, v9_0, [h4.size]) ?_ ?_
          · exact ⟨by first | (simp; done) | (dsimp only; omega) | (simp; omega), by simpa using ho9_0, hfho9_0, Sub.refl, Chg.refl _ _⟩
          · rintro ⟨k, vhD, fphD⟩ h10 ee9 ⟨hi0, hD, hfhD, sbhD, cL8⟩
            dsimp only at hi0 hD hfhD sbhD cL8
            replace hO := OS.chg hO cL8 (apart_lt hlhO hfho9_0 (by omega))
            have := cL8.size
            replace eB := Ext.then eB cL8 (ge_of hfho9_0 (by omega))
            replace cL2 := Chg.step cL2 cL8 (Sub.fresh hfho9_0 (by omega))
            have hlhD := OS.lt hD
            simp only [List.cons_append, List.nil_append]
            have hdl : ((((R).getD i default).take k).map (fun x => 48 + x)).length ≤ 8 := by rw [List.length_map, List.length_take]; omega
            refine den_seq ?_
            refine den_region TTok ?_
            intro K hK
            simp -implicitDefEqProofs (disch := first | decide | assumption | omega) only [go_sem, wrap_id, sV_0, sV_44, sV_45, sV_58, sV_59, sV_cells, bin_sadd, bin_sne, bin_seq, cv_i64, wrap_u8]
            refine hK _ _ ?_
            clear hK K
            refine den_seq ?_
            refine den_cond rfl (fun c3 => ?_) (fun c3 => ?_)
            · try simp only [decide_eq_true_eq, decide_eq_false_iff_not, beq_iff_eq, beq_eq_false_iff_ne, bne_iff_ne, ne_eq, Bool.not_eq_true', Bool.not_eq_false', Bool.and_eq_true, Bool.or_eq_true, bne_eq_false_iff_eq] at c3
              refine den_skip ?_
              refine den_seq ?_
              refine den_block ?_
              refine den_seq ?_
              refine den_region TTok ?_
              intro K hK
              simp -implicitDefEqProofs (disch := first | decide | assumption | omega) only [go_sem, ld2, RdS.len hr5 sl22, RdS.idx hr5 sl22, R1.intB hr5 (Ext.pres eB), RdS.cells hr5, wrap_id, sV_0, sV_44, sV_45, sV_58, sV_59, sV_cells, bin_sadd, bin_sne, bin_seq, cv_i64, wrap_u8]
              refine hK _ _ ?_
              clear hK K
              have hxk := hrw.2 k (by omega)
              refine den_region TTok ?_
              intro K hK
              simp -implicitDefEqProofs (disch := first | decide | assumption | omega) only [go_sem, T2, T5, OY.cv hD, wrap_id, sV_0, sV_44, sV_45, sV_58, sV_59, sV_cells, bin_sadd, bin_sne, bin_seq, cv_i64, wrap_u8]
              refine op_bs1 sz63 rfl rfl ?_
              try simp -implicitDefEqProofs (disch := first | decide | assumption | omega) only [go_sem, wrap_id, sV_0, sV_44, sV_45, sV_58, sV_59, sV_cells, bin_sadd, bin_sne, bin_seq, cv_i64, wrap_u8]
              refine op_append1 sz63 hD hfhD.nodup ⟨rfl, rfl⟩ List.nodup_nil (Apart.nil _) (by first | omega | (simp; omega)) rfl rfl ?_
              intro v13_5 h13_5 fp13_5 ho13_5 hn13_5 hs13_5 c13_5
              have hsz13_5 := c13_5.size
              have hfho13_5 : Fresh h4.size fp13_5 := Fresh.appd hfhD (Fresh.nil h10.size) (by omega) (by omega) hn13_5 hs13_5
              have sb11 : Sub [h4.size] h9_0.size fp13_5 := Sub.grow sbhD Sub.nil (by omega) hs13_5
              replace hO := OS.chg hO c13_5 (apart_lt hlhO hfhD (by omega))
              have := c13_5.size
              replace eB := Ext.then eB c13_5 (ge_of hfhD (by omega))
              replace cL2 := Chg.step cL2 c13_5 (Sub.fresh hfhD (by omega))
              replace cL8 := Chg.step cL8 c13_5 sbhD
              have hlho13_5 := OS.lt ho13_5
              try simp -implicitDefEqProofs (disch := first | decide | assumption | omega) only [go_sem, OY.cv ho13_5, wrap_id, sV_0, sV_44, sV_45, sV_58, sV_59, sV_cells, bin_sadd, bin_sne, bin_seq, cv_i64, wrap_u8]
              refine hK _ _ ?_
              clear hK K
              refine den_blk ?_
              refine den_region TTok ?_
              intro K hK
              simp -implicitDefEqProofs (disch := first | decide | assumption | omega) only [go_sem, wrap_id, sV_0, sV_44, sV_45, sV_58, sV_59, sV_cells, bin_sadd, bin_sne, bin_seq, cv_i64, wrap_u8]
              refine hK _ _ ?_
              clear hK K
              refine den_stop ?_
              rw [map_takeK (f := fun x => 48 + x) (d := 0) (by omega)] at ho13_5
              exact ⟨(k + 1, v13_5, fp13_5), by simp [HasL, puts_at], ⟨by first | omega | (dsimp only; omega), ho13_5, hfho13_5, sb11, cL8⟩, by first | omega | (dsimp only; omega)⟩
            · try simp only [decide_eq_true_eq, decide_eq_false_iff_not, beq_iff_eq, beq_eq_false_iff_ne, bne_iff_ne, ne_eq, Bool.not_eq_true', Bool.not_eq_false', Bool.and_eq_true, Bool.or_eq_true, bne_eq_false_iff_eq] at c3
              refine den_exit ?_
              refine denX_code ?_
              refine denX_stop ?_
              refine denX_hit ?_
              refine den_region TTok ?_
              intro K hK
              simp -implicitDefEqProofs (disch := first | decide | assumption | omega) only [go_sem, T63, T9, OY.cv hD, wrap_id, sV_0, sV_44, sV_45, sV_58, sV_59, sV_cells, bin_sadd, bin_sne, bin_seq, cv_i64, wrap_u8]
              refine op_bs1 sz59 rfl rfl ?_
              try simp -implicitDefEqProofs (disch := first | decide | assumption | omega) only [go_sem, wrap_id, sV_0, sV_44, sV_45, sV_58, sV_59, sV_cells, bin_sadd, bin_sne, bin_seq, cv_i64, wrap_u8]
              refine op_append1 sz59 hO hfhO.nodup ⟨rfl, rfl⟩ List.nodup_nil (Apart.nil _) (by first | omega | (simp; omega)) rfl rfl ?_
              intro v15_4 h15_4 fp15_4 ho15_4 hn15_4 hs15_4 c15_4
              have hsz15_4 := c15_4.size
              have hfho15_4 : Fresh h.size fp15_4 := Fresh.appd hfhO (Fresh.nil h10.size) (by omega) (by omega) hn15_4 hs15_4
              have sb12 : Sub [h.size] h3_0.size fp15_4 := Sub.grow sbhO Sub.nil (by omega) hs15_4
              replace hD := OS.chg hD c15_4 (apart_gt hfhD hlhO (by omega))
              have := c15_4.size
              replace eB := Ext.then eB c15_4 (ge_of hfhO (by omega))
              replace cL2 := Chg.step cL2 c15_4 sbhO
              have ap13 : Apart fphD fp15_4 := Apart.grow hlhD (by omega) (apart_gt hfhD hlhO (by omega)) (Apart.nil _) hs15_4
              have hlho15_4 := OS.lt ho15_4
              try simp -implicitDefEqProofs (disch := first | decide | assumption | omega) only [go_sem, wrap_id, sV_0, sV_44, sV_45, sV_58, sV_59, sV_cells, bin_sadd, bin_sne, bin_seq, cv_i64, wrap_u8]
              refine hK _ _ ?_
              clear hK K
              refine den_blk ?_
              refine den_region TTok ?_
              intro K hK
              simp -implicitDefEqProofs (disch := first | decide | assumption | omega) only [go_sem, wrap_id, sV_0, sV_44, sV_45, sV_58, sV_59, sV_cells, bin_sadd, bin_sne, bin_seq, cv_i64, wrap_u8]
              refine hK _ _ ?_
              clear hK K
              refine den_stop ?_
              first | rw [show ([45] : List UInt8) = rowT (R.getD i default) by rw [rowT, if_pos (by simpa using c3)], map_takeK (f := rowT) (d := default) (by omega)] at ho15_4 | rw [map_endK (f := fun x : Int => 48 + x) (xs := R.getD i default) (k := k) (by omega), show strB ((R.getD i default).map fun x => 48 + x) = rowT (R.getD i default) by rw [rowT, if_neg (by simpa using c2)]; rfl, map_takeK (f := rowT) (d := default) (by omega)] at ho15_4
              exact ⟨(i + 1, v15_4, fp15_4), by simp [HasL, puts_at], ⟨by first | omega | (dsimp only; omega), ho15_4, hfho15_4, sb12, cL2⟩, by first | omega | (dsimp only; omega)⟩
      · try simp only [decide_eq_true_eq, decide_eq_false_iff_not, beq_iff_eq, beq_eq_false_iff_ne, bne_iff_ne, ne_eq, Bool.not_eq_true', Bool.not_eq_false', Bool.and_eq_true, Bool.or_eq_true, bne_eq_false_iff_eq] at c1
        refine den_exit ?_
        refine denX_code ?_
        refine denX_stop ?_
        refine denX_hit ?_
        refine den_seq ?_
        have hjl : (Lib.join ((R.take i).map rowT) [44]).length ≤ 72 := join_all (m := 8) (c := 8) (fun w hw => by obtain ⟨x, hx, rfl⟩ := List.mem_map.1 hw; exact rowT_le (hR.2 x (List.mem_of_mem_take hx)).1) (by rw [List.length_map, List.length_take]; omega) (by simp)
        have hjn : ((R.take i).map rowT).length ≤ 8 := by rw [List.length_map, List.length_take]; omega
        refine den_region TTok ?_
        intro K hK
        simp -implicitDefEqProofs (disch := first | decide | assumption | omega) only [go_sem, wrap_id, sV_0, sV_44, sV_45, sV_58, sV_59, sV_cells, bin_sadd, bin_sne, bin_seq, cv_i64, wrap_u8]
        try simp -implicitDefEqProofs (disch := first | decide | assumption | omega) only [go_sem, wrap_id, sV_0, sV_44, sV_45, sV_58, sV_59, sV_cells, bin_sadd, bin_sne, bin_seq, cv_i64, wrap_u8]
        refine CallA.mono (join_ok _ ((R.take i).map rowT) ([44]) _ _ hO (by omega) (by omega)) ?_
        intro v_ h17_1
        rintro ⟨rfl, e17_1⟩
        replace hO := OS.ext hO e17_1
        have := Ext.size e17_1
        replace eB := Ext.trans eB e17_1
        try simp -implicitDefEqProofs (disch := first | decide | assumption | omega) only [go_sem, wrap_id, sV_0, sV_44, sV_45, sV_58, sV_59, sV_cells, bin_sadd, bin_sne, bin_seq, cv_i64, wrap_u8]
        refine hK _ _ ?_
        clear hK K
        refine den_ret ?_
        simp (disch := decide) only [resP_1, puts_same, puts_ne]
        rw [map_endK (by omega)]
        exact ⟨by rw [rowsT, if_neg (by simpa using c0)], eB⟩

set_option maxRecDepth 100000 in
theorem iTx_ok (vX : Value) (X : Cx) (h : Heap) (rX : RC h vX X) (hC : IsC X) : CallA Tryd.prog 16 #[vX] h fun v' h' => v' = sV (txtC X) ∧ Ext h h' := by
  obtain ⟨vdX, vmX, rfl, hdX, hmX⟩ := rX
  have hledX := RdS.le hdX
  have hlemX := RdS.le hmX
  have hlX := hC.len
  have hmlX := hC.ml
  have hpb := isP_bnd hC.p
  have hxd : ∀ k, k < X.dims.length → 0 ≤ X.dims.getD k 0 ∧ X.dims.getD k 0 < 10 := fun k hk => by have := isC_dm hC hk; omega
  refine callA_intro TTok (args := [_]) Tryd.func16 (by kernel_rfl) rfl 32 rfl (by simp) [.tmp 2] rfl ?_
  simp only [idxs, Nat.reduceAdd]
  refine den_seq ?_
  refine den_region TTok ?_
  intro K hK
  simp -implicitDefEqProofs (disch := first | decide | assumption | omega) only [go_sem, wrap_id, sV_0, sV_44, sV_45, sV_58, sV_59, sV_cells, bin_sadd, bin_sne, bin_seq, cv_i64, wrap_u8]
  refine op_box (cs := #[.int .i64 (X.p), vdX, vmX]) rfl ?_
  intro h0_0 e0_0 hb0_0 z0_0
  have := Ext.size e0_0
  have eB := e0_0
  have hfhb0_0 : Fresh h.size [h.size] := Fresh.one _
  have hlhb0_0 := one_lt (show h.size < h0_0.size by omega)
  try simp -implicitDefEqProofs (disch := first | decide | assumption | omega) only [go_sem, wrap_id, sV_0, sV_44, sV_45, sV_58, sV_59, sV_cells, bin_sadd, bin_sne, bin_seq, cv_i64, wrap_u8]
  refine hK _ _ ?_
  clear hK K
  refine den_seq ?_
  refine den_region TTok ?_
  intro K hK
  simp -implicitDefEqProofs (disch := first | decide | assumption | omega) only [go_sem, wrap_id, sV_0, sV_44, sV_45, sV_58, sV_59, sV_cells, bin_sadd, bin_sne, bin_seq, cv_i64, wrap_u8]
  refine op_bs0 sz59 OSt ?_
  intro v1_0 h1_0 ho1_0 e1_0
  replace hb0_0 := BoxAt.ext hb0_0 e1_0
  have := Ext.size e1_0
  replace eB := Ext.trans eB e1_0
  have hfho1_0 : Fresh h0_0.size [h0_0.size] := Fresh.one _
  have hlho1_0 := OS.lt ho1_0
  try simp -implicitDefEqProofs (disch := first | decide | assumption | omega) only [go_sem, wrap_id, sV_0, sV_44, sV_45, sV_58, sV_59, sV_cells, bin_sadd, bin_sne, bin_seq, cv_i64, wrap_u8]
  refine hK _ _ ?_
  clear hK K
  refine den_seq ?_
  refine den_seq ?_
  refine den_region TTok ?_
  intro K hK
  simp -implicitDefEqProofs (disch := first | decide | assumption | omega) only [go_sem, fa29_2, ld23, RdS.len hdX sl22, RdS.idx hdX sl22, R1.intB hdX (Ext.pres eB), RdS.cells hdX, RdS.len hmX sl23, RdS.idx hmX sl23, RdS.cellB hmX (Ext.pres eB), RdS.cells hmX, BoxAt.cell hb0_0, wrap_id, sV_0, sV_44, sV_45, sV_58, sV_59, sV_cells, bin_sadd, bin_sne, bin_seq, cv_i64, wrap_u8]
  refine hK _ _ ?_
  clear hK K
  refine den_block ?_
  refine den_sel [3, 10, 1, 8, 9] ?_
  intro env_1
  simp only [go_sem]
  refine den_loopS (σ := Nat × Value × List Nat) (fun st_ => [(3, st_.2.1), (10, .int .i64 (st_.1 : Int))]) (fun st_ H => (st_.1 ≤ X.maps.length) ∧ (OT H st_.2.1 ((X.maps.take st_.1).map rowsT) st_.2.2) ∧ (Fresh (h0_0.size) st_.2.2) ∧ (Sub [h0_0.size] h1_0.size st_.2.2) ∧ (Chg [h0_0.size] h1_0 H)) (fun st_ => X.maps.length - st_.1) (0, v1_0, [h0_0.size]) ?_ ?_
  · exact ⟨by first | (simp; done) | (dsimp only; omega) | (simp; omega), by simpa using ho1_0, hfho1_0, Sub.refl, Chg.refl _ _⟩
  · rintro ⟨k, vhO, fphO⟩ h4 ee3 ⟨hi0, hO, hfhO, sbhO, cL2⟩
    dsimp only at hi0 hO hfhO sbhO cL2
    replace hb0_0 := BoxAt.chgA hb0_0 cL2 (apart_lt hlhb0_0 hfho1_0 (by omega))
    have := cL2.size
    replace eB := Ext.then eB cL2 (ge_of hfho1_0 (by omega))
    have hlhO := OS.lt hO
    simp only [List.cons_append, List.nil_append]
    have hol : ((X.maps.take k).map rowsT).length ≤ 6 := by rw [List.length_map, List.length_take]; omega
    refine den_seq ?_
    refine den_region TTok ?_
    intro K hK
    simp -implicitDefEqProofs (disch := first | decide | assumption | omega) only [go_sem, wrap_id, sV_0, sV_44, sV_45, sV_58, sV_59, sV_cells, bin_sadd, bin_sne, bin_seq, cv_i64, wrap_u8]
    refine hK _ _ ?_
    clear hK K
    refine den_seq ?_
    refine den_cond rfl (fun c0 => ?_) (fun c0 => ?_)
    · try simp only [decide_eq_true_eq, decide_eq_false_iff_not, beq_iff_eq, beq_eq_false_iff_ne, bne_iff_ne, ne_eq, Bool.not_eq_true', Bool.not_eq_false', Bool.and_eq_true, Bool.or_eq_true, bne_eq_false_iff_eq] at c0
      refine den_skip ?_
      refine den_seq ?_
      refine den_block ?_
      refine den_seq ?_
      refine den_region TTok ?_
      intro K hK
      have hr5 := RdS.rowN hmX k (by omega)
      have hlhr5 := RdS.le hr5
      simp -implicitDefEqProofs (disch := first | decide | assumption | omega) only [go_sem, ld43, RdS.len hmX sl23, RdS.idx hmX sl23, RdS.cellB hmX (Ext.pres eB), RdS.cells hmX, RdS.len hr5 sl43, RdS.idx hr5 sl43, RdS.cellB hr5 (Ext.pres eB), RdS.cells hr5, wrap_id, sV_0, sV_44, sV_45, sV_58, sV_59, sV_cells, bin_sadd, bin_sne, bin_seq, cv_i64, wrap_u8]
      refine hK _ _ ?_
      clear hK K
      have hsm := isC_sm hC (k := k) (by omega)
      refine den_region TTok ?_
      intro K hK
      simp -implicitDefEqProofs (disch := first | decide | assumption | omega) only [go_sem, RdS.len hr5 sl43, RdS.idx hr5 sl43, RdS.cellB hr5 (Ext.pres eB), RdS.cells hr5, wrap_id, sV_0, sV_44, sV_45, sV_58, sV_59, sV_cells, bin_sadd, bin_sne, bin_seq, cv_i64, wrap_u8]
      try simp -implicitDefEqProofs (disch := first | decide | assumption | omega) only [go_sem, wrap_id, sV_0, sV_44, sV_45, sV_58, sV_59, sV_cells, bin_sadd, bin_sne, bin_seq, cv_i64, wrap_u8]
      refine CallA.mono (iRt_ok _ ((X.maps).getD k default) _ (RdS.pres hr5 (Ext.pres eB)) hsm) ?_
      intro v_ h5_2
      rintro ⟨rfl, e5_2⟩
      replace hO := OS.ext hO e5_2
      replace hb0_0 := BoxAt.ext hb0_0 e5_2
      have := Ext.size e5_2
      replace eB := Ext.trans eB e5_2
      replace cL2 := Chg.stepE cL2 e5_2
      try simp -implicitDefEqProofs (disch := first | decide | assumption | omega) only [go_sem, wrap_id, sV_0, sV_44, sV_45, sV_58, sV_59, sV_cells, bin_sadd, bin_sne, bin_seq, cv_i64, wrap_u8]
      refine op_bs1 sz59 rfl rfl ?_
      try simp -implicitDefEqProofs (disch := first | decide | assumption | omega) only [go_sem, wrap_id, sV_0, sV_44, sV_45, sV_58, sV_59, sV_cells, bin_sadd, bin_sne, bin_seq, cv_i64, wrap_u8]
      refine op_append1 sz59 hO hfhO.nodup ⟨rfl, rfl⟩ List.nodup_nil (Apart.nil _) (by first | omega | (simp; omega)) rfl rfl ?_
      intro v5_4 h5_4 fp5_4 ho5_4 hn5_4 hs5_4 c5_4
      have hsz5_4 := c5_4.size
      have hfho5_4 : Fresh h0_0.size fp5_4 := Fresh.appd hfhO (Fresh.nil h5_2.size) (by omega) (by omega) hn5_4 hs5_4
      have sb6 : Sub [h0_0.size] h1_0.size fp5_4 := Sub.grow sbhO Sub.nil (by omega) hs5_4
      replace hb0_0 := BoxAt.chgA hb0_0 c5_4 (apart_lt hlhb0_0 hfhO (by omega))
      have := c5_4.size
      replace eB := Ext.then eB c5_4 (ge_of hfhO (by omega))
      replace cL2 := Chg.step cL2 c5_4 sbhO
      have hlho5_4 := OS.lt ho5_4
      try simp -implicitDefEqProofs (disch := first | decide | assumption | omega) only [go_sem, wrap_id, sV_0, sV_44, sV_45, sV_58, sV_59, sV_cells, bin_sadd, bin_sne, bin_seq, cv_i64, wrap_u8]
      refine hK _ _ ?_
      clear hK K
      refine den_blk ?_
      refine den_region TTok ?_
      intro K hK
      simp -implicitDefEqProofs (disch := first | decide | assumption | omega) only [go_sem, wrap_id, sV_0, sV_44, sV_45, sV_58, sV_59, sV_cells, bin_sadd, bin_sne, bin_seq, cv_i64, wrap_u8]
      refine hK _ _ ?_
      clear hK K
      refine den_stop ?_
      rw [map_takeK (f := rowsT) (d := default) (by omega)] at ho5_4
      exact ⟨(k + 1, v5_4, fp5_4), by simp [HasL, puts_at], ⟨by first | omega | (dsimp only; omega), ho5_4, hfho5_4, sb6, cL2⟩, by first | omega | (dsimp only; omega)⟩
    · try simp only [decide_eq_true_eq, decide_eq_false_iff_not, beq_iff_eq, beq_eq_false_iff_ne, bne_iff_ne, ne_eq, Bool.not_eq_true', Bool.not_eq_false', Bool.and_eq_true, Bool.or_eq_true, bne_eq_false_iff_eq] at c0
      refine den_exit ?_
      refine denX_code ?_
      refine denX_stop ?_
      refine denX_hit ?_
      refine den_seq ?_
      have hjl : (Lib.join ((X.maps.take k).map rowsT) [59]).length ≤ 365 := join_all (m := 5) (c := 72) (fun w hw => wd_maps hC w (by rw [List.map_take] at hw; exact List.mem_of_mem_take hw)) (by rw [List.length_map, List.length_take]; omega) (by simp)
      have hjn : ((X.maps.take k).map rowsT).length ≤ 5 := by rw [List.length_map, List.length_take]; omega
      have hld : (Lib.join (X.dims.map dg8) [44]).length ≤ 12 := join_all (m := 6) (c := 1) wd_dims (by rw [List.length_map]; omega) (by simp)
      have hs0 : (dg8 X.p).length + ([58] : List UInt8).length ≤ 1000000 := by rw [dg8_len]; simp
      have hA : (dg8 X.p ++ [58]).length = 2 := rfl
      have hs1 : (dg8 X.p ++ [58]).length + (Lib.join (X.dims.map dg8) [44]).length ≤ 1000000 := by omega
      have hB : (dg8 X.p ++ [58] ++ Lib.join (X.dims.map dg8) [44]).length ≤ 14 := by rw [List.length_append]; omega
      have hs2 : (dg8 X.p ++ [58] ++ Lib.join (X.dims.map dg8) [44]).length + ([58] : List UInt8).length ≤ 1000000 := by simp only [List.length_cons, List.length_nil]; omega
      have hCc : (dg8 X.p ++ [58] ++ Lib.join (X.dims.map dg8) [44] ++ [58]).length ≤ 15 := by rw [app1]; omega
      have hs3 : (dg8 X.p ++ [58] ++ Lib.join (X.dims.map dg8) [44] ++ [58]).length + (Lib.join ((X.maps.take k).map rowsT) [59]).length ≤ 1000000 := by omega
      refine den_draw TTok mixed [] [(0, true), (1, true), (4, true), (5, true), (9, true), (2, false), (3, true), (6, false), (7, true), (8, true), (10, false), (11, true), (12, true)] (by kernel_rfl) ?_
      intro K hK
      simp -implicitDefEqProofs (disch := first | decide | assumption | omega) only [go_sem, fa29_0, fa29_1, ld22, ld2, RdS.len hdX sl22, RdS.idx hdX sl22, R1.intB hdX (Ext.pres eB), RdS.cells hdX, RdS.len hmX sl23, RdS.idx hmX sl23, RdS.cellB hmX (Ext.pres eB), RdS.cells hmX, BoxAt.cell hb0_0, wrap_id, sV_0, sV_44, sV_45, sV_58, sV_59, sV_cells, bin_sadd, bin_sne, bin_seq, cv_i64, wrap_u8]
      try simp -implicitDefEqProofs (disch := first | decide | assumption | omega) only [go_sem, wrap_id, sV_0, sV_44, sV_45, sV_58, sV_59, sV_cells, bin_sadd, bin_sne, bin_seq, cv_i64, wrap_u8]
      refine CallA.mono (iDec_ok  X.p _  (by omega)) ?_
      intro v_ h7_2
      rintro ⟨rfl, e7_2⟩
      replace hO := OS.ext hO e7_2
      replace hb0_0 := BoxAt.ext hb0_0 e7_2
      have := Ext.size e7_2
      replace eB := Ext.trans eB e7_2
      try simp (disch := decide) only [outv_some, outv_none, put_puts]
      refine plK_pres (Ext.pres e7_2) ?_
      try simp -implicitDefEqProofs (disch := first | decide | assumption | omega) only [go_sem, wrap_id, sV_0, sV_44, sV_45, sV_58, sV_59, sV_cells, bin_sadd, bin_sne, bin_seq, cv_i64, wrap_u8]
      try simp -implicitDefEqProofs (disch := first | decide | assumption | omega) only [go_sem, wrap_id, sV_0, sV_44, sV_45, sV_58, sV_59, sV_cells, bin_sadd, bin_sne, bin_seq, cv_i64, wrap_u8]
      refine CallA.mono (iLt_ok _ X.dims _ (RdS.pres hdX (Ext.pres eB)) (by omega) hxd) ?_
      intro v_ h7_6
      rintro ⟨rfl, e7_6⟩
      replace hO := OS.ext hO e7_6
      replace hb0_0 := BoxAt.ext hb0_0 e7_6
      have := Ext.size e7_6
      replace eB := Ext.trans eB e7_6
      try simp (disch := decide) only [outv_some, outv_none, put_puts]
      refine plK_pres (Ext.pres e7_6) ?_
      try simp -implicitDefEqProofs (disch := first | decide | assumption | omega) only [go_sem, wrap_id, sV_0, sV_44, sV_45, sV_58, sV_59, sV_cells, bin_sadd, bin_sne, bin_seq, cv_i64, wrap_u8]
      try simp -implicitDefEqProofs (disch := first | decide | assumption | omega) only [go_sem, wrap_id, sV_0, sV_44, sV_45, sV_58, sV_59, sV_cells, bin_sadd, bin_sne, bin_seq, cv_i64, wrap_u8]
      refine CallA.mono (join_ok _ ((X.maps.take k).map rowsT) ([59]) _ _ hO (by omega) (by omega)) ?_
      intro v_ h7_10
      rintro ⟨rfl, e7_10⟩
      replace hO := OS.ext hO e7_10
      replace hb0_0 := BoxAt.ext hb0_0 e7_10
      have := Ext.size e7_10
      replace eB := Ext.trans eB e7_10
      try simp (disch := decide) only [outv_some, outv_none, put_puts]
      refine plK_pres (Ext.pres e7_10) ?_
      try simp -implicitDefEqProofs (disch := first | decide | assumption | omega) only [go_sem, wrap_id, sV_0, sV_44, sV_45, sV_58, sV_59, sV_cells, bin_sadd, bin_sne, bin_seq, cv_i64, wrap_u8]
      refine hK _ _ ?_
      clear hK K
      refine den_ret ?_
      simp (disch := decide) only [resP_1, puts_same, puts_ne]
      rw [map_endK (by omega)]
      exact ⟨by first | rfl | trivial, eB⟩

set_option maxRecDepth 100000 in
theorem iCT_ok (vX : Value) (X : Cx) (h : Heap) (rX : RC h vX X)  : CallA Tryd.prog 7 #[vX] h fun v' h' => v' = .tuple #[sV ((txR X).1), .int .i64 ((txR X).2)] ∧ Ext h h' := by
  obtain ⟨vdX, vmX, rfl, hdX, hmX⟩ := rX
  have hledX := RdS.le hdX
  have hlemX := RdS.le hmX
  refine callA_intro TTok (args := [_]) Tryd.func7 (by kernel_rfl) rfl 9 rfl (by simp) [.tmp 2, .tmp 3] rfl ?_
  simp only [idxs, Nat.reduceAdd]
  refine den_seq ?_
  refine den_region TTok ?_
  intro K hK
  simp -implicitDefEqProofs (disch := first | decide | assumption | omega) only [go_sem, wrap_id, sV_0, sV_44, sV_45, sV_58, sV_59, sV_cells, bin_sadd, bin_sne, bin_seq, cv_i64, wrap_u8]
  refine op_box (cs := #[.int .i64 (X.p), vdX, vmX]) rfl ?_
  intro h0_0 e0_0 hb0_0 z0_0
  have := Ext.size e0_0
  have eB := e0_0
  have hfhb0_0 : Fresh h.size [h.size] := Fresh.one _
  have hlhb0_0 := one_lt (show h.size < h0_0.size by omega)
  try simp -implicitDefEqProofs (disch := first | decide | assumption | omega) only [go_sem, wrap_id, sV_0, sV_44, sV_45, sV_58, sV_59, sV_cells, bin_sadd, bin_sne, bin_seq, cv_i64, wrap_u8]
  refine hK _ _ ?_
  clear hK K
  refine den_seq ?_
  refine den_seq ?_
  refine den_region TTok ?_
  intro K hK
  simp -implicitDefEqProofs (disch := first | decide | assumption | omega) only [go_sem, ld29, RdS.len hdX sl22, RdS.idx hdX sl22, R1.intB hdX (Ext.pres eB), RdS.cells hdX, RdS.len hmX sl23, RdS.idx hmX sl23, RdS.cellB hmX (Ext.pres eB), RdS.cells hmX, BoxAt.cell hb0_0, wrap_id, sV_0, sV_44, sV_45, sV_58, sV_59, sV_cells, bin_sadd, bin_sne, bin_seq, cv_i64, wrap_u8]
  try simp -implicitDefEqProofs (disch := first | decide | assumption | omega) only [go_sem, wrap_id, sV_0, sV_44, sV_45, sV_58, sV_59, sV_cells, bin_sadd, bin_sne, bin_seq, cv_i64, wrap_u8]
  refine CallA.mono (iIs_ok _ X _ ⟨_, _, rfl, (RdS.pres hdX (Ext.pres eB)), (RdS.pres hmX (Ext.pres eB))⟩) ?_
  intro v_ h1_1
  rintro ⟨rfl, e1_1⟩
  replace hb0_0 := BoxAt.ext hb0_0 e1_1
  have := Ext.size e1_1
  replace eB := Ext.trans eB e1_1
  try simp -implicitDefEqProofs (disch := first | decide | assumption | omega) only [go_sem, wrap_id, sV_0, sV_44, sV_45, sV_58, sV_59, sV_cells, bin_sadd, bin_sne, bin_seq, cv_i64, wrap_u8]
  refine hK _ _ ?_
  clear hK K
  refine den_cond rfl (fun c0 => ?_) (fun c0 => ?_)
  · try simp only [decide_eq_true_eq, decide_eq_false_iff_not, beq_iff_eq, beq_eq_false_iff_ne, bne_iff_ne, ne_eq, Bool.not_eq_true', Bool.not_eq_false', Bool.and_eq_true, Bool.or_eq_true, bne_eq_false_iff_eq, Bool.not_eq_true] at c0
    refine den_seq ?_
    refine den_region TTok ?_
    intro K hK
    simp -implicitDefEqProofs (disch := first | decide | assumption | omega) only [go_sem, wrap_id, sV_0, sV_44, sV_45, sV_58, sV_59, sV_cells, bin_sadd, bin_sne, bin_seq, cv_i64, wrap_u8]
    refine hK _ _ ?_
    clear hK K
    refine den_ret ?_
    simp (disch := decide) only [resP_2, puts_same, puts_ne]
    rw [txR_n (by rw [c0]; decide)]
    exact ⟨by first | rfl | trivial, eB⟩
  · try simp only [decide_eq_true_eq, decide_eq_false_iff_not, beq_iff_eq, beq_eq_false_iff_ne, bne_iff_ne, ne_eq, Bool.not_eq_true', Bool.not_eq_false', Bool.and_eq_true, Bool.or_eq_true, bne_eq_false_iff_eq, Bool.not_eq_true] at c0
    have hCx := isC_t.1 c0
    refine den_skip ?_
    refine den_seq ?_
    refine den_region TTok ?_
    intro K hK
    simp -implicitDefEqProofs (disch := first | decide | assumption | omega) only [go_sem, ld29, RdS.len hdX sl22, RdS.idx hdX sl22, R1.intB hdX (Ext.pres eB), RdS.cells hdX, RdS.len hmX sl23, RdS.idx hmX sl23, RdS.cellB hmX (Ext.pres eB), RdS.cells hmX, BoxAt.cell hb0_0, wrap_id, sV_0, sV_44, sV_45, sV_58, sV_59, sV_cells, bin_sadd, bin_sne, bin_seq, cv_i64, wrap_u8]
    try simp -implicitDefEqProofs (disch := first | decide | assumption | omega) only [go_sem, wrap_id, sV_0, sV_44, sV_45, sV_58, sV_59, sV_cells, bin_sadd, bin_sne, bin_seq, cv_i64, wrap_u8]
    refine CallA.mono (iTx_ok _ X _ ⟨_, _, rfl, (RdS.pres hdX (Ext.pres eB)), (RdS.pres hmX (Ext.pres eB))⟩ hCx) ?_
    intro v_ h3_1
    rintro ⟨rfl, e3_1⟩
    replace hb0_0 := BoxAt.ext hb0_0 e3_1
    have := Ext.size e3_1
    replace eB := Ext.trans eB e3_1
    try simp -implicitDefEqProofs (disch := first | decide | assumption | omega) only [go_sem, wrap_id, sV_0, sV_44, sV_45, sV_58, sV_59, sV_cells, bin_sadd, bin_sne, bin_seq, cv_i64, wrap_u8]
    refine hK _ _ ?_
    clear hK K
    refine den_ret ?_
    simp (disch := decide) only [resP_2, puts_same, puts_ne]
    rw [txR_y c0]
    exact ⟨by first | rfl | trivial, eB⟩

end Go.Proofs.YtacajcjibhifmaaDoor
