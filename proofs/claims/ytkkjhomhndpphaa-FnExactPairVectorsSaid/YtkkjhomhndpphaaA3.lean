/-
  Walks: IdentityMap.
  Conditions: each theorem's own.
-/
import Derived.Test.YtkkjhomhndpphaaA2
set_option linter.unusedVariables false
set_option linter.unusedSimpArgs false
namespace Go.Proofs.Ytkkjhomhndpphaa
open Go
noncomputable def idP (X : Cx) : List (List (List Int)) × Int := if isC X = true then (X.dims.map unitsP, 0) else ([], 1)
theorem cnt1_unit (n i : Nat) : cnt1 (unitP n i) = n := by simp [cnt1, unitP]
theorem cnt_units (d : Int) (h0 : 0 ≤ d) (h1 : d ≤ 8) : 0 ≤ cntL cnt1 (unitsP d) ∧ cntL cnt1 (unitsP d) ≤ 64 := by
  have := cntL_bnd (ct := cnt1) (c := 8) (by omega) (xs := unitsP d) (m := 8) (fun x hx => by
    obtain ⟨i, hi, rfl⟩ := List.mem_map.1 hx
    rw [cnt1_unit]; omega) (by simp [unitsP]; omega)
  omega
theorem cnt_id (X : Cx) : 0 ≤ cntL cnt2 (idP X).1 ∧ cntL cnt2 (idP X).1 ≤ 384 := by
  unfold idP
  split
  · rename_i hc
    have hC := isC_t.1 hc
    have hl := hC.len
    have := cntL_bnd (ct := cnt2) (c := 64) (by omega) (xs := X.dims.map unitsP) (m := 6) (fun x hx => by
      obtain ⟨d, hd, rfl⟩ := List.mem_map.1 hx
      have hb := List.all_eq_true.1 hC.dm d hd
      rw [in3_iff] at hb
      exact cnt_units d hb.1 hb.2) (by simp; omega)
    have e : ((X.dims.map unitsP, (0 : Int)) : List (List (List Int)) × Int).1 = X.dims.map unitsP := rfl
    rw [e]
    exact ⟨this.1, by have := this.2; omega⟩
  · exact ⟨Int.le_refl _, by decide⟩

set_option maxRecDepth 100000 in
theorem iId_ok (vX : Value) (X : Cx) (h : Heap) (rX : RC h vX X)  : CallA Try.prog 36 #[vX] h fun v' h' => ∃ w0 f0, v' = .tuple #[w0, .int .i64 ((idP X).2)] ∧ O3 h' w0 ((idP X).1) f0 ∧ Fresh h.size f0 ∧ Ext h h' := by
  obtain ⟨vdX, vmX, rfl, hdX, hmX⟩ := rX
  have hledX := RdS.le hdX
  have hlemX := RdS.le hmX
  refine callA_intro TTok (args := [_]) Try.func36 (by kernel_rfl) rfl 25 rfl (by simp) [.tmp 2, .tmp 3] rfl ?_
  simp only [idxs, Nat.reduceAdd]
  refine den_seq ?_
  refine den_region TTok ?_
  intro K hK
  simp -implicitDefEqProofs (disch := first | decide | assumption | omega) only [go_sem, RdS.len hdX sl37, RdS.idx hdX sl37, R1.intB hdX (HPres.refl _), RdS.cells hdX, RdS.len hmX sl38, RdS.idx hmX sl38, RdS.cellB hmX (HPres.refl _), RdS.cells hmX, wrap_id]
  refine op_box (cs := #[.int .i64 (X.p), vdX, vmX]) rfl ?_
  intro h0_0 e0_0 hb0_0 z0_0
  have := Ext.size e0_0
  have eB := e0_0
  have hfhb0_0 : Fresh h.size [h.size] := Fresh.one _
  have hlhb0_0 := one_lt (show h.size < h0_0.size by omega)
  try simp -implicitDefEqProofs (disch := first | decide | assumption | omega) only [go_sem, RdS.len hdX sl37, RdS.idx hdX sl37, R1.intB hdX (Ext.pres eB), RdS.cells hdX, RdS.len hmX sl38, RdS.idx hmX sl38, RdS.cellB hmX (Ext.pres eB), RdS.cells hmX, BoxAt.cell hb0_0, wrap_id]
  refine hK _ _ ?_
  clear hK K
  refine den_seq ?_
  refine den_seq ?_
  refine den_region TTok ?_
  intro K hK
  simp -implicitDefEqProofs (disch := first | decide | assumption | omega) only [go_sem, ld44, RdS.len hdX sl37, RdS.idx hdX sl37, R1.intB hdX (Ext.pres eB), RdS.cells hdX, RdS.len hmX sl38, RdS.idx hmX sl38, RdS.cellB hmX (Ext.pres eB), RdS.cells hmX, BoxAt.cell hb0_0, wrap_id]
  try simp -implicitDefEqProofs (disch := first | decide | assumption | omega) only [go_sem, RdS.len hdX sl37, RdS.idx hdX sl37, R1.intB hdX (Ext.pres eB), RdS.cells hdX, RdS.len hmX sl38, RdS.idx hmX sl38, RdS.cellB hmX (Ext.pres eB), RdS.cells hmX, BoxAt.cell hb0_0, wrap_id]
  refine CallA.mono (iIs_ok _ X _ ⟨_, _, rfl, (RdS.pres hdX (Ext.pres eB)), (RdS.pres hmX (Ext.pres eB))⟩) ?_
  intro v_ h1_1
  rintro ⟨rfl, e1_1⟩
  replace hb0_0 := BoxAt.ext hb0_0 e1_1
  have := Ext.size e1_1
  replace eB := Ext.trans eB e1_1
  try simp -implicitDefEqProofs (disch := first | decide | assumption | omega) only [go_sem, RdS.len hdX sl37, RdS.idx hdX sl37, R1.intB hdX (Ext.pres eB), RdS.cells hdX, RdS.len hmX sl38, RdS.idx hmX sl38, RdS.cellB hmX (Ext.pres eB), RdS.cells hmX, BoxAt.cell hb0_0, wrap_id]
  refine hK _ _ ?_
  clear hK K
  refine den_cond rfl (fun c0 => ?_) (fun c0 => ?_)
  · try simp only [decide_eq_true_eq, decide_eq_false_iff_not, beq_iff_eq, beq_eq_false_iff_ne, bne_iff_ne, ne_eq, Bool.not_eq_true', Bool.not_eq_false', Bool.and_eq_true, Bool.or_eq_true, bne_eq_false_iff_eq, Bool.not_eq_true] at c0
    refine den_seq ?_
    refine den_region TTok ?_
    intro K hK
    simp -implicitDefEqProofs (disch := first | decide | assumption | omega) only [go_sem, RdS.len hdX sl37, RdS.idx hdX sl37, R1.intB hdX (Ext.pres eB), RdS.cells hdX, RdS.len hmX sl38, RdS.idx hmX sl38, RdS.cellB hmX (Ext.pres eB), RdS.cells hmX, wrap_id]
    refine hK _ _ ?_
    clear hK K
    refine den_ret ?_
    simp (disch := decide) only [resP_2, puts_same, puts_ne]
    have hz : idP X = ([], 1) := by rw [idP, if_neg (by rw [c0]; decide)]
    rw [hz]
    exact ⟨.slice none 0 0, [], rfl, OS.nil, Fresh.nil _, eB⟩
  · try simp only [decide_eq_true_eq, decide_eq_false_iff_not, beq_iff_eq, beq_eq_false_iff_ne, bne_iff_ne, ne_eq, Bool.not_eq_true', Bool.not_eq_false', Bool.and_eq_true, Bool.or_eq_true, bne_eq_false_iff_eq, Bool.not_eq_true] at c0
    refine den_skip ?_
    refine den_seq ?_
    refine den_region TTok ?_
    intro K hK
    simp -implicitDefEqProofs (disch := first | decide | assumption | omega) only [go_sem, RdS.len hdX sl37, RdS.idx hdX sl37, R1.intB hdX (Ext.pres eB), RdS.cells hdX, RdS.len hmX sl38, RdS.idx hmX sl38, RdS.cellB hmX (Ext.pres eB), RdS.cells hmX, BoxAt.cell hb0_0, wrap_id]
    refine op_bs0 sz38 O2 ?_
    intro v3_0 h3_0 ho3_0 e3_0
    replace hb0_0 := BoxAt.ext hb0_0 e3_0
    have := Ext.size e3_0
    replace eB := Ext.trans eB e3_0
    have hfho3_0 : Fresh h1_1.size [h1_1.size] := Fresh.one _
    have hlho3_0 := OS.lt ho3_0
    try simp -implicitDefEqProofs (disch := first | decide | assumption | omega) only [go_sem, RdS.len hdX sl37, RdS.idx hdX sl37, R1.intB hdX (Ext.pres eB), RdS.cells hdX, RdS.len hmX sl38, RdS.idx hmX sl38, RdS.cellB hmX (Ext.pres eB), RdS.cells hmX, RdS.len (OS.rd ho3_0) sl38, RdS.idx (OS.rd ho3_0) sl38, RdS.cellN (OS.rd ho3_0), RdS.cells (OS.rd ho3_0), BoxAt.cell hb0_0, wrap_id]
    refine hK _ _ ?_
    clear hK K
    refine den_seq ?_
    refine den_seq ?_
    refine den_region TTok ?_
    intro K hK
    simp -implicitDefEqProofs (disch := first | decide | assumption | omega) only [go_sem, fa44_1, ld37, RdS.len hdX sl37, RdS.idx hdX sl37, R1.intB hdX (Ext.pres eB), RdS.cells hdX, RdS.len hmX sl38, RdS.idx hmX sl38, RdS.cellB hmX (Ext.pres eB), RdS.cells hmX, RdS.len (OS.rd ho3_0) sl38, RdS.idx (OS.rd ho3_0) sl38, RdS.cellN (OS.rd ho3_0), RdS.cells (OS.rd ho3_0), BoxAt.cell hb0_0, wrap_id]
    refine hK _ _ ?_
    clear hK K
    refine den_block ?_
    refine den_sel [4, 14, 12, 13] ?_
    intro env_1
    simp only [go_sem]
    refine den_loopS (σ := Nat × Value × List Nat) (fun st_ => [(4, st_.2.1), (14, .int .i64 (st_.1 : Int))]) (fun st_ H => st_.1 ≤ X.dims.length ∧ O3 H st_.2.1 ((X.dims.take st_.1).map unitsP) st_.2.2 ∧ Fresh (h1_1.size) st_.2.2 ∧ Sub [h1_1.size] h3_0.size st_.2.2 ∧ Chg [h1_1.size] h3_0 H) (fun st_ => X.dims.length - st_.1) (0, v3_0, [h1_1.size]) ?_ ?_
    · exact ⟨by first | (simp; done) | (dsimp only; omega) | (simp; omega), by simpa using ho3_0, hfho3_0, Sub.refl, Chg.refl _ _⟩
    · rintro ⟨k, vhO, fphO⟩ h4 ee3 ⟨hi0, hO, hfhO, sbhO, cL2⟩
      dsimp only at hi0 hO hfhO sbhO cL2
      replace hb0_0 := BoxAt.chgA hb0_0 cL2 (apart_lt hlhb0_0 hfho3_0 (by omega))
      have := cL2.size
      replace eB := Ext.then eB cL2 (ge_of hfho3_0 (by omega))
      have hlhO := OS.lt hO
      simp only [List.cons_append, List.nil_append]
      refine den_seq ?_
      refine den_region TTok ?_
      intro K hK
      simp -implicitDefEqProofs (disch := first | decide | assumption | omega) only [go_sem, RdS.len hdX sl37, RdS.idx hdX sl37, R1.intB hdX (Ext.pres eB), RdS.cells hdX, RdS.len hmX sl38, RdS.idx hmX sl38, RdS.cellB hmX (Ext.pres eB), RdS.cells hmX, RdS.len (OS.rd hO) sl38, RdS.idx (OS.rd hO) sl38, RdS.cellN (OS.rd hO), RdS.cells (OS.rd hO), wrap_id]
      refine hK _ _ ?_
      clear hK K
      refine den_seq ?_
      refine den_cond rfl (fun c1 => ?_) (fun c1 => ?_)
      · try simp only [decide_eq_true_eq, decide_eq_false_iff_not, beq_iff_eq, beq_eq_false_iff_ne, bne_iff_ne, ne_eq, Bool.not_eq_true', Bool.not_eq_false', Bool.and_eq_true, Bool.or_eq_true, bne_eq_false_iff_eq, Bool.not_eq_true] at c1
        refine den_skip ?_
        refine den_seq ?_
        refine den_block ?_
        refine den_seq ?_
        refine den_region TTok ?_
        intro K hK
        simp -implicitDefEqProofs (disch := first | decide | assumption | omega) only [go_sem, ld2, RdS.len hdX sl37, RdS.idx hdX sl37, R1.intB hdX (Ext.pres eB), RdS.cells hdX, RdS.len hmX sl38, RdS.idx hmX sl38, RdS.cellB hmX (Ext.pres eB), RdS.cells hmX, RdS.len (OS.rd hO) sl38, RdS.idx (OS.rd hO) sl38, RdS.cellN (OS.rd hO), RdS.cells (OS.rd hO), wrap_id]
        refine hK _ _ ?_
        clear hK K
        have hdk := dm_at (isC_t.1 c0).dm (k := k) (by omega)
        have hlen := (isC_t.1 c0).len
        have hlt : ((X.dims.take k).map unitsP).length = k := by simp; omega
        refine den_region TTok ?_
        intro K hK
        simp -implicitDefEqProofs (disch := first | decide | assumption | omega) only [go_sem, RdS.len hdX sl37, RdS.idx hdX sl37, R1.intB hdX (Ext.pres eB), RdS.cells hdX, RdS.len hmX sl38, RdS.idx hmX sl38, RdS.cellB hmX (Ext.pres eB), RdS.cells hmX, RdS.len (OS.rd hO) sl38, RdS.idx (OS.rd hO) sl38, RdS.cellN (OS.rd hO), RdS.cells (OS.rd hO), wrap_id]
        try simp -implicitDefEqProofs (disch := first | decide | assumption | omega) only [go_sem, RdS.len hdX sl37, RdS.idx hdX sl37, R1.intB hdX (Ext.pres eB), RdS.cells hdX, RdS.len hmX sl38, RdS.idx hmX sl38, RdS.cellB hmX (Ext.pres eB), RdS.cells hmX, RdS.len (OS.rd hO) sl38, RdS.idx (OS.rd hO) sl38, RdS.cellN (OS.rd hO), RdS.cells (OS.rd hO), wrap_id]
        refine CallA.mono (iUnits_ok  ((X.dims).getD k 0) _  (by omega)) ?_
        intro v_ h7_2
        rintro ⟨vw7_2_0, fw7_2_0, rfl, how7_2_0, hfw7_2_0, e7_2⟩
        replace hO := OS.ext hO e7_2
        have := Ext.size e7_2
        replace eB := Ext.trans eB e7_2
        replace cL2 := Chg.stepE cL2 e7_2
        have hlhow7_2_0 := OS.lt how7_2_0
        try simp -implicitDefEqProofs (disch := first | decide | assumption | omega) only [go_sem, RdS.len hdX sl37, RdS.idx hdX sl37, R1.intB hdX (Ext.pres eB), RdS.cells hdX, RdS.len hmX sl38, RdS.idx hmX sl38, RdS.cellB hmX (Ext.pres eB), RdS.cells hmX, RdS.len (OS.rd hO) sl38, RdS.idx (OS.rd hO) sl38, RdS.cellN (OS.rd hO), RdS.cells (OS.rd hO), RdS.len (OS.rd how7_2_0) sl65, RdS.idx (OS.rd how7_2_0) sl65, RdS.cellN (OS.rd how7_2_0), RdS.cells (OS.rd how7_2_0), wrap_id]
        refine op_bs1 sz38 rfl (OS.one how7_2_0).2 ?_
        try simp -implicitDefEqProofs (disch := first | decide | assumption | omega) only [go_sem, RdS.len hdX sl37, RdS.idx hdX sl37, R1.intB hdX (Ext.pres eB), RdS.cells hdX, RdS.len hmX sl38, RdS.idx hmX sl38, RdS.cellB hmX (Ext.pres eB), RdS.cells hmX, RdS.len (OS.rd hO) sl38, RdS.idx (OS.rd hO) sl38, RdS.cellN (OS.rd hO), RdS.cells (OS.rd hO), RdS.len (OS.rd how7_2_0) sl65, RdS.idx (OS.rd how7_2_0) sl65, RdS.cellN (OS.rd how7_2_0), RdS.cells (OS.rd how7_2_0), wrap_id]
        refine op_append1 sz38 hO hfhO.nodup how7_2_0 hfw7_2_0.nodup (apart_lt hlhO hfw7_2_0 (by omega)) (by first | omega | (simp; omega)) rfl rfl ?_
        intro v7_4 h7_4 fp7_4 ho7_4 hn7_4 hs7_4 c7_4
        have hsz7_4 := c7_4.size
        have hfho7_4 : Fresh h1_1.size fp7_4 := Fresh.appd hfhO hfw7_2_0 (by omega) (by omega) hn7_4 hs7_4
        have sb5 : Sub [h1_1.size] h3_0.size fp7_4 := Sub.grow sbhO (Sub.fresh hfw7_2_0 (by omega)) (by omega) hs7_4
        have := c7_4.size
        replace eB := Ext.then eB c7_4 (ge_of hfhO (by omega))
        replace cL2 := Chg.step cL2 c7_4 sbhO
        have hlho7_4 := OS.lt ho7_4
        try simp -implicitDefEqProofs (disch := first | decide | assumption | omega) only [go_sem, RdS.len hdX sl37, RdS.idx hdX sl37, R1.intB hdX (Ext.pres eB), RdS.cells hdX, RdS.len hmX sl38, RdS.idx hmX sl38, RdS.cellB hmX (Ext.pres eB), RdS.cells hmX, RdS.len (OS.rd ho7_4) sl38, RdS.idx (OS.rd ho7_4) sl38, RdS.cellN (OS.rd ho7_4), RdS.cells (OS.rd ho7_4), wrap_id]
        refine hK _ _ ?_
        clear hK K
        refine den_blk ?_
        refine den_region TTok ?_
        intro K hK
        simp -implicitDefEqProofs (disch := first | decide | assumption | omega) only [go_sem, RdS.len hdX sl37, RdS.idx hdX sl37, R1.intB hdX (Ext.pres eB), RdS.cells hdX, RdS.len hmX sl38, RdS.idx hmX sl38, RdS.cellB hmX (Ext.pres eB), RdS.cells hmX, RdS.len (OS.rd ho7_4) sl38, RdS.idx (OS.rd ho7_4) sl38, RdS.cellN (OS.rd ho7_4), RdS.cells (OS.rd ho7_4), wrap_id]
        refine hK _ _ ?_
        clear hK K
        refine den_stop ?_
        rw [map_takeA (by omega)] at ho7_4
        exact ⟨(k + 1, v7_4, fp7_4), by simp [HasL, puts_at], ⟨by first | omega | (dsimp only; omega), ho7_4, hfho7_4, sb5, cL2⟩, by first | omega | (dsimp only; omega)⟩
      · try simp only [decide_eq_true_eq, decide_eq_false_iff_not, beq_iff_eq, beq_eq_false_iff_ne, bne_iff_ne, ne_eq, Bool.not_eq_true', Bool.not_eq_false', Bool.and_eq_true, Bool.or_eq_true, bne_eq_false_iff_eq, Bool.not_eq_true] at c1
        refine den_exit ?_
        refine denX_code ?_
        refine denX_stop ?_
        refine denX_hit ?_
        refine den_seq ?_
        refine den_region TTok ?_
        intro K hK
        simp -implicitDefEqProofs (disch := first | decide | assumption | omega) only [go_sem, RdS.len hdX sl37, RdS.idx hdX sl37, R1.intB hdX (Ext.pres eB), RdS.cells hdX, RdS.len hmX sl38, RdS.idx hmX sl38, RdS.cellB hmX (Ext.pres eB), RdS.cells hmX, RdS.len (OS.rd hO) sl38, RdS.idx (OS.rd hO) sl38, RdS.cellN (OS.rd hO), RdS.cells (OS.rd hO), wrap_id]
        refine hK _ _ ?_
        clear hK K
        refine den_ret ?_
        simp (disch := decide) only [resP_2, puts_same, puts_ne]
        have hz : idP X = (X.dims.map unitsP, 0) := by rw [idP, if_pos c0]
        rw [hz]
        rw [map_endA (by omega)] at hO
        exact ⟨_, _, rfl, hO, hfhO.mono (by omega), eB⟩

set_option maxRecDepth 100000 in
theorem sId_ok (vX : Value) (X : Cx) (h : Heap) (rX : RC h vX X)  : CallA Try.prog 35 #[vX] h fun v' h' => ∃ w0 f0, v' = .tuple #[w0, .int .i64 ((idP X).2)] ∧ O3 h' w0 ((idP X).1) f0 ∧ Fresh h.size f0 ∧ Ext h h' := by
  obtain ⟨vdX, vmX, rfl, hdX, hmX⟩ := rX
  have hledX := RdS.le hdX
  have hlemX := RdS.le hmX
  refine callA_intro TTok (args := [_]) Try.func35 (by kernel_rfl) rfl 44 rfl (by simp) [.tmp 2, .tmp 3] rfl ?_
  simp only [idxs, Nat.reduceAdd]
  refine den_seq ?_
  refine den_region TTok ?_
  intro K hK
  simp -implicitDefEqProofs (disch := first | decide | assumption | omega) only [go_sem, RdS.len hdX sl37, RdS.idx hdX sl37, R1.intB hdX (HPres.refl _), RdS.cells hdX, RdS.len hmX sl38, RdS.idx hmX sl38, RdS.cellB hmX (HPres.refl _), RdS.cells hmX, wrap_id]
  refine op_box (cs := #[.int .i64 (X.p), vdX, vmX]) rfl ?_
  intro h0_0 e0_0 hb0_0 z0_0
  have := Ext.size e0_0
  have eB := e0_0
  have hfhb0_0 : Fresh h.size [h.size] := Fresh.one _
  have hlhb0_0 := one_lt (show h.size < h0_0.size by omega)
  try simp -implicitDefEqProofs (disch := first | decide | assumption | omega) only [go_sem, RdS.len hdX sl37, RdS.idx hdX sl37, R1.intB hdX (Ext.pres eB), RdS.cells hdX, RdS.len hmX sl38, RdS.idx hmX sl38, RdS.cellB hmX (Ext.pres eB), RdS.cells hmX, BoxAt.cell hb0_0, wrap_id]
  refine hK _ _ ?_
  clear hK K
  refine den_seq ?_
  refine den_seq ?_
  refine den_region TTok ?_
  intro K hK
  simp -implicitDefEqProofs (disch := first | decide | assumption | omega) only [go_sem, ld44, RdS.len hdX sl37, RdS.idx hdX sl37, R1.intB hdX (Ext.pres eB), RdS.cells hdX, RdS.len hmX sl38, RdS.idx hmX sl38, RdS.cellB hmX (Ext.pres eB), RdS.cells hmX, BoxAt.cell hb0_0, wrap_id]
  try simp -implicitDefEqProofs (disch := first | decide | assumption | omega) only [go_sem, RdS.len hdX sl37, RdS.idx hdX sl37, R1.intB hdX (Ext.pres eB), RdS.cells hdX, RdS.len hmX sl38, RdS.idx hmX sl38, RdS.cellB hmX (Ext.pres eB), RdS.cells hmX, BoxAt.cell hb0_0, wrap_id]
  refine CallA.mono (sIs_ok _ X _ ⟨_, _, rfl, (RdS.pres hdX (Ext.pres eB)), (RdS.pres hmX (Ext.pres eB))⟩) ?_
  intro v_ h1_1
  rintro ⟨rfl, e1_1⟩
  replace hb0_0 := BoxAt.ext hb0_0 e1_1
  have := Ext.size e1_1
  replace eB := Ext.trans eB e1_1
  try simp -implicitDefEqProofs (disch := first | decide | assumption | omega) only [go_sem, RdS.len hdX sl37, RdS.idx hdX sl37, R1.intB hdX (Ext.pres eB), RdS.cells hdX, RdS.len hmX sl38, RdS.idx hmX sl38, RdS.cellB hmX (Ext.pres eB), RdS.cells hmX, BoxAt.cell hb0_0, wrap_id]
  refine hK _ _ ?_
  clear hK K
  refine den_cond rfl (fun c0 => ?_) (fun c0 => ?_)
  · try simp only [decide_eq_true_eq, decide_eq_false_iff_not, beq_iff_eq, beq_eq_false_iff_ne, bne_iff_ne, ne_eq, Bool.not_eq_true', Bool.not_eq_false', Bool.and_eq_true, Bool.or_eq_true, bne_eq_false_iff_eq, Bool.not_eq_true] at c0
    refine den_seq ?_
    refine den_region TTok ?_
    intro K hK
    simp -implicitDefEqProofs (disch := first | decide | assumption | omega) only [go_sem, RdS.len hdX sl37, RdS.idx hdX sl37, R1.intB hdX (Ext.pres eB), RdS.cells hdX, RdS.len hmX sl38, RdS.idx hmX sl38, RdS.cellB hmX (Ext.pres eB), RdS.cells hmX, wrap_id]
    refine hK _ _ ?_
    clear hK K
    refine den_ret ?_
    simp (disch := decide) only [resP_2, puts_same, puts_ne]
    have hz : idP X = ([], 1) := by rw [idP, if_neg (by rw [c0]; decide)]
    rw [hz]
    exact ⟨.slice none 0 0, [], rfl, OS.nil, Fresh.nil _, eB⟩
  · try simp only [decide_eq_true_eq, decide_eq_false_iff_not, beq_iff_eq, beq_eq_false_iff_ne, bne_iff_ne, ne_eq, Bool.not_eq_true', Bool.not_eq_false', Bool.and_eq_true, Bool.or_eq_true, bne_eq_false_iff_eq, Bool.not_eq_true] at c0
    refine den_skip ?_
    refine den_seq ?_
    refine den_region TTok ?_
    intro K hK
    simp -implicitDefEqProofs (disch := first | decide | assumption | omega) only [go_sem, RdS.len hdX sl37, RdS.idx hdX sl37, R1.intB hdX (Ext.pres eB), RdS.cells hdX, RdS.len hmX sl38, RdS.idx hmX sl38, RdS.cellB hmX (Ext.pres eB), RdS.cells hmX, BoxAt.cell hb0_0, wrap_id]
    refine op_bs0 sz38 O2 ?_
    intro v3_0 h3_0 ho3_0 e3_0
    replace hb0_0 := BoxAt.ext hb0_0 e3_0
    have := Ext.size e3_0
    replace eB := Ext.trans eB e3_0
    have hfho3_0 : Fresh h1_1.size [h1_1.size] := Fresh.one _
    have hlho3_0 := OS.lt ho3_0
    try simp -implicitDefEqProofs (disch := first | decide | assumption | omega) only [go_sem, RdS.len hdX sl37, RdS.idx hdX sl37, R1.intB hdX (Ext.pres eB), RdS.cells hdX, RdS.len hmX sl38, RdS.idx hmX sl38, RdS.cellB hmX (Ext.pres eB), RdS.cells hmX, RdS.len (OS.rd ho3_0) sl38, RdS.idx (OS.rd ho3_0) sl38, RdS.cellN (OS.rd ho3_0), RdS.cells (OS.rd ho3_0), BoxAt.cell hb0_0, wrap_id]
    refine hK _ _ ?_
    clear hK K
    refine den_seq ?_
    refine den_seq ?_
    refine den_region TTok ?_
    intro K hK
    simp -implicitDefEqProofs (disch := first | decide | assumption | omega) only [go_sem, RdS.len hdX sl37, RdS.idx hdX sl37, R1.intB hdX (Ext.pres eB), RdS.cells hdX, RdS.len hmX sl38, RdS.idx hmX sl38, RdS.cellB hmX (Ext.pres eB), RdS.cells hmX, RdS.len (OS.rd ho3_0) sl38, RdS.idx (OS.rd ho3_0) sl38, RdS.cellN (OS.rd ho3_0), RdS.cells (OS.rd ho3_0), BoxAt.cell hb0_0, wrap_id]
    refine hK _ _ ?_
    clear hK K
    refine den_block ?_
    refine den_sel [4, 5, 1] ?_
    intro env_1
    simp only [go_sem]
    refine den_loopS (σ := Nat × Value × List Nat) (fun st_ => [(4, st_.2.1), (5, .int .i64 (st_.1 : Int))]) (fun st_ H => st_.1 ≤ X.dims.length ∧ O3 H st_.2.1 ((X.dims.take st_.1).map unitsP) st_.2.2 ∧ Fresh (h1_1.size) st_.2.2 ∧ Sub [h1_1.size] h3_0.size st_.2.2 ∧ Chg [h1_1.size] h3_0 H) (fun st_ => X.dims.length - st_.1) (0, v3_0, [h1_1.size]) ?_ ?_
    · exact ⟨by first | (simp; done) | (dsimp only; omega) | (simp; omega), by simpa using ho3_0, hfho3_0, Sub.refl, Chg.refl _ _⟩
    · rintro ⟨k, vhO, fphO⟩ h4 ee3 ⟨hi0, hO, hfhO, sbhO, cL2⟩
      dsimp only at hi0 hO hfhO sbhO cL2
      replace hb0_0 := BoxAt.chgA hb0_0 cL2 (apart_lt hlhb0_0 hfho3_0 (by omega))
      have := cL2.size
      replace eB := Ext.then eB cL2 (ge_of hfho3_0 (by omega))
      have hlhO := OS.lt hO
      simp only [List.cons_append, List.nil_append]
      refine den_seq ?_
      refine den_seq ?_
      refine den_region TTok ?_
      intro K hK
      simp -implicitDefEqProofs (disch := first | decide | assumption | omega) only [go_sem, fa44_1, ld37, RdS.len hdX sl37, RdS.idx hdX sl37, R1.intB hdX (Ext.pres eB), RdS.cells hdX, RdS.len hmX sl38, RdS.idx hmX sl38, RdS.cellB hmX (Ext.pres eB), RdS.cells hmX, RdS.len (OS.rd hO) sl38, RdS.idx (OS.rd hO) sl38, RdS.cellN (OS.rd hO), RdS.cells (OS.rd hO), BoxAt.cell hb0_0, wrap_id]
      refine hK _ _ ?_
      clear hK K
      refine den_cond rfl (fun c1 => ?_) (fun c1 => ?_)
      · try simp only [decide_eq_true_eq, decide_eq_false_iff_not, beq_iff_eq, beq_eq_false_iff_ne, bne_iff_ne, ne_eq, Bool.not_eq_true', Bool.not_eq_false', Bool.and_eq_true, Bool.or_eq_true, bne_eq_false_iff_eq, Bool.not_eq_true] at c1
        refine den_skip ?_
        refine den_seq ?_
        refine den_block ?_
        refine den_seq ?_
        have hdk := dm_at (isC_t.1 c0).dm (k := k) (by omega)
        have hlen := (isC_t.1 c0).len
        have hlt : ((X.dims.take k).map unitsP).length = k := by simp; omega
        refine den_region TTok ?_
        intro K hK
        simp -implicitDefEqProofs (disch := first | decide | assumption | omega) only [go_sem, RdS.len hdX sl37, RdS.idx hdX sl37, R1.intB hdX (Ext.pres eB), RdS.cells hdX, RdS.len hmX sl38, RdS.idx hmX sl38, RdS.cellB hmX (Ext.pres eB), RdS.cells hmX, RdS.len (OS.rd hO) sl38, RdS.idx (OS.rd hO) sl38, RdS.cellN (OS.rd hO), RdS.cells (OS.rd hO), BoxAt.cell hb0_0, wrap_id]
        refine op_bs0 sz65 O1 ?_
        intro v7_0 h7_0 ho7_0 e7_0
        replace hO := OS.ext hO e7_0
        replace hb0_0 := BoxAt.ext hb0_0 e7_0
        have := Ext.size e7_0
        replace eB := Ext.trans eB e7_0
        replace cL2 := Chg.stepE cL2 e7_0
        have hfho7_0 : Fresh h4.size [h4.size] := Fresh.one _
        have hlho7_0 := OS.lt ho7_0
        try simp -implicitDefEqProofs (disch := first | decide | assumption | omega) only [go_sem, RdS.len hdX sl37, RdS.idx hdX sl37, R1.intB hdX (Ext.pres eB), RdS.cells hdX, RdS.len hmX sl38, RdS.idx hmX sl38, RdS.cellB hmX (Ext.pres eB), RdS.cells hmX, RdS.len (OS.rd hO) sl38, RdS.idx (OS.rd hO) sl38, RdS.cellN (OS.rd hO), RdS.cells (OS.rd hO), RdS.len (OS.rd ho7_0) sl65, RdS.idx (OS.rd ho7_0) sl65, RdS.cellN (OS.rd ho7_0), RdS.cells (OS.rd ho7_0), BoxAt.cell hb0_0, wrap_id]
        refine hK _ _ ?_
        clear hK K
        refine den_seq ?_
        refine den_seq ?_
        refine den_region TTok ?_
        intro K hK
        simp -implicitDefEqProofs (disch := first | decide | assumption | omega) only [go_sem, RdS.len hdX sl37, RdS.idx hdX sl37, R1.intB hdX (Ext.pres eB), RdS.cells hdX, RdS.len hmX sl38, RdS.idx hmX sl38, RdS.cellB hmX (Ext.pres eB), RdS.cells hmX, RdS.len (OS.rd hO) sl38, RdS.idx (OS.rd hO) sl38, RdS.cellN (OS.rd hO), RdS.cells (OS.rd hO), RdS.len (OS.rd ho7_0) sl65, RdS.idx (OS.rd ho7_0) sl65, RdS.cellN (OS.rd ho7_0), RdS.cells (OS.rd ho7_0), BoxAt.cell hb0_0, wrap_id]
        refine hK _ _ ?_
        clear hK K
        refine den_block ?_
        refine den_sel [6, 7, 1, 4, 5] ?_
        intro env_5
        simp only [go_sem]
        refine den_loopS (σ := Nat × Value × List Nat) (fun st_ => [(6, st_.2.1), (7, .int .i64 (st_.1 : Int))]) (fun st_ H => (st_.1 : Int) ≤ X.dims.getD k 0 ∧ O2 H st_.2.1 ((List.range st_.1).map fun i => unitP (X.dims.getD k 0).toNat i) st_.2.2 ∧ Fresh (h4.size) st_.2.2 ∧ Sub [h4.size] h7_0.size st_.2.2 ∧ Chg [h4.size] h7_0 H) (fun st_ => (X.dims.getD k 0).toNat - st_.1) (0, v7_0, [h4.size]) ?_ ?_
        · exact ⟨by first | (simp; done) | (dsimp only; omega) | (simp; omega), by simpa using ho7_0, hfho7_0, Sub.refl, Chg.refl _ _⟩
        · rintro ⟨m, vhR, fphR⟩ h8 ee7 ⟨hi0, hR, hfhR, sbhR, cL6⟩
          dsimp only at hi0 hR hfhR sbhR cL6
          replace hO := OS.chg hO cL6 (apart_lt hlhO hfho7_0 (by omega))
          replace hb0_0 := BoxAt.chgA hb0_0 cL6 (apart_lt hlhb0_0 hfho7_0 (by omega))
          have := cL6.size
          replace eB := Ext.then eB cL6 (ge_of hfho7_0 (by omega))
          replace cL2 := Chg.step cL2 cL6 (Sub.fresh hfho7_0 (by omega))
          have hlhR := OS.lt hR
          simp only [List.cons_append, List.nil_append]
          have hlr : ((List.range m).map fun i => unitP (X.dims.getD k 0).toNat i).length = m := by simp
          refine den_seq ?_
          refine den_seq ?_
          refine den_region TTok ?_
          intro K hK
          simp -implicitDefEqProofs (disch := first | decide | assumption | omega) only [go_sem, fa44_1, ld37, ld2, RdS.len hdX sl37, RdS.idx hdX sl37, R1.intB hdX (Ext.pres eB), RdS.cells hdX, RdS.len hmX sl38, RdS.idx hmX sl38, RdS.cellB hmX (Ext.pres eB), RdS.cells hmX, RdS.len (OS.rd hO) sl38, RdS.idx (OS.rd hO) sl38, RdS.cellN (OS.rd hO), RdS.cells (OS.rd hO), RdS.len (OS.rd hR) sl65, RdS.idx (OS.rd hR) sl65, RdS.cellN (OS.rd hR), RdS.cells (OS.rd hR), BoxAt.cell hb0_0, wrap_id]
          refine hK _ _ ?_
          clear hK K
          refine den_cond rfl (fun c2 => ?_) (fun c2 => ?_)
          · try simp only [decide_eq_true_eq, decide_eq_false_iff_not, beq_iff_eq, beq_eq_false_iff_ne, bne_iff_ne, ne_eq, Bool.not_eq_true', Bool.not_eq_false', Bool.and_eq_true, Bool.or_eq_true, bne_eq_false_iff_eq, Bool.not_eq_true] at c2
            refine den_skip ?_
            refine den_seq ?_
            refine den_block ?_
            refine den_region TTok ?_
            intro K hK
            simp -implicitDefEqProofs (disch := first | decide | assumption | omega) only [go_sem, fa44_1, ld37, ld2, RdS.len hdX sl37, RdS.idx hdX sl37, R1.intB hdX (Ext.pres eB), RdS.cells hdX, RdS.len hmX sl38, RdS.idx hmX sl38, RdS.cellB hmX (Ext.pres eB), RdS.cells hmX, RdS.len (OS.rd hO) sl38, RdS.idx (OS.rd hO) sl38, RdS.cellN (OS.rd hO), RdS.cells (OS.rd hO), RdS.len (OS.rd hR) sl65, RdS.idx (OS.rd hR) sl65, RdS.cellN (OS.rd hR), RdS.cells (OS.rd hR), BoxAt.cell hb0_0, wrap_id]
            try simp -implicitDefEqProofs (disch := first | decide | assumption | omega) only [go_sem, RdS.len hdX sl37, RdS.idx hdX sl37, R1.intB hdX (Ext.pres eB), RdS.cells hdX, RdS.len hmX sl38, RdS.idx hmX sl38, RdS.cellB hmX (Ext.pres eB), RdS.cells hmX, RdS.len (OS.rd hO) sl38, RdS.idx (OS.rd hO) sl38, RdS.cellN (OS.rd hO), RdS.cells (OS.rd hO), RdS.len (OS.rd hR) sl65, RdS.idx (OS.rd hR) sl65, RdS.cellN (OS.rd hR), RdS.cells (OS.rd hR), BoxAt.cell hb0_0, wrap_id]
            refine CallA.mono (sUnit_ok  ((X.dims).getD k 0) (m : Int) _  (by omega)) ?_
            intro v_ h11_7
            rintro ⟨vw11_7_0, fw11_7_0, rfl, how11_7_0, hfw11_7_0, e11_7⟩
            replace hO := OS.ext hO e11_7
            replace hR := OS.ext hR e11_7
            replace hb0_0 := BoxAt.ext hb0_0 e11_7
            have := Ext.size e11_7
            replace eB := Ext.trans eB e11_7
            replace cL2 := Chg.stepE cL2 e11_7
            replace cL6 := Chg.stepE cL6 e11_7
            have hlhow11_7_0 := OS.lt how11_7_0
            try simp -implicitDefEqProofs (disch := first | decide | assumption | omega) only [go_sem, RdS.len hdX sl37, RdS.idx hdX sl37, R1.intB hdX (Ext.pres eB), RdS.cells hdX, RdS.len hmX sl38, RdS.idx hmX sl38, RdS.cellB hmX (Ext.pres eB), RdS.cells hmX, RdS.len (OS.rd hO) sl38, RdS.idx (OS.rd hO) sl38, RdS.cellN (OS.rd hO), RdS.cells (OS.rd hO), RdS.len (OS.rd hR) sl65, RdS.idx (OS.rd hR) sl65, RdS.cellN (OS.rd hR), RdS.cells (OS.rd hR), RdS.len (OS.rd how11_7_0) sl37, RdS.idx (OS.rd how11_7_0) sl37, R1.intN (OS.rd how11_7_0), RdS.cells (OS.rd how11_7_0), BoxAt.cell hb0_0, wrap_id]
            refine op_bs1 sz65 rfl (OS.one how11_7_0).2 ?_
            try simp -implicitDefEqProofs (disch := first | decide | assumption | omega) only [go_sem, RdS.len hdX sl37, RdS.idx hdX sl37, R1.intB hdX (Ext.pres eB), RdS.cells hdX, RdS.len hmX sl38, RdS.idx hmX sl38, RdS.cellB hmX (Ext.pres eB), RdS.cells hmX, RdS.len (OS.rd hO) sl38, RdS.idx (OS.rd hO) sl38, RdS.cellN (OS.rd hO), RdS.cells (OS.rd hO), RdS.len (OS.rd hR) sl65, RdS.idx (OS.rd hR) sl65, RdS.cellN (OS.rd hR), RdS.cells (OS.rd hR), RdS.len (OS.rd how11_7_0) sl37, RdS.idx (OS.rd how11_7_0) sl37, R1.intN (OS.rd how11_7_0), RdS.cells (OS.rd how11_7_0), BoxAt.cell hb0_0, wrap_id]
            refine op_append1 sz65 hR hfhR.nodup how11_7_0 hfw11_7_0.nodup (apart_lt hlhR hfw11_7_0 (by omega)) (by first | omega | (simp; omega)) rfl rfl ?_
            intro v11_9 h11_9 fp11_9 ho11_9 hn11_9 hs11_9 c11_9
            have hsz11_9 := c11_9.size
            have hfho11_9 : Fresh h4.size fp11_9 := Fresh.appd hfhR hfw11_7_0 (by omega) (by omega) hn11_9 hs11_9
            have sb9 : Sub [h4.size] h7_0.size fp11_9 := Sub.grow sbhR (Sub.fresh hfw11_7_0 (by omega)) (by omega) hs11_9
            replace hO := OS.chg hO c11_9 (apart_lt hlhO hfhR (by omega))
            replace hb0_0 := BoxAt.chgA hb0_0 c11_9 (apart_lt hlhb0_0 hfhR (by omega))
            have := c11_9.size
            replace eB := Ext.then eB c11_9 (ge_of hfhR (by omega))
            replace cL2 := Chg.step cL2 c11_9 (Sub.fresh hfhR (by omega))
            replace cL6 := Chg.step cL6 c11_9 sbhR
            have hlho11_9 := OS.lt ho11_9
            try simp -implicitDefEqProofs (disch := first | decide | assumption | omega) only [go_sem, RdS.len hdX sl37, RdS.idx hdX sl37, R1.intB hdX (Ext.pres eB), RdS.cells hdX, RdS.len hmX sl38, RdS.idx hmX sl38, RdS.cellB hmX (Ext.pres eB), RdS.cells hmX, RdS.len (OS.rd hO) sl38, RdS.idx (OS.rd hO) sl38, RdS.cellN (OS.rd hO), RdS.cells (OS.rd hO), RdS.len (OS.rd ho11_9) sl65, RdS.idx (OS.rd ho11_9) sl65, RdS.cellN (OS.rd ho11_9), RdS.cells (OS.rd ho11_9), BoxAt.cell hb0_0, wrap_id]
            refine hK _ _ ?_
            clear hK K
            refine den_blk ?_
            refine den_region TTok ?_
            intro K hK
            simp -implicitDefEqProofs (disch := first | decide | assumption | omega) only [go_sem, RdS.len hdX sl37, RdS.idx hdX sl37, R1.intB hdX (Ext.pres eB), RdS.cells hdX, RdS.len hmX sl38, RdS.idx hmX sl38, RdS.cellB hmX (Ext.pres eB), RdS.cells hmX, RdS.len (OS.rd hO) sl38, RdS.idx (OS.rd hO) sl38, RdS.cellN (OS.rd hO), RdS.cells (OS.rd hO), RdS.len (OS.rd ho11_9) sl65, RdS.idx (OS.rd ho11_9) sl65, RdS.cellN (OS.rd ho11_9), RdS.cells (OS.rd ho11_9), BoxAt.cell hb0_0, wrap_id]
            refine hK _ _ ?_
            clear hK K
            refine den_stop ?_
            rw [Int.toNat_natCast, range_step (fun i => unitP (X.dims.getD k 0).toNat i)] at ho11_9
            exact ⟨(m + 1, v11_9, fp11_9), by simp [HasL, puts_at], ⟨by first | omega | (dsimp only; omega), ho11_9, hfho11_9, sb9, cL6⟩, by first | omega | (dsimp only; omega)⟩
          · try simp only [decide_eq_true_eq, decide_eq_false_iff_not, beq_iff_eq, beq_eq_false_iff_ne, bne_iff_ne, ne_eq, Bool.not_eq_true', Bool.not_eq_false', Bool.and_eq_true, Bool.or_eq_true, bne_eq_false_iff_eq, Bool.not_eq_true] at c2
            refine den_exit ?_
            refine denX_code ?_
            refine denX_stop ?_
            refine denX_hit ?_
            refine den_region TTok ?_
            intro K hK
            simp -implicitDefEqProofs (disch := first | decide | assumption | omega) only [go_sem, RdS.len hdX sl37, RdS.idx hdX sl37, R1.intB hdX (Ext.pres eB), RdS.cells hdX, RdS.len hmX sl38, RdS.idx hmX sl38, RdS.cellB hmX (Ext.pres eB), RdS.cells hmX, RdS.len (OS.rd hO) sl38, RdS.idx (OS.rd hO) sl38, RdS.cellN (OS.rd hO), RdS.cells (OS.rd hO), RdS.len (OS.rd hR) sl65, RdS.idx (OS.rd hR) sl65, RdS.cellN (OS.rd hR), RdS.cells (OS.rd hR), BoxAt.cell hb0_0, wrap_id]
            refine op_bs1 sz38 rfl (OS.one hR).2 ?_
            try simp -implicitDefEqProofs (disch := first | decide | assumption | omega) only [go_sem, RdS.len hdX sl37, RdS.idx hdX sl37, R1.intB hdX (Ext.pres eB), RdS.cells hdX, RdS.len hmX sl38, RdS.idx hmX sl38, RdS.cellB hmX (Ext.pres eB), RdS.cells hmX, RdS.len (OS.rd hO) sl38, RdS.idx (OS.rd hO) sl38, RdS.cellN (OS.rd hO), RdS.cells (OS.rd hO), RdS.len (OS.rd hR) sl65, RdS.idx (OS.rd hR) sl65, RdS.cellN (OS.rd hR), RdS.cells (OS.rd hR), BoxAt.cell hb0_0, wrap_id]
            refine op_append1 sz38 hO hfhO.nodup hR hfhR.nodup (apart_lt hlhO hfhR (by omega)) (by first | omega | (simp; omega)) rfl rfl ?_
            intro v12_3 h12_3 fp12_3 ho12_3 hn12_3 hs12_3 c12_3
            have hsz12_3 := c12_3.size
            have hfho12_3 : Fresh h1_1.size fp12_3 := Fresh.appd hfhO hfhR (by omega) (by omega) hn12_3 hs12_3
            have sb10 : Sub [h1_1.size] h3_0.size fp12_3 := Sub.grow sbhO (Sub.fresh hfhR (by omega)) (by omega) hs12_3
            replace hb0_0 := BoxAt.chgA hb0_0 c12_3 (apart_lt hlhb0_0 hfhO (by omega))
            have := c12_3.size
            replace eB := Ext.then eB c12_3 (ge_of hfhO (by omega))
            replace cL2 := Chg.step cL2 c12_3 sbhO
            have hlho12_3 := OS.lt ho12_3
            try simp -implicitDefEqProofs (disch := first | decide | assumption | omega) only [go_sem, RdS.len hdX sl37, RdS.idx hdX sl37, R1.intB hdX (Ext.pres eB), RdS.cells hdX, RdS.len hmX sl38, RdS.idx hmX sl38, RdS.cellB hmX (Ext.pres eB), RdS.cells hmX, RdS.len (OS.rd ho12_3) sl38, RdS.idx (OS.rd ho12_3) sl38, RdS.cellN (OS.rd ho12_3), RdS.cells (OS.rd ho12_3), BoxAt.cell hb0_0, wrap_id]
            refine hK _ _ ?_
            clear hK K
            refine den_blk ?_
            refine den_region TTok ?_
            intro K hK
            simp -implicitDefEqProofs (disch := first | decide | assumption | omega) only [go_sem, RdS.len hdX sl37, RdS.idx hdX sl37, R1.intB hdX (Ext.pres eB), RdS.cells hdX, RdS.len hmX sl38, RdS.idx hmX sl38, RdS.cellB hmX (Ext.pres eB), RdS.cells hmX, RdS.len (OS.rd ho12_3) sl38, RdS.idx (OS.rd ho12_3) sl38, RdS.cellN (OS.rd ho12_3), RdS.cells (OS.rd ho12_3), BoxAt.cell hb0_0, wrap_id]
            refine hK _ _ ?_
            clear hK K
            refine den_stop ?_
            rw [show (List.range m).map (fun i => unitP (X.dims.getD k 0).toNat i) = unitsP (X.dims.getD k 0) by rw [unitsP, show (X.dims.getD k 0).toNat = m by omega], map_takeA (by omega)] at ho12_3
            exact ⟨(k + 1, v12_3, fp12_3), by simp [HasL, puts_at], ⟨by first | omega | (dsimp only; omega), ho12_3, hfho12_3, sb10, cL2⟩, by first | omega | (dsimp only; omega)⟩
      · try simp only [decide_eq_true_eq, decide_eq_false_iff_not, beq_iff_eq, beq_eq_false_iff_ne, bne_iff_ne, ne_eq, Bool.not_eq_true', Bool.not_eq_false', Bool.and_eq_true, Bool.or_eq_true, bne_eq_false_iff_eq, Bool.not_eq_true] at c1
        refine den_exit ?_
        refine denX_code ?_
        refine denX_stop ?_
        refine denX_hit ?_
        refine den_seq ?_
        refine den_region TTok ?_
        intro K hK
        simp -implicitDefEqProofs (disch := first | decide | assumption | omega) only [go_sem, RdS.len hdX sl37, RdS.idx hdX sl37, R1.intB hdX (Ext.pres eB), RdS.cells hdX, RdS.len hmX sl38, RdS.idx hmX sl38, RdS.cellB hmX (Ext.pres eB), RdS.cells hmX, RdS.len (OS.rd hO) sl38, RdS.idx (OS.rd hO) sl38, RdS.cellN (OS.rd hO), RdS.cells (OS.rd hO), wrap_id]
        refine hK _ _ ?_
        clear hK K
        refine den_ret ?_
        simp (disch := decide) only [resP_2, puts_same, puts_ne]
        have hz : idP X = (X.dims.map unitsP, 0) := by rw [idP, if_pos c0]
        rw [hz]
        rw [map_endA (by omega)] at hO
        exact ⟨_, _, rfl, hO, hfhO.mono (by omega), eB⟩

end Go.Proofs.Ytkkjhomhndpphaa
