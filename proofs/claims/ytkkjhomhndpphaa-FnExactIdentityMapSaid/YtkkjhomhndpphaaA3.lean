/-
  Walks: IdentityMap.
  Conditions: each theorem's own.
-/
import Derived.Test.YtkkjhomhndpphaaA2
set_option linter.unusedVariables false
set_option linter.unusedSimpArgs false
namespace Go.Proofs.Ytkkjhomhndpphaa
open Go
noncomputable def idP (X : Cx) : List (List (List Int)) × Int := if isC X = true then (X.dims.map unitsP, 0) else ([], 1)
theorem cnt1_unit (n i : Nat) : cnt1 (unitP n i) = n := by simp [cnt1, unitP]
theorem cnt_units (d : Int) (h0 : 0 ≤ d) (h1 : d ≤ 8) : 0 ≤ cntL cnt1 (unitsP d) ∧ cntL cnt1 (unitsP d) ≤ 64 := by
  have := cntL_bnd (ct := cnt1) (c := 8) (by omega) (xs := unitsP d) (m := 8) (fun x hx => by
    obtain ⟨i, hi, rfl⟩ := List.mem_map.1 hx
    rw [cnt1_unit]; omega) (by simp [unitsP]; omega)
  omega
theorem cnt_id (X : Cx) : 0 ≤ cntL cnt2 (idP X).1 ∧ cntL cnt2 (idP X).1 ≤ 384 := by
  unfold idP
  split
  · rename_i hc
    have hC := isC_t.1 hc
    have hl := hC.len
    have := cntL_bnd (ct := cnt2) (c := 64) (by omega) (xs := X.dims.map unitsP) (m := 6) (fun x hx => by
      obtain ⟨d, hd, rfl⟩ := List.mem_map.1 hx
      have hb := List.all_eq_true.1 hC.dm d hd
      rw [in3_iff] at hb
      exact cnt_units d hb.1 hb.2) (by simp; omega)
    have e : ((X.dims.map unitsP, (0 : Int)) : List (List (List Int)) × Int).1 = X.dims.map unitsP := rfl
    rw [e]
    exact ⟨this.1, by have := this.2; omega⟩
  · exact ⟨Int.le_refl _, by decide⟩

set_option maxRecDepth 100000 in
theorem iId_ok (vX : Value) (X : Cx) (h : Heap) (hX : RC h vX X)  : CallA Try.prog 36 #[vX] h fun v' h' => ∃ w0 f0, v' = .tuple #[w0, .int .i64 ((idP X).2)] ∧ O3 h' w0 ((idP X).1) f0 ∧ Fresh h.size f0 ∧ Ext h h' := by
  obtain ⟨vdX, vmX, rfl, hdX, hmX⟩ := hX
  have hledX := RdS.le hdX
  have hlemX := RdS.le hmX
  refine callA_intro TTok (args := [_]) Try.func36 (by kernel_rfl) rfl 25 rfl (by simp) [.tmp 2, .tmp 3] rfl ?_
  simp only [idxs, Nat.reduceAdd]
  refine den_seq ?_
  refine den_region TTok ?_
  intro K hK
  simp -implicitDefEqProofs (disch := first | decide | assumption | omega) only [go_sem, RdS.len hdX sl37, RdS.idx hdX sl37, R1.intB hdX (HPres.refl _), RdS.cells hdX, RdS.len hmX sl38, RdS.idx hmX sl38, RdS.cellB hmX (HPres.refl _), RdS.cells hmX, wrap_id]
  refine op_box (cs := #[.int .i64 (X.p), vdX, vmX]) rfl ?_
  intro h0_0 e0_0 hb0_0 z0_0
  have := Ext.size e0_0
  have eB := e0_0
  have hfhb0_0 : Fresh h.size [h.size] := Fresh.one _
  have hlhb0_0 := one_lt (show h.size < h0_0.size by omega)
  try simp -implicitDefEqProofs (disch := first | decide | assumption | omega) only [go_sem, RdS.len hdX sl37, RdS.idx hdX sl37, R1.intB hdX (Ext.pres eB), RdS.cells hdX, RdS.len hmX sl38, RdS.idx hmX sl38, RdS.cellB hmX (Ext.pres eB), RdS.cells hmX, BoxAt.cell hb0_0, wrap_id]
  refine hK _ _ ?_
  clear hK K
  refine den_seq ?_
  refine den_seq ?_
  refine den_region TTok ?_
  intro K hK
  simp -implicitDefEqProofs (disch := first | decide | assumption | omega) only [go_sem, ld44, RdS.len hdX sl37, RdS.idx hdX sl37, R1.intB hdX (Ext.pres eB), RdS.cells hdX, RdS.len hmX sl38, RdS.idx hmX sl38, RdS.cellB hmX (Ext.pres eB), RdS.cells hmX, BoxAt.cell hb0_0, wrap_id]
  try simp -implicitDefEqProofs (disch := first | decide | assumption | omega) only [go_sem, RdS.len hdX sl37, RdS.idx hdX sl37, R1.intB hdX (Ext.pres eB), RdS.cells hdX, RdS.len hmX sl38, RdS.idx hmX sl38, RdS.cellB hmX (Ext.pres eB), RdS.cells hmX, BoxAt.cell hb0_0, wrap_id]
  refine CallA.mono (iIs_ok _ X _ ⟨_, _, rfl, (RdS.pres hdX (Ext.pres eB)), (RdS.pres hmX (Ext.pres eB))⟩) ?_
  intro v_ h1_1
  rintro ⟨rfl, e1_1⟩
  replace hb0_0 := BoxAt.ext hb0_0 e1_1
  have := Ext.size e1_1
  replace eB := Ext.trans eB e1_1
  try simp -implicitDefEqProofs (disch := first | decide | assumption | omega) only [go_sem, RdS.len hdX sl37, RdS.idx hdX sl37, R1.intB hdX (Ext.pres eB), RdS.cells hdX, RdS.len hmX sl38, RdS.idx hmX sl38, RdS.cellB hmX (Ext.pres eB), RdS.cells hmX, BoxAt.cell hb0_0, wrap_id]
  refine hK _ _ ?_
  clear hK K
  refine den_cond rfl (fun c0 => ?_) (fun c0 => ?_)
  · try simp only [decide_eq_true_eq, decide_eq_false_iff_not, beq_iff_eq, beq_eq_false_iff_ne, bne_iff_ne, ne_eq, Bool.not_eq_true', Bool.not_eq_false', Bool.and_eq_true, Bool.or_eq_true, bne_eq_false_iff_eq, Bool.not_eq_true] at c0
    refine den_seq ?_
    refine den_region TTok ?_
    intro K hK
    simp -implicitDefEqProofs (disch := first | decide | assumption | omega) only [go_sem, RdS.len hdX sl37, RdS.idx hdX sl37, R1.intB hdX (Ext.pres eB), RdS.cells hdX, RdS.len hmX sl38, RdS.idx hmX sl38, RdS.cellB hmX (Ext.pres eB), RdS.cells hmX, wrap_id]
    refine hK _ _ ?_
    clear hK K
    refine den_ret ?_
    simp (disch := decide) only [resP_2, puts_same, puts_ne]
    have hz : idP X = ([], 1) := by rw [idP, if_neg (by rw [c0]; decide)]
    rw [hz]
    exact ⟨.slice none 0 0, [], rfl, OS.nil, Fresh.nil _, eB⟩
  · try simp only [decide_eq_true_eq, decide_eq_false_iff_not, beq_iff_eq, beq_eq_false_iff_ne, bne_iff_ne, ne_eq, Bool.not_eq_true', Bool.not_eq_false', Bool.and_eq_true, Bool.or_eq_true, bne_eq_false_iff_eq, Bool.not_eq_true] at c0
    refine den_skip ?_
    refine den_seq ?_
    refine den_region TTok ?_
    intro K hK
    simp -implicitDefEqProofs (disch := first | decide | assumption | omega) only [go_sem, RdS.len hdX sl37, RdS.idx hdX sl37, R1.intB hdX (Ext.pres eB), RdS.cells hdX, RdS.len hmX sl38, RdS.idx hmX sl38, RdS.cellB hmX (Ext.pres eB), RdS.cells hmX, BoxAt.cell hb0_0, wrap_id]
    refine op_bs0 sz38 O2 ?_
    intro v3_0 h3_0 ho3_0 e3_0
    replace hb0_0 := BoxAt.ext hb0_0 e3_0
    have := Ext.size e3_0
    replace eB := Ext.trans eB e3_0
    have hfho3_0 : Fresh h1_1.size [h1_1.size] := Fresh.one _
    have hlho3_0 := OS.lt ho3_0
    try simp -implicitDefEqProofs (disch := first | decide | assumption | omega) only [go_sem, RdS.len hdX sl37, RdS.idx hdX sl37, R1.intB hdX (Ext.pres eB), RdS.cells hdX, RdS.len hmX sl38, RdS.idx hmX sl38, RdS.cellB hmX (Ext.pres eB), RdS.cells hmX, RdS.len (OS.rd ho3_0) sl38, RdS.idx (OS.rd ho3_0) sl38, RdS.cellN (OS.rd ho3_0), RdS.cells (OS.rd ho3_0), BoxAt.cell hb0_0, wrap_id]
    refine hK _ _ ?_
    clear hK K
    refine den_seq ?_
    refine den_seq ?_
    refine den_region TTok ?_
    intro K hK
    simp -implicitDefEqProofs (disch := first | decide | assumption | omega) only [go_sem, fa44_1, ld37, RdS.len hdX sl37, RdS.idx hdX sl37, R1.intB hdX (Ext.pres eB), RdS.cells hdX, RdS.len hmX sl38, RdS.idx hmX sl38, RdS.cellB hmX (Ext.pres eB), RdS.cells hmX, RdS.len (OS.rd ho3_0) sl38, RdS.idx (OS.rd ho3_0) sl38, RdS.cellN (OS.rd ho3_0), RdS.cells (OS.rd ho3_0), BoxAt.cell hb0_0, wrap_id]
    refine hK _ _ ?_
    clear hK K
    refine den_block ?_
    refine den_sel [4, 14, 12, 13] ?_
    intro env_1
    simp only [go_sem]
    refine den_loopS (σ := Nat × Value × List Nat) (fun s => [(4, s.2.1), (14, .int .i64 (s.1 : Int))]) (fun s H => s.1 ≤ X.dims.length ∧ O3 H s.2.1 ((X.dims.take s.1).map unitsP) s.2.2 ∧ Fresh (h1_1.size) s.2.2 ∧ Sub [h1_1.size] h3_0.size s.2.2 ∧ Chg [h1_1.size] h3_0 H) (fun s => X.dims.length - s.1) (0, v3_0, [h1_1.size]) ?_ ?_
    · exact ⟨by first | (simp; done) | (dsimp only; omega) | (simp; omega), by simpa using ho3_0, hfho3_0, Sub.refl, Chg.refl _ _⟩
    · rintro ⟨k, vhO, fphO⟩ h4 ee3 ⟨hi0, hO, hfhO, sbhO, cL2⟩
      dsimp only at hi0 hO hfhO sbhO cL2
      replace hb0_0 := BoxAt.chgA hb0_0 cL2 (apart_lt hlhb0_0 hfho3_0 (by omega))
      have := cL2.size
      replace eB := Ext.then eB cL2 (ge_of hfho3_0 (by omega))
      have hlhO := OS.lt hO
      simp only [List.cons_append, List.nil_append]
      refine den_seq ?_
      refine den_region TTok ?_
      intro K hK
      simp -implicitDefEqProofs (disch := first | decide | assumption | omega) only [go_sem, RdS.len hdX sl37, RdS.idx hdX sl37, R1.intB hdX (Ext.pres eB), RdS.cells hdX, RdS.len hmX sl38, RdS.idx hmX sl38, RdS.cellB hmX (Ext.pres eB), RdS.cells hmX, RdS.len (OS.rd hO) sl38, RdS.idx (OS.rd hO) sl38, RdS.cellN (OS.rd hO), RdS.cells (OS.rd hO), wrap_id]
      refine hK _ _ ?_
      clear hK K
      refine den_seq ?_
      refine den_cond rfl (fun c1 => ?_) (fun c1 => ?_)
      · try simp only [decide_eq_true_eq, decide_eq_false_iff_not, beq_iff_eq, beq_eq_false_iff_ne, bne_iff_ne, ne_eq, Bool.not_eq_true', Bool.not_eq_false', Bool.and_eq_true, Bool.or_eq_true, bne_eq_false_iff_eq, Bool.not_eq_true] at c1
        refine den_skip ?_
        refine den_seq ?_
        refine den_block ?_
        refine den_seq ?_
        refine den_region TTok ?_
        intro K hK
        simp -implicitDefEqProofs (disch := first | decide | assumption | omega) only [go_sem, ld2, RdS.len hdX sl37, RdS.idx hdX sl37, R1.intB hdX (Ext.pres eB), RdS.cells hdX, RdS.len hmX sl38, RdS.idx hmX sl38, RdS.cellB hmX (Ext.pres eB), RdS.cells hmX, RdS.len (OS.rd hO) sl38, RdS.idx (OS.rd hO) sl38, RdS.cellN (OS.rd hO), RdS.cells (OS.rd hO), wrap_id]
        refine hK _ _ ?_
        clear hK K
        have hdk := dm_at (isC_t.1 c0).dm (k := k) (by omega)
        have hlen := (isC_t.1 c0).len
        have hlt : ((X.dims.take k).map unitsP).length = k := by simp; omega
        refine den_region TTok ?_
        intro K hK
        simp -implicitDefEqProofs (disch := first | decide | assumption | omega) only [go_sem, RdS.len hdX sl37, RdS.idx hdX sl37, R1.intB hdX (Ext.pres eB), RdS.cells hdX, RdS.len hmX sl38, RdS.idx hmX sl38, RdS.cellB hmX (Ext.pres eB), RdS.cells hmX, RdS.len (OS.rd hO) sl38, RdS.idx (OS.rd hO) sl38, RdS.cellN (OS.rd hO), RdS.cells (OS.rd hO), wrap_id]
        try simp -implicitDefEqProofs (disch := first | decide | assumption | omega) only [go_sem, RdS.len hdX sl37, RdS.idx hdX sl37, R1.intB hdX (Ext.pres eB), RdS.cells hdX, RdS.len hmX sl38, RdS.idx hmX sl38, RdS.cellB hmX (Ext.pres eB), RdS.cells hmX, RdS.len (OS.rd hO) sl38, RdS.idx (OS.rd hO) sl38, RdS.cellN (OS.rd hO), RdS.cells (OS.rd hO), wrap_id]
        refine CallA.mono (iUnits_ok  ((X.dims).getD k 0) _  (by omega)) ?_
        intro v_ h7_2
        rintro ⟨vw7_2_0, fw7_2_0, rfl, how7_2_0, hfw7_2_0, e7_2⟩
        replace hO := OS.ext hO e7_2
        have := Ext.size e7_2
        replace eB := Ext.trans eB e7_2
        replace cL2 := Chg.stepE cL2 e7_2
        have hlhow7_2_0 := OS.lt how7_2_0
        try simp -implicitDefEqProofs (disch := first | decide | assumption | omega) only [go_sem, RdS.len hdX sl37, RdS.idx hdX sl37, R1.intB hdX (Ext.pres eB), RdS.cells hdX, RdS.len hmX sl38, RdS.idx hmX sl38, RdS.cellB hmX (Ext.pres eB), RdS.cells hmX, RdS.len (OS.rd hO) sl38, RdS.idx (OS.rd hO) sl38, RdS.cellN (OS.rd hO), RdS.cells (OS.rd hO), RdS.len (OS.rd how7_2_0) sl65, RdS.idx (OS.rd how7_2_0) sl65, RdS.cellN (OS.rd how7_2_0), RdS.cells (OS.rd how7_2_0), wrap_id]
        refine op_bs1 sz38 rfl (OS.one how7_2_0).2 ?_
        try simp -implicitDefEqProofs (disch := first | decide | assumption | omega) only [go_sem, RdS.len hdX sl37, RdS.idx hdX sl37, R1.intB hdX (Ext.pres eB), RdS.cells hdX, RdS.len hmX sl38, RdS.idx hmX sl38, RdS.cellB hmX (Ext.pres eB), RdS.cells hmX, RdS.len (OS.rd hO) sl38, RdS.idx (OS.rd hO) sl38, RdS.cellN (OS.rd hO), RdS.cells (OS.rd hO), RdS.len (OS.rd how7_2_0) sl65, RdS.idx (OS.rd how7_2_0) sl65, RdS.cellN (OS.rd how7_2_0), RdS.cells (OS.rd how7_2_0), wrap_id]
        refine op_append1 sz38 hO hfhO.nodup how7_2_0 hfw7_2_0.nodup (apart_lt hlhO hfw7_2_0 (by omega)) (by first | omega | (simp; omega)) rfl rfl ?_
        intro v7_4 h7_4 fp7_4 ho7_4 hn7_4 hs7_4 c7_4
        have hsz7_4 := c7_4.size
        have hfho7_4 : Fresh h1_1.size fp7_4 := Fresh.appd hfhO hfw7_2_0 (by omega) (by omega) hn7_4 hs7_4
        have sb5 : Sub [h1_1.size] h3_0.size fp7_4 := Sub.grow sbhO (Sub.fresh hfw7_2_0 (by omega)) (by omega) hs7_4
        have := c7_4.size
        replace eB := Ext.then eB c7_4 (ge_of hfhO (by omega))
        replace cL2 := Chg.step cL2 c7_4 sbhO
        have hlho7_4 := OS.lt ho7_4
        try simp -implicitDefEqProofs (disch := first | decide | assumption | omega) only [go_sem, RdS.len hdX sl37, RdS.idx hdX sl37, R1.intB hdX (Ext.pres eB), RdS.cells hdX, RdS.len hmX sl38, RdS.idx hmX sl38, RdS.cellB hmX (Ext.pres eB), RdS.cells hmX, RdS.len (OS.rd ho7_4) sl38, RdS.idx (OS.rd ho7_4) sl38, RdS.cellN (OS.rd ho7_4), RdS.cells (OS.rd ho7_4), wrap_id]
        refine hK _ _ ?_
        clear hK K
        refine den_blk ?_
        refine den_region TTok ?_
        intro K hK
        simp -implicitDefEqProofs (disch := first | decide | assumption | omega) only [go_sem, RdS.len hdX sl37, RdS.idx hdX sl37, R1.intB hdX (Ext.pres eB), RdS.cells hdX, RdS.len hmX sl38, RdS.idx hmX sl38, RdS.cellB hmX (Ext.pres eB), RdS.cells hmX, RdS.len (OS.rd ho7_4) sl38, RdS.idx (OS.rd ho7_4) sl38, RdS.cellN (OS.rd ho7_4), RdS.cells (OS.rd ho7_4), wrap_id]
        refine hK _ _ ?_
        clear hK K
        refine den_stop ?_
        rw [map_takeA (by omega)] at ho7_4
        exact ⟨(k + 1, v7_4, fp7_4), by simp [HasL, puts_at], ⟨by dsimp only; omega, ho7_4, hfho7_4, sb5, cL2⟩, by dsimp only; omega⟩
      · try simp only [decide_eq_true_eq, decide_eq_false_iff_not, beq_iff_eq, beq_eq_false_iff_ne, bne_iff_ne, ne_eq, Bool.not_eq_true', Bool.not_eq_false', Bool.and_eq_true, Bool.or_eq_true, bne_eq_false_iff_eq, Bool.not_eq_true] at c1
        refine den_exit ?_
        refine denX_code ?_
        refine denX_stop ?_
        refine denX_hit ?_
        refine den_seq ?_
        refine den_region TTok ?_
        intro K hK
        simp -implicitDefEqProofs (disch := first | decide | assumption | omega) only [go_sem, RdS.len hdX sl37, RdS.idx hdX sl37, R1.intB hdX (Ext.pres eB), RdS.cells hdX, RdS.len hmX sl38, RdS.idx hmX sl38, RdS.cellB hmX (Ext.pres eB), RdS.cells hmX, RdS.len (OS.rd hO) sl38, RdS.idx (OS.rd hO) sl38, RdS.cellN (OS.rd hO), RdS.cells (OS.rd hO), wrap_id]
        refine hK _ _ ?_
        clear hK K
        refine den_ret ?_
        simp (disch := decide) only [resP_2, puts_same, puts_ne]
        have hz : idP X = (X.dims.map unitsP, 0) := by rw [idP, if_pos c0]
        rw [hz]
        rw [map_endA (by omega)] at hO
        exact ⟨_, _, rfl, hO, hfhO.mono (by omega), eB⟩

set_option maxRecDepth 100000 in
theorem sId_ok (vX : Value) (X : Cx) (h : Heap) (hX : RC h vX X)  : CallA Try.prog 35 #[vX] h fun v' h' => ∃ w0 f0, v' = .tuple #[w0, .int .i64 ((idP X).2)] ∧ O3 h' w0 ((idP X).1) f0 ∧ Fresh h.size f0 ∧ Ext h h' := by
  obtain ⟨vdX, vmX, rfl, hdX, hmX⟩ := hX
  have hledX := RdS.le hdX
  have hlemX := RdS.le hmX
  refine callA_intro TTok (args := [_]) Try.func35 (by kernel_rfl) rfl 44 rfl (by simp) [.tmp 2, .tmp 3] rfl ?_
  simp only [idxs, Nat.reduceAdd]
  refine den_seq ?_
  refine den_region TTok ?_
  intro K hK
  simp -implicitDefEqProofs (disch := first | decide | assumption | omega) only [go_sem, RdS.len hdX sl37, RdS.idx hdX sl37, R1.intB hdX (HPres.refl _), RdS.cells hdX, RdS.len hmX sl38, RdS.idx hmX sl38, RdS.cellB hmX (HPres.refl _), RdS.cells hmX, wrap_id]
  refine op_box (cs := #[.int .i64 (X.p), vdX, vmX]) rfl ?_
  intro h0_0 e0_0 hb0_0 z0_0
  have := Ext.size e0_0
  have eB := e0_0
  have hfhb0_0 : Fresh h.size [h.size] := Fresh.one _
  have hlhb0_0 := one_lt (show h.size < h0_0.size by omega)
  try simp -implicitDefEqProofs (disch := first | decide | assumption | omega) only [go_sem, RdS.len hdX sl37, RdS.idx hdX sl37, R1.intB hdX (Ext.pres eB), RdS.cells hdX, RdS.len hmX sl38, RdS.idx hmX sl38, RdS.cellB hmX (Ext.pres eB), RdS.cells hmX, BoxAt.cell hb0_0, wrap_id]
  refine hK _ _ ?_
  clear hK K
  refine den_seq ?_
  refine den_seq ?_
  refine den_region TTok ?_
  intro K hK
  simp -implicitDefEqProofs (disch := first | decide | assumption | omega) only [go_sem, ld44, RdS.len hdX sl37, RdS.idx hdX sl37, R1.intB hdX (Ext.pres eB), RdS.cells hdX, RdS.len hmX sl38, RdS.idx hmX sl38, RdS.cellB hmX (Ext.pres eB), RdS.cells hmX, BoxAt.cell hb0_0, wrap_id]
  try simp -implicitDefEqProofs (disch := first | decide | assumption | omega) only [go_sem, RdS.len hdX sl37, RdS.idx hdX sl37, R1.intB hdX (Ext.pres eB), RdS.cells hdX, RdS.len hmX sl38, RdS.idx hmX sl38, RdS.cellB hmX (Ext.pres eB), RdS.cells hmX, BoxAt.cell hb0_0, wrap_id]
  refine CallA.mono (sIs_ok _ X _ ⟨_, _, rfl, (RdS.pres hdX (Ext.pres eB)), (RdS.pres hmX (Ext.pres eB))⟩) ?_
  intro v_ h1_1
  rintro ⟨rfl, e1_1⟩
  replace hb0_0 := BoxAt.ext hb0_0 e1_1
  have := Ext.size e1_1
  replace eB := Ext.trans eB e1_1
  try simp -implicitDefEqProofs (disch := first | decide | assumption | omega) only [go_sem, RdS.len hdX sl37, RdS.idx hdX sl37, R1.intB hdX (Ext.pres eB), RdS.cells hdX, RdS.len hmX sl38, RdS.idx hmX sl38, RdS.cellB hmX (Ext.pres eB), RdS.cells hmX, BoxAt.cell hb0_0, wrap_id]
  refine hK _ _ ?_
  clear hK K
  refine den_cond rfl (fun c0 => ?_) (fun c0 => ?_)
  · try simp only [decide_eq_true_eq, decide_eq_false_iff_not, beq_iff_eq, beq_eq_false_iff_ne, bne_iff_ne, ne_eq, Bool.not_eq_true', Bool.not_eq_false', Bool.and_eq_true, Bool.or_eq_true, bne_eq_false_iff_eq, Bool.not_eq_true] at c0
    refine den_seq ?_
    refine den_region TTok ?_
    intro K hK
    simp -implicitDefEqProofs (disch := first | decide | assumption | omega) only [go_sem, RdS.len hdX sl37, RdS.idx hdX sl37, R1.intB hdX (Ext.pres eB), RdS.cells hdX, RdS.len hmX sl38, RdS.idx hmX sl38, RdS.cellB hmX (Ext.pres eB), RdS.cells hmX, wrap_id]
    refine hK _ _ ?_
    clear hK K
    refine den_ret ?_
    simp (disch := decide) only [resP_2, puts_same, puts_ne]
    have hz : idP X = ([], 1) := by rw [idP, if_neg (by rw [c0]; decide)]
    rw [hz]
    exact ⟨.slice none 0 0, [], rfl, OS.nil, Fresh.nil _, eB⟩
  · try simp only [decide_eq_true_eq, decide_eq_false_iff_not, beq_iff_eq, beq_eq_false_iff_ne, bne_iff_ne, ne_eq, Bool.not_eq_true', Bool.not_eq_false', Bool.and_eq_true, Bool.or_eq_true, bne_eq_false_iff_eq, Bool.not_eq_true] at c0
    refine den_skip ?_
    refine den_seq ?_
    refine den_region TTok ?_
    intro K hK
    simp -implicitDefEqProofs (disch := first | decide | assumption | omega) only [go_sem, RdS.len hdX sl37, RdS.idx hdX sl37, R1.intB hdX (Ext.pres eB), RdS.cells hdX, RdS.len hmX sl38, RdS.idx hmX sl38, RdS.cellB hmX (Ext.pres eB), RdS.cells hmX, BoxAt.cell hb0_0, wrap_id]
    refine op_bs0 sz38 O2 ?_
    intro v3_0 h3_0 ho3_0 e3_0
    replace hb0_0 := BoxAt.ext hb0_0 e3_0
    have := Ext.size e3_0
    replace eB := Ext.trans eB e3_0
    have hfho3_0 : Fresh h1_1.size [h1_1.size] := Fresh.one _
    have hlho3_0 := OS.lt ho3_0
    try simp -implicitDefEqProofs (disch := first | decide | assumption | omega) only [go_sem, RdS.len hdX sl37, RdS.idx hdX sl37, R1.intB hdX (Ext.pres eB), RdS.cells hdX, RdS.len hmX sl38, RdS.idx hmX sl38, RdS.cellB hmX (Ext.pres eB), RdS.cells hmX, RdS.len (OS.rd ho3_0) sl38, RdS.idx (OS.rd ho3_0) sl38, RdS.cellN (OS.rd ho3_0), RdS.cells (OS.rd ho3_0), BoxAt.cell hb0_0, wrap_id]
    refine hK _ _ ?_
    clear hK K
    refine den_seq ?_
    refine den_seq ?_
    refine den_region TTok ?_
    intro K hK
    simp -implicitDefEqProofs (disch := first | decide | assumption | omega) only [go_sem, RdS.len hdX sl37, RdS.idx hdX sl37, R1.intB hdX (Ext.pres eB), RdS.cells hdX, RdS.len hmX sl38, RdS.idx hmX sl38, RdS.cellB hmX (Ext.pres eB), RdS.cells hmX, RdS.len (OS.rd ho3_0) sl38, RdS.idx (OS.rd ho3_0) sl38, RdS.cellN (OS.rd ho3_0), RdS.cells (OS.rd ho3_0), BoxAt.cell hb0_0, wrap_id]
    refine hK _ _ ?_
    clear hK K
    refine den_block ?_
    refine den_sel [4, 5, 1] ?_
    intro env_1
    simp only [go_sem]
    refine den_loopS (σ := Nat × Value × List Nat) (fun s => [(4, s.2.1), (5, .int .i64 (s.1 : Int))]) (fun s H => s.1 ≤ X.dims.length ∧ O3 H s.2.1 ((X.dims.take s.1).map unitsP) s.2.2 ∧ Fresh (h1_1.size) s.2.2 ∧ Sub [h1_1.size] h3_0.size s.2.2 ∧ Chg [h1_1.size] h3_0 H) (fun s => X.dims.length - s.1) (0, v3_0, [h1_1.size]) ?_ ?_
    · exact ⟨by first | (simp; done) | (dsimp only; omega) | (simp; omega), by simpa using ho3_0, hfho3_0, Sub.refl, Chg.refl _ _⟩
    · rintro ⟨k, vhO, fphO⟩ h4 ee3 ⟨hi0, hO, hfhO, sbhO, cL2⟩
      dsimp only at hi0 hO hfhO sbhO cL2
      replace hb0_0 := BoxAt.chgA hb0_0 cL2 (apart_lt hlhb0_0 hfho3_0 (by omega))
      have := cL2.size
      replace eB := Ext.then eB cL2 (ge_of hfho3_0 (by omega))
      have hlhO := OS.lt hO
      simp only [List.cons_append, List.nil_append]
      refine den_seq ?_
      refine den_seq ?_
      refine den_region TTok ?_
      intro K hK
      simp -implicitDefEqProofs (disch := first | decide | assumption | omega) only [go_sem, fa44_1, ld37, RdS.len hdX sl37, RdS.idx hdX sl37, R1.intB hdX (Ext.pres eB), RdS.cells hdX, RdS.len hmX sl38, RdS.idx hmX sl38, RdS.cellB hmX (Ext.pres eB), RdS.cells hmX, RdS.len (OS.rd hO) sl38, RdS.idx (OS.rd hO) sl38, RdS.cellN (OS.rd hO), RdS.cells (OS.rd hO), BoxAt.cell hb0_0, wrap_id]
      refine hK _ _ ?_
      clear hK K
      refine den_cond rfl (fun c1 => ?_) (fun c1 => ?_)
      · try simp only [decide_eq_true_eq, decide_eq_false_iff_not, beq_iff_eq, beq_eq_false_iff_ne, bne_iff_ne, ne_eq, Bool.not_eq_true', Bool.not_eq_false', Bool.and_eq_true, Bool.or_eq_true, bne_eq_false_iff_eq, Bool.not_eq_true] at c1
        refine den_skip ?_
        refine den_seq ?_
        refine den_block ?_
        refine den_seq ?_
        have hdk := dm_at (isC_t.1 c0).dm (k := k) (by omega)
        have hlen := (isC_t.1 c0).len
        have hlt : ((X.dims.take k).map unitsP).length = k := by simp; omega
        refine den_region TTok ?_
        intro K hK
        simp -implicitDefEqProofs (disch := first | decide | assumption | omega) only [go_sem, RdS.len hdX sl37, RdS.idx hdX sl37, R1.intB hdX (Ext.pres eB), RdS.cells hdX, RdS.len hmX sl38, RdS.idx hmX sl38, RdS.cellB hmX (Ext.pres eB), RdS.cells hmX, RdS.len (OS.rd hO) sl38, RdS.idx (OS.rd hO) sl38, RdS.cellN (OS.rd hO), RdS.cells (OS.rd hO), BoxAt.cell hb0_0, wrap_id]
        refine op_bs0 sz65 O1 ?_
        intro v7_0 h7_0 ho7_0 e7_0
        replace hO := OS.ext hO e7_0
        replace hb0_0 := BoxAt.ext hb0_0 e7_0
        have := Ext.size e7_0
        replace eB := Ext.trans eB e7_0
        replace cL2 := Chg.stepE cL2 e7_0
        have hfho7_0 : Fresh h4.size [h4.size] := Fresh.one _
        have hlho7_0 := OS.lt ho7_0
        try simp -implicitDefEqProofs (disch := first | decide | assumption | omega) only [go_sem, RdS.len hdX sl37, RdS.idx hdX sl37, R1.intB hdX (Ext.pres eB), RdS.cells hdX, RdS.len hmX sl38, RdS.idx hmX sl38, RdS.cellB hmX (Ext.pres eB), RdS.cells hmX, RdS.len (OS.rd hO) sl38, RdS.idx (OS.rd hO) sl38, RdS.cellN (OS.rd hO), RdS.cells (OS.rd hO), RdS.len (OS.rd ho7_0) sl65, RdS.idx (OS.rd ho7_0) sl65, RdS.cellN (OS.rd ho7_0), RdS.cells (OS.rd ho7_0), BoxAt.cell hb0_0, wrap_id]
        refine hK _ _ ?_
        clear hK K
        refine den_seq ?_
        refine den_seq ?_
        refine den_region TTok ?_
        intro K hK
        simp -implicitDefEqProofs (disch := first | decide | assumption | omega) only [go_sem, RdS.len hdX sl37, RdS.idx hdX sl37, R1.intB hdX (Ext.pres eB), RdS.cells hdX, RdS.len hmX sl38, RdS.idx hmX sl38, RdS.cellB hmX (Ext.pres eB), RdS.cells hmX, RdS.len (OS.rd hO) sl38, RdS.idx (OS.rd hO) sl38, RdS.cellN (OS.rd hO), RdS.cells (OS.rd hO), RdS.len (OS.rd ho7_0) sl65, RdS.idx (OS.rd ho7_0) sl65, RdS.cellN (OS.rd ho7_0), RdS.cells (OS.rd ho7_0), BoxAt.cell hb0_0, wrap_id]
        refine hK _ _ ?_
        clear hK K
        refine den_block ?_
        refine den_sel [6, 7, 1, 4, 5] ?_
        intro env_5
        simp only [go_sem]
        refine den_loopS (σ := Nat × Value × List Nat) (fun s => [(6, s.2.1), (7, .int .i64 (s.1 : Int))]) (fun s H => (s.1 : Int) ≤ X.dims.getD k 0 ∧ O2 H s.2.1 ((List.range s.1).map fun i => unitP (X.dims.getD k 0).toNat i) s.2.2 ∧ Fresh (h4.size) s.2.2 ∧ Sub [h4.size] h7_0.size s.2.2 ∧ Chg [h4.size] h7_0 H) (fun s => (X.dims.getD k 0).toNat - s.1) (0, v7_0, [h4.size]) ?_ ?_
        · exact ⟨by first | (simp; done) | (dsimp only; omega) | (simp; omega), by simpa using ho7_0, hfho7_0, Sub.refl, Chg.refl _ _⟩
        · rintro ⟨m, vhR, fphR⟩ h8 ee7 ⟨hi0, hR, hfhR, sbhR, cL6⟩
          dsimp only at hi0 hR hfhR sbhR cL6
          replace hO := OS.chg hO cL6 (apart_lt hlhO hfho7_0 (by omega))
          replace hb0_0 := BoxAt.chgA hb0_0 cL6 (apart_lt hlhb0_0 hfho7_0 (by omega))
          have := cL6.size
          replace eB := Ext.then eB cL6 (ge_of hfho7_0 (by omega))
          replace cL2 := Chg.step cL2 cL6 (Sub.fresh hfho7_0 (by omega))
          have hlhR := OS.lt hR
          simp only [List.cons_append, List.nil_append]
          have hlr : ((List.range m).map fun i => unitP (X.dims.getD k 0).toNat i).length = m := by simp
          refine den_seq ?_
          refine den_seq ?_
          refine den_region TTok ?_
          intro K hK
          simp -implicitDefEqProofs (disch := first | decide | assumption | omega) only [go_sem, fa44_1, ld37, ld2, RdS.len hdX sl37, RdS.idx hdX sl37, R1.intB hdX (Ext.pres eB), RdS.cells hdX, RdS.len hmX sl38, RdS.idx hmX sl38, RdS.cellB hmX (Ext.pres eB), RdS.cells hmX, RdS.len (OS.rd hO) sl38, RdS.idx (OS.rd hO) sl38, RdS.cellN (OS.rd hO), RdS.cells (OS.rd hO), RdS.len (OS.rd hR) sl65, RdS.idx (OS.rd hR) sl65, RdS.cellN (OS.rd hR), RdS.cells (OS.rd hR), BoxAt.cell hb0_0, wrap_id]
          refine hK _ _ ?_
          clear hK K
          refine den_cond rfl (fun c2 => ?_) (fun c2 => ?_)
          · try simp only [decide_eq_true_eq, decide_eq_false_iff_not, beq_iff_eq, beq_eq_false_iff_ne, bne_iff_ne, ne_eq, Bool.not_eq_true', Bool.not_eq_false', Bool.and_eq_true, Bool.or_eq_true, bne_eq_false_iff_eq, Bool.not_eq_true] at c2
            refine den_skip ?_
            refine den_seq ?_
            refine den_block ?_
            refine den_region TTok ?_
            intro K hK
            simp -implicitDefEqProofs (disch := first | decide | assumption | omega) only [go_sem, fa44_1, ld37, ld2, RdS.len hdX sl37, RdS.idx hdX sl37, R1.intB hdX (Ext.pres eB), RdS.cells hdX, RdS.len hmX sl38, RdS.idx hmX sl38, RdS.cellB hmX (Ext.pres eB), RdS.cells hmX, RdS.len (OS.rd hO) sl38, RdS.idx (OS.rd hO) sl38, RdS.cellN (OS.rd hO), RdS.cells (OS.rd hO), RdS.len (OS.rd hR) sl65, RdS.idx (OS.rd hR) sl65, RdS.cellN (OS.rd hR), RdS.cells (OS.rd hR), BoxAt.cell hb0_0, wrap_id]
            try simp -implicitDefEqProofs (disch := first | decide | assumption | omega) only [go_sem, RdS.len hdX sl37, RdS.idx hdX sl37, R1.intB hdX (Ext.pres eB), RdS.cells hdX, RdS.len hmX sl38, RdS.idx hmX sl38, RdS.cellB hmX (Ext.pres eB), RdS.cells hmX, RdS.len (OS.rd hO) sl38, RdS.idx (OS.rd hO) sl38, RdS.cellN (OS.rd hO), RdS.cells (OS.rd hO), RdS.len (OS.rd hR) sl65, RdS.idx (OS.rd hR) sl65, RdS.cellN (OS.rd hR), RdS.cells (OS.rd hR), BoxAt.cell hb0_0, wrap_id]
            refine CallA.mono (sUnit_ok  ((X.dims).getD k 0) (m : Int) _  (by omega)) ?_
            intro v_ h11_7
            rintro ⟨vw11_7_0, fw11_7_0, rfl, how11_7_0, hfw11_7_0, e11_7⟩
            replace hO := OS.ext hO e11_7
            replace hR := OS.ext hR e11_7
            replace hb0_0 := BoxAt.ext hb0_0 e11_7
            have := Ext.size e11_7
            replace eB := Ext.trans eB e11_7
            replace cL2 := Chg.stepE cL2 e11_7
            replace cL6 := Chg.stepE cL6 e11_7
            have hlhow11_7_0 := OS.lt how11_7_0
            try simp -implicitDefEqProofs (disch := first | decide | assumption | omega) only [go_sem, RdS.len hdX sl37, RdS.idx hdX sl37, R1.intB hdX (Ext.pres eB), RdS.cells hdX, RdS.len hmX sl38, RdS.idx hmX sl38, RdS.cellB hmX (Ext.pres eB), RdS.cells hmX, RdS.len (OS.rd hO) sl38, RdS.idx (OS.rd hO) sl38, RdS.cellN (OS.rd hO), RdS.cells (OS.rd hO), RdS.len (OS.rd hR) sl65, RdS.idx (OS.rd hR) sl65, RdS.cellN (OS.rd hR), RdS.cells (OS.rd hR), RdS.len (OS.rd how11_7_0) sl37, RdS.idx (OS.rd how11_7_0) sl37, R1.intN (OS.rd how11_7_0), RdS.cells (OS.rd how11_7_0), BoxAt.cell hb0_0, wrap_id]
            refine op_bs1 sz65 rfl (OS.one how11_7_0).2 ?_
            try simp -implicitDefEqProofs (disch := first | decide | assumption | omega) only [go_sem, RdS.len hdX sl37, RdS.idx hdX sl37, R1.intB hdX (Ext.pres eB), RdS.cells hdX, RdS.len hmX sl38, RdS.idx hmX sl38, RdS.cellB hmX (Ext.pres eB), RdS.cells hmX, RdS.len (OS.rd hO) sl38, RdS.idx (OS.rd hO) sl38, RdS.cellN (OS.rd hO), RdS.cells (OS.rd hO), RdS.len (OS.rd hR) sl65, RdS.idx (OS.rd hR) sl65, RdS.cellN (OS.rd hR), RdS.cells (OS.rd hR), RdS.len (OS.rd how11_7_0) sl37, RdS.idx (OS.rd how11_7_0) sl37, R1.intN (OS.rd how11_7_0), RdS.cells (OS.rd how11_7_0), BoxAt.cell hb0_0, wrap_id]
            refine op_append1 sz65 hR hfhR.nodup how11_7_0 hfw11_7_0.nodup (apart_lt hlhR hfw11_7_0 (by omega)) (by first | omega | (simp; omega)) rfl rfl ?_
            intro v11_9 h11_9 fp11_9 ho11_9 hn11_9 hs11_9 c11_9
            have hsz11_9 := c11_9.size
            have hfho11_9 : Fresh h4.size fp11_9 := Fresh.appd hfhR hfw11_7_0 (by omega) (by omega) hn11_9 hs11_9
            have sb9 : Sub [h4.size] h7_0.size fp11_9 := Sub.grow sbhR (Sub.fresh hfw11_7_0 (by omega)) (by omega) hs11_9
            replace hO := OS.chg hO c11_9 (apart_lt hlhO hfhR (by omega))
            replace hb0_0 := BoxAt.chgA hb0_0 c11_9 (apart_lt hlhb0_0 hfhR (by omega))
            have := c11_9.size
            replace eB := Ext.then eB c11_9 (ge_of hfhR (by omega))
            replace cL2 := Chg.step cL2 c11_9 (Sub.fresh hfhR (by omega))
            replace cL6 := Chg.step cL6 c11_9 sbhR
            have hlho11_9 := OS.lt ho11_9
            try simp -implicitDefEqProofs (disch := first | decide | assumption | omega) only [go_sem, RdS.len hdX sl37, RdS.idx hdX sl37, R1.intB hdX (Ext.pres eB), RdS.cells hdX, RdS.len hmX sl38, RdS.idx hmX sl38, RdS.cellB hmX (Ext.pres eB), RdS.cells hmX, RdS.len (OS.rd hO) sl38, RdS.idx (OS.rd hO) sl38, RdS.cellN (OS.rd hO), RdS.cells (OS.rd hO), RdS.len (OS.rd ho11_9) sl65, RdS.idx (OS.rd ho11_9) sl65, RdS.cellN (OS.rd ho11_9), RdS.cells (OS.rd ho11_9), BoxAt.cell hb0_0, wrap_id]
            refine hK _ _ ?_
            clear hK K
            refine den_blk ?_
            refine den_region TTok ?_
            intro K hK
            simp -implicitDefEqProofs (disch := first | decide | assumption | omega) only [go_sem, RdS.len hdX sl37, RdS.idx hdX sl37, R1.intB hdX (Ext.pres eB), RdS.cells hdX, RdS.len hmX sl38, RdS.idx hmX sl38, RdS.cellB hmX (Ext.pres eB), RdS.cells hmX, RdS.len (OS.rd hO) sl38, RdS.idx (OS.rd hO) sl38, RdS.cellN (OS.rd hO), RdS.cells (OS.rd hO), RdS.len (OS.rd ho11_9) sl65, RdS.idx (OS.rd ho11_9) sl65, RdS.cellN (OS.rd ho11_9), RdS.cells (OS.rd ho11_9), BoxAt.cell hb0_0, wrap_id]
            refine hK _ _ ?_
            clear hK K
            refine den_stop ?_
            rw [Int.toNat_natCast, range_step (fun i => unitP (X.dims.getD k 0).toNat i)] at ho11_9
            exact ⟨(m + 1, v11_9, fp11_9), by simp [HasL, puts_at], ⟨by dsimp only; omega, ho11_9, hfho11_9, sb9, cL6⟩, by dsimp only; omega⟩
          · try simp only [decide_eq_true_eq, decide_eq_false_iff_not, beq_iff_eq, beq_eq_false_iff_ne, bne_iff_ne, ne_eq, Bool.not_eq_true', Bool.not_eq_false', Bool.and_eq_true, Bool.or_eq_true, bne_eq_false_iff_eq, Bool.not_eq_true] at c2
            refine den_exit ?_
            refine denX_code ?_
            refine denX_stop ?_
            refine denX_hit ?_
            refine den_region TTok ?_
            intro K hK
            simp -implicitDefEqProofs (disch := first | decide | assumption | omega) only [go_sem, RdS.len hdX sl37, RdS.idx hdX sl37, R1.intB hdX (Ext.pres eB), RdS.cells hdX, RdS.len hmX sl38, RdS.idx hmX sl38, RdS.cellB hmX (Ext.pres eB), RdS.cells hmX, RdS.len (OS.rd hO) sl38, RdS.idx (OS.rd hO) sl38, RdS.cellN (OS.rd hO), RdS.cells (OS.rd hO), RdS.len (OS.rd hR) sl65, RdS.idx (OS.rd hR) sl65, RdS.cellN (OS.rd hR), RdS.cells (OS.rd hR), BoxAt.cell hb0_0, wrap_id]
            refine op_bs1 sz38 rfl (OS.one hR).2 ?_
            try simp -implicitDefEqProofs (disch := first | decide | assumption | omega) only [go_sem, RdS.len hdX sl37, RdS.idx hdX sl37, R1.intB hdX (Ext.pres eB), RdS.cells hdX, RdS.len hmX sl38, RdS.idx hmX sl38, RdS.cellB hmX (Ext.pres eB), RdS.cells hmX, RdS.len (OS.rd hO) sl38, RdS.idx (OS.rd hO) sl38, RdS.cellN (OS.rd hO), RdS.cells (OS.rd hO), RdS.len (OS.rd hR) sl65, RdS.idx (OS.rd hR) sl65, RdS.cellN (OS.rd hR), RdS.cells (OS.rd hR), BoxAt.cell hb0_0, wrap_id]
            refine op_append1 sz38 hO hfhO.nodup hR hfhR.nodup (apart_lt hlhO hfhR (by omega)) (by first | omega | (simp; omega)) rfl rfl ?_
            intro v12_3 h12_3 fp12_3 ho12_3 hn12_3 hs12_3 c12_3
            have hsz12_3 := c12_3.size
            have hfho12_3 : Fresh h1_1.size fp12_3 := Fresh.appd hfhO hfhR (by omega) (by omega) hn12_3 hs12_3
            have sb10 : Sub [h1_1.size] h3_0.size fp12_3 := Sub.grow sbhO (Sub.fresh hfhR (by omega)) (by omega) hs12_3
            replace hb0_0 := BoxAt.chgA hb0_0 c12_3 (apart_lt hlhb0_0 hfhO (by omega))
            have := c12_3.size
            replace eB := Ext.then eB c12_3 (ge_of hfhO (by omega))
            replace cL2 := Chg.step cL2 c12_3 sbhO
            have hlho12_3 := OS.lt ho12_3
            try simp -implicitDefEqProofs (disch := first | decide | assumption | omega) only [go_sem, RdS.len hdX sl37, RdS.idx hdX sl37, R1.intB hdX (Ext.pres eB), RdS.cells hdX, RdS.len hmX sl38, RdS.idx hmX sl38, RdS.cellB hmX (Ext.pres eB), RdS.cells hmX, RdS.len (OS.rd ho12_3) sl38, RdS.idx (OS.rd ho12_3) sl38, RdS.cellN (OS.rd ho12_3), RdS.cells (OS.rd ho12_3), BoxAt.cell hb0_0, wrap_id]
            refine hK _ _ ?_
            clear hK K
            refine den_blk ?_
            refine den_region TTok ?_
            intro K hK
            simp -implicitDefEqProofs (disch := first | decide | assumption | omega) only [go_sem, RdS.len hdX sl37, RdS.idx hdX sl37, R1.intB hdX (Ext.pres eB), RdS.cells hdX, RdS.len hmX sl38, RdS.idx hmX sl38, RdS.cellB hmX (Ext.pres eB), RdS.cells hmX, RdS.len (OS.rd ho12_3) sl38, RdS.idx (OS.rd ho12_3) sl38, RdS.cellN (OS.rd ho12_3), RdS.cells (OS.rd ho12_3), BoxAt.cell hb0_0, wrap_id]
            refine hK _ _ ?_
            clear hK K
            refine den_stop ?_
            rw [show (List.range m).map (fun i => unitP (X.dims.getD k 0).toNat i) = unitsP (X.dims.getD k 0) by rw [unitsP, show (X.dims.getD k 0).toNat = m by omega], map_takeA (by omega)] at ho12_3
            exact ⟨(k + 1, v12_3, fp12_3), by simp [HasL, puts_at], ⟨by dsimp only; omega, ho12_3, hfho12_3, sb10, cL2⟩, by dsimp only; omega⟩
      · try simp only [decide_eq_true_eq, decide_eq_false_iff_not, beq_iff_eq, beq_eq_false_iff_ne, bne_iff_ne, ne_eq, Bool.not_eq_true', Bool.not_eq_false', Bool.and_eq_true, Bool.or_eq_true, bne_eq_false_iff_eq, Bool.not_eq_true] at c1
        refine den_exit ?_
        refine denX_code ?_
        refine denX_stop ?_
        refine denX_hit ?_
        refine den_seq ?_
        refine den_region TTok ?_
        intro K hK
        simp -implicitDefEqProofs (disch := first | decide | assumption | omega) only [go_sem, RdS.len hdX sl37, RdS.idx hdX sl37, R1.intB hdX (Ext.pres eB), RdS.cells hdX, RdS.len hmX sl38, RdS.idx hmX sl38, RdS.cellB hmX (Ext.pres eB), RdS.cells hmX, RdS.len (OS.rd hO) sl38, RdS.idx (OS.rd hO) sl38, RdS.cellN (OS.rd hO), RdS.cells (OS.rd hO), wrap_id]
        refine hK _ _ ?_
        clear hK K
        refine den_ret ?_
        simp (disch := decide) only [resP_2, puts_same, puts_ne]
        have hz : idP X = (X.dims.map unitsP, 0) := by rw [idP, if_pos c0]
        rw [hz]
        rw [map_endA (by omega)] at hO
        exact ⟨_, _, rfl, hO, hfhO.mono (by omega), eB⟩

set_option maxRecDepth 100000 in
theorem exactIdentityMap_law (vX : Value) (X : Cx) (h : Heap) (hX : RC h vX X)  : CallA Try.prog 7 #[vX] h fun v' h' => v' = .bool (true) ∧ Ext h h' := by
  obtain ⟨vdX, vmX, rfl, hdX, hmX⟩ := hX
  have hledX := RdS.le hdX
  have hlemX := RdS.le hmX
  refine callA_intro TTok (args := [_]) Try.func7 (by kernel_rfl) rfl 96 rfl (by simp) [.tmp 2] rfl ?_
  simp only [idxs, Nat.reduceAdd]
  refine den_seq ?_
  refine den_region TTok ?_
  intro K hK
  simp -implicitDefEqProofs (disch := first | decide | assumption | omega) only [go_sem, RdS.len hdX sl37, RdS.idx hdX sl37, R1.intB hdX (HPres.refl _), RdS.cells hdX, RdS.len hmX sl38, RdS.idx hmX sl38, RdS.cellB hmX (HPres.refl _), RdS.cells hmX, wrap_id]
  refine op_box (cs := #[.int .i64 (X.p), vdX, vmX]) rfl ?_
  intro h0_0 e0_0 hb0_0 z0_0
  have := Ext.size e0_0
  have eB := e0_0
  have hfhb0_0 : Fresh h.size [h.size] := Fresh.one _
  have hlhb0_0 := one_lt (show h.size < h0_0.size by omega)
  try simp -implicitDefEqProofs (disch := first | decide | assumption | omega) only [go_sem, RdS.len hdX sl37, RdS.idx hdX sl37, R1.intB hdX (Ext.pres eB), RdS.cells hdX, RdS.len hmX sl38, RdS.idx hmX sl38, RdS.cellB hmX (Ext.pres eB), RdS.cells hmX, BoxAt.cell hb0_0, wrap_id]
  refine hK _ _ ?_
  clear hK K
  refine den_seq ?_
  refine den_region TTok ?_
  intro K hK
  simp -implicitDefEqProofs (disch := first | decide | assumption | omega) only [go_sem, RdS.len hdX sl37, RdS.idx hdX sl37, R1.intB hdX (Ext.pres eB), RdS.cells hdX, RdS.len hmX sl38, RdS.idx hmX sl38, RdS.cellB hmX (Ext.pres eB), RdS.cells hmX, BoxAt.cell hb0_0, wrap_id]
  refine hK _ _ ?_
  clear hK K
  refine den_seq ?_
  refine den_region TTok ?_
  intro K hK
  simp -implicitDefEqProofs (disch := first | decide | assumption | omega) only [go_sem, ld40, RdS.len hdX sl37, RdS.idx hdX sl37, R1.intB hdX (Ext.pres eB), RdS.cells hdX, RdS.len hmX sl38, RdS.idx hmX sl38, RdS.cellB hmX (Ext.pres eB), RdS.cells hmX, BoxAt.cell hb0_0, wrap_id]
  try simp -implicitDefEqProofs (disch := first | decide | assumption | omega) only [go_sem, RdS.len hdX sl37, RdS.idx hdX sl37, R1.intB hdX (Ext.pres eB), RdS.cells hdX, RdS.len hmX sl38, RdS.idx hmX sl38, RdS.cellB hmX (Ext.pres eB), RdS.cells hmX, BoxAt.cell hb0_0, wrap_id]
  refine CallA.mono (szC_ok _ X _ _ ⟨_, _, rfl, (RdS.pres hdX (Ext.pres eB)), (RdS.pres hmX (Ext.pres eB))⟩ (by omega) (by omega)) ?_
  intro v_ h2_2
  rintro ⟨rfl, e2_2⟩
  replace hb0_0 := BoxAt.ext hb0_0 e2_2
  have := Ext.size e2_2
  replace eB := Ext.trans eB e2_2
  have := szC_le X (1048576 : Int) (by omega)
  try simp -implicitDefEqProofs (disch := first | decide | assumption | omega) only [go_sem, RdS.len hdX sl37, RdS.idx hdX sl37, R1.intB hdX (Ext.pres eB), RdS.cells hdX, RdS.len hmX sl38, RdS.idx hmX sl38, RdS.cellB hmX (Ext.pres eB), RdS.cells hmX, BoxAt.cell hb0_0, wrap_id]
  refine hK _ _ ?_
  clear hK K
  refine den_seq ?_
  refine den_seq ?_
  refine den_region TTok ?_
  intro K hK
  simp -implicitDefEqProofs (disch := first | decide | assumption | omega) only [go_sem, RdS.len hdX sl37, RdS.idx hdX sl37, R1.intB hdX (Ext.pres eB), RdS.cells hdX, RdS.len hmX sl38, RdS.idx hmX sl38, RdS.cellB hmX (Ext.pres eB), RdS.cells hmX, BoxAt.cell hb0_0, wrap_id]
  refine hK _ _ ?_
  clear hK K
  refine den_cond rfl (fun c0 => ?_) (fun c0 => ?_)
  · try simp only [decide_eq_true_eq, decide_eq_false_iff_not, beq_iff_eq, beq_eq_false_iff_ne, bne_iff_ne, ne_eq, Bool.not_eq_true', Bool.not_eq_false', Bool.and_eq_true, Bool.or_eq_true, bne_eq_false_iff_eq] at c0
    refine den_seq ?_
    refine den_region TTok ?_
    intro K hK
    simp -implicitDefEqProofs (disch := first | decide | assumption | omega) only [go_sem, RdS.len hdX sl37, RdS.idx hdX sl37, R1.intB hdX (Ext.pres eB), RdS.cells hdX, RdS.len hmX sl38, RdS.idx hmX sl38, RdS.cellB hmX (Ext.pres eB), RdS.cells hmX, wrap_id]
    refine hK _ _ ?_
    clear hK K
    refine den_ret ?_
    simp (disch := decide) only [resP_1, puts_same, puts_ne]
    exact ⟨by first | rfl | trivial, eB⟩
  · try simp only [decide_eq_true_eq, decide_eq_false_iff_not, beq_iff_eq, beq_eq_false_iff_ne, bne_iff_ne, ne_eq, Bool.not_eq_true', Bool.not_eq_false', Bool.and_eq_true, Bool.or_eq_true, bne_eq_false_iff_eq] at c0
    have hMX := szC_ok' (by omega) (by omega) c0
    have hcnX := szC_cntA (by omega) (by omega) c0
    have hci := cnt_id X
    refine den_skip ?_
    refine den_seq ?_
    refine den_region TTok ?_
    intro K hK
    simp -implicitDefEqProofs (disch := first | decide | assumption | omega) only [go_sem, ld40, RdS.len hdX sl37, RdS.idx hdX sl37, R1.intB hdX (Ext.pres eB), RdS.cells hdX, RdS.len hmX sl38, RdS.idx hmX sl38, RdS.cellB hmX (Ext.pres eB), RdS.cells hmX, BoxAt.cell hb0_0, wrap_id]
    try simp -implicitDefEqProofs (disch := first | decide | assumption | omega) only [go_sem, RdS.len hdX sl37, RdS.idx hdX sl37, R1.intB hdX (Ext.pres eB), RdS.cells hdX, RdS.len hmX sl38, RdS.idx hmX sl38, RdS.cellB hmX (Ext.pres eB), RdS.cells hmX, BoxAt.cell hb0_0, wrap_id]
    refine CallA.mono (toC_ok _ X _ ⟨_, _, rfl, (RdS.pres hdX (Ext.pres eB)), (RdS.pres hmX (Ext.pres eB))⟩ hMX) ?_
    intro v_ h5_1
    rintro ⟨vd5_1, vm5_1, fd5_1, fm5_1, rfl, hod5_1, hom5_1, hf5_1, e5_1⟩
    replace hb0_0 := BoxAt.ext hb0_0 e5_1
    have := Ext.size e5_1
    replace eB := Ext.trans eB e5_1
    have hfd5_1 := hf5_1.left
    have hfm5_1 := hf5_1.right
    have hlhod5_1 := OS.lt hod5_1
    have hlhom5_1 := OS.lt hom5_1
    have ap1 : Apart fd5_1 fm5_1 := apart_nodup hf5_1
    try simp -implicitDefEqProofs (disch := first | decide | assumption | omega) only [go_sem, RdS.len hdX sl37, RdS.idx hdX sl37, R1.intB hdX (Ext.pres eB), RdS.cells hdX, RdS.len hmX sl38, RdS.idx hmX sl38, RdS.cellB hmX (Ext.pres eB), RdS.cells hmX, RdS.len (OS.rd hod5_1) sl37, RdS.idx (OS.rd hod5_1) sl37, R1.intN (OS.rd hod5_1), RdS.cells (OS.rd hod5_1), RdS.len (OS.rd hom5_1) sl38, RdS.idx (OS.rd hom5_1) sl38, RdS.cellN (OS.rd hom5_1), RdS.cells (OS.rd hom5_1), BoxAt.cell hb0_0, wrap_id]
    try simp -implicitDefEqProofs (disch := first | decide | assumption | omega) only [go_sem, RdS.len hdX sl37, RdS.idx hdX sl37, R1.intB hdX (Ext.pres eB), RdS.cells hdX, RdS.len hmX sl38, RdS.idx hmX sl38, RdS.cellB hmX (Ext.pres eB), RdS.cells hmX, RdS.len (OS.rd hod5_1) sl37, RdS.idx (OS.rd hod5_1) sl37, R1.intN (OS.rd hod5_1), RdS.cells (OS.rd hod5_1), RdS.len (OS.rd hom5_1) sl38, RdS.idx (OS.rd hom5_1) sl38, RdS.cellN (OS.rd hom5_1), RdS.cells (OS.rd hom5_1), BoxAt.cell hb0_0, wrap_id]
    refine CallA.mono (sId_ok _ X _ ⟨_, _, rfl, (OS.rd hod5_1), (OS.rd hom5_1)⟩ ) ?_
    intro v_ h5_2
    rintro ⟨vw5_2_0, fw5_2_0, rfl, how5_2_0, hfw5_2_0, e5_2⟩
    replace hod5_1 := OS.ext hod5_1 e5_2
    replace hom5_1 := OS.ext hom5_1 e5_2
    replace hb0_0 := BoxAt.ext hb0_0 e5_2
    have := Ext.size e5_2
    replace eB := Ext.trans eB e5_2
    have hlhow5_2_0 := OS.lt how5_2_0
    try simp -implicitDefEqProofs (disch := first | decide | assumption | omega) only [go_sem, RdS.len hdX sl37, RdS.idx hdX sl37, R1.intB hdX (Ext.pres eB), RdS.cells hdX, RdS.len hmX sl38, RdS.idx hmX sl38, RdS.cellB hmX (Ext.pres eB), RdS.cells hmX, RdS.len (OS.rd hod5_1) sl37, RdS.idx (OS.rd hod5_1) sl37, R1.intN (OS.rd hod5_1), RdS.cells (OS.rd hod5_1), RdS.len (OS.rd hom5_1) sl38, RdS.idx (OS.rd hom5_1) sl38, RdS.cellN (OS.rd hom5_1), RdS.cells (OS.rd hom5_1), RdS.len (OS.rd how5_2_0) sl38, RdS.idx (OS.rd how5_2_0) sl38, RdS.cellN (OS.rd how5_2_0), RdS.cells (OS.rd how5_2_0), BoxAt.cell hb0_0, wrap_id]
    refine hK _ _ ?_
    clear hK K
    refine den_seq ?_
    refine den_region TTok ?_
    intro K hK
    simp -implicitDefEqProofs (disch := first | decide | assumption | omega) only [go_sem, ld40, RdS.len hdX sl37, RdS.idx hdX sl37, R1.intB hdX (Ext.pres eB), RdS.cells hdX, RdS.len hmX sl38, RdS.idx hmX sl38, RdS.cellB hmX (Ext.pres eB), RdS.cells hmX, RdS.len (OS.rd how5_2_0) sl38, RdS.idx (OS.rd how5_2_0) sl38, RdS.cellN (OS.rd how5_2_0), RdS.cells (OS.rd how5_2_0), BoxAt.cell hb0_0, wrap_id]
    try simp -implicitDefEqProofs (disch := first | decide | assumption | omega) only [go_sem, RdS.len hdX sl37, RdS.idx hdX sl37, R1.intB hdX (Ext.pres eB), RdS.cells hdX, RdS.len hmX sl38, RdS.idx hmX sl38, RdS.cellB hmX (Ext.pres eB), RdS.cells hmX, RdS.len (OS.rd how5_2_0) sl38, RdS.idx (OS.rd how5_2_0) sl38, RdS.cellN (OS.rd how5_2_0), RdS.cells (OS.rd how5_2_0), BoxAt.cell hb0_0, wrap_id]
    refine CallA.mono (toC_ok _ X _ ⟨_, _, rfl, (RdS.pres hdX (Ext.pres eB)), (RdS.pres hmX (Ext.pres eB))⟩ hMX) ?_
    intro v_ h6_1
    rintro ⟨vd6_1, vm6_1, fd6_1, fm6_1, rfl, hod6_1, hom6_1, hf6_1, e6_1⟩
    replace how5_2_0 := OS.ext how5_2_0 e6_1
    replace hb0_0 := BoxAt.ext hb0_0 e6_1
    have := Ext.size e6_1
    replace eB := Ext.trans eB e6_1
    have hfd6_1 := hf6_1.left
    have hfm6_1 := hf6_1.right
    have hlhod6_1 := OS.lt hod6_1
    have hlhom6_1 := OS.lt hom6_1
    have ap2 : Apart fd6_1 fm6_1 := apart_nodup hf6_1
    try simp -implicitDefEqProofs (disch := first | decide | assumption | omega) only [go_sem, RdS.len hdX sl37, RdS.idx hdX sl37, R1.intB hdX (Ext.pres eB), RdS.cells hdX, RdS.len hmX sl38, RdS.idx hmX sl38, RdS.cellB hmX (Ext.pres eB), RdS.cells hmX, RdS.len (OS.rd how5_2_0) sl38, RdS.idx (OS.rd how5_2_0) sl38, RdS.cellN (OS.rd how5_2_0), RdS.cells (OS.rd how5_2_0), RdS.len (OS.rd hod6_1) sl37, RdS.idx (OS.rd hod6_1) sl37, R1.intN (OS.rd hod6_1), RdS.cells (OS.rd hod6_1), RdS.len (OS.rd hom6_1) sl38, RdS.idx (OS.rd hom6_1) sl38, RdS.cellN (OS.rd hom6_1), RdS.cells (OS.rd hom6_1), BoxAt.cell hb0_0, wrap_id]
    refine op_alloc (cs := #[.int .i64 0, .slice none 0 0, .slice none 0 0]) (by kernel_rfl) ?_
    intro h6_2 e6_2 hb6_2 z6_2
    replace how5_2_0 := OS.ext how5_2_0 e6_2
    replace hod6_1 := OS.ext hod6_1 e6_2
    replace hom6_1 := OS.ext hom6_1 e6_2
    replace hb0_0 := BoxAt.ext hb0_0 e6_2
    have := Ext.size e6_2
    replace eB := Ext.trans eB e6_2
    have hfhb6_2 : Fresh h6_1.size [h6_1.size] := Fresh.one _
    have hlhb6_2 := one_lt (show h6_1.size < h6_2.size by omega)
    try simp -implicitDefEqProofs (disch := first | decide | assumption | omega) only [go_sem, RdS.len hdX sl37, RdS.idx hdX sl37, R1.intB hdX (Ext.pres eB), RdS.cells hdX, RdS.len hmX sl38, RdS.idx hmX sl38, RdS.cellB hmX (Ext.pres eB), RdS.cells hmX, RdS.len (OS.rd how5_2_0) sl38, RdS.idx (OS.rd how5_2_0) sl38, RdS.cellN (OS.rd how5_2_0), RdS.cells (OS.rd how5_2_0), RdS.len (OS.rd hod6_1) sl37, RdS.idx (OS.rd hod6_1) sl37, R1.intN (OS.rd hod6_1), RdS.cells (OS.rd hod6_1), RdS.len (OS.rd hom6_1) sl38, RdS.idx (OS.rd hom6_1) sl38, RdS.cellN (OS.rd hom6_1), RdS.cells (OS.rd hom6_1), BoxAt.cell hb0_0, BoxAt.cell hb6_2, wrap_id]
    refine op_storeB (cs' := #[.int .i64 (X.p), vd6_1, vm6_1]) st44 hb6_2 rfl rfl rfl (by simp) (allOne_mem (l := [.int .i64 (X.p), vd6_1, vm6_1]) ⟨rfl, (OS.one hod6_1).1, (OS.one hom6_1).1, trivial⟩) rfl ?_
    intro h6_3 hb6_2 c6_3
    replace how5_2_0 := OS.chg how5_2_0 c6_3 (apart_lt hlhow5_2_0 hfhb6_2 (by omega))
    replace hod6_1 := OS.chg hod6_1 c6_3 (apart_lt hlhod6_1 hfhb6_2 (by omega))
    replace hom6_1 := OS.chg hom6_1 c6_3 (apart_lt hlhom6_1 hfhb6_2 (by omega))
    replace hb0_0 := BoxAt.chgA hb0_0 c6_3 (apart_lt hlhb0_0 hfhb6_2 (by omega))
    have := c6_3.size
    replace eB := Ext.then eB c6_3 (ge_of hfhb6_2 (by omega))
    try simp -implicitDefEqProofs (disch := first | decide | assumption | omega) only [go_sem, RdS.len hdX sl37, RdS.idx hdX sl37, R1.intB hdX (Ext.pres eB), RdS.cells hdX, RdS.len hmX sl38, RdS.idx hmX sl38, RdS.cellB hmX (Ext.pres eB), RdS.cells hmX, RdS.len (OS.rd how5_2_0) sl38, RdS.idx (OS.rd how5_2_0) sl38, RdS.cellN (OS.rd how5_2_0), RdS.cells (OS.rd how5_2_0), RdS.len (OS.rd hod6_1) sl37, RdS.idx (OS.rd hod6_1) sl37, R1.intN (OS.rd hod6_1), RdS.cells (OS.rd hod6_1), RdS.len (OS.rd hom6_1) sl38, RdS.idx (OS.rd hom6_1) sl38, RdS.cellN (OS.rd hom6_1), RdS.cells (OS.rd hom6_1), BoxAt.cell hb0_0, BoxAt.cell hb6_2, wrap_id]
    refine hK _ _ ?_
    clear hK K
    refine den_seq ?_
    refine den_region TTok ?_
    intro K hK
    simp -implicitDefEqProofs (disch := first | decide | assumption | omega) only [go_sem, ld44, RdS.len hdX sl37, RdS.idx hdX sl37, R1.intB hdX (Ext.pres eB), RdS.cells hdX, RdS.len hmX sl38, RdS.idx hmX sl38, RdS.cellB hmX (Ext.pres eB), RdS.cells hmX, RdS.len (OS.rd how5_2_0) sl38, RdS.idx (OS.rd how5_2_0) sl38, RdS.cellN (OS.rd how5_2_0), RdS.cells (OS.rd how5_2_0), RdS.len (OS.rd hod6_1) sl37, RdS.idx (OS.rd hod6_1) sl37, R1.intN (OS.rd hod6_1), RdS.cells (OS.rd hod6_1), RdS.len (OS.rd hom6_1) sl38, RdS.idx (OS.rd hom6_1) sl38, RdS.cellN (OS.rd hom6_1), RdS.cells (OS.rd hom6_1), BoxAt.cell hb0_0, BoxAt.cell hb6_2, wrap_id]
    try simp -implicitDefEqProofs (disch := first | decide | assumption | omega) only [go_sem, RdS.len hdX sl37, RdS.idx hdX sl37, R1.intB hdX (Ext.pres eB), RdS.cells hdX, RdS.len hmX sl38, RdS.idx hmX sl38, RdS.cellB hmX (Ext.pres eB), RdS.cells hmX, RdS.len (OS.rd how5_2_0) sl38, RdS.idx (OS.rd how5_2_0) sl38, RdS.cellN (OS.rd how5_2_0), RdS.cells (OS.rd how5_2_0), RdS.len (OS.rd hod6_1) sl37, RdS.idx (OS.rd hod6_1) sl37, R1.intN (OS.rd hod6_1), RdS.cells (OS.rd hod6_1), RdS.len (OS.rd hom6_1) sl38, RdS.idx (OS.rd hom6_1) sl38, RdS.cellN (OS.rd hom6_1), RdS.cells (OS.rd hom6_1), BoxAt.cell hb0_0, BoxAt.cell hb6_2, wrap_id]
    refine CallA.mono (iId_ok _ X _ ⟨_, _, rfl, (OS.rd hod6_1), (OS.rd hom6_1)⟩ ) ?_
    intro v_ h7_1
    rintro ⟨vw7_1_0, fw7_1_0, rfl, how7_1_0, hfw7_1_0, e7_1⟩
    replace how5_2_0 := OS.ext how5_2_0 e7_1
    replace hod6_1 := OS.ext hod6_1 e7_1
    replace hom6_1 := OS.ext hom6_1 e7_1
    replace hb0_0 := BoxAt.ext hb0_0 e7_1
    replace hb6_2 := BoxAt.ext hb6_2 e7_1
    have := Ext.size e7_1
    replace eB := Ext.trans eB e7_1
    have hlhow7_1_0 := OS.lt how7_1_0
    try simp -implicitDefEqProofs (disch := first | decide | assumption | omega) only [go_sem, RdS.len hdX sl37, RdS.idx hdX sl37, R1.intB hdX (Ext.pres eB), RdS.cells hdX, RdS.len hmX sl38, RdS.idx hmX sl38, RdS.cellB hmX (Ext.pres eB), RdS.cells hmX, RdS.len (OS.rd how5_2_0) sl38, RdS.idx (OS.rd how5_2_0) sl38, RdS.cellN (OS.rd how5_2_0), RdS.cells (OS.rd how5_2_0), RdS.len (OS.rd hod6_1) sl37, RdS.idx (OS.rd hod6_1) sl37, R1.intN (OS.rd hod6_1), RdS.cells (OS.rd hod6_1), RdS.len (OS.rd hom6_1) sl38, RdS.idx (OS.rd hom6_1) sl38, RdS.cellN (OS.rd hom6_1), RdS.cells (OS.rd hom6_1), RdS.len (OS.rd how7_1_0) sl38, RdS.idx (OS.rd how7_1_0) sl38, RdS.cellN (OS.rd how7_1_0), RdS.cells (OS.rd how7_1_0), BoxAt.cell hb0_0, BoxAt.cell hb6_2, wrap_id]
    refine hK _ _ ?_
    clear hK K
    refine den_seq ?_
    refine den_seq ?_
    refine den_mergeH [(40, .bool (((!(true)) || (((idP X).2) != ((idP X).2)))))] [1, 4, 5, 6, 7, 8] ?_ ?_
      -- a way
    · refine den_region TTok ?_
      intro K hK
      simp -implicitDefEqProofs (disch := first | decide | assumption | (simp (disch := decide) only [slotOf_zero, slotOf_succ, Option.map_some, puts_same, puts_ne, gv_bool, gv_undef, tt, tf, ft, ff, eq_self, if_true, if_false, Bool.false_eq_true, Bool.not_true, Bool.not_false]; done) | omega) only [go_sem, RdS.len hdX sl37, RdS.idx hdX sl37, R1.intB hdX (Ext.pres eB), RdS.cells hdX, RdS.len hmX sl38, RdS.idx hmX sl38, RdS.cellB hmX (Ext.pres eB), RdS.cells hmX, RdS.len (OS.rd how5_2_0) sl38, RdS.idx (OS.rd how5_2_0) sl38, RdS.cellN (OS.rd how5_2_0), RdS.cells (OS.rd how5_2_0), RdS.len (OS.rd hod6_1) sl37, RdS.idx (OS.rd hod6_1) sl37, R1.intN (OS.rd hod6_1), RdS.cells (OS.rd hod6_1), RdS.len (OS.rd hom6_1) sl38, RdS.idx (OS.rd hom6_1) sl38, RdS.cellN (OS.rd hom6_1), RdS.cells (OS.rd hom6_1), RdS.len (OS.rd how7_1_0) sl38, RdS.idx (OS.rd how7_1_0) sl38, RdS.cellN (OS.rd how7_1_0), RdS.cells (OS.rd how7_1_0), BoxAt.cell hb0_0, BoxAt.cell hb6_2, wrap_id]
      try simp -implicitDefEqProofs (disch := first | decide | assumption | omega) only [go_sem, RdS.len hdX sl37, RdS.idx hdX sl37, R1.intB hdX (Ext.pres eB), RdS.cells hdX, RdS.len hmX sl38, RdS.idx hmX sl38, RdS.cellB hmX (Ext.pres eB), RdS.cells hmX, RdS.len (OS.rd how5_2_0) sl38, RdS.idx (OS.rd how5_2_0) sl38, RdS.cellN (OS.rd how5_2_0), RdS.cells (OS.rd how5_2_0), RdS.len (OS.rd hod6_1) sl37, RdS.idx (OS.rd hod6_1) sl37, R1.intN (OS.rd hod6_1), RdS.cells (OS.rd hod6_1), RdS.len (OS.rd hom6_1) sl38, RdS.idx (OS.rd hom6_1) sl38, RdS.cellN (OS.rd hom6_1), RdS.cells (OS.rd hom6_1), RdS.len (OS.rd how7_1_0) sl38, RdS.idx (OS.rd how7_1_0) sl38, RdS.cellN (OS.rd how7_1_0), RdS.cells (OS.rd how7_1_0), BoxAt.cell hb0_0, BoxAt.cell hb6_2, wrap_id]
      refine CallA.pure (eqSSS_same _ _ _ _ (OS.rd how7_1_0) (OS.rd how5_2_0)) ?_
      try simp -implicitDefEqProofs (disch := first | decide | assumption | (simp (disch := decide) only [slotOf_zero, slotOf_succ, Option.map_some, puts_same, puts_ne, gv_bool, gv_undef, tt, tf, ft, ff, eq_self, if_true, if_false, Bool.false_eq_true, Bool.not_true, Bool.not_false]; done) | omega) only [go_sem, RdS.len hdX sl37, RdS.idx hdX sl37, R1.intB hdX (Ext.pres eB), RdS.cells hdX, RdS.len hmX sl38, RdS.idx hmX sl38, RdS.cellB hmX (Ext.pres eB), RdS.cells hmX, RdS.len (OS.rd how5_2_0) sl38, RdS.idx (OS.rd how5_2_0) sl38, RdS.cellN (OS.rd how5_2_0), RdS.cells (OS.rd how5_2_0), RdS.len (OS.rd hod6_1) sl37, RdS.idx (OS.rd hod6_1) sl37, R1.intN (OS.rd hod6_1), RdS.cells (OS.rd hod6_1), RdS.len (OS.rd hom6_1) sl38, RdS.idx (OS.rd hom6_1) sl38, RdS.cellN (OS.rd hom6_1), RdS.cells (OS.rd hom6_1), RdS.len (OS.rd how7_1_0) sl38, RdS.idx (OS.rd how7_1_0) sl38, RdS.cellN (OS.rd how7_1_0), RdS.cells (OS.rd how7_1_0), BoxAt.cell hb0_0, BoxAt.cell hb6_2, wrap_id]
      try simp -implicitDefEqProofs (disch := first | decide | assumption | (simp (disch := decide) only [slotOf_zero, slotOf_succ, Option.map_some, puts_same, puts_ne, gv_bool, gv_undef, tt, tf, ft, ff, eq_self, if_true, if_false, Bool.false_eq_true, Bool.not_true, Bool.not_false]; done) | omega) only [go_sem, RdS.len hdX sl37, RdS.idx hdX sl37, R1.intB hdX (Ext.pres eB), RdS.cells hdX, RdS.len hmX sl38, RdS.idx hmX sl38, RdS.cellB hmX (Ext.pres eB), RdS.cells hmX, RdS.len (OS.rd how5_2_0) sl38, RdS.idx (OS.rd how5_2_0) sl38, RdS.cellN (OS.rd how5_2_0), RdS.cells (OS.rd how5_2_0), RdS.len (OS.rd hod6_1) sl37, RdS.idx (OS.rd hod6_1) sl37, R1.intN (OS.rd hod6_1), RdS.cells (OS.rd hod6_1), RdS.len (OS.rd hom6_1) sl38, RdS.idx (OS.rd hom6_1) sl38, RdS.cellN (OS.rd hom6_1), RdS.cells (OS.rd hom6_1), RdS.len (OS.rd how7_1_0) sl38, RdS.idx (OS.rd how7_1_0) sl38, RdS.cellN (OS.rd how7_1_0), RdS.cells (OS.rd how7_1_0), BoxAt.cell hb0_0, BoxAt.cell hb6_2, wrap_id]
      refine hK _ _ ?_
      clear hK K
      refine den_stop ?_
      refine ⟨?_, rfl⟩
      first | (simp (disch := decide) only [go_sem, eq_self, Bool.true_and, Bool.and_true, Bool.false_and, Bool.and_false, Bool.true_or, Bool.or_true, Bool.false_or, Bool.or_false, if_true, if_false, Bool.false_eq_true]; done) | simp [HasL, sel, puts_at]
    intro en3
    simp (disch := decide) only [go_sem]
    refine den_cond rfl (fun c1 => ?_) (fun c1 => ?_)
    · try simp only [decide_eq_true_eq, decide_eq_false_iff_not, beq_iff_eq, beq_eq_false_iff_ne, bne_iff_ne, ne_eq, Bool.not_eq_true', Bool.not_eq_false', Bool.and_eq_true, Bool.or_eq_true, bne_eq_false_iff_eq] at c1
      refine den_seq ?_
      refine den_region TTok ?_
      intro K hK
      simp -implicitDefEqProofs (disch := first | decide | assumption | omega) only [go_sem, RdS.len hdX sl37, RdS.idx hdX sl37, R1.intB hdX (Ext.pres eB), RdS.cells hdX, RdS.len hmX sl38, RdS.idx hmX sl38, RdS.cellB hmX (Ext.pres eB), RdS.cells hmX, wrap_id]
      refine hK _ _ ?_
      clear hK K
      refine den_ret ?_
      simp (disch := decide) only [resP_1, puts_same, puts_ne]
      exact absurd c1 (by first | (simp; done) | (simp; omega) | omega | (simp [eqC_self]; done))
    · try simp only [decide_eq_true_eq, decide_eq_false_iff_not, beq_iff_eq, beq_eq_false_iff_ne, bne_iff_ne, ne_eq, Bool.not_eq_true', Bool.not_eq_false', Bool.and_eq_true, Bool.or_eq_true, bne_eq_false_iff_eq] at c1
      refine den_skip ?_
      refine den_seq ?_
      refine den_seq ?_
      refine den_draw TTok mixed [] [(0, true), (1, true), (2, false), (3, false), (4, true)] (by kernel_rfl) ?_
      intro K hK
      simp -implicitDefEqProofs (disch := first | decide | assumption | omega) only [go_sem, ld44, ld40, RdS.len hdX sl37, RdS.idx hdX sl37, R1.intB hdX (Ext.pres eB), RdS.cells hdX, RdS.len hmX sl38, RdS.idx hmX sl38, RdS.cellB hmX (Ext.pres eB), RdS.cells hmX, RdS.len (OS.rd how5_2_0) sl38, RdS.idx (OS.rd how5_2_0) sl38, RdS.cellN (OS.rd how5_2_0), RdS.cells (OS.rd how5_2_0), RdS.len (OS.rd hod6_1) sl37, RdS.idx (OS.rd hod6_1) sl37, R1.intN (OS.rd hod6_1), RdS.cells (OS.rd hod6_1), RdS.len (OS.rd hom6_1) sl38, RdS.idx (OS.rd hom6_1) sl38, RdS.cellN (OS.rd hom6_1), RdS.cells (OS.rd hom6_1), RdS.len (OS.rd how7_1_0) sl38, RdS.idx (OS.rd how7_1_0) sl38, RdS.cellN (OS.rd how7_1_0), RdS.cells (OS.rd how7_1_0), BoxAt.cell hb0_0, BoxAt.cell hb6_2, wrap_id]
      try simp -implicitDefEqProofs (disch := first | decide | assumption | omega) only [go_sem, RdS.len hdX sl37, RdS.idx hdX sl37, R1.intB hdX (Ext.pres eB), RdS.cells hdX, RdS.len hmX sl38, RdS.idx hmX sl38, RdS.cellB hmX (Ext.pres eB), RdS.cells hmX, RdS.len (OS.rd how5_2_0) sl38, RdS.idx (OS.rd how5_2_0) sl38, RdS.cellN (OS.rd how5_2_0), RdS.cells (OS.rd how5_2_0), RdS.len (OS.rd hod6_1) sl37, RdS.idx (OS.rd hod6_1) sl37, R1.intN (OS.rd hod6_1), RdS.cells (OS.rd hod6_1), RdS.len (OS.rd hom6_1) sl38, RdS.idx (OS.rd hom6_1) sl38, RdS.cellN (OS.rd hom6_1), RdS.cells (OS.rd hom6_1), RdS.len (OS.rd how7_1_0) sl38, RdS.idx (OS.rd how7_1_0) sl38, RdS.cellN (OS.rd how7_1_0), RdS.cells (OS.rd how7_1_0), BoxAt.cell hb0_0, BoxAt.cell hb6_2, wrap_id]
      refine CallA.mono (toC_ok _ X _ ⟨_, _, rfl, (RdS.pres hdX (Ext.pres eB)), (RdS.pres hmX (Ext.pres eB))⟩ hMX) ?_
      intro v_ h10_2
      rintro ⟨vd10_2, vm10_2, fd10_2, fm10_2, rfl, hod10_2, hom10_2, hf10_2, e10_2⟩
      replace how5_2_0 := OS.ext how5_2_0 e10_2
      replace hod6_1 := OS.ext hod6_1 e10_2
      replace hom6_1 := OS.ext hom6_1 e10_2
      replace how7_1_0 := OS.ext how7_1_0 e10_2
      replace hb0_0 := BoxAt.ext hb0_0 e10_2
      replace hb6_2 := BoxAt.ext hb6_2 e10_2
      have := Ext.size e10_2
      replace eB := Ext.trans eB e10_2
      have hfd10_2 := hf10_2.left
      have hfm10_2 := hf10_2.right
      have hlhod10_2 := OS.lt hod10_2
      have hlhom10_2 := OS.lt hom10_2
      have ap6 : Apart fd10_2 fm10_2 := apart_nodup hf10_2
      try simp (disch := decide) only [outv_some, outv_none, put_puts]
      refine plK_pres (Ext.pres e10_2) ?_
      try simp -implicitDefEqProofs (disch := first | decide | assumption | omega) only [go_sem, RdS.len hdX sl37, RdS.idx hdX sl37, R1.intB hdX (Ext.pres eB), RdS.cells hdX, RdS.len hmX sl38, RdS.idx hmX sl38, RdS.cellB hmX (Ext.pres eB), RdS.cells hmX, RdS.len (OS.rd how5_2_0) sl38, RdS.idx (OS.rd how5_2_0) sl38, RdS.cellN (OS.rd how5_2_0), RdS.cells (OS.rd how5_2_0), RdS.len (OS.rd hod6_1) sl37, RdS.idx (OS.rd hod6_1) sl37, R1.intN (OS.rd hod6_1), RdS.cells (OS.rd hod6_1), RdS.len (OS.rd hom6_1) sl38, RdS.idx (OS.rd hom6_1) sl38, RdS.cellN (OS.rd hom6_1), RdS.cells (OS.rd hom6_1), RdS.len (OS.rd how7_1_0) sl38, RdS.idx (OS.rd how7_1_0) sl38, RdS.cellN (OS.rd how7_1_0), RdS.cells (OS.rd how7_1_0), RdS.len (OS.rd hod10_2) sl37, RdS.idx (OS.rd hod10_2) sl37, R1.intN (OS.rd hod10_2), RdS.cells (OS.rd hod10_2), RdS.len (OS.rd hom10_2) sl38, RdS.idx (OS.rd hom10_2) sl38, RdS.cellN (OS.rd hom10_2), RdS.cells (OS.rd hom10_2), BoxAt.cell hb0_0, BoxAt.cell hb6_2, wrap_id]
      try simp -implicitDefEqProofs (disch := first | decide | assumption | omega) only [go_sem, RdS.len hdX sl37, RdS.idx hdX sl37, R1.intB hdX (Ext.pres eB), RdS.cells hdX, RdS.len hmX sl38, RdS.idx hmX sl38, RdS.cellB hmX (Ext.pres eB), RdS.cells hmX, RdS.len (OS.rd how5_2_0) sl38, RdS.idx (OS.rd how5_2_0) sl38, RdS.cellN (OS.rd how5_2_0), RdS.cells (OS.rd how5_2_0), RdS.len (OS.rd hod6_1) sl37, RdS.idx (OS.rd hod6_1) sl37, R1.intN (OS.rd hod6_1), RdS.cells (OS.rd hod6_1), RdS.len (OS.rd hom6_1) sl38, RdS.idx (OS.rd hom6_1) sl38, RdS.cellN (OS.rd hom6_1), RdS.cells (OS.rd hom6_1), RdS.len (OS.rd how7_1_0) sl38, RdS.idx (OS.rd how7_1_0) sl38, RdS.cellN (OS.rd how7_1_0), RdS.cells (OS.rd how7_1_0), RdS.len (OS.rd hod10_2) sl37, RdS.idx (OS.rd hod10_2) sl37, R1.intN (OS.rd hod10_2), RdS.cells (OS.rd hod10_2), RdS.len (OS.rd hom10_2) sl38, RdS.idx (OS.rd hom10_2) sl38, RdS.cellN (OS.rd hom10_2), RdS.cells (OS.rd hom10_2), BoxAt.cell hb0_0, BoxAt.cell hb6_2, wrap_id]
      refine CallA.mono (eqC_same _ _ X _ ⟨_, _, rfl, (OS.rd hod6_1), (OS.rd hom6_1)⟩ ⟨_, _, rfl, (OS.rd hod10_2), (OS.rd hom10_2)⟩) ?_
      intro v_ h10_3
      rintro ⟨rfl, e10_3⟩
      replace how5_2_0 := OS.ext how5_2_0 e10_3
      replace hod6_1 := OS.ext hod6_1 e10_3
      replace hom6_1 := OS.ext hom6_1 e10_3
      replace how7_1_0 := OS.ext how7_1_0 e10_3
      replace hod10_2 := OS.ext hod10_2 e10_3
      replace hom10_2 := OS.ext hom10_2 e10_3
      replace hb0_0 := BoxAt.ext hb0_0 e10_3
      replace hb6_2 := BoxAt.ext hb6_2 e10_3
      have := Ext.size e10_3
      replace eB := Ext.trans eB e10_3
      try simp (disch := decide) only [outv_some, outv_none, put_puts]
      refine plK_pres (Ext.pres e10_3) ?_
      try simp -implicitDefEqProofs (disch := first | decide | assumption | omega) only [go_sem, RdS.len hdX sl37, RdS.idx hdX sl37, R1.intB hdX (Ext.pres eB), RdS.cells hdX, RdS.len hmX sl38, RdS.idx hmX sl38, RdS.cellB hmX (Ext.pres eB), RdS.cells hmX, RdS.len (OS.rd how5_2_0) sl38, RdS.idx (OS.rd how5_2_0) sl38, RdS.cellN (OS.rd how5_2_0), RdS.cells (OS.rd how5_2_0), RdS.len (OS.rd hod6_1) sl37, RdS.idx (OS.rd hod6_1) sl37, R1.intN (OS.rd hod6_1), RdS.cells (OS.rd hod6_1), RdS.len (OS.rd hom6_1) sl38, RdS.idx (OS.rd hom6_1) sl38, RdS.cellN (OS.rd hom6_1), RdS.cells (OS.rd hom6_1), RdS.len (OS.rd how7_1_0) sl38, RdS.idx (OS.rd how7_1_0) sl38, RdS.cellN (OS.rd how7_1_0), RdS.cells (OS.rd how7_1_0), RdS.len (OS.rd hod10_2) sl37, RdS.idx (OS.rd hod10_2) sl37, R1.intN (OS.rd hod10_2), RdS.cells (OS.rd hod10_2), RdS.len (OS.rd hom10_2) sl38, RdS.idx (OS.rd hom10_2) sl38, RdS.cellN (OS.rd hom10_2), RdS.cells (OS.rd hom10_2), BoxAt.cell hb0_0, BoxAt.cell hb6_2, wrap_id]
      refine hK _ _ ?_
      clear hK K
      refine den_cond rfl (fun c2 => ?_) (fun c2 => ?_)
      · try simp only [decide_eq_true_eq, decide_eq_false_iff_not, beq_iff_eq, beq_eq_false_iff_ne, bne_iff_ne, ne_eq, Bool.not_eq_true', Bool.not_eq_false', Bool.and_eq_true, Bool.or_eq_true, bne_eq_false_iff_eq] at c2
        refine den_seq ?_
        refine den_region TTok ?_
        intro K hK
        simp -implicitDefEqProofs (disch := first | decide | assumption | omega) only [go_sem, RdS.len hdX sl37, RdS.idx hdX sl37, R1.intB hdX (Ext.pres eB), RdS.cells hdX, RdS.len hmX sl38, RdS.idx hmX sl38, RdS.cellB hmX (Ext.pres eB), RdS.cells hmX, wrap_id]
        refine hK _ _ ?_
        clear hK K
        refine den_ret ?_
        simp (disch := decide) only [resP_1, puts_same, puts_ne]
        exact absurd c2 (by first | (simp; done) | (simp; omega) | omega | (simp [eqC_self]; done))
      · try simp only [decide_eq_true_eq, decide_eq_false_iff_not, beq_iff_eq, beq_eq_false_iff_ne, bne_iff_ne, ne_eq, Bool.not_eq_true', Bool.not_eq_false', Bool.and_eq_true, Bool.or_eq_true, bne_eq_false_iff_eq] at c2
        refine den_skip ?_
        refine den_seq ?_
        refine den_region TTok ?_
        intro K hK
        simp -implicitDefEqProofs (disch := first | decide | assumption | omega) only [go_sem, RdS.len hdX sl37, RdS.idx hdX sl37, R1.intB hdX (Ext.pres eB), RdS.cells hdX, RdS.len hmX sl38, RdS.idx hmX sl38, RdS.cellB hmX (Ext.pres eB), RdS.cells hmX, RdS.len (OS.rd how5_2_0) sl38, RdS.idx (OS.rd how5_2_0) sl38, RdS.cellN (OS.rd how5_2_0), RdS.cells (OS.rd how5_2_0), RdS.len (OS.rd hod6_1) sl37, RdS.idx (OS.rd hod6_1) sl37, R1.intN (OS.rd hod6_1), RdS.cells (OS.rd hod6_1), RdS.len (OS.rd hom6_1) sl38, RdS.idx (OS.rd hom6_1) sl38, RdS.cellN (OS.rd hom6_1), RdS.cells (OS.rd hom6_1), RdS.len (OS.rd how7_1_0) sl38, RdS.idx (OS.rd how7_1_0) sl38, RdS.cellN (OS.rd how7_1_0), RdS.cells (OS.rd how7_1_0), BoxAt.cell hb0_0, BoxAt.cell hb6_2, wrap_id]
        refine hK _ _ ?_
        clear hK K
        refine den_seq ?_
        refine den_region TTok ?_
        intro K hK
        simp -implicitDefEqProofs (disch := first | decide | assumption | omega) only [go_sem, ld44, RdS.len hdX sl37, RdS.idx hdX sl37, R1.intB hdX (Ext.pres eB), RdS.cells hdX, RdS.len hmX sl38, RdS.idx hmX sl38, RdS.cellB hmX (Ext.pres eB), RdS.cells hmX, RdS.len (OS.rd how5_2_0) sl38, RdS.idx (OS.rd how5_2_0) sl38, RdS.cellN (OS.rd how5_2_0), RdS.cells (OS.rd how5_2_0), RdS.len (OS.rd hod6_1) sl37, RdS.idx (OS.rd hod6_1) sl37, R1.intN (OS.rd hod6_1), RdS.cells (OS.rd hod6_1), RdS.len (OS.rd hom6_1) sl38, RdS.idx (OS.rd hom6_1) sl38, RdS.cellN (OS.rd hom6_1), RdS.cells (OS.rd hom6_1), RdS.len (OS.rd how7_1_0) sl38, RdS.idx (OS.rd how7_1_0) sl38, RdS.cellN (OS.rd how7_1_0), RdS.cells (OS.rd how7_1_0), BoxAt.cell hb0_0, BoxAt.cell hb6_2, wrap_id]
        try simp -implicitDefEqProofs (disch := first | decide | assumption | omega) only [go_sem, RdS.len hdX sl37, RdS.idx hdX sl37, R1.intB hdX (Ext.pres eB), RdS.cells hdX, RdS.len hmX sl38, RdS.idx hmX sl38, RdS.cellB hmX (Ext.pres eB), RdS.cells hmX, RdS.len (OS.rd how5_2_0) sl38, RdS.idx (OS.rd how5_2_0) sl38, RdS.cellN (OS.rd how5_2_0), RdS.cells (OS.rd how5_2_0), RdS.len (OS.rd hod6_1) sl37, RdS.idx (OS.rd hod6_1) sl37, R1.intN (OS.rd hod6_1), RdS.cells (OS.rd hod6_1), RdS.len (OS.rd hom6_1) sl38, RdS.idx (OS.rd hom6_1) sl38, RdS.cellN (OS.rd hom6_1), RdS.cells (OS.rd hom6_1), RdS.len (OS.rd how7_1_0) sl38, RdS.idx (OS.rd how7_1_0) sl38, RdS.cellN (OS.rd how7_1_0), RdS.cells (OS.rd how7_1_0), BoxAt.cell hb0_0, BoxAt.cell hb6_2, wrap_id]
        refine CallA.mono (markCx_ok _ _ X (1 : Int) _ _ _ hod6_1 hom6_1 (List.nodup_append.2 ⟨hfd6_1.nodup, hfm6_1.nodup, fun b hb c hc e => ap2 b hb (e ▸ hc)⟩) (by omega)) ?_
        intro v_ h13_2
        rintro ⟨rfl, hogd13_2, hogm13_2, cg13_2⟩
        replace how5_2_0 := OS.chg how5_2_0 cg13_2 (Apart.app (apart_lt hlhow5_2_0 hfd6_1 (by omega)) (apart_lt hlhow5_2_0 hfm6_1 (by omega)))
        replace how7_1_0 := OS.chg how7_1_0 cg13_2 (Apart.app (apart_gt hfw7_1_0 hlhod6_1 (by omega)) (apart_gt hfw7_1_0 hlhom6_1 (by omega)))
        replace hb0_0 := BoxAt.chgA hb0_0 cg13_2 (Apart.app (apart_lt hlhb0_0 hfd6_1 (by omega)) (apart_lt hlhb0_0 hfm6_1 (by omega)))
        replace hb6_2 := BoxAt.chgA hb6_2 cg13_2 (Apart.app (apart_gt hfhb6_2 hlhod6_1 (by omega)) (apart_gt hfhb6_2 hlhom6_1 (by omega)))
        have := cg13_2.size
        replace eB := Ext.then eB cg13_2 (ge_app (ge_of hfd6_1 (by omega)) (ge_of hfm6_1 (by omega)))
        have ap7 : Apart fm6_1 fd6_1 := (Apart.symm ap2)
        have hlhogd13_2 := OS.lt hogd13_2
        have ap8 : Apart fd6_1 fm6_1 := (Apart.symm ap7)
        have hlhogm13_2 := OS.lt hogm13_2
        try simp -implicitDefEqProofs (disch := first | decide | assumption | omega) only [go_sem, RdS.len hdX sl37, RdS.idx hdX sl37, R1.intB hdX (Ext.pres eB), RdS.cells hdX, RdS.len hmX sl38, RdS.idx hmX sl38, RdS.cellB hmX (Ext.pres eB), RdS.cells hmX, RdS.len (OS.rd how5_2_0) sl38, RdS.idx (OS.rd how5_2_0) sl38, RdS.cellN (OS.rd how5_2_0), RdS.cells (OS.rd how5_2_0), RdS.len (OS.rd how7_1_0) sl38, RdS.idx (OS.rd how7_1_0) sl38, RdS.cellN (OS.rd how7_1_0), RdS.cells (OS.rd how7_1_0), RdS.len (OS.rd hogd13_2) sl37, RdS.idx (OS.rd hogd13_2) sl37, R1.intN (OS.rd hogd13_2), RdS.cells (OS.rd hogd13_2), RdS.len (OS.rd hogm13_2) sl38, RdS.idx (OS.rd hogm13_2) sl38, RdS.cellN (OS.rd hogm13_2), RdS.cells (OS.rd hogm13_2), BoxAt.cell hb0_0, BoxAt.cell hb6_2, wrap_id]
        refine hK _ _ ?_
        clear hK K
        refine den_seq ?_
        refine den_seq ?_
        refine den_mergeH [(61, .bool ((((decide (((1 : Int) + cnt1 X.dims + cntL cnt2 X.maps) < (0 : Int))) || (!(true))) || (((idP X).2) != ((idP X).2)))))] [1, 4, 5, 7] ?_ ?_
          -- a way
        · refine den_region TTok ?_
          intro K hK
          simp -implicitDefEqProofs (disch := first | decide | assumption | (simp (disch := decide) only [slotOf_zero, slotOf_succ, Option.map_some, puts_same, puts_ne, gv_bool, gv_undef, tt, tf, ft, ff, eq_self, if_true, if_false, Bool.false_eq_true, Bool.not_true, Bool.not_false]; done) | omega) only [go_sem, RdS.len hdX sl37, RdS.idx hdX sl37, R1.intB hdX (Ext.pres eB), RdS.cells hdX, RdS.len hmX sl38, RdS.idx hmX sl38, RdS.cellB hmX (Ext.pres eB), RdS.cells hmX, RdS.len (OS.rd how5_2_0) sl38, RdS.idx (OS.rd how5_2_0) sl38, RdS.cellN (OS.rd how5_2_0), RdS.cells (OS.rd how5_2_0), RdS.len (OS.rd how7_1_0) sl38, RdS.idx (OS.rd how7_1_0) sl38, RdS.cellN (OS.rd how7_1_0), RdS.cells (OS.rd how7_1_0), BoxAt.cell hb0_0, wrap_id]
          refine opsP_F (by simp (disch := decide) only [slotOf_zero, slotOf_succ, Option.map_some, puts_same, puts_ne, gv_bool, gv_undef, tt, tf, ft, ff, eq_self, if_true, if_false, Bool.false_eq_true, Bool.not_true, Bool.not_false]; rfl) (fun g9 => ?_) (fun g9 => ?_)
          · try simp -implicitDefEqProofs (disch := first | decide | assumption | (simp (disch := decide) only [slotOf_zero, slotOf_succ, Option.map_some, puts_same, puts_ne, gv_bool, gv_undef, tt, tf, ft, ff, eq_self, if_true, if_false, Bool.false_eq_true, Bool.not_true, Bool.not_false, g9]; done) | omega) only [go_sem, RdS.len hdX sl37, RdS.idx hdX sl37, R1.intB hdX (Ext.pres eB), RdS.cells hdX, RdS.len hmX sl38, RdS.idx hmX sl38, RdS.cellB hmX (Ext.pres eB), RdS.cells hmX, RdS.len (OS.rd how5_2_0) sl38, RdS.idx (OS.rd how5_2_0) sl38, RdS.cellN (OS.rd how5_2_0), RdS.cells (OS.rd how5_2_0), RdS.len (OS.rd how7_1_0) sl38, RdS.idx (OS.rd how7_1_0) sl38, RdS.cellN (OS.rd how7_1_0), RdS.cells (OS.rd how7_1_0), BoxAt.cell hb0_0, wrap_id, g9, eq_self, if_true, if_false, Bool.false_eq_true]
            try simp -implicitDefEqProofs (disch := first | decide | assumption | omega) only [go_sem, RdS.len hdX sl37, RdS.idx hdX sl37, R1.intB hdX (Ext.pres eB), RdS.cells hdX, RdS.len hmX sl38, RdS.idx hmX sl38, RdS.cellB hmX (Ext.pres eB), RdS.cells hmX, RdS.len (OS.rd how5_2_0) sl38, RdS.idx (OS.rd how5_2_0) sl38, RdS.cellN (OS.rd how5_2_0), RdS.cells (OS.rd how5_2_0), RdS.len (OS.rd how7_1_0) sl38, RdS.idx (OS.rd how7_1_0) sl38, RdS.cellN (OS.rd how7_1_0), RdS.cells (OS.rd how7_1_0), BoxAt.cell hb0_0, wrap_id]
            refine CallA.pure (eqSSS_same _ _ _ _ (OS.rd how7_1_0) (OS.rd how5_2_0)) ?_
            try simp -implicitDefEqProofs (disch := first | decide | assumption | (simp (disch := decide) only [slotOf_zero, slotOf_succ, Option.map_some, puts_same, puts_ne, gv_bool, gv_undef, tt, tf, ft, ff, eq_self, if_true, if_false, Bool.false_eq_true, Bool.not_true, Bool.not_false, g9]; done) | omega) only [go_sem, RdS.len hdX sl37, RdS.idx hdX sl37, R1.intB hdX (Ext.pres eB), RdS.cells hdX, RdS.len hmX sl38, RdS.idx hmX sl38, RdS.cellB hmX (Ext.pres eB), RdS.cells hmX, RdS.len (OS.rd how5_2_0) sl38, RdS.idx (OS.rd how5_2_0) sl38, RdS.cellN (OS.rd how5_2_0), RdS.cells (OS.rd how5_2_0), RdS.len (OS.rd how7_1_0) sl38, RdS.idx (OS.rd how7_1_0) sl38, RdS.cellN (OS.rd how7_1_0), RdS.cells (OS.rd how7_1_0), BoxAt.cell hb0_0, wrap_id, g9, eq_self, if_true, if_false, Bool.false_eq_true]
            try simp -implicitDefEqProofs (disch := first | decide | assumption | (simp (disch := decide) only [slotOf_zero, slotOf_succ, Option.map_some, puts_same, puts_ne, gv_bool, gv_undef, tt, tf, ft, ff, eq_self, if_true, if_false, Bool.false_eq_true, Bool.not_true, Bool.not_false, g9]; done) | omega) only [go_sem, RdS.len hdX sl37, RdS.idx hdX sl37, R1.intB hdX (Ext.pres eB), RdS.cells hdX, RdS.len hmX sl38, RdS.idx hmX sl38, RdS.cellB hmX (Ext.pres eB), RdS.cells hmX, RdS.len (OS.rd how5_2_0) sl38, RdS.idx (OS.rd how5_2_0) sl38, RdS.cellN (OS.rd how5_2_0), RdS.cells (OS.rd how5_2_0), RdS.len (OS.rd how7_1_0) sl38, RdS.idx (OS.rd how7_1_0) sl38, RdS.cellN (OS.rd how7_1_0), RdS.cells (OS.rd how7_1_0), BoxAt.cell hb0_0, wrap_id, g9, eq_self, if_true, if_false, Bool.false_eq_true]
            refine hK _ _ ?_
            clear hK K
            refine den_stop ?_
            refine ⟨?_, rfl⟩
            first | (simp (disch := decide) only [go_sem, g9, eq_self, Bool.true_and, Bool.and_true, Bool.false_and, Bool.and_false, Bool.true_or, Bool.or_true, Bool.false_or, Bool.or_false, if_true, if_false, Bool.false_eq_true]; done) | simp [HasL, sel, puts_at, g9]
          · try simp -implicitDefEqProofs (disch := first | decide | assumption | (simp (disch := decide) only [slotOf_zero, slotOf_succ, Option.map_some, puts_same, puts_ne, gv_bool, gv_undef, tt, tf, ft, ff, eq_self, if_true, if_false, Bool.false_eq_true, Bool.not_true, Bool.not_false, g9]; done) | omega) only [go_sem, RdS.len hdX sl37, RdS.idx hdX sl37, R1.intB hdX (Ext.pres eB), RdS.cells hdX, RdS.len hmX sl38, RdS.idx hmX sl38, RdS.cellB hmX (Ext.pres eB), RdS.cells hmX, RdS.len (OS.rd how5_2_0) sl38, RdS.idx (OS.rd how5_2_0) sl38, RdS.cellN (OS.rd how5_2_0), RdS.cells (OS.rd how5_2_0), RdS.len (OS.rd how7_1_0) sl38, RdS.idx (OS.rd how7_1_0) sl38, RdS.cellN (OS.rd how7_1_0), RdS.cells (OS.rd how7_1_0), BoxAt.cell hb0_0, wrap_id, g9, eq_self, if_true, if_false, Bool.false_eq_true]
            try simp -implicitDefEqProofs (disch := first | decide | assumption | (simp (disch := decide) only [slotOf_zero, slotOf_succ, Option.map_some, puts_same, puts_ne, gv_bool, gv_undef, tt, tf, ft, ff, eq_self, if_true, if_false, Bool.false_eq_true, Bool.not_true, Bool.not_false, g9]; done) | omega) only [go_sem, RdS.len hdX sl37, RdS.idx hdX sl37, R1.intB hdX (Ext.pres eB), RdS.cells hdX, RdS.len hmX sl38, RdS.idx hmX sl38, RdS.cellB hmX (Ext.pres eB), RdS.cells hmX, RdS.len (OS.rd how5_2_0) sl38, RdS.idx (OS.rd how5_2_0) sl38, RdS.cellN (OS.rd how5_2_0), RdS.cells (OS.rd how5_2_0), RdS.len (OS.rd how7_1_0) sl38, RdS.idx (OS.rd how7_1_0) sl38, RdS.cellN (OS.rd how7_1_0), RdS.cells (OS.rd how7_1_0), BoxAt.cell hb0_0, wrap_id, g9, eq_self, if_true, if_false, Bool.false_eq_true]
            refine hK _ _ ?_
            clear hK K
            refine den_stop ?_
            refine ⟨?_, rfl⟩
            first | (simp (disch := decide) only [go_sem, g9, eq_self, Bool.true_and, Bool.and_true, Bool.false_and, Bool.and_false, Bool.true_or, Bool.or_true, Bool.false_or, Bool.or_false, if_true, if_false, Bool.false_eq_true]; done) | simp [HasL, sel, puts_at, g9]
        intro en10
        simp (disch := decide) only [go_sem]
        refine den_cond rfl (fun c3 => ?_) (fun c3 => ?_)
        · try simp only [decide_eq_true_eq, decide_eq_false_iff_not, beq_iff_eq, beq_eq_false_iff_ne, bne_iff_ne, ne_eq, Bool.not_eq_true', Bool.not_eq_false', Bool.and_eq_true, Bool.or_eq_true, bne_eq_false_iff_eq] at c3
          refine den_seq ?_
          refine den_region TTok ?_
          intro K hK
          simp -implicitDefEqProofs (disch := first | decide | assumption | omega) only [go_sem, RdS.len hdX sl37, RdS.idx hdX sl37, R1.intB hdX (Ext.pres eB), RdS.cells hdX, RdS.len hmX sl38, RdS.idx hmX sl38, RdS.cellB hmX (Ext.pres eB), RdS.cells hmX, wrap_id]
          refine hK _ _ ?_
          clear hK K
          refine den_ret ?_
          simp (disch := decide) only [resP_1, puts_same, puts_ne]
          exact absurd c3 (by first | (simp; done) | (simp; omega) | omega | (simp [eqC_self]; done))
        · try simp only [decide_eq_true_eq, decide_eq_false_iff_not, beq_iff_eq, beq_eq_false_iff_ne, bne_iff_ne, ne_eq, Bool.not_eq_true', Bool.not_eq_false', Bool.and_eq_true, Bool.or_eq_true, bne_eq_false_iff_eq] at c3
          refine den_skip ?_
          refine den_seq ?_
          refine den_region TTok ?_
          intro K hK
          simp -implicitDefEqProofs (disch := first | decide | assumption | omega) only [go_sem, RdS.len hdX sl37, RdS.idx hdX sl37, R1.intB hdX (Ext.pres eB), RdS.cells hdX, RdS.len hmX sl38, RdS.idx hmX sl38, RdS.cellB hmX (Ext.pres eB), RdS.cells hmX, RdS.len (OS.rd how5_2_0) sl38, RdS.idx (OS.rd how5_2_0) sl38, RdS.cellN (OS.rd how5_2_0), RdS.cells (OS.rd how5_2_0), RdS.len (OS.rd how7_1_0) sl38, RdS.idx (OS.rd how7_1_0) sl38, RdS.cellN (OS.rd how7_1_0), RdS.cells (OS.rd how7_1_0), BoxAt.cell hb0_0, wrap_id]
          refine hK _ _ ?_
          clear hK K
          refine den_seq ?_
          refine den_region TTok ?_
          intro K hK
          simp -implicitDefEqProofs (disch := first | decide | assumption | omega) only [go_sem, RdS.len hdX sl37, RdS.idx hdX sl37, R1.intB hdX (Ext.pres eB), RdS.cells hdX, RdS.len hmX sl38, RdS.idx hmX sl38, RdS.cellB hmX (Ext.pres eB), RdS.cells hmX, RdS.len (OS.rd how5_2_0) sl38, RdS.idx (OS.rd how5_2_0) sl38, RdS.cellN (OS.rd how5_2_0), RdS.cells (OS.rd how5_2_0), RdS.len (OS.rd how7_1_0) sl38, RdS.idx (OS.rd how7_1_0) sl38, RdS.cellN (OS.rd how7_1_0), RdS.cells (OS.rd how7_1_0), BoxAt.cell hb0_0, wrap_id]
          try simp -implicitDefEqProofs (disch := first | decide | assumption | omega) only [go_sem, RdS.len hdX sl37, RdS.idx hdX sl37, R1.intB hdX (Ext.pres eB), RdS.cells hdX, RdS.len hmX sl38, RdS.idx hmX sl38, RdS.cellB hmX (Ext.pres eB), RdS.cells hmX, RdS.len (OS.rd how5_2_0) sl38, RdS.idx (OS.rd how5_2_0) sl38, RdS.cellN (OS.rd how5_2_0), RdS.cells (OS.rd how5_2_0), RdS.len (OS.rd how7_1_0) sl38, RdS.idx (OS.rd how7_1_0) sl38, RdS.cellN (OS.rd how7_1_0), RdS.cells (OS.rd how7_1_0), BoxAt.cell hb0_0, wrap_id]
          refine CallA.mono (markSSS_ok _ ((idP X).1) (1 : Int) _ _ how7_1_0 hfw7_1_0.nodup (by omega)) ?_
          intro v_ h17_2
          rintro ⟨rfl, hog17_2, cg17_2⟩
          replace how5_2_0 := OS.chg how5_2_0 cg17_2 (apart_lt hlhow5_2_0 hfw7_1_0 (by omega))
          replace hb0_0 := BoxAt.chgA hb0_0 cg17_2 (apart_lt hlhb0_0 hfw7_1_0 (by omega))
          have := cg17_2.size
          replace eB := Ext.then eB cg17_2 (ge_of hfw7_1_0 (by omega))
          have hlhog17_2 := OS.lt hog17_2
          try simp -implicitDefEqProofs (disch := first | decide | assumption | omega) only [go_sem, RdS.len hdX sl37, RdS.idx hdX sl37, R1.intB hdX (Ext.pres eB), RdS.cells hdX, RdS.len hmX sl38, RdS.idx hmX sl38, RdS.cellB hmX (Ext.pres eB), RdS.cells hmX, RdS.len (OS.rd how5_2_0) sl38, RdS.idx (OS.rd how5_2_0) sl38, RdS.cellN (OS.rd how5_2_0), RdS.cells (OS.rd how5_2_0), RdS.len (OS.rd hog17_2) sl38, RdS.idx (OS.rd hog17_2) sl38, RdS.cellN (OS.rd hog17_2), RdS.cells (OS.rd hog17_2), BoxAt.cell hb0_0, wrap_id]
          refine hK _ _ ?_
          clear hK K
          refine den_seq ?_
          refine den_region TTok ?_
          intro K hK
          simp -implicitDefEqProofs (disch := first | decide | assumption | omega) only [go_sem, RdS.len hdX sl37, RdS.idx hdX sl37, R1.intB hdX (Ext.pres eB), RdS.cells hdX, RdS.len hmX sl38, RdS.idx hmX sl38, RdS.cellB hmX (Ext.pres eB), RdS.cells hmX, RdS.len (OS.rd how5_2_0) sl38, RdS.idx (OS.rd how5_2_0) sl38, RdS.cellN (OS.rd how5_2_0), RdS.cells (OS.rd how5_2_0), RdS.len (OS.rd hog17_2) sl38, RdS.idx (OS.rd hog17_2) sl38, RdS.cellN (OS.rd hog17_2), RdS.cells (OS.rd hog17_2), BoxAt.cell hb0_0, wrap_id]
          refine hK _ _ ?_
          clear hK K
          refine den_seq ?_
          refine den_region TTok ?_
          intro K hK
          simp -implicitDefEqProofs (disch := first | decide | assumption | omega) only [go_sem, RdS.len hdX sl37, RdS.idx hdX sl37, R1.intB hdX (Ext.pres eB), RdS.cells hdX, RdS.len hmX sl38, RdS.idx hmX sl38, RdS.cellB hmX (Ext.pres eB), RdS.cells hmX, RdS.len (OS.rd how5_2_0) sl38, RdS.idx (OS.rd how5_2_0) sl38, RdS.cellN (OS.rd how5_2_0), RdS.cells (OS.rd how5_2_0), RdS.len (OS.rd hog17_2) sl38, RdS.idx (OS.rd hog17_2) sl38, RdS.cellN (OS.rd hog17_2), RdS.cells (OS.rd hog17_2), BoxAt.cell hb0_0, wrap_id]
          try simp -implicitDefEqProofs (disch := first | decide | assumption | omega) only [go_sem, RdS.len hdX sl37, RdS.idx hdX sl37, R1.intB hdX (Ext.pres eB), RdS.cells hdX, RdS.len hmX sl38, RdS.idx hmX sl38, RdS.cellB hmX (Ext.pres eB), RdS.cells hmX, RdS.len (OS.rd how5_2_0) sl38, RdS.idx (OS.rd how5_2_0) sl38, RdS.cellN (OS.rd how5_2_0), RdS.cells (OS.rd how5_2_0), RdS.len (OS.rd hog17_2) sl38, RdS.idx (OS.rd hog17_2) sl38, RdS.cellN (OS.rd hog17_2), RdS.cells (OS.rd hog17_2), BoxAt.cell hb0_0, wrap_id]
          refine CallA.pure (heldSSS_ok _ ((idP X).1) (1 : Int) _ (OS.rd hog17_2) (by omega)) ?_
          try simp -implicitDefEqProofs (disch := first | decide | assumption | omega) only [go_sem, RdS.len hdX sl37, RdS.idx hdX sl37, R1.intB hdX (Ext.pres eB), RdS.cells hdX, RdS.len hmX sl38, RdS.idx hmX sl38, RdS.cellB hmX (Ext.pres eB), RdS.cells hmX, RdS.len (OS.rd how5_2_0) sl38, RdS.idx (OS.rd how5_2_0) sl38, RdS.cellN (OS.rd how5_2_0), RdS.cells (OS.rd how5_2_0), RdS.len (OS.rd hog17_2) sl38, RdS.idx (OS.rd hog17_2) sl38, RdS.cellN (OS.rd hog17_2), RdS.cells (OS.rd hog17_2), BoxAt.cell hb0_0, wrap_id]
          refine hK _ _ ?_
          clear hK K
          refine den_seq ?_
          refine den_seq ?_
          refine den_region TTok ?_
          intro K hK
          simp -implicitDefEqProofs (disch := first | decide | assumption | omega) only [go_sem, RdS.len hdX sl37, RdS.idx hdX sl37, R1.intB hdX (Ext.pres eB), RdS.cells hdX, RdS.len hmX sl38, RdS.idx hmX sl38, RdS.cellB hmX (Ext.pres eB), RdS.cells hmX, RdS.len (OS.rd how5_2_0) sl38, RdS.idx (OS.rd how5_2_0) sl38, RdS.cellN (OS.rd how5_2_0), RdS.cells (OS.rd how5_2_0), RdS.len (OS.rd hog17_2) sl38, RdS.idx (OS.rd hog17_2) sl38, RdS.cellN (OS.rd hog17_2), RdS.cells (OS.rd hog17_2), BoxAt.cell hb0_0, wrap_id]
          refine hK _ _ ?_
          clear hK K
          refine den_cond rfl (fun c4 => ?_) (fun c4 => ?_)
          · try simp only [decide_eq_true_eq, decide_eq_false_iff_not, beq_iff_eq, beq_eq_false_iff_ne, bne_iff_ne, ne_eq, Bool.not_eq_true', Bool.not_eq_false', Bool.and_eq_true, Bool.or_eq_true, bne_eq_false_iff_eq] at c4
            refine den_seq ?_
            refine den_region TTok ?_
            intro K hK
            simp -implicitDefEqProofs (disch := first | decide | assumption | omega) only [go_sem, RdS.len hdX sl37, RdS.idx hdX sl37, R1.intB hdX (Ext.pres eB), RdS.cells hdX, RdS.len hmX sl38, RdS.idx hmX sl38, RdS.cellB hmX (Ext.pres eB), RdS.cells hmX, wrap_id]
            refine hK _ _ ?_
            clear hK K
            refine den_ret ?_
            simp (disch := decide) only [resP_1, puts_same, puts_ne]
            exact absurd c4 (by first | (simp; done) | (simp; omega) | omega | (simp [eqC_self]; done))
          · try simp only [decide_eq_true_eq, decide_eq_false_iff_not, beq_iff_eq, beq_eq_false_iff_ne, bne_iff_ne, ne_eq, Bool.not_eq_true', Bool.not_eq_false', Bool.and_eq_true, Bool.or_eq_true, bne_eq_false_iff_eq] at c4
            refine den_skip ?_
            refine den_seq ?_
            refine den_seq ?_
            refine den_region TTok ?_
            intro K hK
            simp -implicitDefEqProofs (disch := first | decide | assumption | omega) only [go_sem, RdS.len hdX sl37, RdS.idx hdX sl37, R1.intB hdX (Ext.pres eB), RdS.cells hdX, RdS.len hmX sl38, RdS.idx hmX sl38, RdS.cellB hmX (Ext.pres eB), RdS.cells hmX, RdS.len (OS.rd how5_2_0) sl38, RdS.idx (OS.rd how5_2_0) sl38, RdS.cellN (OS.rd how5_2_0), RdS.cells (OS.rd how5_2_0), RdS.len (OS.rd hog17_2) sl38, RdS.idx (OS.rd hog17_2) sl38, RdS.cellN (OS.rd hog17_2), RdS.cells (OS.rd hog17_2), BoxAt.cell hb0_0, wrap_id]
            refine hK _ _ ?_
            clear hK K
            refine den_cond rfl (fun c5 => ?_) (fun c5 => ?_)
            · try simp only [decide_eq_true_eq, decide_eq_false_iff_not, beq_iff_eq, beq_eq_false_iff_ne, bne_iff_ne, ne_eq, Bool.not_eq_true', Bool.not_eq_false', Bool.and_eq_true, Bool.or_eq_true, bne_eq_false_iff_eq] at c5
              refine den_seq ?_
              refine den_region TTok ?_
              intro K hK
              simp -implicitDefEqProofs (disch := first | decide | assumption | omega) only [go_sem, RdS.len hdX sl37, RdS.idx hdX sl37, R1.intB hdX (Ext.pres eB), RdS.cells hdX, RdS.len hmX sl38, RdS.idx hmX sl38, RdS.cellB hmX (Ext.pres eB), RdS.cells hmX, wrap_id]
              refine hK _ _ ?_
              clear hK K
              refine den_ret ?_
              simp (disch := decide) only [resP_1, puts_same, puts_ne]
              exact absurd c5 (by first | (simp; done) | (simp; omega) | omega | (simp [eqC_self]; done))
            · try simp only [decide_eq_true_eq, decide_eq_false_iff_not, beq_iff_eq, beq_eq_false_iff_ne, bne_iff_ne, ne_eq, Bool.not_eq_true', Bool.not_eq_false', Bool.and_eq_true, Bool.or_eq_true, bne_eq_false_iff_eq] at c5
              refine den_skip ?_
              refine den_seq ?_
              refine den_region TTok ?_
              intro K hK
              simp -implicitDefEqProofs (disch := first | decide | assumption | omega) only [go_sem, ld40, RdS.len hdX sl37, RdS.idx hdX sl37, R1.intB hdX (Ext.pres eB), RdS.cells hdX, RdS.len hmX sl38, RdS.idx hmX sl38, RdS.cellB hmX (Ext.pres eB), RdS.cells hmX, RdS.len (OS.rd how5_2_0) sl38, RdS.idx (OS.rd how5_2_0) sl38, RdS.cellN (OS.rd how5_2_0), RdS.cells (OS.rd how5_2_0), RdS.len (OS.rd hog17_2) sl38, RdS.idx (OS.rd hog17_2) sl38, RdS.cellN (OS.rd hog17_2), RdS.cells (OS.rd hog17_2), BoxAt.cell hb0_0, wrap_id]
              try simp -implicitDefEqProofs (disch := first | decide | assumption | omega) only [go_sem, RdS.len hdX sl37, RdS.idx hdX sl37, R1.intB hdX (Ext.pres eB), RdS.cells hdX, RdS.len hmX sl38, RdS.idx hmX sl38, RdS.cellB hmX (Ext.pres eB), RdS.cells hmX, RdS.len (OS.rd how5_2_0) sl38, RdS.idx (OS.rd how5_2_0) sl38, RdS.cellN (OS.rd how5_2_0), RdS.cells (OS.rd how5_2_0), RdS.len (OS.rd hog17_2) sl38, RdS.idx (OS.rd hog17_2) sl38, RdS.cellN (OS.rd hog17_2), RdS.cells (OS.rd hog17_2), BoxAt.cell hb0_0, wrap_id]
              refine CallA.mono (toC_ok _ X _ ⟨_, _, rfl, (RdS.pres hdX (Ext.pres eB)), (RdS.pres hmX (Ext.pres eB))⟩ hMX) ?_
              intro v_ h24_1
              rintro ⟨vd24_1, vm24_1, fd24_1, fm24_1, rfl, hod24_1, hom24_1, hf24_1, e24_1⟩
              replace how5_2_0 := OS.ext how5_2_0 e24_1
              replace hog17_2 := OS.ext hog17_2 e24_1
              replace hb0_0 := BoxAt.ext hb0_0 e24_1
              have := Ext.size e24_1
              replace eB := Ext.trans eB e24_1
              have hfd24_1 := hf24_1.left
              have hfm24_1 := hf24_1.right
              have hlhod24_1 := OS.lt hod24_1
              have hlhom24_1 := OS.lt hom24_1
              have ap13 : Apart fd24_1 fm24_1 := apart_nodup hf24_1
              try simp -implicitDefEqProofs (disch := first | decide | assumption | omega) only [go_sem, RdS.len hdX sl37, RdS.idx hdX sl37, R1.intB hdX (Ext.pres eB), RdS.cells hdX, RdS.len hmX sl38, RdS.idx hmX sl38, RdS.cellB hmX (Ext.pres eB), RdS.cells hmX, RdS.len (OS.rd how5_2_0) sl38, RdS.idx (OS.rd how5_2_0) sl38, RdS.cellN (OS.rd how5_2_0), RdS.cells (OS.rd how5_2_0), RdS.len (OS.rd hog17_2) sl38, RdS.idx (OS.rd hog17_2) sl38, RdS.cellN (OS.rd hog17_2), RdS.cells (OS.rd hog17_2), RdS.len (OS.rd hod24_1) sl37, RdS.idx (OS.rd hod24_1) sl37, R1.intN (OS.rd hod24_1), RdS.cells (OS.rd hod24_1), RdS.len (OS.rd hom24_1) sl38, RdS.idx (OS.rd hom24_1) sl38, RdS.cellN (OS.rd hom24_1), RdS.cells (OS.rd hom24_1), BoxAt.cell hb0_0, wrap_id]
              try simp -implicitDefEqProofs (disch := first | decide | assumption | omega) only [go_sem, RdS.len hdX sl37, RdS.idx hdX sl37, R1.intB hdX (Ext.pres eB), RdS.cells hdX, RdS.len hmX sl38, RdS.idx hmX sl38, RdS.cellB hmX (Ext.pres eB), RdS.cells hmX, RdS.len (OS.rd how5_2_0) sl38, RdS.idx (OS.rd how5_2_0) sl38, RdS.cellN (OS.rd how5_2_0), RdS.cells (OS.rd how5_2_0), RdS.len (OS.rd hog17_2) sl38, RdS.idx (OS.rd hog17_2) sl38, RdS.cellN (OS.rd hog17_2), RdS.cells (OS.rd hog17_2), RdS.len (OS.rd hod24_1) sl37, RdS.idx (OS.rd hod24_1) sl37, R1.intN (OS.rd hod24_1), RdS.cells (OS.rd hod24_1), RdS.len (OS.rd hom24_1) sl38, RdS.idx (OS.rd hom24_1) sl38, RdS.cellN (OS.rd hom24_1), RdS.cells (OS.rd hom24_1), BoxAt.cell hb0_0, wrap_id]
              refine CallA.mono (iId_ok _ X _ ⟨_, _, rfl, (OS.rd hod24_1), (OS.rd hom24_1)⟩ ) ?_
              intro v_ h24_2
              rintro ⟨vw24_2_0, fw24_2_0, rfl, how24_2_0, hfw24_2_0, e24_2⟩
              replace how5_2_0 := OS.ext how5_2_0 e24_2
              replace hog17_2 := OS.ext hog17_2 e24_2
              replace hod24_1 := OS.ext hod24_1 e24_2
              replace hom24_1 := OS.ext hom24_1 e24_2
              replace hb0_0 := BoxAt.ext hb0_0 e24_2
              have := Ext.size e24_2
              replace eB := Ext.trans eB e24_2
              have hlhow24_2_0 := OS.lt how24_2_0
              try simp -implicitDefEqProofs (disch := first | decide | assumption | omega) only [go_sem, RdS.len hdX sl37, RdS.idx hdX sl37, R1.intB hdX (Ext.pres eB), RdS.cells hdX, RdS.len hmX sl38, RdS.idx hmX sl38, RdS.cellB hmX (Ext.pres eB), RdS.cells hmX, RdS.len (OS.rd how5_2_0) sl38, RdS.idx (OS.rd how5_2_0) sl38, RdS.cellN (OS.rd how5_2_0), RdS.cells (OS.rd how5_2_0), RdS.len (OS.rd hog17_2) sl38, RdS.idx (OS.rd hog17_2) sl38, RdS.cellN (OS.rd hog17_2), RdS.cells (OS.rd hog17_2), RdS.len (OS.rd hod24_1) sl37, RdS.idx (OS.rd hod24_1) sl37, R1.intN (OS.rd hod24_1), RdS.cells (OS.rd hod24_1), RdS.len (OS.rd hom24_1) sl38, RdS.idx (OS.rd hom24_1) sl38, RdS.cellN (OS.rd hom24_1), RdS.cells (OS.rd hom24_1), RdS.len (OS.rd how24_2_0) sl38, RdS.idx (OS.rd how24_2_0) sl38, RdS.cellN (OS.rd how24_2_0), RdS.cells (OS.rd how24_2_0), BoxAt.cell hb0_0, wrap_id]
              refine hK _ _ ?_
              clear hK K
              refine den_seq ?_
              refine den_seq ?_
              refine den_mergeH [(87, .bool (((!(true)) || (((idP X).2) != ((idP X).2)))))] [7, 10] ?_ ?_
                -- a way
              · refine den_region TTok ?_
                intro K hK
                simp -implicitDefEqProofs (disch := first | decide | assumption | (simp (disch := decide) only [slotOf_zero, slotOf_succ, Option.map_some, puts_same, puts_ne, gv_bool, gv_undef, tt, tf, ft, ff, eq_self, if_true, if_false, Bool.false_eq_true, Bool.not_true, Bool.not_false]; done) | omega) only [go_sem, RdS.len hdX sl37, RdS.idx hdX sl37, R1.intB hdX (Ext.pres eB), RdS.cells hdX, RdS.len hmX sl38, RdS.idx hmX sl38, RdS.cellB hmX (Ext.pres eB), RdS.cells hmX, RdS.len (OS.rd how5_2_0) sl38, RdS.idx (OS.rd how5_2_0) sl38, RdS.cellN (OS.rd how5_2_0), RdS.cells (OS.rd how5_2_0), RdS.len (OS.rd hog17_2) sl38, RdS.idx (OS.rd hog17_2) sl38, RdS.cellN (OS.rd hog17_2), RdS.cells (OS.rd hog17_2), RdS.len (OS.rd how24_2_0) sl38, RdS.idx (OS.rd how24_2_0) sl38, RdS.cellN (OS.rd how24_2_0), RdS.cells (OS.rd how24_2_0), wrap_id]
                try simp -implicitDefEqProofs (disch := first | decide | assumption | omega) only [go_sem, RdS.len hdX sl37, RdS.idx hdX sl37, R1.intB hdX (Ext.pres eB), RdS.cells hdX, RdS.len hmX sl38, RdS.idx hmX sl38, RdS.cellB hmX (Ext.pres eB), RdS.cells hmX, RdS.len (OS.rd how5_2_0) sl38, RdS.idx (OS.rd how5_2_0) sl38, RdS.cellN (OS.rd how5_2_0), RdS.cells (OS.rd how5_2_0), RdS.len (OS.rd hog17_2) sl38, RdS.idx (OS.rd hog17_2) sl38, RdS.cellN (OS.rd hog17_2), RdS.cells (OS.rd hog17_2), RdS.len (OS.rd how24_2_0) sl38, RdS.idx (OS.rd how24_2_0) sl38, RdS.cellN (OS.rd how24_2_0), RdS.cells (OS.rd how24_2_0), wrap_id]
                refine CallA.pure (eqSSS_same _ _ _ _ (OS.rd how24_2_0) (OS.rd how5_2_0)) ?_
                try simp -implicitDefEqProofs (disch := first | decide | assumption | (simp (disch := decide) only [slotOf_zero, slotOf_succ, Option.map_some, puts_same, puts_ne, gv_bool, gv_undef, tt, tf, ft, ff, eq_self, if_true, if_false, Bool.false_eq_true, Bool.not_true, Bool.not_false]; done) | omega) only [go_sem, RdS.len hdX sl37, RdS.idx hdX sl37, R1.intB hdX (Ext.pres eB), RdS.cells hdX, RdS.len hmX sl38, RdS.idx hmX sl38, RdS.cellB hmX (Ext.pres eB), RdS.cells hmX, RdS.len (OS.rd how5_2_0) sl38, RdS.idx (OS.rd how5_2_0) sl38, RdS.cellN (OS.rd how5_2_0), RdS.cells (OS.rd how5_2_0), RdS.len (OS.rd hog17_2) sl38, RdS.idx (OS.rd hog17_2) sl38, RdS.cellN (OS.rd hog17_2), RdS.cells (OS.rd hog17_2), RdS.len (OS.rd how24_2_0) sl38, RdS.idx (OS.rd how24_2_0) sl38, RdS.cellN (OS.rd how24_2_0), RdS.cells (OS.rd how24_2_0), wrap_id]
                try simp -implicitDefEqProofs (disch := first | decide | assumption | (simp (disch := decide) only [slotOf_zero, slotOf_succ, Option.map_some, puts_same, puts_ne, gv_bool, gv_undef, tt, tf, ft, ff, eq_self, if_true, if_false, Bool.false_eq_true, Bool.not_true, Bool.not_false]; done) | omega) only [go_sem, RdS.len hdX sl37, RdS.idx hdX sl37, R1.intB hdX (Ext.pres eB), RdS.cells hdX, RdS.len hmX sl38, RdS.idx hmX sl38, RdS.cellB hmX (Ext.pres eB), RdS.cells hmX, RdS.len (OS.rd how5_2_0) sl38, RdS.idx (OS.rd how5_2_0) sl38, RdS.cellN (OS.rd how5_2_0), RdS.cells (OS.rd how5_2_0), RdS.len (OS.rd hog17_2) sl38, RdS.idx (OS.rd hog17_2) sl38, RdS.cellN (OS.rd hog17_2), RdS.cells (OS.rd hog17_2), RdS.len (OS.rd how24_2_0) sl38, RdS.idx (OS.rd how24_2_0) sl38, RdS.cellN (OS.rd how24_2_0), RdS.cells (OS.rd how24_2_0), wrap_id]
                refine hK _ _ ?_
                clear hK K
                refine den_stop ?_
                refine ⟨?_, rfl⟩
                first | (simp (disch := decide) only [go_sem, eq_self, Bool.true_and, Bool.and_true, Bool.false_and, Bool.and_false, Bool.true_or, Bool.or_true, Bool.false_or, Bool.or_false, if_true, if_false, Bool.false_eq_true]; done) | simp [HasL, sel, puts_at]
              intro en14
              simp (disch := decide) only [go_sem]
              refine den_cond rfl (fun c6 => ?_) (fun c6 => ?_)
              · try simp only [decide_eq_true_eq, decide_eq_false_iff_not, beq_iff_eq, beq_eq_false_iff_ne, bne_iff_ne, ne_eq, Bool.not_eq_true', Bool.not_eq_false', Bool.and_eq_true, Bool.or_eq_true, bne_eq_false_iff_eq] at c6
                refine den_seq ?_
                refine den_region TTok ?_
                intro K hK
                simp -implicitDefEqProofs (disch := first | decide | assumption | omega) only [go_sem, RdS.len hdX sl37, RdS.idx hdX sl37, R1.intB hdX (Ext.pres eB), RdS.cells hdX, RdS.len hmX sl38, RdS.idx hmX sl38, RdS.cellB hmX (Ext.pres eB), RdS.cells hmX, wrap_id]
                refine hK _ _ ?_
                clear hK K
                refine den_ret ?_
                simp (disch := decide) only [resP_1, puts_same, puts_ne]
                exact absurd c6 (by first | (simp; done) | (simp; omega) | omega | (simp [eqC_self]; done))
              · try simp only [decide_eq_true_eq, decide_eq_false_iff_not, beq_iff_eq, beq_eq_false_iff_ne, bne_iff_ne, ne_eq, Bool.not_eq_true', Bool.not_eq_false', Bool.and_eq_true, Bool.or_eq_true, bne_eq_false_iff_eq] at c6
                refine den_skip ?_
                refine den_seq ?_
                refine den_region TTok ?_
                intro K hK
                simp -implicitDefEqProofs (disch := first | decide | assumption | omega) only [go_sem, RdS.len hdX sl37, RdS.idx hdX sl37, R1.intB hdX (Ext.pres eB), RdS.cells hdX, RdS.len hmX sl38, RdS.idx hmX sl38, RdS.cellB hmX (Ext.pres eB), RdS.cells hmX, RdS.len (OS.rd hog17_2) sl38, RdS.idx (OS.rd hog17_2) sl38, RdS.cellN (OS.rd hog17_2), RdS.cells (OS.rd hog17_2), wrap_id]
                refine hK _ _ ?_
                clear hK K
                refine den_seq ?_
                refine den_region TTok ?_
                intro K hK
                simp -implicitDefEqProofs (disch := first | decide | assumption | omega) only [go_sem, RdS.len hdX sl37, RdS.idx hdX sl37, R1.intB hdX (Ext.pres eB), RdS.cells hdX, RdS.len hmX sl38, RdS.idx hmX sl38, RdS.cellB hmX (Ext.pres eB), RdS.cells hmX, RdS.len (OS.rd hog17_2) sl38, RdS.idx (OS.rd hog17_2) sl38, RdS.cellN (OS.rd hog17_2), RdS.cells (OS.rd hog17_2), wrap_id]
                try simp -implicitDefEqProofs (disch := first | decide | assumption | omega) only [go_sem, RdS.len hdX sl37, RdS.idx hdX sl37, R1.intB hdX (Ext.pres eB), RdS.cells hdX, RdS.len hmX sl38, RdS.idx hmX sl38, RdS.cellB hmX (Ext.pres eB), RdS.cells hmX, RdS.len (OS.rd hog17_2) sl38, RdS.idx (OS.rd hog17_2) sl38, RdS.cellN (OS.rd hog17_2), RdS.cells (OS.rd hog17_2), wrap_id]
                refine CallA.pure (heldSSS_ok _ ((idP X).1) (1 : Int) _ (OS.rd hog17_2) (by omega)) ?_
                try simp -implicitDefEqProofs (disch := first | decide | assumption | omega) only [go_sem, RdS.len hdX sl37, RdS.idx hdX sl37, R1.intB hdX (Ext.pres eB), RdS.cells hdX, RdS.len hmX sl38, RdS.idx hmX sl38, RdS.cellB hmX (Ext.pres eB), RdS.cells hmX, RdS.len (OS.rd hog17_2) sl38, RdS.idx (OS.rd hog17_2) sl38, RdS.cellN (OS.rd hog17_2), RdS.cells (OS.rd hog17_2), wrap_id]
                refine hK _ _ ?_
                clear hK K
                refine den_seq ?_
                refine den_seq ?_
                refine den_region TTok ?_
                intro K hK
                simp -implicitDefEqProofs (disch := first | decide | assumption | omega) only [go_sem, RdS.len hdX sl37, RdS.idx hdX sl37, R1.intB hdX (Ext.pres eB), RdS.cells hdX, RdS.len hmX sl38, RdS.idx hmX sl38, RdS.cellB hmX (Ext.pres eB), RdS.cells hmX, wrap_id]
                refine hK _ _ ?_
                clear hK K
                refine den_cond rfl (fun c7 => ?_) (fun c7 => ?_)
                · try simp only [decide_eq_true_eq, decide_eq_false_iff_not, beq_iff_eq, beq_eq_false_iff_ne, bne_iff_ne, ne_eq, Bool.not_eq_true', Bool.not_eq_false', Bool.and_eq_true, Bool.or_eq_true, bne_eq_false_iff_eq] at c7
                  refine den_seq ?_
                  refine den_region TTok ?_
                  intro K hK
                  simp -implicitDefEqProofs (disch := first | decide | assumption | omega) only [go_sem, RdS.len hdX sl37, RdS.idx hdX sl37, R1.intB hdX (Ext.pres eB), RdS.cells hdX, RdS.len hmX sl38, RdS.idx hmX sl38, RdS.cellB hmX (Ext.pres eB), RdS.cells hmX, wrap_id]
                  refine hK _ _ ?_
                  clear hK K
                  refine den_ret ?_
                  simp (disch := decide) only [resP_1, puts_same, puts_ne]
                  exact absurd c7 (by first | (simp; done) | (simp; omega) | omega | (simp [eqC_self]; done))
                · try simp only [decide_eq_true_eq, decide_eq_false_iff_not, beq_iff_eq, beq_eq_false_iff_ne, bne_iff_ne, ne_eq, Bool.not_eq_true', Bool.not_eq_false', Bool.and_eq_true, Bool.or_eq_true, bne_eq_false_iff_eq] at c7
                  refine den_skip ?_
                  refine den_seq ?_
                  refine den_seq ?_
                  refine den_region TTok ?_
                  intro K hK
                  simp -implicitDefEqProofs (disch := first | decide | assumption | omega) only [go_sem, RdS.len hdX sl37, RdS.idx hdX sl37, R1.intB hdX (Ext.pres eB), RdS.cells hdX, RdS.len hmX sl38, RdS.idx hmX sl38, RdS.cellB hmX (Ext.pres eB), RdS.cells hmX, wrap_id]
                  refine hK _ _ ?_
                  clear hK K
                  refine den_cond rfl (fun c8 => ?_) (fun c8 => ?_)
                  · try simp only [decide_eq_true_eq, decide_eq_false_iff_not, beq_iff_eq, beq_eq_false_iff_ne, bne_iff_ne, ne_eq, Bool.not_eq_true', Bool.not_eq_false', Bool.and_eq_true, Bool.or_eq_true, bne_eq_false_iff_eq] at c8
                    refine den_seq ?_
                    refine den_region TTok ?_
                    intro K hK
                    simp -implicitDefEqProofs (disch := first | decide | assumption | omega) only [go_sem, RdS.len hdX sl37, RdS.idx hdX sl37, R1.intB hdX (Ext.pres eB), RdS.cells hdX, RdS.len hmX sl38, RdS.idx hmX sl38, RdS.cellB hmX (Ext.pres eB), RdS.cells hmX, wrap_id]
                    refine hK _ _ ?_
                    clear hK K
                    refine den_ret ?_
                    simp (disch := decide) only [resP_1, puts_same, puts_ne]
                    exact absurd c8 (by first | (simp; done) | (simp; omega) | omega | (simp [eqC_self]; done))
                  · try simp only [decide_eq_true_eq, decide_eq_false_iff_not, beq_iff_eq, beq_eq_false_iff_ne, bne_iff_ne, ne_eq, Bool.not_eq_true', Bool.not_eq_false', Bool.and_eq_true, Bool.or_eq_true, bne_eq_false_iff_eq] at c8
                    refine den_skip ?_
                    refine den_seq ?_
                    refine den_region TTok ?_
                    intro K hK
                    simp -implicitDefEqProofs (disch := first | decide | assumption | omega) only [go_sem, RdS.len hdX sl37, RdS.idx hdX sl37, R1.intB hdX (Ext.pres eB), RdS.cells hdX, RdS.len hmX sl38, RdS.idx hmX sl38, RdS.cellB hmX (Ext.pres eB), RdS.cells hmX, wrap_id]
                    refine hK _ _ ?_
                    clear hK K
                    refine den_ret ?_
                    simp (disch := decide) only [resP_1, puts_same, puts_ne]
                    exact ⟨by first | rfl | trivial, eB⟩

end Go.Proofs.Ytkkjhomhndpphaa
