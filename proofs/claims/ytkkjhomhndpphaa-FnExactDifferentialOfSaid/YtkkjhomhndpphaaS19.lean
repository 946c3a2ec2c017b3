/-
  Walks: ZeroMaps.
  Conditions: each theorem's own.
-/
import Derived.Test.YtkkjhomhndpphaaS18
set_option linter.unusedVariables false
set_option linter.unusedSimpArgs false
namespace Go.Proofs.Ytkkjhomhndpphaa
open Go
theorem zrows_repl {p w : Int} {R : List (List Int)} (h : Tbl p w R) : zrows R = List.replicate R.length (List.replicate w.toNat 0) := by
  refine List.eq_replicate_iff.2 ⟨by simp [zrows], fun b hb => ?_⟩
  obtain ⟨r, hr, rfl⟩ := List.mem_map.1 hb
  have := (h r hr).1
  rw [zrow, show r.length = w.toNat by omega]
theorem blank_zm {X : Cx} (hC : IsC X) : zblk X.dims (X.dims.length - 1) = X.maps.map zrows := by
  have hm := hC.ml
  apply List.ext_getElem
  · rw [zblk_len, List.length_map]; omega
  · intro k h1 h2
    have hk : k < X.maps.length := by simpa using h2
    have t := tableP_iff.1 (hC.tb k hk)
    have d2 := dm_at hC.dm (k := k + 1) (by omega)
    have e : ((k : Int) + 1).toNat = k + 1 := by omega
    rw [e] at t
    have hg : X.maps.getD k default = X.maps[k] := by rw [List.getD_eq_getElem?_getD, List.getElem?_eq_getElem hk]; rfl
    rw [hg] at t
    have hl : (X.dims.getD (k + 1) 0).toNat = X.maps[k].length := by omega
    simp only [zblk, List.getElem_map, List.getElem_range]
    rw [zrows_repl t.2, hl]

set_option maxRecDepth 100000 in
theorem iZero_ok (v : Value) (X : Cx) (h : Heap) (hv : RC h v X) : CallA Try.prog 24 #[v] h fun v' h' => ∃ w fp, v' = .tuple #[w, .int .i64 (zmP X).2] ∧ O3 h' w (zmP X).1 fp ∧ Fresh h.size fp ∧ Ext h h' := by
  obtain ⟨vd, vm, rfl, hd, hm⟩ := hv
  have hle := RdS.le hd
  refine callA_intro TTok (args := [_]) Try.func24 (by kernel_rfl) rfl 13 rfl (by simp) [.tmp 2, .tmp 3] rfl ?_
  simp only [idxs, Nat.reduceAdd]
  refine den_seq ?_
  refine den_region TTok ?_
  intro K hK
  simp -implicitDefEqProofs (disch := first | decide | assumption | omega) only [go_sem, RdS.len hd sl37, RdS.idx hd sl37, R1.intB hd (HPres.refl _), RdS.cells hd, RdS.len hm sl38, RdS.idx hm sl38, RdS.cellB hm (HPres.refl _), RdS.cells hm]
  refine op_box (cs := #[.int .i64 (X.p), vd, vm]) rfl ?_
  intro h0_0 e0_0 hb0_0 z0_0
  replace hd := RdS.pres hd (Ext.pres e0_0)
  replace hm := RdS.pres hm (Ext.pres e0_0)
  try simp -implicitDefEqProofs (disch := first | decide | assumption | omega) only [go_sem, RdS.len hd sl37, RdS.idx hd sl37, R1.intB hd (HPres.refl _), RdS.cells hd, RdS.len hm sl38, RdS.idx hm sl38, RdS.cellB hm (HPres.refl _), RdS.cells hm, BoxAt.cell hb0_0]
  refine hK _ _ ?_
  clear hK K
  refine den_seq ?_
  refine den_seq ?_
  refine den_region TTok ?_
  intro K hK
  simp -implicitDefEqProofs (disch := first | decide | assumption | omega) only [go_sem, ld44, RdS.len hd sl37, RdS.idx hd sl37, R1.intB hd (HPres.refl _), RdS.cells hd, RdS.len hm sl38, RdS.idx hm sl38, RdS.cellB hm (HPres.refl _), RdS.cells hm, BoxAt.cell hb0_0]
  try simp -implicitDefEqProofs (disch := first | decide | assumption | omega) only [go_sem, RdS.len hd sl37, RdS.idx hd sl37, R1.intB hd (HPres.refl _), RdS.cells hd, RdS.len hm sl38, RdS.idx hm sl38, RdS.cellB hm (HPres.refl _), RdS.cells hm, BoxAt.cell hb0_0]
  refine CallA.mono (iIs_ok _ X _ ⟨_, _, rfl, hd, hm⟩) ?_
  intro v_ h1_1
  rintro ⟨rfl, e1_1⟩
  have := Ext.size e1_1
  have eB := e1_1
  try simp -implicitDefEqProofs (disch := first | decide | assumption | omega) only [go_sem, RdS.len hd sl37, RdS.idx hd sl37, R1.intB hd (Ext.pres eB), RdS.cells hd, RdS.len hm sl38, RdS.idx hm sl38, RdS.cellB hm (Ext.pres eB), RdS.cells hm, BoxAt.cellB hb0_0 eB]
  refine hK _ _ ?_
  clear hK K
  refine den_cond rfl (fun c0 => ?_) (fun c0 => ?_)
  · try simp only [decide_eq_true_eq, decide_eq_false_iff_not, beq_iff_eq, beq_eq_false_iff_ne, bne_iff_ne, ne_eq, Bool.not_eq_true', Bool.not_eq_false', Bool.and_eq_true, Bool.or_eq_true, bne_eq_false_iff_eq, Bool.not_eq_true] at c0
    refine den_seq ?_
    refine den_region TTok ?_
    intro K hK
    simp -implicitDefEqProofs (disch := first | decide | assumption | omega) only [go_sem, RdS.len hd sl37, RdS.idx hd sl37, R1.intB hd (Ext.pres eB), RdS.cells hd, RdS.len hm sl38, RdS.idx hm sl38, RdS.cellB hm (Ext.pres eB), RdS.cells hm, BoxAt.cellB hb0_0 eB]
    refine hK _ _ ?_
    clear hK K
    refine den_ret ?_
    simp (disch := decide) only [resP_2, puts_same, puts_ne]
    have hz : zmP X = ([], 1) := by rw [zmP, if_neg (by rw [c0]; decide)]
    rw [hz]
    exact ⟨.slice none 0 0, [], rfl, OS.nil, Fresh.nil _, (Ext.trans e0_0 eB)⟩
  · try simp only [decide_eq_true_eq, decide_eq_false_iff_not, beq_iff_eq, beq_eq_false_iff_ne, bne_iff_ne, ne_eq, Bool.not_eq_true', Bool.not_eq_false', Bool.and_eq_true, Bool.or_eq_true, bne_eq_false_iff_eq, Bool.not_eq_true] at c0
    refine den_skip ?_
    refine den_seq ?_
    have hC := isC_t.1 c0
    refine den_region TTok ?_
    intro K hK
    simp -implicitDefEqProofs (disch := first | decide | assumption | omega) only [go_sem, fa44_0, fa44_1, ld37, ld2, RdS.len hd sl37, RdS.idx hd sl37, R1.intB hd (Ext.pres eB), RdS.cells hd, RdS.len hm sl38, RdS.idx hm sl38, RdS.cellB hm (Ext.pres eB), RdS.cells hm, BoxAt.cellB hb0_0 eB]
    try simp -implicitDefEqProofs (disch := first | decide | assumption | omega) only [go_sem, RdS.len hd sl37, RdS.idx hd sl37, R1.intB hd (Ext.pres eB), RdS.cells hd, RdS.len hm sl38, RdS.idx hm sl38, RdS.cellB hm (Ext.pres eB), RdS.cells hm, BoxAt.cellB hb0_0 eB]
    refine CallA.mono (blank_ok _ _ X.dims _ (RdS.pres hd (Ext.pres eB)) hC.dm (by have := hC.len; omega)) ?_
    intro v_ h3_4
    rintro ⟨vw3_4, fw3_4, rfl, how3_4, hfw3_4, e3_4⟩
    have := Ext.size e3_4
    replace eB := Ext.trans eB e3_4
    have hlhow3_4 := OS.lt how3_4
    try simp -implicitDefEqProofs (disch := first | decide | assumption | omega) only [go_sem, fd44_2, RdS.len hd sl37, RdS.idx hd sl37, R1.intB hd (Ext.pres eB), RdS.cells hd, RdS.len hm sl38, RdS.idx hm sl38, RdS.cellB hm (Ext.pres eB), RdS.cells hm, RdS.len (OS.rd how3_4) sl38, RdS.idx (OS.rd how3_4) sl38, RdS.cellN (OS.rd how3_4), RdS.cells (OS.rd how3_4), BoxAt.cellB hb0_0 eB]
    refine hK _ _ ?_
    clear hK K
    refine den_ret ?_
    simp (disch := decide) only [resP_2, puts_same, puts_ne]
    have hz : zmP X = (X.maps.map zrows, 0) := by rw [zmP, if_pos c0]
    rw [blank_zm hC] at how3_4
    rw [hz]
    exact ⟨_, _, rfl, how3_4, hfw3_4.mono (by omega), (Ext.trans e0_0 eB)⟩

set_option maxRecDepth 100000 in
theorem markC_ok (vd vm : Value) (X : Cx) (k : Int) (f1 f2 : List Nat) (h : Heap) (hod : O1 h vd X.dims f1) (hom : O3 h vm X.maps f2) (hf : (f1 ++ f2).Nodup) (hk : 0 ≤ k ∧ k + cnt1 X.dims + cnt3 X.maps ≤ 4611686018427387904) : CallA Try.prog 26 #[.agg #[.int .i64 X.p, vd, vm], .int .i64 k] h fun u h' => (∃ q, u = .int .i64 q ∧ 0 ≤ q ∧ q ≤ k + cnt1 X.dims + cnt3 X.maps) ∧ Chg (f1 ++ f2) h h' := by
  have hl1 := OS.lt hod
  have hn1 := (List.nodup_append.1 hf).1
  have hn2 := (List.nodup_append.1 hf).2.1
  have hap : ∀ b ∈ f2, b ∉ f1 := fun b hb hm => (List.nodup_append.1 hf).2.2 b hm b hb rfl
  have hc1 := cnt1_nn X.dims
  have hc3 := cnt3_nn X.maps
  refine callA_intro TTok (args := [_, _]) Try.func26 (by kernel_rfl) rfl 14 rfl (by simp) [.tmp 4] rfl ?_
  simp only [idxs, Nat.reduceAdd]
  refine den_seq ?_
  refine den_region TTok ?_
  intro K hK
  simp -implicitDefEqProofs (disch := first | decide | assumption | omega) only [go_sem, RdS.len (OS.rd hod) sl37, RdS.idx (OS.rd hod) sl37, R1.intN (OS.rd hod), RdS.cells (OS.rd hod), RdS.len (OS.rd hom) sl38, RdS.idx (OS.rd hom) sl38, RdS.cellN (OS.rd hom), RdS.cells (OS.rd hom)]
  refine op_box (cs := #[.int .i64 (X.p), vd, vm]) rfl ?_
  intro h0_0 e0_0 hb0_0 z0_0
  replace hod := OS.ext hod e0_0
  replace hom := OS.ext hom e0_0
  have := Ext.size e0_0
  have eB := e0_0
  try simp -implicitDefEqProofs (disch := first | decide | assumption | omega) only [go_sem, RdS.len (OS.rd hod) sl37, RdS.idx (OS.rd hod) sl37, R1.intN (OS.rd hod), RdS.cells (OS.rd hod), RdS.len (OS.rd hom) sl38, RdS.idx (OS.rd hom) sl38, RdS.cellN (OS.rd hom), RdS.cells (OS.rd hom), BoxAt.cell hb0_0]
  refine hK _ _ ?_
  clear hK K
  refine den_seq ?_
  refine den_region TTok ?_
  intro K hK
  simp -implicitDefEqProofs (disch := first | decide | assumption | omega) only [go_sem, fa44_1, ld37, RdS.len (OS.rd hod) sl37, RdS.idx (OS.rd hod) sl37, R1.intN (OS.rd hod), RdS.cells (OS.rd hod), RdS.len (OS.rd hom) sl38, RdS.idx (OS.rd hom) sl38, RdS.cellN (OS.rd hom), RdS.cells (OS.rd hom), BoxAt.cell hb0_0]
  try simp -implicitDefEqProofs (disch := first | decide | assumption | omega) only [go_sem, RdS.len (OS.rd hod) sl37, RdS.idx (OS.rd hod) sl37, R1.intN (OS.rd hod), RdS.cells (OS.rd hod), RdS.len (OS.rd hom) sl38, RdS.idx (OS.rd hom) sl38, RdS.cellN (OS.rd hom), RdS.cells (OS.rd hom), BoxAt.cell hb0_0]
  refine CallA.mono (markS_ok _ _ k _ _ hod hn1 (by omega)) ?_
  intro v_ h1_3
  rintro ⟨rfl, hod2, c1⟩
  replace hom := OS.chg hom c1 hap
  replace hb0_0 := BoxAt.chg hb0_0 c1 (fun hm => by have := hl1 _ hm; omega)
  try simp -implicitDefEqProofs (disch := first | decide | assumption | omega) only [go_sem, RdS.len (OS.rd hod) sl37, RdS.idx (OS.rd hod) sl37, R1.intN (OS.rd hod), RdS.cells (OS.rd hod), RdS.len (OS.rd hom) sl38, RdS.idx (OS.rd hom) sl38, RdS.cellN (OS.rd hom), RdS.cells (OS.rd hom), BoxAt.cell hb0_0]
  refine hK _ _ ?_
  clear hK K
  refine den_seq ?_
  refine den_region TTok ?_
  intro K hK
  simp -implicitDefEqProofs (disch := first | decide | assumption | omega) only [go_sem, fa44_2, ld38, RdS.len (OS.rd hod) sl37, RdS.idx (OS.rd hod) sl37, R1.intN (OS.rd hod), RdS.cells (OS.rd hod), RdS.len (OS.rd hom) sl38, RdS.idx (OS.rd hom) sl38, RdS.cellN (OS.rd hom), RdS.cells (OS.rd hom), BoxAt.cell hb0_0]
  try simp -implicitDefEqProofs (disch := first | decide | assumption | omega) only [go_sem, RdS.len (OS.rd hod) sl37, RdS.idx (OS.rd hod) sl37, R1.intN (OS.rd hod), RdS.cells (OS.rd hod), RdS.len (OS.rd hom) sl38, RdS.idx (OS.rd hom) sl38, RdS.cellN (OS.rd hom), RdS.cells (OS.rd hom), BoxAt.cell hb0_0]
  refine CallA.mono (markSSS_ok _ _ (k + cnt1 X.dims) _ _ hom hn2 (by simp only [cnt3] at *; omega)) ?_
  intro v_ h2_3
  rintro ⟨rfl, hom2, c2⟩
  try simp -implicitDefEqProofs (disch := first | decide | assumption | omega) only [go_sem, RdS.len (OS.rd hod) sl37, RdS.idx (OS.rd hod) sl37, R1.intN (OS.rd hod), RdS.cells (OS.rd hod), RdS.len (OS.rd hom) sl38, RdS.idx (OS.rd hom) sl38, RdS.cellN (OS.rd hom), RdS.cells (OS.rd hom), BoxAt.cell hb0_0]
  refine hK _ _ ?_
  clear hK K
  refine den_seq ?_
  refine den_region TTok ?_
  intro K hK
  simp -implicitDefEqProofs (disch := first | decide | assumption | omega) only [go_sem, RdS.len (OS.rd hod) sl37, RdS.idx (OS.rd hod) sl37, R1.intN (OS.rd hod), RdS.cells (OS.rd hod), RdS.len (OS.rd hom) sl38, RdS.idx (OS.rd hom) sl38, RdS.cellN (OS.rd hom), RdS.cells (OS.rd hom), BoxAt.cell hb0_0]
  refine hK _ _ ?_
  clear hK K
  refine den_ret ?_
  simp (disch := decide) only [resP_1, puts_same, puts_ne]
  have e : cntL cnt2 X.maps = cnt3 X.maps := rfl
  exact ⟨⟨_, rfl, by omega, by omega⟩, ((eB.chg _).trans (c1.mono (fun b hb => List.mem_append_left _ hb))).trans (c2.mono (fun b hb => List.mem_append_right _ hb))⟩

end Go.Proofs.Ytkkjhomhndpphaa
