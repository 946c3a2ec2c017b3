/-
  Walks: ZeroFamily.
  Conditions: each theorem's own.
-/
import Derived.Test.YtkkjhomhndpphaaA4
set_option linter.unusedVariables false
set_option linter.unusedSimpArgs false
namespace Go.Proofs.Ytkkjhomhndpphaa
open Go
def zrowsP (X Y : Cx) (s : Int) (k : Nat) : List (List Int) := List.replicate (dimP X k).toNat (List.replicate (dimP Y ((k : Int) + s)).toNat 0)
noncomputable def zfC (X Y : Cx) (s : Int) : Int := cadd (pairC X Y) 2 (!(in3 s 0 1))
noncomputable def zfP (X Y : Cx) (s : Int) : List (List (List Int)) × Int := if zfC X Y s = 0 then ((List.range X.dims.length).map (zrowsP X Y s), 0) else ([], zfC X Y s)
theorem zfC_0 {X Y : Cx} {s : Int} (h : zfC X Y s = 0) : IsC X ∧ IsC Y ∧ 0 ≤ s ∧ s ≤ 1 := by
  obtain ⟨h1, h2⟩ := (cadd_0 (by decide)).1 h
  obtain ⟨hX, hY, _⟩ := pairC_0 h1
  simp only [Bool.not_eq_false', in3_iff] at h2
  exact ⟨hX, hY, h2.1, h2.2⟩
theorem cnt_zf (X Y : Cx) (s : Int) : 0 ≤ cntL cnt2 (zfP X Y s).1 ∧ cntL cnt2 (zfP X Y s).1 ≤ 384 := by
  unfold zfP
  split
  · rename_i hc
    obtain ⟨hX, hY, h0, h1⟩ := zfC_0 hc
    have hl := hX.len
    have := cntL_bnd (ct := cnt2) (c := 64) (by omega) (xs := (List.range X.dims.length).map (zrowsP X Y s)) (m := 6) (fun x hx => by
      obtain ⟨k, hk, rfl⟩ := List.mem_map.1 hx
      have d1 := dimP_bnd hX k
      have d2 := dimP_bnd hY ((k : Int) + s)
      have := cntL_bnd (ct := cnt1) (c := 8) (by omega) (xs := zrowsP X Y s k) (m := 8) (fun y hy => by
        rw [List.eq_of_mem_replicate hy, cnt1, List.length_replicate]; omega) (by simp [zrowsP]; omega)
      have e : cntL cnt1 (zrowsP X Y s k) = cnt2 (zrowsP X Y s k) := rfl
      exact ⟨by omega, by omega⟩) (by simp; omega)
    exact ⟨this.1, this.2⟩
  · exact ⟨Int.le_refl _, by show (0 : Int) ≤ _; decide⟩

set_option maxRecDepth 100000 in
theorem l04Zero_ok (vX vY : Value) (X : Cx) (Y : Cx) (s : Int) (h : Heap) (rX : RC h vX X) (rY : RC h vY Y) (hX : IsC X) (hY : IsC Y) (hs : 0 ≤ s ∧ s ≤ 1) : CallA Try.prog 123 #[vX, vY, .int .i64 s] h fun v' h' => ∃ w0 f0, v' = w0 ∧ O3 h' w0 ((List.range X.dims.length).map (zrowsP X Y s)) f0 ∧ Fresh h.size f0 ∧ Ext h h' := by
  obtain ⟨vdX, vmX, rfl, hdX, hmX⟩ := rX
  have hledX := RdS.le hdX
  have hlemX := RdS.le hmX
  obtain ⟨vdY, vmY, rfl, hdY, hmY⟩ := rY
  have hledY := RdS.le hdY
  have hlemY := RdS.le hmY
  refine callA_intro TTok (args := [_, _, _]) Try.func123 (by kernel_rfl) rfl 43 rfl (by simp) [.tmp 6] rfl ?_
  simp only [idxs, Nat.reduceAdd]
  refine den_seq ?_
  refine den_region TTok ?_
  intro K hK
  simp -implicitDefEqProofs (disch := first | decide | assumption | omega) only [go_sem, RdS.len hdX sl37, RdS.idx hdX sl37, R1.intB hdX (HPres.refl _), RdS.cells hdX, RdS.len hmX sl38, RdS.idx hmX sl38, RdS.cellB hmX (HPres.refl _), RdS.cells hmX, RdS.len hdY sl37, RdS.idx hdY sl37, R1.intB hdY (HPres.refl _), RdS.cells hdY, RdS.len hmY sl38, RdS.idx hmY sl38, RdS.cellB hmY (HPres.refl _), RdS.cells hmY, wrap_id]
  refine op_box (cs := #[.int .i64 (X.p), vdX, vmX]) rfl ?_
  intro h0_0 e0_0 hb0_0 z0_0
  have := Ext.size e0_0
  have eB := e0_0
  have hfhb0_0 : Fresh h.size [h.size] := Fresh.one _
  have hlhb0_0 := one_lt (show h.size < h0_0.size by omega)
  try simp -implicitDefEqProofs (disch := first | decide | assumption | omega) only [go_sem, RdS.len hdX sl37, RdS.idx hdX sl37, R1.intB hdX (Ext.pres eB), RdS.cells hdX, RdS.len hmX sl38, RdS.idx hmX sl38, RdS.cellB hmX (Ext.pres eB), RdS.cells hmX, RdS.len hdY sl37, RdS.idx hdY sl37, R1.intB hdY (Ext.pres eB), RdS.cells hdY, RdS.len hmY sl38, RdS.idx hmY sl38, RdS.cellB hmY (Ext.pres eB), RdS.cells hmY, BoxAt.cell hb0_0, wrap_id]
  refine op_box (cs := #[.int .i64 (Y.p), vdY, vmY]) rfl ?_
  intro h0_1 e0_1 hb0_1 z0_1
  replace hb0_0 := BoxAt.ext hb0_0 e0_1
  have := Ext.size e0_1
  replace eB := Ext.trans eB e0_1
  have hfhb0_1 : Fresh h0_0.size [h0_0.size] := Fresh.one _
  have hlhb0_1 := one_lt (show h0_0.size < h0_1.size by omega)
  try simp -implicitDefEqProofs (disch := first | decide | assumption | omega) only [go_sem, RdS.len hdX sl37, RdS.idx hdX sl37, R1.intB hdX (Ext.pres eB), RdS.cells hdX, RdS.len hmX sl38, RdS.idx hmX sl38, RdS.cellB hmX (Ext.pres eB), RdS.cells hmX, RdS.len hdY sl37, RdS.idx hdY sl37, R1.intB hdY (Ext.pres eB), RdS.cells hdY, RdS.len hmY sl38, RdS.idx hmY sl38, RdS.cellB hmY (Ext.pres eB), RdS.cells hmY, BoxAt.cell hb0_0, BoxAt.cell hb0_1, wrap_id]
  refine hK _ _ ?_
  clear hK K
  refine den_seq ?_
  refine den_region TTok ?_
  intro K hK
  simp -implicitDefEqProofs (disch := first | decide | assumption | omega) only [go_sem, RdS.len hdX sl37, RdS.idx hdX sl37, R1.intB hdX (Ext.pres eB), RdS.cells hdX, RdS.len hmX sl38, RdS.idx hmX sl38, RdS.cellB hmX (Ext.pres eB), RdS.cells hmX, RdS.len hdY sl37, RdS.idx hdY sl37, R1.intB hdY (Ext.pres eB), RdS.cells hdY, RdS.len hmY sl38, RdS.idx hmY sl38, RdS.cellB hmY (Ext.pres eB), RdS.cells hmY, BoxAt.cell hb0_0, BoxAt.cell hb0_1, wrap_id]
  refine op_bs0 sz38 O2 ?_
  intro v1_0 h1_0 ho1_0 e1_0
  replace hb0_0 := BoxAt.ext hb0_0 e1_0
  replace hb0_1 := BoxAt.ext hb0_1 e1_0
  have := Ext.size e1_0
  replace eB := Ext.trans eB e1_0
  have hfho1_0 : Fresh h0_1.size [h0_1.size] := Fresh.one _
  have hlho1_0 := OS.lt ho1_0
  try simp -implicitDefEqProofs (disch := first | decide | assumption | omega) only [go_sem, RdS.len hdX sl37, RdS.idx hdX sl37, R1.intB hdX (Ext.pres eB), RdS.cells hdX, RdS.len hmX sl38, RdS.idx hmX sl38, RdS.cellB hmX (Ext.pres eB), RdS.cells hmX, RdS.len hdY sl37, RdS.idx hdY sl37, R1.intB hdY (Ext.pres eB), RdS.cells hdY, RdS.len hmY sl38, RdS.idx hmY sl38, RdS.cellB hmY (Ext.pres eB), RdS.cells hmY, RdS.len (OS.rd ho1_0) sl38, RdS.idx (OS.rd ho1_0) sl38, RdS.cellN (OS.rd ho1_0), RdS.cells (OS.rd ho1_0), BoxAt.cell hb0_0, BoxAt.cell hb0_1, wrap_id]
  refine hK _ _ ?_
  clear hK K
  refine den_seq ?_
  refine den_seq ?_
  refine den_region TTok ?_
  intro K hK
  simp -implicitDefEqProofs (disch := first | decide | assumption | omega) only [go_sem, RdS.len hdX sl37, RdS.idx hdX sl37, R1.intB hdX (Ext.pres eB), RdS.cells hdX, RdS.len hmX sl38, RdS.idx hmX sl38, RdS.cellB hmX (Ext.pres eB), RdS.cells hmX, RdS.len hdY sl37, RdS.idx hdY sl37, R1.intB hdY (Ext.pres eB), RdS.cells hdY, RdS.len hmY sl38, RdS.idx hmY sl38, RdS.cellB hmY (Ext.pres eB), RdS.cells hmY, RdS.len (OS.rd ho1_0) sl38, RdS.idx (OS.rd ho1_0) sl38, RdS.cellN (OS.rd ho1_0), RdS.cells (OS.rd ho1_0), BoxAt.cell hb0_0, BoxAt.cell hb0_1, wrap_id]
  refine hK _ _ ?_
  clear hK K
  refine den_block ?_
  refine den_sel [7, 8, 2, 3, 4] ?_
  intro env_1
  simp only [go_sem]
  refine den_loopS (σ := Nat × Value × List Nat) (fun st_ => [(7, st_.2.1), (8, .int .i64 (st_.1 : Int))]) (fun st_ H => st_.1 ≤ X.dims.length ∧ O3 H st_.2.1 ((List.range st_.1).map (zrowsP X Y s)) st_.2.2 ∧ Fresh (h0_1.size) st_.2.2 ∧ Sub [h0_1.size] h1_0.size st_.2.2 ∧ Chg [h0_1.size] h1_0 H) (fun st_ => X.dims.length - st_.1) (0, v1_0, [h0_1.size]) ?_ ?_
  · exact ⟨by first | (simp; done) | (dsimp only; omega) | (simp; omega), by simpa using ho1_0, hfho1_0, Sub.refl, Chg.refl _ _⟩
  · rintro ⟨k, vhO, fphO⟩ h4 ee3 ⟨hi0, hO, hfhO, sbhO, cL2⟩
    dsimp only at hi0 hO hfhO sbhO cL2
    replace hb0_0 := BoxAt.chgA hb0_0 cL2 (apart_lt hlhb0_0 hfho1_0 (by omega))
    replace hb0_1 := BoxAt.chgA hb0_1 cL2 (apart_lt hlhb0_1 hfho1_0 (by omega))
    have := cL2.size
    replace eB := Ext.then eB cL2 (ge_of hfho1_0 (by omega))
    have hlhO := OS.lt hO
    simp only [List.cons_append, List.nil_append]
    refine den_seq ?_
    refine den_seq ?_
    refine den_region TTok ?_
    intro K hK
    simp -implicitDefEqProofs (disch := first | decide | assumption | omega) only [go_sem, fa44_1, ld37, RdS.len hdX sl37, RdS.idx hdX sl37, R1.intB hdX (Ext.pres eB), RdS.cells hdX, RdS.len hmX sl38, RdS.idx hmX sl38, RdS.cellB hmX (Ext.pres eB), RdS.cells hmX, RdS.len hdY sl37, RdS.idx hdY sl37, R1.intB hdY (Ext.pres eB), RdS.cells hdY, RdS.len hmY sl38, RdS.idx hmY sl38, RdS.cellB hmY (Ext.pres eB), RdS.cells hmY, RdS.len (OS.rd hO) sl38, RdS.idx (OS.rd hO) sl38, RdS.cellN (OS.rd hO), RdS.cells (OS.rd hO), BoxAt.cell hb0_0, BoxAt.cell hb0_1, wrap_id]
    refine hK _ _ ?_
    clear hK K
    refine den_cond rfl (fun c0 => ?_) (fun c0 => ?_)
    · try simp only [decide_eq_true_eq, decide_eq_false_iff_not, beq_iff_eq, beq_eq_false_iff_ne, bne_iff_ne, ne_eq, Bool.not_eq_true', Bool.not_eq_false', Bool.and_eq_true, Bool.or_eq_true, bne_eq_false_iff_eq] at c0
      refine den_skip ?_
      refine den_seq ?_
      refine den_block ?_
      refine den_seq ?_
      have hdx := dimP_bnd hX k
      have hdy := dimP_bnd hY ((k : Int) + s)
      have hlx := hX.len
      have hdat := dimP_at (X := X) (k := k) (by omega)
      have hlt : ((List.range k).map (zrowsP X Y s)).length = k := by simp
      refine den_region TTok ?_
      intro K hK
      simp -implicitDefEqProofs (disch := first | decide | assumption | omega) only [go_sem, RdS.len hdX sl37, RdS.idx hdX sl37, R1.intB hdX (Ext.pres eB), RdS.cells hdX, RdS.len hmX sl38, RdS.idx hmX sl38, RdS.cellB hmX (Ext.pres eB), RdS.cells hmX, RdS.len hdY sl37, RdS.idx hdY sl37, R1.intB hdY (Ext.pres eB), RdS.cells hdY, RdS.len hmY sl38, RdS.idx hmY sl38, RdS.cellB hmY (Ext.pres eB), RdS.cells hmY, RdS.len (OS.rd hO) sl38, RdS.idx (OS.rd hO) sl38, RdS.cellN (OS.rd hO), RdS.cells (OS.rd hO), BoxAt.cell hb0_0, BoxAt.cell hb0_1, wrap_id]
      refine op_bs0 sz65 O1 ?_
      intro v5_0 h5_0 ho5_0 e5_0
      replace hO := OS.ext hO e5_0
      replace hb0_0 := BoxAt.ext hb0_0 e5_0
      replace hb0_1 := BoxAt.ext hb0_1 e5_0
      have := Ext.size e5_0
      replace eB := Ext.trans eB e5_0
      replace cL2 := Chg.stepE cL2 e5_0
      have hfho5_0 : Fresh h4.size [h4.size] := Fresh.one _
      have hlho5_0 := OS.lt ho5_0
      try simp -implicitDefEqProofs (disch := first | decide | assumption | omega) only [go_sem, RdS.len hdX sl37, RdS.idx hdX sl37, R1.intB hdX (Ext.pres eB), RdS.cells hdX, RdS.len hmX sl38, RdS.idx hmX sl38, RdS.cellB hmX (Ext.pres eB), RdS.cells hmX, RdS.len hdY sl37, RdS.idx hdY sl37, R1.intB hdY (Ext.pres eB), RdS.cells hdY, RdS.len hmY sl38, RdS.idx hmY sl38, RdS.cellB hmY (Ext.pres eB), RdS.cells hmY, RdS.len (OS.rd hO) sl38, RdS.idx (OS.rd hO) sl38, RdS.cellN (OS.rd hO), RdS.cells (OS.rd hO), RdS.len (OS.rd ho5_0) sl65, RdS.idx (OS.rd ho5_0) sl65, RdS.cellN (OS.rd ho5_0), RdS.cells (OS.rd ho5_0), BoxAt.cell hb0_0, BoxAt.cell hb0_1, wrap_id]
      refine hK _ _ ?_
      clear hK K
      refine den_seq ?_
      refine den_seq ?_
      refine den_region TTok ?_
      intro K hK
      simp -implicitDefEqProofs (disch := first | decide | assumption | omega) only [go_sem, RdS.len hdX sl37, RdS.idx hdX sl37, R1.intB hdX (Ext.pres eB), RdS.cells hdX, RdS.len hmX sl38, RdS.idx hmX sl38, RdS.cellB hmX (Ext.pres eB), RdS.cells hmX, RdS.len hdY sl37, RdS.idx hdY sl37, R1.intB hdY (Ext.pres eB), RdS.cells hdY, RdS.len hmY sl38, RdS.idx hmY sl38, RdS.cellB hmY (Ext.pres eB), RdS.cells hmY, RdS.len (OS.rd hO) sl38, RdS.idx (OS.rd hO) sl38, RdS.cellN (OS.rd hO), RdS.cells (OS.rd hO), RdS.len (OS.rd ho5_0) sl65, RdS.idx (OS.rd ho5_0) sl65, RdS.cellN (OS.rd ho5_0), RdS.cells (OS.rd ho5_0), BoxAt.cell hb0_0, BoxAt.cell hb0_1, wrap_id]
      refine hK _ _ ?_
      clear hK K
      refine den_block ?_
      refine den_sel [9, 10, 2, 3, 4, 7, 8] ?_
      intro env_5
      simp only [go_sem]
      refine den_loopS (σ := Nat × Value × List Nat) (fun st_ => [(9, st_.2.1), (10, .int .i64 (st_.1 : Int))]) (fun st_ H => (st_.1 : Int) ≤ dimP X k ∧ O2 H st_.2.1 (List.replicate st_.1 (List.replicate (dimP Y ((k : Int) + s)).toNat 0)) st_.2.2 ∧ Fresh (h4.size) st_.2.2 ∧ Sub [h4.size] h5_0.size st_.2.2 ∧ Chg [h4.size] h5_0 H) (fun st_ => (dimP X k).toNat - st_.1) (0, v5_0, [h4.size]) ?_ ?_
      · exact ⟨by first | (simp; done) | (dsimp only; omega) | (simp; omega), by simpa using ho5_0, hfho5_0, Sub.refl, Chg.refl _ _⟩
      · rintro ⟨m, vhR, fphR⟩ h8 ee7 ⟨hi0, hR, hfhR, sbhR, cL6⟩
        dsimp only at hi0 hR hfhR sbhR cL6
        replace hO := OS.chg hO cL6 (apart_lt hlhO hfho5_0 (by omega))
        replace hb0_0 := BoxAt.chgA hb0_0 cL6 (apart_lt hlhb0_0 hfho5_0 (by omega))
        replace hb0_1 := BoxAt.chgA hb0_1 cL6 (apart_lt hlhb0_1 hfho5_0 (by omega))
        have := cL6.size
        replace eB := Ext.then eB cL6 (ge_of hfho5_0 (by omega))
        replace cL2 := Chg.step cL2 cL6 (Sub.fresh hfho5_0 (by omega))
        have hlhR := OS.lt hR
        simp only [List.cons_append, List.nil_append]
        have hlr : (List.replicate m (List.replicate (dimP Y ((k : Int) + s)).toNat (0 : Int))).length = m := List.length_replicate
        refine den_seq ?_
        refine den_seq ?_
        refine den_region TTok ?_
        intro K hK
        simp -implicitDefEqProofs (disch := first | decide | assumption | omega) only [go_sem, fa44_1, ld37, ld2, RdS.len hdX sl37, RdS.idx hdX sl37, R1.intB hdX (Ext.pres eB), RdS.cells hdX, RdS.len hmX sl38, RdS.idx hmX sl38, RdS.cellB hmX (Ext.pres eB), RdS.cells hmX, RdS.len hdY sl37, RdS.idx hdY sl37, R1.intB hdY (Ext.pres eB), RdS.cells hdY, RdS.len hmY sl38, RdS.idx hmY sl38, RdS.cellB hmY (Ext.pres eB), RdS.cells hmY, RdS.len (OS.rd hO) sl38, RdS.idx (OS.rd hO) sl38, RdS.cellN (OS.rd hO), RdS.cells (OS.rd hO), RdS.len (OS.rd hR) sl65, RdS.idx (OS.rd hR) sl65, RdS.cellN (OS.rd hR), RdS.cells (OS.rd hR), BoxAt.cell hb0_0, BoxAt.cell hb0_1, wrap_id]
        refine hK _ _ ?_
        clear hK K
        refine den_cond rfl (fun c1 => ?_) (fun c1 => ?_)
        · try simp only [decide_eq_true_eq, decide_eq_false_iff_not, beq_iff_eq, beq_eq_false_iff_ne, bne_iff_ne, ne_eq, Bool.not_eq_true', Bool.not_eq_false', Bool.and_eq_true, Bool.or_eq_true, bne_eq_false_iff_eq] at c1
          refine den_skip ?_
          refine den_seq ?_
          refine den_block ?_
          refine den_region TTok ?_
          intro K hK
          simp -implicitDefEqProofs (disch := first | decide | assumption | omega) only [go_sem, ld44, RdS.len hdX sl37, RdS.idx hdX sl37, R1.intB hdX (Ext.pres eB), RdS.cells hdX, RdS.len hmX sl38, RdS.idx hmX sl38, RdS.cellB hmX (Ext.pres eB), RdS.cells hmX, RdS.len hdY sl37, RdS.idx hdY sl37, R1.intB hdY (Ext.pres eB), RdS.cells hdY, RdS.len hmY sl38, RdS.idx hmY sl38, RdS.cellB hmY (Ext.pres eB), RdS.cells hmY, RdS.len (OS.rd hO) sl38, RdS.idx (OS.rd hO) sl38, RdS.cellN (OS.rd hO), RdS.cells (OS.rd hO), RdS.len (OS.rd hR) sl65, RdS.idx (OS.rd hR) sl65, RdS.cellN (OS.rd hR), RdS.cells (OS.rd hR), BoxAt.cell hb0_0, BoxAt.cell hb0_1, wrap_id]
          try simp -implicitDefEqProofs (disch := first | decide | assumption | omega) only [go_sem, RdS.len hdX sl37, RdS.idx hdX sl37, R1.intB hdX (Ext.pres eB), RdS.cells hdX, RdS.len hmX sl38, RdS.idx hmX sl38, RdS.cellB hmX (Ext.pres eB), RdS.cells hmX, RdS.len hdY sl37, RdS.idx hdY sl37, R1.intB hdY (Ext.pres eB), RdS.cells hdY, RdS.len hmY sl38, RdS.idx hmY sl38, RdS.cellB hmY (Ext.pres eB), RdS.cells hmY, RdS.len (OS.rd hO) sl38, RdS.idx (OS.rd hO) sl38, RdS.cellN (OS.rd hO), RdS.cells (OS.rd hO), RdS.len (OS.rd hR) sl65, RdS.idx (OS.rd hR) sl65, RdS.cellN (OS.rd hR), RdS.cells (OS.rd hR), BoxAt.cell hb0_0, BoxAt.cell hb0_1, wrap_id]
          refine CallA.mono (sDim_ok _ Y _ _ ⟨_, _, rfl, (RdS.pres hdY (Ext.pres eB)), (RdS.pres hmY (Ext.pres eB))⟩) ?_
          intro v_ h9_5
          rintro ⟨rfl, e9_5⟩
          replace hO := OS.ext hO e9_5
          replace hR := OS.ext hR e9_5
          replace hb0_0 := BoxAt.ext hb0_0 e9_5
          replace hb0_1 := BoxAt.ext hb0_1 e9_5
          have := Ext.size e9_5
          replace eB := Ext.trans eB e9_5
          replace cL2 := Chg.stepE cL2 e9_5
          replace cL6 := Chg.stepE cL6 e9_5
          try simp -implicitDefEqProofs (disch := first | decide | assumption | omega) only [go_sem, RdS.len hdX sl37, RdS.idx hdX sl37, R1.intB hdX (Ext.pres eB), RdS.cells hdX, RdS.len hmX sl38, RdS.idx hmX sl38, RdS.cellB hmX (Ext.pres eB), RdS.cells hmX, RdS.len hdY sl37, RdS.idx hdY sl37, R1.intB hdY (Ext.pres eB), RdS.cells hdY, RdS.len hmY sl38, RdS.idx hmY sl38, RdS.cellB hmY (Ext.pres eB), RdS.cells hmY, RdS.len (OS.rd hO) sl38, RdS.idx (OS.rd hO) sl38, RdS.cellN (OS.rd hO), RdS.cells (OS.rd hO), RdS.len (OS.rd hR) sl65, RdS.idx (OS.rd hR) sl65, RdS.cellN (OS.rd hR), RdS.cells (OS.rd hR), BoxAt.cell hb0_0, BoxAt.cell hb0_1, wrap_id]
          refine op_make sz37 rfl rfl (by omega) (by omega) OI 0 (fun _ => ⟨rfl, rfl⟩) ?_
          intro v9_6 h9_6 ho9_6 e9_6
          replace hO := OS.ext hO e9_6
          replace hR := OS.ext hR e9_6
          replace hb0_0 := BoxAt.ext hb0_0 e9_6
          replace hb0_1 := BoxAt.ext hb0_1 e9_6
          have := Ext.size e9_6
          replace eB := Ext.trans eB e9_6
          replace cL2 := Chg.stepE cL2 e9_6
          replace cL6 := Chg.stepE cL6 e9_6
          have hfho9_6 : Fresh h9_5.size [h9_5.size] := Fresh.one _
          have hlenho9_6 : (List.replicate ((dimP Y ((k : Int) + s))).toNat (0 : Int)).length = ((dimP Y ((k : Int) + s))).toNat := List.length_replicate
          have hlho9_6 := OS.lt ho9_6
          try simp -implicitDefEqProofs (disch := first | decide | assumption | omega) only [go_sem, RdS.len hdX sl37, RdS.idx hdX sl37, R1.intB hdX (Ext.pres eB), RdS.cells hdX, RdS.len hmX sl38, RdS.idx hmX sl38, RdS.cellB hmX (Ext.pres eB), RdS.cells hmX, RdS.len hdY sl37, RdS.idx hdY sl37, R1.intB hdY (Ext.pres eB), RdS.cells hdY, RdS.len hmY sl38, RdS.idx hmY sl38, RdS.cellB hmY (Ext.pres eB), RdS.cells hmY, RdS.len (OS.rd hO) sl38, RdS.idx (OS.rd hO) sl38, RdS.cellN (OS.rd hO), RdS.cells (OS.rd hO), RdS.len (OS.rd hR) sl65, RdS.idx (OS.rd hR) sl65, RdS.cellN (OS.rd hR), RdS.cells (OS.rd hR), RdS.len (OS.rd ho9_6) sl37, RdS.idx (OS.rd ho9_6) sl37, R1.intN (OS.rd ho9_6), RdS.cells (OS.rd ho9_6), BoxAt.cell hb0_0, BoxAt.cell hb0_1, wrap_id]
          refine op_bs1 sz65 rfl (OS.one ho9_6).2 ?_
          try simp -implicitDefEqProofs (disch := first | decide | assumption | omega) only [go_sem, RdS.len hdX sl37, RdS.idx hdX sl37, R1.intB hdX (Ext.pres eB), RdS.cells hdX, RdS.len hmX sl38, RdS.idx hmX sl38, RdS.cellB hmX (Ext.pres eB), RdS.cells hmX, RdS.len hdY sl37, RdS.idx hdY sl37, R1.intB hdY (Ext.pres eB), RdS.cells hdY, RdS.len hmY sl38, RdS.idx hmY sl38, RdS.cellB hmY (Ext.pres eB), RdS.cells hmY, RdS.len (OS.rd hO) sl38, RdS.idx (OS.rd hO) sl38, RdS.cellN (OS.rd hO), RdS.cells (OS.rd hO), RdS.len (OS.rd hR) sl65, RdS.idx (OS.rd hR) sl65, RdS.cellN (OS.rd hR), RdS.cells (OS.rd hR), RdS.len (OS.rd ho9_6) sl37, RdS.idx (OS.rd ho9_6) sl37, R1.intN (OS.rd ho9_6), RdS.cells (OS.rd ho9_6), BoxAt.cell hb0_0, BoxAt.cell hb0_1, wrap_id]
          refine op_append1 sz65 hR hfhR.nodup ho9_6 hfho9_6.nodup (apart_lt hlhR hfho9_6 (by omega)) (by first | omega | (simp; omega)) rfl rfl ?_
          intro v9_8 h9_8 fp9_8 ho9_8 hn9_8 hs9_8 c9_8
          have hsz9_8 := c9_8.size
          have hfho9_8 : Fresh h4.size fp9_8 := Fresh.appd hfhR hfho9_6 (by omega) (by omega) hn9_8 hs9_8
          have sb9 : Sub [h4.size] h5_0.size fp9_8 := Sub.grow sbhR (Sub.fresh hfho9_6 (by omega)) (by omega) hs9_8
          replace hO := OS.chg hO c9_8 (apart_lt hlhO hfhR (by omega))
          replace hb0_0 := BoxAt.chgA hb0_0 c9_8 (apart_lt hlhb0_0 hfhR (by omega))
          replace hb0_1 := BoxAt.chgA hb0_1 c9_8 (apart_lt hlhb0_1 hfhR (by omega))
          have := c9_8.size
          replace eB := Ext.then eB c9_8 (ge_of hfhR (by omega))
          replace cL2 := Chg.step cL2 c9_8 (Sub.fresh hfhR (by omega))
          replace cL6 := Chg.step cL6 c9_8 sbhR
          have hlho9_8 := OS.lt ho9_8
          try simp -implicitDefEqProofs (disch := first | decide | assumption | omega) only [go_sem, RdS.len hdX sl37, RdS.idx hdX sl37, R1.intB hdX (Ext.pres eB), RdS.cells hdX, RdS.len hmX sl38, RdS.idx hmX sl38, RdS.cellB hmX (Ext.pres eB), RdS.cells hmX, RdS.len hdY sl37, RdS.idx hdY sl37, R1.intB hdY (Ext.pres eB), RdS.cells hdY, RdS.len hmY sl38, RdS.idx hmY sl38, RdS.cellB hmY (Ext.pres eB), RdS.cells hmY, RdS.len (OS.rd hO) sl38, RdS.idx (OS.rd hO) sl38, RdS.cellN (OS.rd hO), RdS.cells (OS.rd hO), RdS.len (OS.rd ho9_8) sl65, RdS.idx (OS.rd ho9_8) sl65, RdS.cellN (OS.rd ho9_8), RdS.cells (OS.rd ho9_8), BoxAt.cell hb0_0, BoxAt.cell hb0_1, wrap_id]
          refine hK _ _ ?_
          clear hK K
          refine den_blk ?_
          refine den_region TTok ?_
          intro K hK
          simp -implicitDefEqProofs (disch := first | decide | assumption | omega) only [go_sem, RdS.len hdX sl37, RdS.idx hdX sl37, R1.intB hdX (Ext.pres eB), RdS.cells hdX, RdS.len hmX sl38, RdS.idx hmX sl38, RdS.cellB hmX (Ext.pres eB), RdS.cells hmX, RdS.len hdY sl37, RdS.idx hdY sl37, R1.intB hdY (Ext.pres eB), RdS.cells hdY, RdS.len hmY sl38, RdS.idx hmY sl38, RdS.cellB hmY (Ext.pres eB), RdS.cells hmY, RdS.len (OS.rd hO) sl38, RdS.idx (OS.rd hO) sl38, RdS.cellN (OS.rd hO), RdS.cells (OS.rd hO), RdS.len (OS.rd ho9_8) sl65, RdS.idx (OS.rd ho9_8) sl65, RdS.cellN (OS.rd ho9_8), RdS.cells (OS.rd ho9_8), BoxAt.cell hb0_0, BoxAt.cell hb0_1, wrap_id]
          refine hK _ _ ?_
          clear hK K
          refine den_stop ?_
          rw [← List.replicate_succ'] at ho9_8
          exact ⟨(m + 1, v9_8, fp9_8), by simp [HasL, puts_at], ⟨by first | omega | (dsimp only; omega), ho9_8, hfho9_8, sb9, cL6⟩, by first | omega | (dsimp only; omega)⟩
        · try simp only [decide_eq_true_eq, decide_eq_false_iff_not, beq_iff_eq, beq_eq_false_iff_ne, bne_iff_ne, ne_eq, Bool.not_eq_true', Bool.not_eq_false', Bool.and_eq_true, Bool.or_eq_true, bne_eq_false_iff_eq] at c1
          refine den_exit ?_
          refine denX_code ?_
          refine denX_stop ?_
          refine denX_hit ?_
          refine den_region TTok ?_
          intro K hK
          simp -implicitDefEqProofs (disch := first | decide | assumption | omega) only [go_sem, RdS.len hdX sl37, RdS.idx hdX sl37, R1.intB hdX (Ext.pres eB), RdS.cells hdX, RdS.len hmX sl38, RdS.idx hmX sl38, RdS.cellB hmX (Ext.pres eB), RdS.cells hmX, RdS.len hdY sl37, RdS.idx hdY sl37, R1.intB hdY (Ext.pres eB), RdS.cells hdY, RdS.len hmY sl38, RdS.idx hmY sl38, RdS.cellB hmY (Ext.pres eB), RdS.cells hmY, RdS.len (OS.rd hO) sl38, RdS.idx (OS.rd hO) sl38, RdS.cellN (OS.rd hO), RdS.cells (OS.rd hO), RdS.len (OS.rd hR) sl65, RdS.idx (OS.rd hR) sl65, RdS.cellN (OS.rd hR), RdS.cells (OS.rd hR), BoxAt.cell hb0_0, BoxAt.cell hb0_1, wrap_id]
          refine op_bs1 sz38 rfl (OS.one hR).2 ?_
          try simp -implicitDefEqProofs (disch := first | decide | assumption | omega) only [go_sem, RdS.len hdX sl37, RdS.idx hdX sl37, R1.intB hdX (Ext.pres eB), RdS.cells hdX, RdS.len hmX sl38, RdS.idx hmX sl38, RdS.cellB hmX (Ext.pres eB), RdS.cells hmX, RdS.len hdY sl37, RdS.idx hdY sl37, R1.intB hdY (Ext.pres eB), RdS.cells hdY, RdS.len hmY sl38, RdS.idx hmY sl38, RdS.cellB hmY (Ext.pres eB), RdS.cells hmY, RdS.len (OS.rd hO) sl38, RdS.idx (OS.rd hO) sl38, RdS.cellN (OS.rd hO), RdS.cells (OS.rd hO), RdS.len (OS.rd hR) sl65, RdS.idx (OS.rd hR) sl65, RdS.cellN (OS.rd hR), RdS.cells (OS.rd hR), BoxAt.cell hb0_0, BoxAt.cell hb0_1, wrap_id]
          refine op_append1 sz38 hO hfhO.nodup hR hfhR.nodup (apart_lt hlhO hfhR (by omega)) (by first | omega | (simp; omega)) rfl rfl ?_
          intro v10_3 h10_3 fp10_3 ho10_3 hn10_3 hs10_3 c10_3
          have hsz10_3 := c10_3.size
          have hfho10_3 : Fresh h0_1.size fp10_3 := Fresh.appd hfhO hfhR (by omega) (by omega) hn10_3 hs10_3
          have sb10 : Sub [h0_1.size] h1_0.size fp10_3 := Sub.grow sbhO (Sub.fresh hfhR (by omega)) (by omega) hs10_3
          replace hb0_0 := BoxAt.chgA hb0_0 c10_3 (apart_lt hlhb0_0 hfhO (by omega))
          replace hb0_1 := BoxAt.chgA hb0_1 c10_3 (apart_lt hlhb0_1 hfhO (by omega))
          have := c10_3.size
          replace eB := Ext.then eB c10_3 (ge_of hfhO (by omega))
          replace cL2 := Chg.step cL2 c10_3 sbhO
          have hlho10_3 := OS.lt ho10_3
          try simp -implicitDefEqProofs (disch := first | decide | assumption | omega) only [go_sem, RdS.len hdX sl37, RdS.idx hdX sl37, R1.intB hdX (Ext.pres eB), RdS.cells hdX, RdS.len hmX sl38, RdS.idx hmX sl38, RdS.cellB hmX (Ext.pres eB), RdS.cells hmX, RdS.len hdY sl37, RdS.idx hdY sl37, R1.intB hdY (Ext.pres eB), RdS.cells hdY, RdS.len hmY sl38, RdS.idx hmY sl38, RdS.cellB hmY (Ext.pres eB), RdS.cells hmY, RdS.len (OS.rd ho10_3) sl38, RdS.idx (OS.rd ho10_3) sl38, RdS.cellN (OS.rd ho10_3), RdS.cells (OS.rd ho10_3), BoxAt.cell hb0_0, BoxAt.cell hb0_1, wrap_id]
          refine hK _ _ ?_
          clear hK K
          refine den_blk ?_
          refine den_region TTok ?_
          intro K hK
          simp -implicitDefEqProofs (disch := first | decide | assumption | omega) only [go_sem, RdS.len hdX sl37, RdS.idx hdX sl37, R1.intB hdX (Ext.pres eB), RdS.cells hdX, RdS.len hmX sl38, RdS.idx hmX sl38, RdS.cellB hmX (Ext.pres eB), RdS.cells hmX, RdS.len hdY sl37, RdS.idx hdY sl37, R1.intB hdY (Ext.pres eB), RdS.cells hdY, RdS.len hmY sl38, RdS.idx hmY sl38, RdS.cellB hmY (Ext.pres eB), RdS.cells hmY, RdS.len (OS.rd ho10_3) sl38, RdS.idx (OS.rd ho10_3) sl38, RdS.cellN (OS.rd ho10_3), RdS.cells (OS.rd ho10_3), BoxAt.cell hb0_0, BoxAt.cell hb0_1, wrap_id]
          refine hK _ _ ?_
          clear hK K
          refine den_stop ?_
          rw [show List.replicate m (List.replicate (dimP Y ((k : Int) + s)).toNat 0) = zrowsP X Y s k by rw [zrowsP, show (dimP X k).toNat = m by omega], range_step (zrowsP X Y s)] at ho10_3
          exact ⟨(k + 1, v10_3, fp10_3), by simp [HasL, puts_at], ⟨by first | omega | (dsimp only; omega), ho10_3, hfho10_3, sb10, cL2⟩, by first | omega | (dsimp only; omega)⟩
    · try simp only [decide_eq_true_eq, decide_eq_false_iff_not, beq_iff_eq, beq_eq_false_iff_ne, bne_iff_ne, ne_eq, Bool.not_eq_true', Bool.not_eq_false', Bool.and_eq_true, Bool.or_eq_true, bne_eq_false_iff_eq] at c0
      refine den_exit ?_
      refine denX_code ?_
      refine denX_stop ?_
      refine denX_hit ?_
      refine den_seq ?_
      refine den_region TTok ?_
      intro K hK
      simp -implicitDefEqProofs (disch := first | decide | assumption | omega) only [go_sem, RdS.len hdX sl37, RdS.idx hdX sl37, R1.intB hdX (Ext.pres eB), RdS.cells hdX, RdS.len hmX sl38, RdS.idx hmX sl38, RdS.cellB hmX (Ext.pres eB), RdS.cells hmX, RdS.len hdY sl37, RdS.idx hdY sl37, R1.intB hdY (Ext.pres eB), RdS.cells hdY, RdS.len hmY sl38, RdS.idx hmY sl38, RdS.cellB hmY (Ext.pres eB), RdS.cells hmY, RdS.len (OS.rd hO) sl38, RdS.idx (OS.rd hO) sl38, RdS.cellN (OS.rd hO), RdS.cells (OS.rd hO), wrap_id]
      refine hK _ _ ?_
      clear hK K
      refine den_ret ?_
      simp (disch := decide) only [resP_1, puts_same, puts_ne]
      rw [show k = X.dims.length by omega] at hO
      exact ⟨_, _, rfl, hO, hfhO.mono (by omega), eB⟩

set_option maxRecDepth 100000 in
theorem sZf_ok (vX vY : Value) (X : Cx) (Y : Cx) (s : Int) (h : Heap) (rX : RC h vX X) (rY : RC h vY Y)  : CallA Try.prog 48 #[vX, vY, .int .i64 s] h fun v' h' => ∃ w0 f0, v' = .tuple #[w0, .int .i64 ((zfP X Y s).2)] ∧ O3 h' w0 ((zfP X Y s).1) f0 ∧ Fresh h.size f0 ∧ Ext h h' := by
  obtain ⟨vdX, vmX, rfl, hdX, hmX⟩ := rX
  have hledX := RdS.le hdX
  have hlemX := RdS.le hmX
  obtain ⟨vdY, vmY, rfl, hdY, hmY⟩ := rY
  have hledY := RdS.le hdY
  have hlemY := RdS.le hmY
  refine callA_intro TTok (args := [_, _, _]) Try.func48 (by kernel_rfl) rfl 26 rfl (by simp) [.tmp 6, .tmp 7] rfl ?_
  simp only [idxs, Nat.reduceAdd]
  refine den_seq ?_
  refine den_region TTok ?_
  intro K hK
  simp -implicitDefEqProofs (disch := first | decide | assumption | omega) only [go_sem, RdS.len hdX sl37, RdS.idx hdX sl37, R1.intB hdX (HPres.refl _), RdS.cells hdX, RdS.len hmX sl38, RdS.idx hmX sl38, RdS.cellB hmX (HPres.refl _), RdS.cells hmX, RdS.len hdY sl37, RdS.idx hdY sl37, R1.intB hdY (HPres.refl _), RdS.cells hdY, RdS.len hmY sl38, RdS.idx hmY sl38, RdS.cellB hmY (HPres.refl _), RdS.cells hmY, wrap_id]
  refine op_box (cs := #[.int .i64 (X.p), vdX, vmX]) rfl ?_
  intro h0_0 e0_0 hb0_0 z0_0
  have := Ext.size e0_0
  have eB := e0_0
  have hfhb0_0 : Fresh h.size [h.size] := Fresh.one _
  have hlhb0_0 := one_lt (show h.size < h0_0.size by omega)
  try simp -implicitDefEqProofs (disch := first | decide | assumption | omega) only [go_sem, RdS.len hdX sl37, RdS.idx hdX sl37, R1.intB hdX (Ext.pres eB), RdS.cells hdX, RdS.len hmX sl38, RdS.idx hmX sl38, RdS.cellB hmX (Ext.pres eB), RdS.cells hmX, RdS.len hdY sl37, RdS.idx hdY sl37, R1.intB hdY (Ext.pres eB), RdS.cells hdY, RdS.len hmY sl38, RdS.idx hmY sl38, RdS.cellB hmY (Ext.pres eB), RdS.cells hmY, BoxAt.cell hb0_0, wrap_id]
  refine op_box (cs := #[.int .i64 (Y.p), vdY, vmY]) rfl ?_
  intro h0_1 e0_1 hb0_1 z0_1
  replace hb0_0 := BoxAt.ext hb0_0 e0_1
  have := Ext.size e0_1
  replace eB := Ext.trans eB e0_1
  have hfhb0_1 : Fresh h0_0.size [h0_0.size] := Fresh.one _
  have hlhb0_1 := one_lt (show h0_0.size < h0_1.size by omega)
  try simp -implicitDefEqProofs (disch := first | decide | assumption | omega) only [go_sem, RdS.len hdX sl37, RdS.idx hdX sl37, R1.intB hdX (Ext.pres eB), RdS.cells hdX, RdS.len hmX sl38, RdS.idx hmX sl38, RdS.cellB hmX (Ext.pres eB), RdS.cells hmX, RdS.len hdY sl37, RdS.idx hdY sl37, R1.intB hdY (Ext.pres eB), RdS.cells hdY, RdS.len hmY sl38, RdS.idx hmY sl38, RdS.cellB hmY (Ext.pres eB), RdS.cells hmY, BoxAt.cell hb0_0, BoxAt.cell hb0_1, wrap_id]
  refine hK _ _ ?_
  clear hK K
  refine den_seq ?_
  refine den_region TTok ?_
  intro K hK
  simp -implicitDefEqProofs (disch := first | decide | assumption | omega) only [go_sem, ld44, RdS.len hdX sl37, RdS.idx hdX sl37, R1.intB hdX (Ext.pres eB), RdS.cells hdX, RdS.len hmX sl38, RdS.idx hmX sl38, RdS.cellB hmX (Ext.pres eB), RdS.cells hmX, RdS.len hdY sl37, RdS.idx hdY sl37, R1.intB hdY (Ext.pres eB), RdS.cells hdY, RdS.len hmY sl38, RdS.idx hmY sl38, RdS.cellB hmY (Ext.pres eB), RdS.cells hmY, BoxAt.cell hb0_0, BoxAt.cell hb0_1, wrap_id]
  try simp -implicitDefEqProofs (disch := first | decide | assumption | omega) only [go_sem, RdS.len hdX sl37, RdS.idx hdX sl37, R1.intB hdX (Ext.pres eB), RdS.cells hdX, RdS.len hmX sl38, RdS.idx hmX sl38, RdS.cellB hmX (Ext.pres eB), RdS.cells hmX, RdS.len hdY sl37, RdS.idx hdY sl37, R1.intB hdY (Ext.pres eB), RdS.cells hdY, RdS.len hmY sl38, RdS.idx hmY sl38, RdS.cellB hmY (Ext.pres eB), RdS.cells hmY, BoxAt.cell hb0_0, BoxAt.cell hb0_1, wrap_id]
  refine CallA.mono (l04Two_ok _ _ X Y _ ⟨_, _, rfl, (RdS.pres hdX (Ext.pres eB)), (RdS.pres hmX (Ext.pres eB))⟩ ⟨_, _, rfl, (RdS.pres hdY (Ext.pres eB)), (RdS.pres hmY (Ext.pres eB))⟩ ) ?_
  intro v_ h1_2
  rintro ⟨rfl, e1_2⟩
  replace hb0_0 := BoxAt.ext hb0_0 e1_2
  replace hb0_1 := BoxAt.ext hb0_1 e1_2
  have := Ext.size e1_2
  replace eB := Ext.trans eB e1_2
  try simp -implicitDefEqProofs (disch := first | decide | assumption | omega) only [go_sem, RdS.len hdX sl37, RdS.idx hdX sl37, R1.intB hdX (Ext.pres eB), RdS.cells hdX, RdS.len hmX sl38, RdS.idx hmX sl38, RdS.cellB hmX (Ext.pres eB), RdS.cells hmX, RdS.len hdY sl37, RdS.idx hdY sl37, R1.intB hdY (Ext.pres eB), RdS.cells hdY, RdS.len hmY sl38, RdS.idx hmY sl38, RdS.cellB hmY (Ext.pres eB), RdS.cells hmY, BoxAt.cell hb0_0, BoxAt.cell hb0_1, wrap_id]
  refine hK _ _ ?_
  clear hK K
  refine den_seq ?_
  refine den_seq ?_
  refine den_mergeH [(18, .bool ((((pairC X Y) == (0 : Int)) && (!((in3 s (0 : Int) (1 : Int)))))))] [2, 3, 4, 8] ?_ ?_
    -- a way
  · refine den_region TTok ?_
    intro K hK
    simp -implicitDefEqProofs (disch := first | decide | assumption | (simp (disch := decide) only [slotOf_zero, slotOf_succ, Option.map_some, puts_same, puts_ne, gv_bool, gv_undef, tt, tf, ft, ff, eq_self, if_true, if_false, Bool.false_eq_true, Bool.not_true, Bool.not_false]; done) | omega) only [go_sem, RdS.len hdX sl37, RdS.idx hdX sl37, R1.intB hdX (Ext.pres eB), RdS.cells hdX, RdS.len hmX sl38, RdS.idx hmX sl38, RdS.cellB hmX (Ext.pres eB), RdS.cells hmX, RdS.len hdY sl37, RdS.idx hdY sl37, R1.intB hdY (Ext.pres eB), RdS.cells hdY, RdS.len hmY sl38, RdS.idx hmY sl38, RdS.cellB hmY (Ext.pres eB), RdS.cells hmY, BoxAt.cell hb0_0, BoxAt.cell hb0_1, wrap_id]
    refine opsP_T (by simp (disch := decide) only [slotOf_zero, slotOf_succ, Option.map_some, puts_same, puts_ne, gv_bool, gv_undef, tt, tf, ft, ff, eq_self, if_true, if_false, Bool.false_eq_true, Bool.not_true, Bool.not_false]; rfl) (fun g1 => ?_) (fun g1 => ?_)
    · try simp -implicitDefEqProofs (disch := first | decide | assumption | (simp (disch := decide) only [slotOf_zero, slotOf_succ, Option.map_some, puts_same, puts_ne, gv_bool, gv_undef, tt, tf, ft, ff, eq_self, if_true, if_false, Bool.false_eq_true, Bool.not_true, Bool.not_false, g1]; done) | omega) only [go_sem, RdS.len hdX sl37, RdS.idx hdX sl37, R1.intB hdX (Ext.pres eB), RdS.cells hdX, RdS.len hmX sl38, RdS.idx hmX sl38, RdS.cellB hmX (Ext.pres eB), RdS.cells hmX, RdS.len hdY sl37, RdS.idx hdY sl37, R1.intB hdY (Ext.pres eB), RdS.cells hdY, RdS.len hmY sl38, RdS.idx hmY sl38, RdS.cellB hmY (Ext.pres eB), RdS.cells hmY, BoxAt.cell hb0_0, BoxAt.cell hb0_1, wrap_id, g1, eq_self, if_true, if_false, Bool.false_eq_true]
      try simp -implicitDefEqProofs (disch := first | decide | assumption | omega) only [go_sem, RdS.len hdX sl37, RdS.idx hdX sl37, R1.intB hdX (Ext.pres eB), RdS.cells hdX, RdS.len hmX sl38, RdS.idx hmX sl38, RdS.cellB hmX (Ext.pres eB), RdS.cells hmX, RdS.len hdY sl37, RdS.idx hdY sl37, R1.intB hdY (Ext.pres eB), RdS.cells hdY, RdS.len hmY sl38, RdS.idx hmY sl38, RdS.cellB hmY (Ext.pres eB), RdS.cells hmY, BoxAt.cell hb0_0, BoxAt.cell hb0_1, wrap_id]
      refine CallA.pure (sIn_ok _ _ _ _) ?_
      try simp -implicitDefEqProofs (disch := first | decide | assumption | (simp (disch := decide) only [slotOf_zero, slotOf_succ, Option.map_some, puts_same, puts_ne, gv_bool, gv_undef, tt, tf, ft, ff, eq_self, if_true, if_false, Bool.false_eq_true, Bool.not_true, Bool.not_false, g1]; done) | omega) only [go_sem, RdS.len hdX sl37, RdS.idx hdX sl37, R1.intB hdX (Ext.pres eB), RdS.cells hdX, RdS.len hmX sl38, RdS.idx hmX sl38, RdS.cellB hmX (Ext.pres eB), RdS.cells hmX, RdS.len hdY sl37, RdS.idx hdY sl37, R1.intB hdY (Ext.pres eB), RdS.cells hdY, RdS.len hmY sl38, RdS.idx hmY sl38, RdS.cellB hmY (Ext.pres eB), RdS.cells hmY, BoxAt.cell hb0_0, BoxAt.cell hb0_1, wrap_id, g1, eq_self, if_true, if_false, Bool.false_eq_true]
      refine hK _ _ ?_
      clear hK K
      refine den_stop ?_
      refine ⟨?_, rfl⟩
      first | (simp (disch := decide) only [go_sem, g1, eq_self, Bool.true_and, Bool.and_true, Bool.false_and, Bool.and_false, Bool.true_or, Bool.or_true, Bool.false_or, Bool.or_false, if_true, if_false, Bool.false_eq_true]; done) | simp [HasL, sel, puts_at, g1]
    · try simp -implicitDefEqProofs (disch := first | decide | assumption | (simp (disch := decide) only [slotOf_zero, slotOf_succ, Option.map_some, puts_same, puts_ne, gv_bool, gv_undef, tt, tf, ft, ff, eq_self, if_true, if_false, Bool.false_eq_true, Bool.not_true, Bool.not_false, g1]; done) | omega) only [go_sem, RdS.len hdX sl37, RdS.idx hdX sl37, R1.intB hdX (Ext.pres eB), RdS.cells hdX, RdS.len hmX sl38, RdS.idx hmX sl38, RdS.cellB hmX (Ext.pres eB), RdS.cells hmX, RdS.len hdY sl37, RdS.idx hdY sl37, R1.intB hdY (Ext.pres eB), RdS.cells hdY, RdS.len hmY sl38, RdS.idx hmY sl38, RdS.cellB hmY (Ext.pres eB), RdS.cells hmY, BoxAt.cell hb0_0, BoxAt.cell hb0_1, wrap_id, g1, eq_self, if_true, if_false, Bool.false_eq_true]
      refine hK _ _ ?_
      clear hK K
      refine den_stop ?_
      refine ⟨?_, rfl⟩
      first | (simp (disch := decide) only [go_sem, g1, eq_self, Bool.true_and, Bool.and_true, Bool.false_and, Bool.and_false, Bool.true_or, Bool.or_true, Bool.false_or, Bool.or_false, if_true, if_false, Bool.false_eq_true]; done) | simp [HasL, sel, puts_at, g1]
  intro en2
  simp (disch := decide) only [go_sem]
  refine den_mergeH [(8, .int .i64 ((cadd (pairC X Y) (2 : Int) (!((in3 s (0 : Int) (1 : Int)))))))] [2, 3, 4] ?_ ?_
  · refine den_cond rfl (fun c0 => ?_) (fun c0 => ?_)
    · refine den_region TTok ?_
      intro K hK
      simp -implicitDefEqProofs (disch := first | decide | assumption | omega) only [go_sem, RdS.len hdX sl37, RdS.idx hdX sl37, R1.intB hdX (Ext.pres eB), RdS.cells hdX, RdS.len hmX sl38, RdS.idx hmX sl38, RdS.cellB hmX (Ext.pres eB), RdS.cells hmX, RdS.len hdY sl37, RdS.idx hdY sl37, R1.intB hdY (Ext.pres eB), RdS.cells hdY, RdS.len hmY sl38, RdS.idx hmY sl38, RdS.cellB hmY (Ext.pres eB), RdS.cells hmY, BoxAt.cell hb0_0, BoxAt.cell hb0_1, wrap_id]
      refine hK _ _ ?_
      clear hK K
      refine den_stop ?_
      refine ⟨?_, rfl⟩; simp (disch := decide) only [go_sem, c0, caddT c0, eq_self, if_true, if_false, Bool.false_eq_true, reduceCtorEq]
    · refine den_skip ?_
      refine den_stop ?_
      refine ⟨?_, rfl⟩; simp (disch := decide) only [go_sem, c0, caddF c0, eq_self, if_true, if_false, Bool.false_eq_true, reduceCtorEq]
  intro en5
  simp (disch := decide) only [go_sem]
  refine den_seq ?_
  refine den_seq ?_
  refine den_region TTok ?_
  intro K hK
  simp -implicitDefEqProofs (disch := first | decide | assumption | omega) only [go_sem, RdS.len hdX sl37, RdS.idx hdX sl37, R1.intB hdX (Ext.pres eB), RdS.cells hdX, RdS.len hmX sl38, RdS.idx hmX sl38, RdS.cellB hmX (Ext.pres eB), RdS.cells hmX, RdS.len hdY sl37, RdS.idx hdY sl37, R1.intB hdY (Ext.pres eB), RdS.cells hdY, RdS.len hmY sl38, RdS.idx hmY sl38, RdS.cellB hmY (Ext.pres eB), RdS.cells hmY, BoxAt.cell hb0_0, BoxAt.cell hb0_1, wrap_id]
  refine hK _ _ ?_
  clear hK K
  refine den_cond rfl (fun c1 => ?_) (fun c1 => ?_)
  · try simp only [decide_eq_true_eq, decide_eq_false_iff_not, beq_iff_eq, beq_eq_false_iff_ne, bne_iff_ne, ne_eq, Bool.not_eq_true', Bool.not_eq_false', Bool.and_eq_true, Bool.or_eq_true, bne_eq_false_iff_eq] at c1
    refine den_seq ?_
    refine den_region TTok ?_
    intro K hK
    simp -implicitDefEqProofs (disch := first | decide | assumption | omega) only [go_sem, RdS.len hdX sl37, RdS.idx hdX sl37, R1.intB hdX (Ext.pres eB), RdS.cells hdX, RdS.len hmX sl38, RdS.idx hmX sl38, RdS.cellB hmX (Ext.pres eB), RdS.cells hmX, RdS.len hdY sl37, RdS.idx hdY sl37, R1.intB hdY (Ext.pres eB), RdS.cells hdY, RdS.len hmY sl38, RdS.idx hmY sl38, RdS.cellB hmY (Ext.pres eB), RdS.cells hmY, wrap_id]
    refine hK _ _ ?_
    clear hK K
    refine den_ret ?_
    simp (disch := decide) only [resP_2, puts_same, puts_ne]
    have hz : zfP X Y s = ([], zfC X Y s) := by rw [zfP, if_neg (show ¬ zfC X Y s = 0 from c1)]
    rw [hz]
    exact ⟨.slice none 0 0, [], rfl, OS.nil, Fresh.nil _, eB⟩
  · try simp only [decide_eq_true_eq, decide_eq_false_iff_not, beq_iff_eq, beq_eq_false_iff_ne, bne_iff_ne, ne_eq, Bool.not_eq_true', Bool.not_eq_false', Bool.and_eq_true, Bool.or_eq_true, bne_eq_false_iff_eq] at c1
    obtain ⟨hX, hY, hs0, hs1⟩ := zfC_0 c1
    refine den_skip ?_
    refine den_seq ?_
    refine den_region TTok ?_
    intro K hK
    simp -implicitDefEqProofs (disch := first | decide | assumption | omega) only [go_sem, ld44, RdS.len hdX sl37, RdS.idx hdX sl37, R1.intB hdX (Ext.pres eB), RdS.cells hdX, RdS.len hmX sl38, RdS.idx hmX sl38, RdS.cellB hmX (Ext.pres eB), RdS.cells hmX, RdS.len hdY sl37, RdS.idx hdY sl37, R1.intB hdY (Ext.pres eB), RdS.cells hdY, RdS.len hmY sl38, RdS.idx hmY sl38, RdS.cellB hmY (Ext.pres eB), RdS.cells hmY, BoxAt.cell hb0_0, BoxAt.cell hb0_1, wrap_id]
    try simp -implicitDefEqProofs (disch := first | decide | assumption | omega) only [go_sem, RdS.len hdX sl37, RdS.idx hdX sl37, R1.intB hdX (Ext.pres eB), RdS.cells hdX, RdS.len hmX sl38, RdS.idx hmX sl38, RdS.cellB hmX (Ext.pres eB), RdS.cells hmX, RdS.len hdY sl37, RdS.idx hdY sl37, R1.intB hdY (Ext.pres eB), RdS.cells hdY, RdS.len hmY sl38, RdS.idx hmY sl38, RdS.cellB hmY (Ext.pres eB), RdS.cells hmY, BoxAt.cell hb0_0, BoxAt.cell hb0_1, wrap_id]
    refine CallA.mono (l04Zero_ok _ _ X Y s _ ⟨_, _, rfl, (RdS.pres hdX (Ext.pres eB)), (RdS.pres hmX (Ext.pres eB))⟩ ⟨_, _, rfl, (RdS.pres hdY (Ext.pres eB)), (RdS.pres hmY (Ext.pres eB))⟩ (hX) (hY) (by omega)) ?_
    intro v_ h6_3
    rintro ⟨vw6_3_0, fw6_3_0, rfl, how6_3_0, hfw6_3_0, e6_3⟩
    replace hb0_0 := BoxAt.ext hb0_0 e6_3
    replace hb0_1 := BoxAt.ext hb0_1 e6_3
    have := Ext.size e6_3
    replace eB := Ext.trans eB e6_3
    have hlhow6_3_0 := OS.lt how6_3_0
    try simp -implicitDefEqProofs (disch := first | decide | assumption | omega) only [go_sem, RdS.len hdX sl37, RdS.idx hdX sl37, R1.intB hdX (Ext.pres eB), RdS.cells hdX, RdS.len hmX sl38, RdS.idx hmX sl38, RdS.cellB hmX (Ext.pres eB), RdS.cells hmX, RdS.len hdY sl37, RdS.idx hdY sl37, R1.intB hdY (Ext.pres eB), RdS.cells hdY, RdS.len hmY sl38, RdS.idx hmY sl38, RdS.cellB hmY (Ext.pres eB), RdS.cells hmY, RdS.len (OS.rd how6_3_0) sl38, RdS.idx (OS.rd how6_3_0) sl38, RdS.cellN (OS.rd how6_3_0), RdS.cells (OS.rd how6_3_0), BoxAt.cell hb0_0, BoxAt.cell hb0_1, wrap_id]
    refine hK _ _ ?_
    clear hK K
    refine den_ret ?_
    simp (disch := decide) only [resP_2, puts_same, puts_ne]
    have hz : zfP X Y s = ((List.range X.dims.length).map (zrowsP X Y s), 0) := by rw [zfP, if_pos (show zfC X Y s = 0 from c1)]
    rw [hz]
    exact ⟨_, _, rfl, how6_3_0, hfw6_3_0.mono (by omega), eB⟩

set_option maxRecDepth 100000 in
theorem iZf_ok (vX vY : Value) (X : Cx) (Y : Cx) (s : Int) (h : Heap) (rX : RC h vX X) (rY : RC h vY Y)  : CallA Try.prog 49 #[vX, vY, .int .i64 s] h fun v' h' => ∃ w0 f0, v' = .tuple #[w0, .int .i64 ((zfP X Y s).2)] ∧ O3 h' w0 ((zfP X Y s).1) f0 ∧ Fresh h.size f0 ∧ Ext h h' := by
  obtain ⟨vdX, vmX, rfl, hdX, hmX⟩ := rX
  have hledX := RdS.le hdX
  have hlemX := RdS.le hmX
  obtain ⟨vdY, vmY, rfl, hdY, hmY⟩ := rY
  have hledY := RdS.le hdY
  have hlemY := RdS.le hmY
  refine callA_intro TTok (args := [_, _, _]) Try.func49 (by kernel_rfl) rfl 55 rfl (by simp) [.tmp 6, .tmp 7] rfl ?_
  simp only [idxs, Nat.reduceAdd]
  refine den_seq ?_
  refine den_region TTok ?_
  intro K hK
  simp -implicitDefEqProofs (disch := first | decide | assumption | omega) only [go_sem, RdS.len hdX sl37, RdS.idx hdX sl37, R1.intB hdX (HPres.refl _), RdS.cells hdX, RdS.len hmX sl38, RdS.idx hmX sl38, RdS.cellB hmX (HPres.refl _), RdS.cells hmX, RdS.len hdY sl37, RdS.idx hdY sl37, R1.intB hdY (HPres.refl _), RdS.cells hdY, RdS.len hmY sl38, RdS.idx hmY sl38, RdS.cellB hmY (HPres.refl _), RdS.cells hmY, wrap_id]
  refine op_box (cs := #[.int .i64 (X.p), vdX, vmX]) rfl ?_
  intro h0_0 e0_0 hb0_0 z0_0
  have := Ext.size e0_0
  have eB := e0_0
  have hfhb0_0 : Fresh h.size [h.size] := Fresh.one _
  have hlhb0_0 := one_lt (show h.size < h0_0.size by omega)
  try simp -implicitDefEqProofs (disch := first | decide | assumption | omega) only [go_sem, RdS.len hdX sl37, RdS.idx hdX sl37, R1.intB hdX (Ext.pres eB), RdS.cells hdX, RdS.len hmX sl38, RdS.idx hmX sl38, RdS.cellB hmX (Ext.pres eB), RdS.cells hmX, RdS.len hdY sl37, RdS.idx hdY sl37, R1.intB hdY (Ext.pres eB), RdS.cells hdY, RdS.len hmY sl38, RdS.idx hmY sl38, RdS.cellB hmY (Ext.pres eB), RdS.cells hmY, BoxAt.cell hb0_0, wrap_id]
  refine op_box (cs := #[.int .i64 (Y.p), vdY, vmY]) rfl ?_
  intro h0_1 e0_1 hb0_1 z0_1
  replace hb0_0 := BoxAt.ext hb0_0 e0_1
  have := Ext.size e0_1
  replace eB := Ext.trans eB e0_1
  have hfhb0_1 : Fresh h0_0.size [h0_0.size] := Fresh.one _
  have hlhb0_1 := one_lt (show h0_0.size < h0_1.size by omega)
  try simp -implicitDefEqProofs (disch := first | decide | assumption | omega) only [go_sem, RdS.len hdX sl37, RdS.idx hdX sl37, R1.intB hdX (Ext.pres eB), RdS.cells hdX, RdS.len hmX sl38, RdS.idx hmX sl38, RdS.cellB hmX (Ext.pres eB), RdS.cells hmX, RdS.len hdY sl37, RdS.idx hdY sl37, R1.intB hdY (Ext.pres eB), RdS.cells hdY, RdS.len hmY sl38, RdS.idx hmY sl38, RdS.cellB hmY (Ext.pres eB), RdS.cells hmY, BoxAt.cell hb0_0, BoxAt.cell hb0_1, wrap_id]
  refine hK _ _ ?_
  clear hK K
  refine den_seq ?_
  refine den_region TTok ?_
  intro K hK
  simp -implicitDefEqProofs (disch := first | decide | assumption | omega) only [go_sem, ld44, RdS.len hdX sl37, RdS.idx hdX sl37, R1.intB hdX (Ext.pres eB), RdS.cells hdX, RdS.len hmX sl38, RdS.idx hmX sl38, RdS.cellB hmX (Ext.pres eB), RdS.cells hmX, RdS.len hdY sl37, RdS.idx hdY sl37, R1.intB hdY (Ext.pres eB), RdS.cells hdY, RdS.len hmY sl38, RdS.idx hmY sl38, RdS.cellB hmY (Ext.pres eB), RdS.cells hmY, BoxAt.cell hb0_0, BoxAt.cell hb0_1, wrap_id]
  refine op_bs2C (X := X) (Y := Y) ⟨_, _, rfl, (RdS.pres hdX (Ext.pres eB)), (RdS.pres hmX (Ext.pres eB))⟩ ⟨_, _, rfl, (RdS.pres hdY (Ext.pres eB)), (RdS.pres hmY (Ext.pres eB))⟩ ?_
  intro v1_2 h1_2 ho1_2 e1_2
  replace hb0_0 := BoxAt.ext hb0_0 e1_2
  replace hb0_1 := BoxAt.ext hb0_1 e1_2
  have := Ext.size e1_2
  replace eB := Ext.trans eB e1_2
  try simp -implicitDefEqProofs (disch := first | decide | assumption | omega) only [go_sem, RdS.len hdX sl37, RdS.idx hdX sl37, R1.intB hdX (Ext.pres eB), RdS.cells hdX, RdS.len hmX sl38, RdS.idx hmX sl38, RdS.cellB hmX (Ext.pres eB), RdS.cells hmX, RdS.len hdY sl37, RdS.idx hdY sl37, R1.intB hdY (Ext.pres eB), RdS.cells hdY, RdS.len hmY sl38, RdS.idx hmY sl38, RdS.cellB hmY (Ext.pres eB), RdS.cells hmY, BoxAt.cell hb0_0, BoxAt.cell hb0_1, wrap_id]
  try simp -implicitDefEqProofs (disch := first | decide | assumption | omega) only [go_sem, RdS.len hdX sl37, RdS.idx hdX sl37, R1.intB hdX (Ext.pres eB), RdS.cells hdX, RdS.len hmX sl38, RdS.idx hmX sl38, RdS.cellB hmX (Ext.pres eB), RdS.cells hmX, RdS.len hdY sl37, RdS.idx hdY sl37, R1.intB hdY (Ext.pres eB), RdS.cells hdY, RdS.len hmY sl38, RdS.idx hmY sl38, RdS.cellB hmY (Ext.pres eB), RdS.cells hmY, BoxAt.cell hb0_0, BoxAt.cell hb0_1, wrap_id]
  refine CallA.mono (pair2_ok _ _ _ _ ho1_2) ?_
  intro v_ h1_3
  rintro ⟨rfl, e1_3⟩
  replace hb0_0 := BoxAt.ext hb0_0 e1_3
  replace hb0_1 := BoxAt.ext hb0_1 e1_3
  replace ho1_2 := RdA.pres ho1_2 (Ext.pres e1_3)
  have := Ext.size e1_3
  replace eB := Ext.trans eB e1_3
  try simp -implicitDefEqProofs (disch := first | decide | assumption | omega) only [go_sem, RdS.len hdX sl37, RdS.idx hdX sl37, R1.intB hdX (Ext.pres eB), RdS.cells hdX, RdS.len hmX sl38, RdS.idx hmX sl38, RdS.cellB hmX (Ext.pres eB), RdS.cells hmX, RdS.len hdY sl37, RdS.idx hdY sl37, R1.intB hdY (Ext.pres eB), RdS.cells hdY, RdS.len hmY sl38, RdS.idx hmY sl38, RdS.cellB hmY (Ext.pres eB), RdS.cells hmY, BoxAt.cell hb0_0, BoxAt.cell hb0_1, wrap_id]
  refine hK _ _ ?_
  clear hK K
  refine den_seq ?_
  refine den_seq ?_
  refine den_mergeH [(22, .bool ((((pairC X Y) == (0 : Int)) && (!((in3 s (0 : Int) (1 : Int)))))))] [2, 3, 4, 8] ?_ ?_
    -- a way
  · refine den_region TTok ?_
    intro K hK
    simp -implicitDefEqProofs (disch := first | decide | assumption | (simp (disch := decide) only [slotOf_zero, slotOf_succ, Option.map_some, puts_same, puts_ne, gv_bool, gv_undef, tt, tf, ft, ff, eq_self, if_true, if_false, Bool.false_eq_true, Bool.not_true, Bool.not_false]; done) | omega) only [go_sem, RdS.len hdX sl37, RdS.idx hdX sl37, R1.intB hdX (Ext.pres eB), RdS.cells hdX, RdS.len hmX sl38, RdS.idx hmX sl38, RdS.cellB hmX (Ext.pres eB), RdS.cells hmX, RdS.len hdY sl37, RdS.idx hdY sl37, R1.intB hdY (Ext.pres eB), RdS.cells hdY, RdS.len hmY sl38, RdS.idx hmY sl38, RdS.cellB hmY (Ext.pres eB), RdS.cells hmY, BoxAt.cell hb0_0, BoxAt.cell hb0_1, wrap_id]
    refine opsP_T (by simp (disch := decide) only [slotOf_zero, slotOf_succ, Option.map_some, puts_same, puts_ne, gv_bool, gv_undef, tt, tf, ft, ff, eq_self, if_true, if_false, Bool.false_eq_true, Bool.not_true, Bool.not_false]; rfl) (fun g1 => ?_) (fun g1 => ?_)
    · try simp -implicitDefEqProofs (disch := first | decide | assumption | (simp (disch := decide) only [slotOf_zero, slotOf_succ, Option.map_some, puts_same, puts_ne, gv_bool, gv_undef, tt, tf, ft, ff, eq_self, if_true, if_false, Bool.false_eq_true, Bool.not_true, Bool.not_false, g1]; done) | omega) only [go_sem, RdS.len hdX sl37, RdS.idx hdX sl37, R1.intB hdX (Ext.pres eB), RdS.cells hdX, RdS.len hmX sl38, RdS.idx hmX sl38, RdS.cellB hmX (Ext.pres eB), RdS.cells hmX, RdS.len hdY sl37, RdS.idx hdY sl37, R1.intB hdY (Ext.pres eB), RdS.cells hdY, RdS.len hmY sl38, RdS.idx hmY sl38, RdS.cellB hmY (Ext.pres eB), RdS.cells hmY, BoxAt.cell hb0_0, BoxAt.cell hb0_1, wrap_id, g1, eq_self, if_true, if_false, Bool.false_eq_true]
      try simp -implicitDefEqProofs (disch := first | decide | assumption | omega) only [go_sem, RdS.len hdX sl37, RdS.idx hdX sl37, R1.intB hdX (Ext.pres eB), RdS.cells hdX, RdS.len hmX sl38, RdS.idx hmX sl38, RdS.cellB hmX (Ext.pres eB), RdS.cells hmX, RdS.len hdY sl37, RdS.idx hdY sl37, R1.intB hdY (Ext.pres eB), RdS.cells hdY, RdS.len hmY sl38, RdS.idx hmY sl38, RdS.cellB hmY (Ext.pres eB), RdS.cells hmY, BoxAt.cell hb0_0, BoxAt.cell hb0_1, wrap_id]
      refine CallA.pure (iIn_ok _ _ _ _) ?_
      try simp -implicitDefEqProofs (disch := first | decide | assumption | (simp (disch := decide) only [slotOf_zero, slotOf_succ, Option.map_some, puts_same, puts_ne, gv_bool, gv_undef, tt, tf, ft, ff, eq_self, if_true, if_false, Bool.false_eq_true, Bool.not_true, Bool.not_false, g1]; done) | omega) only [go_sem, RdS.len hdX sl37, RdS.idx hdX sl37, R1.intB hdX (Ext.pres eB), RdS.cells hdX, RdS.len hmX sl38, RdS.idx hmX sl38, RdS.cellB hmX (Ext.pres eB), RdS.cells hmX, RdS.len hdY sl37, RdS.idx hdY sl37, R1.intB hdY (Ext.pres eB), RdS.cells hdY, RdS.len hmY sl38, RdS.idx hmY sl38, RdS.cellB hmY (Ext.pres eB), RdS.cells hmY, BoxAt.cell hb0_0, BoxAt.cell hb0_1, wrap_id, g1, eq_self, if_true, if_false, Bool.false_eq_true]
      refine hK _ _ ?_
      clear hK K
      refine den_stop ?_
      refine ⟨?_, rfl⟩
      first | (simp (disch := decide) only [go_sem, g1, eq_self, Bool.true_and, Bool.and_true, Bool.false_and, Bool.and_false, Bool.true_or, Bool.or_true, Bool.false_or, Bool.or_false, if_true, if_false, Bool.false_eq_true]; done) | simp [HasL, sel, puts_at, g1]
    · try simp -implicitDefEqProofs (disch := first | decide | assumption | (simp (disch := decide) only [slotOf_zero, slotOf_succ, Option.map_some, puts_same, puts_ne, gv_bool, gv_undef, tt, tf, ft, ff, eq_self, if_true, if_false, Bool.false_eq_true, Bool.not_true, Bool.not_false, g1]; done) | omega) only [go_sem, RdS.len hdX sl37, RdS.idx hdX sl37, R1.intB hdX (Ext.pres eB), RdS.cells hdX, RdS.len hmX sl38, RdS.idx hmX sl38, RdS.cellB hmX (Ext.pres eB), RdS.cells hmX, RdS.len hdY sl37, RdS.idx hdY sl37, R1.intB hdY (Ext.pres eB), RdS.cells hdY, RdS.len hmY sl38, RdS.idx hmY sl38, RdS.cellB hmY (Ext.pres eB), RdS.cells hmY, BoxAt.cell hb0_0, BoxAt.cell hb0_1, wrap_id, g1, eq_self, if_true, if_false, Bool.false_eq_true]
      refine hK _ _ ?_
      clear hK K
      refine den_stop ?_
      refine ⟨?_, rfl⟩
      first | (simp (disch := decide) only [go_sem, g1, eq_self, Bool.true_and, Bool.and_true, Bool.false_and, Bool.and_false, Bool.true_or, Bool.or_true, Bool.false_or, Bool.or_false, if_true, if_false, Bool.false_eq_true]; done) | simp [HasL, sel, puts_at, g1]
  intro en2
  simp (disch := decide) only [go_sem]
  refine den_mergeH [(8, .int .i64 ((cadd (pairC X Y) (2 : Int) (!((in3 s (0 : Int) (1 : Int)))))))] [2, 3, 4] ?_ ?_
  · refine den_cond rfl (fun c0 => ?_) (fun c0 => ?_)
    · refine den_region TTok ?_
      intro K hK
      simp -implicitDefEqProofs (disch := first | decide | assumption | omega) only [go_sem, RdS.len hdX sl37, RdS.idx hdX sl37, R1.intB hdX (Ext.pres eB), RdS.cells hdX, RdS.len hmX sl38, RdS.idx hmX sl38, RdS.cellB hmX (Ext.pres eB), RdS.cells hmX, RdS.len hdY sl37, RdS.idx hdY sl37, R1.intB hdY (Ext.pres eB), RdS.cells hdY, RdS.len hmY sl38, RdS.idx hmY sl38, RdS.cellB hmY (Ext.pres eB), RdS.cells hmY, BoxAt.cell hb0_0, BoxAt.cell hb0_1, wrap_id]
      refine hK _ _ ?_
      clear hK K
      refine den_stop ?_
      refine ⟨?_, rfl⟩; simp (disch := decide) only [go_sem, c0, caddT c0, eq_self, if_true, if_false, Bool.false_eq_true, reduceCtorEq]
    · refine den_skip ?_
      refine den_stop ?_
      refine ⟨?_, rfl⟩; simp (disch := decide) only [go_sem, c0, caddF c0, eq_self, if_true, if_false, Bool.false_eq_true, reduceCtorEq]
  intro en5
  simp (disch := decide) only [go_sem]
  refine den_seq ?_
  refine den_seq ?_
  refine den_region TTok ?_
  intro K hK
  simp -implicitDefEqProofs (disch := first | decide | assumption | omega) only [go_sem, RdS.len hdX sl37, RdS.idx hdX sl37, R1.intB hdX (Ext.pres eB), RdS.cells hdX, RdS.len hmX sl38, RdS.idx hmX sl38, RdS.cellB hmX (Ext.pres eB), RdS.cells hmX, RdS.len hdY sl37, RdS.idx hdY sl37, R1.intB hdY (Ext.pres eB), RdS.cells hdY, RdS.len hmY sl38, RdS.idx hmY sl38, RdS.cellB hmY (Ext.pres eB), RdS.cells hmY, BoxAt.cell hb0_0, BoxAt.cell hb0_1, wrap_id]
  refine hK _ _ ?_
  clear hK K
  refine den_cond rfl (fun c1 => ?_) (fun c1 => ?_)
  · try simp only [decide_eq_true_eq, decide_eq_false_iff_not, beq_iff_eq, beq_eq_false_iff_ne, bne_iff_ne, ne_eq, Bool.not_eq_true', Bool.not_eq_false', Bool.and_eq_true, Bool.or_eq_true, bne_eq_false_iff_eq] at c1
    refine den_seq ?_
    refine den_region TTok ?_
    intro K hK
    simp -implicitDefEqProofs (disch := first | decide | assumption | omega) only [go_sem, RdS.len hdX sl37, RdS.idx hdX sl37, R1.intB hdX (Ext.pres eB), RdS.cells hdX, RdS.len hmX sl38, RdS.idx hmX sl38, RdS.cellB hmX (Ext.pres eB), RdS.cells hmX, RdS.len hdY sl37, RdS.idx hdY sl37, R1.intB hdY (Ext.pres eB), RdS.cells hdY, RdS.len hmY sl38, RdS.idx hmY sl38, RdS.cellB hmY (Ext.pres eB), RdS.cells hmY, wrap_id]
    refine hK _ _ ?_
    clear hK K
    refine den_ret ?_
    simp (disch := decide) only [resP_2, puts_same, puts_ne]
    have hz : zfP X Y s = ([], zfC X Y s) := by rw [zfP, if_neg (show ¬ zfC X Y s = 0 from c1)]
    rw [hz]
    exact ⟨.slice none 0 0, [], rfl, OS.nil, Fresh.nil _, eB⟩
  · try simp only [decide_eq_true_eq, decide_eq_false_iff_not, beq_iff_eq, beq_eq_false_iff_ne, bne_iff_ne, ne_eq, Bool.not_eq_true', Bool.not_eq_false', Bool.and_eq_true, Bool.or_eq_true, bne_eq_false_iff_eq] at c1
    obtain ⟨hX, hY, hs0, hs1⟩ := zfC_0 c1
    refine den_skip ?_
    refine den_seq ?_
    refine den_region TTok ?_
    intro K hK
    simp -implicitDefEqProofs (disch := first | decide | assumption | omega) only [go_sem, RdS.len hdX sl37, RdS.idx hdX sl37, R1.intB hdX (Ext.pres eB), RdS.cells hdX, RdS.len hmX sl38, RdS.idx hmX sl38, RdS.cellB hmX (Ext.pres eB), RdS.cells hmX, RdS.len hdY sl37, RdS.idx hdY sl37, R1.intB hdY (Ext.pres eB), RdS.cells hdY, RdS.len hmY sl38, RdS.idx hmY sl38, RdS.cellB hmY (Ext.pres eB), RdS.cells hmY, BoxAt.cell hb0_0, BoxAt.cell hb0_1, wrap_id]
    refine op_bs0 sz38 O2 ?_
    intro v6_0 h6_0 ho6_0 e6_0
    replace hb0_0 := BoxAt.ext hb0_0 e6_0
    replace hb0_1 := BoxAt.ext hb0_1 e6_0
    replace ho1_2 := RdA.pres ho1_2 (Ext.pres e6_0)
    have := Ext.size e6_0
    replace eB := Ext.trans eB e6_0
    have hfho6_0 : Fresh h1_3.size [h1_3.size] := Fresh.one _
    have hlho6_0 := OS.lt ho6_0
    try simp -implicitDefEqProofs (disch := first | decide | assumption | omega) only [go_sem, RdS.len hdX sl37, RdS.idx hdX sl37, R1.intB hdX (Ext.pres eB), RdS.cells hdX, RdS.len hmX sl38, RdS.idx hmX sl38, RdS.cellB hmX (Ext.pres eB), RdS.cells hmX, RdS.len hdY sl37, RdS.idx hdY sl37, R1.intB hdY (Ext.pres eB), RdS.cells hdY, RdS.len hmY sl38, RdS.idx hmY sl38, RdS.cellB hmY (Ext.pres eB), RdS.cells hmY, RdS.len (OS.rd ho6_0) sl38, RdS.idx (OS.rd ho6_0) sl38, RdS.cellN (OS.rd ho6_0), RdS.cells (OS.rd ho6_0), BoxAt.cell hb0_0, BoxAt.cell hb0_1, wrap_id]
    refine hK _ _ ?_
    clear hK K
    refine den_seq ?_
    refine den_seq ?_
    refine den_region TTok ?_
    intro K hK
    simp -implicitDefEqProofs (disch := first | decide | assumption | omega) only [go_sem, fa44_1, ld37, RdS.len hdX sl37, RdS.idx hdX sl37, R1.intB hdX (Ext.pres eB), RdS.cells hdX, RdS.len hmX sl38, RdS.idx hmX sl38, RdS.cellB hmX (Ext.pres eB), RdS.cells hmX, RdS.len hdY sl37, RdS.idx hdY sl37, R1.intB hdY (Ext.pres eB), RdS.cells hdY, RdS.len hmY sl38, RdS.idx hmY sl38, RdS.cellB hmY (Ext.pres eB), RdS.cells hmY, RdS.len (OS.rd ho6_0) sl38, RdS.idx (OS.rd ho6_0) sl38, RdS.cellN (OS.rd ho6_0), RdS.cells (OS.rd ho6_0), BoxAt.cell hb0_0, BoxAt.cell hb0_1, wrap_id]
    try simp -implicitDefEqProofs (disch := first | decide | assumption | omega) only [go_sem, RdS.len hdX sl37, RdS.idx hdX sl37, R1.intB hdX (Ext.pres eB), RdS.cells hdX, RdS.len hmX sl38, RdS.idx hmX sl38, RdS.cellB hmX (Ext.pres eB), RdS.cells hmX, RdS.len hdY sl37, RdS.idx hdY sl37, R1.intB hdY (Ext.pres eB), RdS.cells hdY, RdS.len hmY sl38, RdS.idx hmY sl38, RdS.cellB hmY (Ext.pres eB), RdS.cells hmY, RdS.len (OS.rd ho6_0) sl38, RdS.idx (OS.rd ho6_0) sl38, RdS.cellN (OS.rd ho6_0), RdS.cells (OS.rd ho6_0), BoxAt.cell hb0_0, BoxAt.cell hb0_1, wrap_id]
    refine CallA.pure (size1_ok _ _ _ (RdS.pres hdX (Ext.pres eB))) ?_
    try simp -implicitDefEqProofs (disch := first | decide | assumption | omega) only [go_sem, RdS.len hdX sl37, RdS.idx hdX sl37, R1.intB hdX (Ext.pres eB), RdS.cells hdX, RdS.len hmX sl38, RdS.idx hmX sl38, RdS.cellB hmX (Ext.pres eB), RdS.cells hmX, RdS.len hdY sl37, RdS.idx hdY sl37, R1.intB hdY (Ext.pres eB), RdS.cells hdY, RdS.len hmY sl38, RdS.idx hmY sl38, RdS.cellB hmY (Ext.pres eB), RdS.cells hmY, RdS.len (OS.rd ho6_0) sl38, RdS.idx (OS.rd ho6_0) sl38, RdS.cellN (OS.rd ho6_0), RdS.cells (OS.rd ho6_0), BoxAt.cell hb0_0, BoxAt.cell hb0_1, wrap_id]
    refine hK _ _ ?_
    clear hK K
    refine den_block ?_
    refine den_sel [9, 30, 2, 3, 4, 29] ?_
    intro env_6
    simp only [go_sem]
    refine den_loopS (σ := Nat × Value × List Nat) (fun st_ => [(9, st_.2.1), (30, .int .i64 (st_.1 : Int))]) (fun st_ H => st_.1 ≤ X.dims.length ∧ O3 H st_.2.1 ((List.range st_.1).map (zrowsP X Y s)) st_.2.2 ∧ Fresh (h1_3.size) st_.2.2 ∧ Sub [h1_3.size] h6_0.size st_.2.2 ∧ Chg [h1_3.size] h6_0 H) (fun st_ => X.dims.length - st_.1) (0, v6_0, [h1_3.size]) ?_ ?_
    · exact ⟨by first | (simp; done) | (dsimp only; omega) | (simp; omega), by simpa using ho6_0, hfho6_0, Sub.refl, Chg.refl _ _⟩
    · rintro ⟨k, vhO, fphO⟩ h9 ee8 ⟨hi0, hO, hfhO, sbhO, cL7⟩
      dsimp only at hi0 hO hfhO sbhO cL7
      replace hb0_0 := BoxAt.chgA hb0_0 cL7 (apart_lt hlhb0_0 hfho6_0 (by omega))
      replace hb0_1 := BoxAt.chgA hb0_1 cL7 (apart_lt hlhb0_1 hfho6_0 (by omega))
      have := cL7.size
      replace eB := Ext.then eB cL7 (ge_of hfho6_0 (by omega))
      have hlhO := OS.lt hO
      simp only [List.cons_append, List.nil_append]
      refine den_seq ?_
      refine den_region TTok ?_
      intro K hK
      simp -implicitDefEqProofs (disch := first | decide | assumption | omega) only [go_sem, RdS.len hdX sl37, RdS.idx hdX sl37, R1.intB hdX (Ext.pres eB), RdS.cells hdX, RdS.len hmX sl38, RdS.idx hmX sl38, RdS.cellB hmX (Ext.pres eB), RdS.cells hmX, RdS.len hdY sl37, RdS.idx hdY sl37, R1.intB hdY (Ext.pres eB), RdS.cells hdY, RdS.len hmY sl38, RdS.idx hmY sl38, RdS.cellB hmY (Ext.pres eB), RdS.cells hmY, RdS.len (OS.rd hO) sl38, RdS.idx (OS.rd hO) sl38, RdS.cellN (OS.rd hO), RdS.cells (OS.rd hO), BoxAt.cell hb0_0, BoxAt.cell hb0_1, wrap_id]
      refine hK _ _ ?_
      clear hK K
      refine den_seq ?_
      refine den_cond rfl (fun c2 => ?_) (fun c2 => ?_)
      · try simp only [decide_eq_true_eq, decide_eq_false_iff_not, beq_iff_eq, beq_eq_false_iff_ne, bne_iff_ne, ne_eq, Bool.not_eq_true', Bool.not_eq_false', Bool.and_eq_true, Bool.or_eq_true, bne_eq_false_iff_eq] at c2
        refine den_skip ?_
        refine den_seq ?_
        refine den_block ?_
        refine den_seq ?_
        refine den_region TTok ?_
        intro K hK
        simp -implicitDefEqProofs (disch := first | decide | assumption | omega) only [go_sem, RdS.len hdX sl37, RdS.idx hdX sl37, R1.intB hdX (Ext.pres eB), RdS.cells hdX, RdS.len hmX sl38, RdS.idx hmX sl38, RdS.cellB hmX (Ext.pres eB), RdS.cells hmX, RdS.len hdY sl37, RdS.idx hdY sl37, R1.intB hdY (Ext.pres eB), RdS.cells hdY, RdS.len hmY sl38, RdS.idx hmY sl38, RdS.cellB hmY (Ext.pres eB), RdS.cells hmY, RdS.len (OS.rd hO) sl38, RdS.idx (OS.rd hO) sl38, RdS.cellN (OS.rd hO), RdS.cells (OS.rd hO), BoxAt.cell hb0_0, BoxAt.cell hb0_1, wrap_id]
        refine hK _ _ ?_
        clear hK K
        refine den_seq ?_
        refine den_region TTok ?_
        intro K hK
        simp -implicitDefEqProofs (disch := first | decide | assumption | omega) only [go_sem, RdS.len hdX sl37, RdS.idx hdX sl37, R1.intB hdX (Ext.pres eB), RdS.cells hdX, RdS.len hmX sl38, RdS.idx hmX sl38, RdS.cellB hmX (Ext.pres eB), RdS.cells hmX, RdS.len hdY sl37, RdS.idx hdY sl37, R1.intB hdY (Ext.pres eB), RdS.cells hdY, RdS.len hmY sl38, RdS.idx hmY sl38, RdS.cellB hmY (Ext.pres eB), RdS.cells hmY, RdS.len (OS.rd hO) sl38, RdS.idx (OS.rd hO) sl38, RdS.cellN (OS.rd hO), RdS.cells (OS.rd hO), BoxAt.cell hb0_0, BoxAt.cell hb0_1, wrap_id]
        refine op_bs0 sz65 O1 ?_
        intro v10_0 h10_0 ho10_0 e10_0
        replace hO := OS.ext hO e10_0
        replace hb0_0 := BoxAt.ext hb0_0 e10_0
        replace hb0_1 := BoxAt.ext hb0_1 e10_0
        have := Ext.size e10_0
        replace eB := Ext.trans eB e10_0
        replace cL7 := Chg.stepE cL7 e10_0
        have hfho10_0 : Fresh h9.size [h9.size] := Fresh.one _
        have hlho10_0 := OS.lt ho10_0
        try simp -implicitDefEqProofs (disch := first | decide | assumption | omega) only [go_sem, RdS.len hdX sl37, RdS.idx hdX sl37, R1.intB hdX (Ext.pres eB), RdS.cells hdX, RdS.len hmX sl38, RdS.idx hmX sl38, RdS.cellB hmX (Ext.pres eB), RdS.cells hmX, RdS.len hdY sl37, RdS.idx hdY sl37, R1.intB hdY (Ext.pres eB), RdS.cells hdY, RdS.len hmY sl38, RdS.idx hmY sl38, RdS.cellB hmY (Ext.pres eB), RdS.cells hmY, RdS.len (OS.rd hO) sl38, RdS.idx (OS.rd hO) sl38, RdS.cellN (OS.rd hO), RdS.cells (OS.rd hO), RdS.len (OS.rd ho10_0) sl65, RdS.idx (OS.rd ho10_0) sl65, RdS.cellN (OS.rd ho10_0), RdS.cells (OS.rd ho10_0), BoxAt.cell hb0_0, BoxAt.cell hb0_1, wrap_id]
        refine hK _ _ ?_
        clear hK K
        refine den_seq ?_
        refine den_seq ?_
        have hdx := dimP_bnd hX k
        have hdy := dimP_bnd hY ((k : Int) + s)
        have hlx := hX.len
        have hdat := dimP_at (X := X) (k := k) (by omega)
        have hlt : ((List.range k).map (zrowsP X Y s)).length = k := by simp
        refine den_region TTok ?_
        intro K hK
        simp -implicitDefEqProofs (disch := first | decide | assumption | omega) only [go_sem, ld44, RdS.len hdX sl37, RdS.idx hdX sl37, R1.intB hdX (Ext.pres eB), RdS.cells hdX, RdS.len hmX sl38, RdS.idx hmX sl38, RdS.cellB hmX (Ext.pres eB), RdS.cells hmX, RdS.len hdY sl37, RdS.idx hdY sl37, R1.intB hdY (Ext.pres eB), RdS.cells hdY, RdS.len hmY sl38, RdS.idx hmY sl38, RdS.cellB hmY (Ext.pres eB), RdS.cells hmY, RdS.len (OS.rd hO) sl38, RdS.idx (OS.rd hO) sl38, RdS.cellN (OS.rd hO), RdS.cells (OS.rd hO), RdS.len (OS.rd ho10_0) sl65, RdS.idx (OS.rd ho10_0) sl65, RdS.cellN (OS.rd ho10_0), RdS.cells (OS.rd ho10_0), BoxAt.cell hb0_0, BoxAt.cell hb0_1, wrap_id]
        try simp -implicitDefEqProofs (disch := first | decide | assumption | omega) only [go_sem, RdS.len hdX sl37, RdS.idx hdX sl37, R1.intB hdX (Ext.pres eB), RdS.cells hdX, RdS.len hmX sl38, RdS.idx hmX sl38, RdS.cellB hmX (Ext.pres eB), RdS.cells hmX, RdS.len hdY sl37, RdS.idx hdY sl37, R1.intB hdY (Ext.pres eB), RdS.cells hdY, RdS.len hmY sl38, RdS.idx hmY sl38, RdS.cellB hmY (Ext.pres eB), RdS.cells hmY, RdS.len (OS.rd hO) sl38, RdS.idx (OS.rd hO) sl38, RdS.cellN (OS.rd hO), RdS.cells (OS.rd hO), RdS.len (OS.rd ho10_0) sl65, RdS.idx (OS.rd ho10_0) sl65, RdS.cellN (OS.rd ho10_0), RdS.cells (OS.rd ho10_0), BoxAt.cell hb0_0, BoxAt.cell hb0_1, wrap_id]
        refine CallA.mono (iDim_ok _ X _ _ ⟨_, _, rfl, (RdS.pres hdX (Ext.pres eB)), (RdS.pres hmX (Ext.pres eB))⟩) ?_
        intro v_ h11_2
        rintro ⟨rfl, e11_2⟩
        replace hO := OS.ext hO e11_2
        replace ho10_0 := OS.ext ho10_0 e11_2
        replace hb0_0 := BoxAt.ext hb0_0 e11_2
        replace hb0_1 := BoxAt.ext hb0_1 e11_2
        have := Ext.size e11_2
        replace eB := Ext.trans eB e11_2
        replace cL7 := Chg.stepE cL7 e11_2
        try simp -implicitDefEqProofs (disch := first | decide | assumption | omega) only [go_sem, RdS.len hdX sl37, RdS.idx hdX sl37, R1.intB hdX (Ext.pres eB), RdS.cells hdX, RdS.len hmX sl38, RdS.idx hmX sl38, RdS.cellB hmX (Ext.pres eB), RdS.cells hmX, RdS.len hdY sl37, RdS.idx hdY sl37, R1.intB hdY (Ext.pres eB), RdS.cells hdY, RdS.len hmY sl38, RdS.idx hmY sl38, RdS.cellB hmY (Ext.pres eB), RdS.cells hmY, RdS.len (OS.rd hO) sl38, RdS.idx (OS.rd hO) sl38, RdS.cellN (OS.rd hO), RdS.cells (OS.rd hO), RdS.len (OS.rd ho10_0) sl65, RdS.idx (OS.rd ho10_0) sl65, RdS.cellN (OS.rd ho10_0), RdS.cells (OS.rd ho10_0), BoxAt.cell hb0_0, BoxAt.cell hb0_1, wrap_id]
        refine hK _ _ ?_
        clear hK K
        refine den_block ?_
        refine den_sel [11, 37, 2, 3, 4, 9, 10, 29, 30, 36] ?_
        intro env_10
        simp only [go_sem]
        refine den_loopS (σ := Nat × Value × List Nat) (fun st_ => [(11, st_.2.1), (37, .int .i64 (st_.1 : Int))]) (fun st_ H => (st_.1 : Int) ≤ dimP X k ∧ O2 H st_.2.1 (List.replicate st_.1 (List.replicate (dimP Y ((k : Int) + s)).toNat 0)) st_.2.2 ∧ Fresh (h9.size) st_.2.2 ∧ Sub [h9.size] h11_2.size st_.2.2 ∧ Chg [h9.size] h11_2 H) (fun st_ => (dimP X k).toNat - st_.1) (0, v10_0, [h9.size]) ?_ ?_
        · exact ⟨by first | (simp; done) | (dsimp only; omega) | (simp; omega), by simpa using ho10_0, hfho10_0, Sub.refl, Chg.refl _ _⟩
        · rintro ⟨m, vhR, fphR⟩ h13 ee12 ⟨hi0, hR, hfhR, sbhR, cL11⟩
          dsimp only at hi0 hR hfhR sbhR cL11
          replace hO := OS.chg hO cL11 (apart_lt hlhO hfho10_0 (by omega))
          replace hb0_0 := BoxAt.chgA hb0_0 cL11 (apart_lt hlhb0_0 hfho10_0 (by omega))
          replace hb0_1 := BoxAt.chgA hb0_1 cL11 (apart_lt hlhb0_1 hfho10_0 (by omega))
          have := cL11.size
          replace eB := Ext.then eB cL11 (ge_of hfho10_0 (by omega))
          replace cL7 := Chg.step cL7 cL11 (Sub.fresh hfho10_0 (by omega))
          have hlhR := OS.lt hR
          simp only [List.cons_append, List.nil_append]
          have hlr : (List.replicate m (List.replicate (dimP Y ((k : Int) + s)).toNat (0 : Int))).length = m := List.length_replicate
          refine den_seq ?_
          refine den_region TTok ?_
          intro K hK
          simp -implicitDefEqProofs (disch := first | decide | assumption | omega) only [go_sem, RdS.len hdX sl37, RdS.idx hdX sl37, R1.intB hdX (Ext.pres eB), RdS.cells hdX, RdS.len hmX sl38, RdS.idx hmX sl38, RdS.cellB hmX (Ext.pres eB), RdS.cells hmX, RdS.len hdY sl37, RdS.idx hdY sl37, R1.intB hdY (Ext.pres eB), RdS.cells hdY, RdS.len hmY sl38, RdS.idx hmY sl38, RdS.cellB hmY (Ext.pres eB), RdS.cells hmY, RdS.len (OS.rd hO) sl38, RdS.idx (OS.rd hO) sl38, RdS.cellN (OS.rd hO), RdS.cells (OS.rd hO), RdS.len (OS.rd hR) sl65, RdS.idx (OS.rd hR) sl65, RdS.cellN (OS.rd hR), RdS.cells (OS.rd hR), BoxAt.cell hb0_0, BoxAt.cell hb0_1, wrap_id]
          refine hK _ _ ?_
          clear hK K
          refine den_seq ?_
          refine den_cond rfl (fun c3 => ?_) (fun c3 => ?_)
          · try simp only [decide_eq_true_eq, decide_eq_false_iff_not, beq_iff_eq, beq_eq_false_iff_ne, bne_iff_ne, ne_eq, Bool.not_eq_true', Bool.not_eq_false', Bool.and_eq_true, Bool.or_eq_true, bne_eq_false_iff_eq] at c3
            refine den_skip ?_
            refine den_seq ?_
            refine den_block ?_
            refine den_region TTok ?_
            intro K hK
            simp -implicitDefEqProofs (disch := first | decide | assumption | omega) only [go_sem, ld44, RdS.len hdX sl37, RdS.idx hdX sl37, R1.intB hdX (Ext.pres eB), RdS.cells hdX, RdS.len hmX sl38, RdS.idx hmX sl38, RdS.cellB hmX (Ext.pres eB), RdS.cells hmX, RdS.len hdY sl37, RdS.idx hdY sl37, R1.intB hdY (Ext.pres eB), RdS.cells hdY, RdS.len hmY sl38, RdS.idx hmY sl38, RdS.cellB hmY (Ext.pres eB), RdS.cells hmY, RdS.len (OS.rd hO) sl38, RdS.idx (OS.rd hO) sl38, RdS.cellN (OS.rd hO), RdS.cells (OS.rd hO), RdS.len (OS.rd hR) sl65, RdS.idx (OS.rd hR) sl65, RdS.cellN (OS.rd hR), RdS.cells (OS.rd hR), BoxAt.cell hb0_0, BoxAt.cell hb0_1, wrap_id]
            try simp -implicitDefEqProofs (disch := first | decide | assumption | omega) only [go_sem, RdS.len hdX sl37, RdS.idx hdX sl37, R1.intB hdX (Ext.pres eB), RdS.cells hdX, RdS.len hmX sl38, RdS.idx hmX sl38, RdS.cellB hmX (Ext.pres eB), RdS.cells hmX, RdS.len hdY sl37, RdS.idx hdY sl37, R1.intB hdY (Ext.pres eB), RdS.cells hdY, RdS.len hmY sl38, RdS.idx hmY sl38, RdS.cellB hmY (Ext.pres eB), RdS.cells hmY, RdS.len (OS.rd hO) sl38, RdS.idx (OS.rd hO) sl38, RdS.cellN (OS.rd hO), RdS.cells (OS.rd hO), RdS.len (OS.rd hR) sl65, RdS.idx (OS.rd hR) sl65, RdS.cellN (OS.rd hR), RdS.cells (OS.rd hR), BoxAt.cell hb0_0, BoxAt.cell hb0_1, wrap_id]
            refine CallA.mono (iDim_ok _ Y _ _ ⟨_, _, rfl, (RdS.pres hdY (Ext.pres eB)), (RdS.pres hmY (Ext.pres eB))⟩) ?_
            intro v_ h13_5
            rintro ⟨rfl, e13_5⟩
            replace hO := OS.ext hO e13_5
            replace hR := OS.ext hR e13_5
            replace hb0_0 := BoxAt.ext hb0_0 e13_5
            replace hb0_1 := BoxAt.ext hb0_1 e13_5
            have := Ext.size e13_5
            replace eB := Ext.trans eB e13_5
            replace cL7 := Chg.stepE cL7 e13_5
            replace cL11 := Chg.stepE cL11 e13_5
            try simp -implicitDefEqProofs (disch := first | decide | assumption | omega) only [go_sem, RdS.len hdX sl37, RdS.idx hdX sl37, R1.intB hdX (Ext.pres eB), RdS.cells hdX, RdS.len hmX sl38, RdS.idx hmX sl38, RdS.cellB hmX (Ext.pres eB), RdS.cells hmX, RdS.len hdY sl37, RdS.idx hdY sl37, R1.intB hdY (Ext.pres eB), RdS.cells hdY, RdS.len hmY sl38, RdS.idx hmY sl38, RdS.cellB hmY (Ext.pres eB), RdS.cells hmY, RdS.len (OS.rd hO) sl38, RdS.idx (OS.rd hO) sl38, RdS.cellN (OS.rd hO), RdS.cells (OS.rd hO), RdS.len (OS.rd hR) sl65, RdS.idx (OS.rd hR) sl65, RdS.cellN (OS.rd hR), RdS.cells (OS.rd hR), BoxAt.cell hb0_0, BoxAt.cell hb0_1, wrap_id]
            refine op_make sz37 rfl rfl (by omega) (by omega) OI 0 (fun _ => ⟨rfl, rfl⟩) ?_
            intro v13_6 h13_6 ho13_6 e13_6
            replace hO := OS.ext hO e13_6
            replace hR := OS.ext hR e13_6
            replace hb0_0 := BoxAt.ext hb0_0 e13_6
            replace hb0_1 := BoxAt.ext hb0_1 e13_6
            have := Ext.size e13_6
            replace eB := Ext.trans eB e13_6
            replace cL7 := Chg.stepE cL7 e13_6
            replace cL11 := Chg.stepE cL11 e13_6
            have hfho13_6 : Fresh h13_5.size [h13_5.size] := Fresh.one _
            have hlenho13_6 : (List.replicate ((dimP Y ((k : Int) + s))).toNat (0 : Int)).length = ((dimP Y ((k : Int) + s))).toNat := List.length_replicate
            have hlho13_6 := OS.lt ho13_6
            try simp -implicitDefEqProofs (disch := first | decide | assumption | omega) only [go_sem, RdS.len hdX sl37, RdS.idx hdX sl37, R1.intB hdX (Ext.pres eB), RdS.cells hdX, RdS.len hmX sl38, RdS.idx hmX sl38, RdS.cellB hmX (Ext.pres eB), RdS.cells hmX, RdS.len hdY sl37, RdS.idx hdY sl37, R1.intB hdY (Ext.pres eB), RdS.cells hdY, RdS.len hmY sl38, RdS.idx hmY sl38, RdS.cellB hmY (Ext.pres eB), RdS.cells hmY, RdS.len (OS.rd hO) sl38, RdS.idx (OS.rd hO) sl38, RdS.cellN (OS.rd hO), RdS.cells (OS.rd hO), RdS.len (OS.rd hR) sl65, RdS.idx (OS.rd hR) sl65, RdS.cellN (OS.rd hR), RdS.cells (OS.rd hR), RdS.len (OS.rd ho13_6) sl37, RdS.idx (OS.rd ho13_6) sl37, R1.intN (OS.rd ho13_6), RdS.cells (OS.rd ho13_6), BoxAt.cell hb0_0, BoxAt.cell hb0_1, wrap_id]
            refine op_bs1 sz65 rfl (OS.one ho13_6).2 ?_
            try simp -implicitDefEqProofs (disch := first | decide | assumption | omega) only [go_sem, RdS.len hdX sl37, RdS.idx hdX sl37, R1.intB hdX (Ext.pres eB), RdS.cells hdX, RdS.len hmX sl38, RdS.idx hmX sl38, RdS.cellB hmX (Ext.pres eB), RdS.cells hmX, RdS.len hdY sl37, RdS.idx hdY sl37, R1.intB hdY (Ext.pres eB), RdS.cells hdY, RdS.len hmY sl38, RdS.idx hmY sl38, RdS.cellB hmY (Ext.pres eB), RdS.cells hmY, RdS.len (OS.rd hO) sl38, RdS.idx (OS.rd hO) sl38, RdS.cellN (OS.rd hO), RdS.cells (OS.rd hO), RdS.len (OS.rd hR) sl65, RdS.idx (OS.rd hR) sl65, RdS.cellN (OS.rd hR), RdS.cells (OS.rd hR), RdS.len (OS.rd ho13_6) sl37, RdS.idx (OS.rd ho13_6) sl37, R1.intN (OS.rd ho13_6), RdS.cells (OS.rd ho13_6), BoxAt.cell hb0_0, BoxAt.cell hb0_1, wrap_id]
            refine op_append1 sz65 hR hfhR.nodup ho13_6 hfho13_6.nodup (apart_lt hlhR hfho13_6 (by omega)) (by first | omega | (simp; omega)) rfl rfl ?_
            intro v13_8 h13_8 fp13_8 ho13_8 hn13_8 hs13_8 c13_8
            have hsz13_8 := c13_8.size
            have hfho13_8 : Fresh h9.size fp13_8 := Fresh.appd hfhR hfho13_6 (by omega) (by omega) hn13_8 hs13_8
            have sb14 : Sub [h9.size] h11_2.size fp13_8 := Sub.grow sbhR (Sub.fresh hfho13_6 (by omega)) (by omega) hs13_8
            replace hO := OS.chg hO c13_8 (apart_lt hlhO hfhR (by omega))
            replace hb0_0 := BoxAt.chgA hb0_0 c13_8 (apart_lt hlhb0_0 hfhR (by omega))
            replace hb0_1 := BoxAt.chgA hb0_1 c13_8 (apart_lt hlhb0_1 hfhR (by omega))
            have := c13_8.size
            replace eB := Ext.then eB c13_8 (ge_of hfhR (by omega))
            replace cL7 := Chg.step cL7 c13_8 (Sub.fresh hfhR (by omega))
            replace cL11 := Chg.step cL11 c13_8 sbhR
            have hlho13_8 := OS.lt ho13_8
            try simp -implicitDefEqProofs (disch := first | decide | assumption | omega) only [go_sem, RdS.len hdX sl37, RdS.idx hdX sl37, R1.intB hdX (Ext.pres eB), RdS.cells hdX, RdS.len hmX sl38, RdS.idx hmX sl38, RdS.cellB hmX (Ext.pres eB), RdS.cells hmX, RdS.len hdY sl37, RdS.idx hdY sl37, R1.intB hdY (Ext.pres eB), RdS.cells hdY, RdS.len hmY sl38, RdS.idx hmY sl38, RdS.cellB hmY (Ext.pres eB), RdS.cells hmY, RdS.len (OS.rd hO) sl38, RdS.idx (OS.rd hO) sl38, RdS.cellN (OS.rd hO), RdS.cells (OS.rd hO), RdS.len (OS.rd ho13_8) sl65, RdS.idx (OS.rd ho13_8) sl65, RdS.cellN (OS.rd ho13_8), RdS.cells (OS.rd ho13_8), BoxAt.cell hb0_0, BoxAt.cell hb0_1, wrap_id]
            refine hK _ _ ?_
            clear hK K
            refine den_blk ?_
            refine den_region TTok ?_
            intro K hK
            simp -implicitDefEqProofs (disch := first | decide | assumption | omega) only [go_sem, RdS.len hdX sl37, RdS.idx hdX sl37, R1.intB hdX (Ext.pres eB), RdS.cells hdX, RdS.len hmX sl38, RdS.idx hmX sl38, RdS.cellB hmX (Ext.pres eB), RdS.cells hmX, RdS.len hdY sl37, RdS.idx hdY sl37, R1.intB hdY (Ext.pres eB), RdS.cells hdY, RdS.len hmY sl38, RdS.idx hmY sl38, RdS.cellB hmY (Ext.pres eB), RdS.cells hmY, RdS.len (OS.rd hO) sl38, RdS.idx (OS.rd hO) sl38, RdS.cellN (OS.rd hO), RdS.cells (OS.rd hO), RdS.len (OS.rd ho13_8) sl65, RdS.idx (OS.rd ho13_8) sl65, RdS.cellN (OS.rd ho13_8), RdS.cells (OS.rd ho13_8), BoxAt.cell hb0_0, BoxAt.cell hb0_1, wrap_id]
            refine hK _ _ ?_
            clear hK K
            refine den_stop ?_
            rw [← List.replicate_succ'] at ho13_8
            exact ⟨(m + 1, v13_8, fp13_8), by simp [HasL, puts_at], ⟨by first | omega | (dsimp only; omega), ho13_8, hfho13_8, sb14, cL11⟩, by first | omega | (dsimp only; omega)⟩
          · try simp only [decide_eq_true_eq, decide_eq_false_iff_not, beq_iff_eq, beq_eq_false_iff_ne, bne_iff_ne, ne_eq, Bool.not_eq_true', Bool.not_eq_false', Bool.and_eq_true, Bool.or_eq_true, bne_eq_false_iff_eq] at c3
            refine den_exit ?_
            refine denX_code ?_
            refine denX_stop ?_
            refine denX_hit ?_
            refine den_region TTok ?_
            intro K hK
            simp -implicitDefEqProofs (disch := first | decide | assumption | omega) only [go_sem, RdS.len hdX sl37, RdS.idx hdX sl37, R1.intB hdX (Ext.pres eB), RdS.cells hdX, RdS.len hmX sl38, RdS.idx hmX sl38, RdS.cellB hmX (Ext.pres eB), RdS.cells hmX, RdS.len hdY sl37, RdS.idx hdY sl37, R1.intB hdY (Ext.pres eB), RdS.cells hdY, RdS.len hmY sl38, RdS.idx hmY sl38, RdS.cellB hmY (Ext.pres eB), RdS.cells hmY, RdS.len (OS.rd hO) sl38, RdS.idx (OS.rd hO) sl38, RdS.cellN (OS.rd hO), RdS.cells (OS.rd hO), RdS.len (OS.rd hR) sl65, RdS.idx (OS.rd hR) sl65, RdS.cellN (OS.rd hR), RdS.cells (OS.rd hR), BoxAt.cell hb0_0, BoxAt.cell hb0_1, wrap_id]
            refine op_bs1 sz38 rfl (OS.one hR).2 ?_
            try simp -implicitDefEqProofs (disch := first | decide | assumption | omega) only [go_sem, RdS.len hdX sl37, RdS.idx hdX sl37, R1.intB hdX (Ext.pres eB), RdS.cells hdX, RdS.len hmX sl38, RdS.idx hmX sl38, RdS.cellB hmX (Ext.pres eB), RdS.cells hmX, RdS.len hdY sl37, RdS.idx hdY sl37, R1.intB hdY (Ext.pres eB), RdS.cells hdY, RdS.len hmY sl38, RdS.idx hmY sl38, RdS.cellB hmY (Ext.pres eB), RdS.cells hmY, RdS.len (OS.rd hO) sl38, RdS.idx (OS.rd hO) sl38, RdS.cellN (OS.rd hO), RdS.cells (OS.rd hO), RdS.len (OS.rd hR) sl65, RdS.idx (OS.rd hR) sl65, RdS.cellN (OS.rd hR), RdS.cells (OS.rd hR), BoxAt.cell hb0_0, BoxAt.cell hb0_1, wrap_id]
            refine op_append1 sz38 hO hfhO.nodup hR hfhR.nodup (apart_lt hlhO hfhR (by omega)) (by first | omega | (simp; omega)) rfl rfl ?_
            intro v15_3 h15_3 fp15_3 ho15_3 hn15_3 hs15_3 c15_3
            have hsz15_3 := c15_3.size
            have hfho15_3 : Fresh h1_3.size fp15_3 := Fresh.appd hfhO hfhR (by omega) (by omega) hn15_3 hs15_3
            have sb15 : Sub [h1_3.size] h6_0.size fp15_3 := Sub.grow sbhO (Sub.fresh hfhR (by omega)) (by omega) hs15_3
            replace hb0_0 := BoxAt.chgA hb0_0 c15_3 (apart_lt hlhb0_0 hfhO (by omega))
            replace hb0_1 := BoxAt.chgA hb0_1 c15_3 (apart_lt hlhb0_1 hfhO (by omega))
            have := c15_3.size
            replace eB := Ext.then eB c15_3 (ge_of hfhO (by omega))
            replace cL7 := Chg.step cL7 c15_3 sbhO
            have hlho15_3 := OS.lt ho15_3
            try simp -implicitDefEqProofs (disch := first | decide | assumption | omega) only [go_sem, RdS.len hdX sl37, RdS.idx hdX sl37, R1.intB hdX (Ext.pres eB), RdS.cells hdX, RdS.len hmX sl38, RdS.idx hmX sl38, RdS.cellB hmX (Ext.pres eB), RdS.cells hmX, RdS.len hdY sl37, RdS.idx hdY sl37, R1.intB hdY (Ext.pres eB), RdS.cells hdY, RdS.len hmY sl38, RdS.idx hmY sl38, RdS.cellB hmY (Ext.pres eB), RdS.cells hmY, RdS.len (OS.rd ho15_3) sl38, RdS.idx (OS.rd ho15_3) sl38, RdS.cellN (OS.rd ho15_3), RdS.cells (OS.rd ho15_3), BoxAt.cell hb0_0, BoxAt.cell hb0_1, wrap_id]
            refine hK _ _ ?_
            clear hK K
            refine den_blk ?_
            refine den_region TTok ?_
            intro K hK
            simp -implicitDefEqProofs (disch := first | decide | assumption | omega) only [go_sem, RdS.len hdX sl37, RdS.idx hdX sl37, R1.intB hdX (Ext.pres eB), RdS.cells hdX, RdS.len hmX sl38, RdS.idx hmX sl38, RdS.cellB hmX (Ext.pres eB), RdS.cells hmX, RdS.len hdY sl37, RdS.idx hdY sl37, R1.intB hdY (Ext.pres eB), RdS.cells hdY, RdS.len hmY sl38, RdS.idx hmY sl38, RdS.cellB hmY (Ext.pres eB), RdS.cells hmY, RdS.len (OS.rd ho15_3) sl38, RdS.idx (OS.rd ho15_3) sl38, RdS.cellN (OS.rd ho15_3), RdS.cells (OS.rd ho15_3), BoxAt.cell hb0_0, BoxAt.cell hb0_1, wrap_id]
            refine hK _ _ ?_
            clear hK K
            refine den_stop ?_
            rw [show List.replicate m (List.replicate (dimP Y ((k : Int) + s)).toNat 0) = zrowsP X Y s k by rw [zrowsP, show (dimP X k).toNat = m by omega], range_step (zrowsP X Y s)] at ho15_3
            exact ⟨(k + 1, v15_3, fp15_3), by simp [HasL, puts_at], ⟨by first | omega | (dsimp only; omega), ho15_3, hfho15_3, sb15, cL7⟩, by first | omega | (dsimp only; omega)⟩
      · try simp only [decide_eq_true_eq, decide_eq_false_iff_not, beq_iff_eq, beq_eq_false_iff_ne, bne_iff_ne, ne_eq, Bool.not_eq_true', Bool.not_eq_false', Bool.and_eq_true, Bool.or_eq_true, bne_eq_false_iff_eq] at c2
        refine den_exit ?_
        refine denX_code ?_
        refine denX_stop ?_
        refine denX_hit ?_
        refine den_seq ?_
        refine den_region TTok ?_
        intro K hK
        simp -implicitDefEqProofs (disch := first | decide | assumption | omega) only [go_sem, RdS.len hdX sl37, RdS.idx hdX sl37, R1.intB hdX (Ext.pres eB), RdS.cells hdX, RdS.len hmX sl38, RdS.idx hmX sl38, RdS.cellB hmX (Ext.pres eB), RdS.cells hmX, RdS.len hdY sl37, RdS.idx hdY sl37, R1.intB hdY (Ext.pres eB), RdS.cells hdY, RdS.len hmY sl38, RdS.idx hmY sl38, RdS.cellB hmY (Ext.pres eB), RdS.cells hmY, RdS.len (OS.rd hO) sl38, RdS.idx (OS.rd hO) sl38, RdS.cellN (OS.rd hO), RdS.cells (OS.rd hO), wrap_id]
        refine hK _ _ ?_
        clear hK K
        refine den_ret ?_
        simp (disch := decide) only [resP_2, puts_same, puts_ne]
        have hz : zfP X Y s = ((List.range X.dims.length).map (zrowsP X Y s), 0) := by rw [zfP, if_pos (show zfC X Y s = 0 from c1)]
        rw [hz]
        rw [show k = X.dims.length by omega] at hO
        exact ⟨_, _, rfl, hO, hfhO.mono (by omega), eB⟩

end Go.Proofs.Ytkkjhomhndpphaa
