/-
  Walks: the reference's sum.
  Conditions: each theorem's own.
-/
import Derived.Test.YtffggocjkhcgeaaP14b
import Derived.Test.YtffggocjkhcgeaaG18
import Derived.Test.YtffggocjkhcgeaaG21
set_option linter.unusedVariables false
set_option linter.unusedSimpArgs false
namespace Go.Proofs.Ytffggocjkhcgeaa
open Go
theorem RdS.nilAny {α β : Type} {E : Heap → Value → α → Prop} {F : Heap → Value → β → Prop} {h h' : Heap} {v : Value} {xs : List α} (hv : RdS E h v xs) (hx : xs = []) : RdS F h' v [] := by
  obtain ⟨A, c, e, _, _, hm, _⟩ := hv
  subst hx
  exact ⟨A, c, e, .inr rfl, Nat.zero_le _, hm, fun j hj => by cases hj⟩
theorem mapP_len {X : Cx} (hC : IsC X) {n : Nat} (h : 1 ≤ n) : (mapP X (n : Int)).length = (dimP X (n : Int)).toNat ∧ ∀ r, r < (mapP X (n : Int)).length → ((mapP X (n : Int)).getD r default).length = (dimP X ((n : Int) - 1)).toNat := by
  obtain ⟨q, rfl⟩ : ∃ q, n = q + 1 := ⟨n - 1, by omega⟩
  rw [mapP_nat q (by have := hC.ml; omega), dimP_nat, show ((q + 1 : Nat) : Int) - 1 = (q : Nat) by omega, dimP_nat]
  exact lens_nat hC q

theorem rowV_ext {α : Type} {E : Heap → Value → α → Prop} {h h' : Heap} {v : Value} {xs : List α} (hv : RdS E h v xs) (e : Ext h h') {j : Nat} (hj : j < xs.length) : rowV h' v j = rowV h v j := by
  obtain ⟨A, c, rfl, _, _, _, hr⟩ := hv
  obtain ⟨u, h1, _⟩ := hr j hj
  unfold rowV
  rw [h1, Ext.pres e _ _ h1]

set_option maxRecDepth 100000 in
theorem sMapB_ok (vdX vmX : Value) (X : Cx) (n : Int) (h0 h : Heap) (hd0 : R1 h0 vdX X.dims) (hm0 : R3 h0 vmX X.maps) (e0 : Ext h0 h) (hC : IsC X) (hn : 1 ≤ n ∧ n ≤ 1000) : CallA Try.prog 75 #[.agg #[.int .i64 X.p, vdX, vmX], .int .i64 n] h fun v' h' => ∃ w, v' = w ∧ R2 h0 w (mapP X n) ∧ Ext h h' := by
  have hdX := RdS.pres hd0 (Ext.pres e0)
  have hmX := RdS.pres hm0 (Ext.pres e0)
  have hledX := RdS.le hdX
  have hlemX := RdS.le hmX
  have hml := hC.ml
  have hdb := dimP_bnd hC n
  refine callA_intro TTok (args := [_, _]) Try.func75 (by kernel_rfl) rfl 32 rfl (by simp) [.tmp 4] rfl ?_
  simp only [idxs, Nat.reduceAdd]
  refine den_seq ?_
  refine den_region TTok ?_
  intro K hK
  simp -implicitDefEqProofs (disch := first | decide | assumption | omega) only [go_sem, RdS.len hdX sl22, RdS.idx hdX sl22, R1.intB hdX (HPres.refl _), RdS.cells hdX, RdS.len hmX sl23, RdS.idx hmX sl23, RdS.cellB hmX (HPres.refl _), RdS.cells hmX, wrap_id]
  refine op_box (cs := #[.int .i64 (X.p), vdX, vmX]) rfl ?_
  intro h0_0 e0_0 hb0_0 z0_0
  have := Ext.size e0_0
  have eB := e0_0
  have hfhb0_0 : Fresh h.size [h.size] := Fresh.one _
  have hlhb0_0 := one_lt (show h.size < h0_0.size by omega)
  try simp -implicitDefEqProofs (disch := first | decide | assumption | omega) only [go_sem, RdS.len hdX sl22, RdS.idx hdX sl22, R1.intB hdX (Ext.pres eB), RdS.cells hdX, RdS.len hmX sl23, RdS.idx hmX sl23, RdS.cellB hmX (Ext.pres eB), RdS.cells hmX, BoxAt.cell hb0_0, wrap_id]
  refine hK _ _ ?_
  clear hK K
  refine den_seq ?_
  refine den_seq ?_
  refine den_region TTok ?_
  intro K hK
  simp -implicitDefEqProofs (disch := first | decide | assumption | omega) only [go_sem, fa30_1, ld22, RdS.len hdX sl22, RdS.idx hdX sl22, R1.intB hdX (Ext.pres eB), RdS.cells hdX, RdS.len hmX sl23, RdS.idx hmX sl23, RdS.cellB hmX (Ext.pres eB), RdS.cells hmX, BoxAt.cell hb0_0, wrap_id]
  try simp -implicitDefEqProofs (disch := first | decide | assumption | omega) only [go_sem, RdS.len hdX sl22, RdS.idx hdX sl22, R1.intB hdX (Ext.pres eB), RdS.cells hdX, RdS.len hmX sl23, RdS.idx hmX sl23, RdS.cellB hmX (Ext.pres eB), RdS.cells hmX, BoxAt.cell hb0_0, wrap_id]
  refine CallA.pure (sIn_ok _ _ _ _) ?_
  try simp -implicitDefEqProofs (disch := first | decide | assumption | omega) only [go_sem, RdS.len hdX sl22, RdS.idx hdX sl22, R1.intB hdX (Ext.pres eB), RdS.cells hdX, RdS.len hmX sl23, RdS.idx hmX sl23, RdS.cellB hmX (Ext.pres eB), RdS.cells hmX, BoxAt.cell hb0_0, wrap_id]
  refine hK _ _ ?_
  clear hK K
  refine den_cond rfl (fun c0 => ?_) (fun c0 => ?_)
  · try simp only [decide_eq_true_eq, decide_eq_false_iff_not, beq_iff_eq, beq_eq_false_iff_ne, bne_iff_ne, ne_eq, Bool.not_eq_true', Bool.not_eq_false', Bool.and_eq_true, Bool.or_eq_true, bne_eq_false_iff_eq, in3_iff, in3_f] at c0
    refine den_seq ?_
    refine den_region TTok ?_
    intro K hK
    have hr1 := RdS.rowN hmX ((n - (1 : Int))).toNat (by omega)
    have hlhr1 := RdS.le hr1
    simp -implicitDefEqProofs (disch := first | decide | assumption | omega) only [go_sem, fa30_2, ld23, ld56, RdS.len hdX sl22, RdS.idx hdX sl22, R1.intB hdX (Ext.pres eB), RdS.cells hdX, RdS.len hmX sl23, RdS.idx hmX sl23, RdS.cellB hmX (Ext.pres eB), RdS.cells hmX, RdS.len hr1 sl56, RdS.idx hr1 sl56, RdS.cellB hr1 (Ext.pres eB), RdS.cells hr1, BoxAt.cell hb0_0, wrap_id]
    refine hK _ _ ?_
    clear hK K
    refine den_ret ?_
    simp (disch := decide) only [resP_1, puts_same, puts_ne]
    exact ⟨_, rfl, by rw [mapP, if_pos (in3_iff.2 c0), rowV_ext hm0 e0 (by omega)]; exact RdS.rowN hm0 _ (by omega), eB⟩
  · try simp only [decide_eq_true_eq, decide_eq_false_iff_not, beq_iff_eq, beq_eq_false_iff_ne, bne_iff_ne, ne_eq, Bool.not_eq_true', Bool.not_eq_false', Bool.and_eq_true, Bool.or_eq_true, bne_eq_false_iff_eq, in3_iff, in3_f] at c0
    refine den_skip ?_
    refine den_seq ?_
    refine den_region TTok ?_
    intro K hK
    simp -implicitDefEqProofs (disch := first | decide | assumption | omega) only [go_sem, RdS.len hdX sl22, RdS.idx hdX sl22, R1.intB hdX (Ext.pres eB), RdS.cells hdX, RdS.len hmX sl23, RdS.idx hmX sl23, RdS.cellB hmX (Ext.pres eB), RdS.cells hmX, BoxAt.cell hb0_0, wrap_id]
    refine op_bs0 sz56 O1 ?_
    intro v3_0 h3_0 ho3_0 e3_0
    replace hb0_0 := BoxAt.ext hb0_0 e3_0
    have := Ext.size e3_0
    replace eB := Ext.trans eB e3_0
    have hfho3_0 : Fresh h0_0.size [h0_0.size] := Fresh.one _
    have hlho3_0 := OS.lt ho3_0
    try simp -implicitDefEqProofs (disch := first | decide | assumption | omega) only [go_sem, RdS.len hdX sl22, RdS.idx hdX sl22, R1.intB hdX (Ext.pres eB), RdS.cells hdX, RdS.len hmX sl23, RdS.idx hmX sl23, RdS.cellB hmX (Ext.pres eB), RdS.cells hmX, RdS.len (OS.rd ho3_0) sl56, RdS.idx (OS.rd ho3_0) sl56, RdS.cellN (OS.rd ho3_0), RdS.cells (OS.rd ho3_0), BoxAt.cell hb0_0, wrap_id]
    refine hK _ _ ?_
    clear hK K
    refine den_seq ?_
    refine den_seq ?_
    refine den_region TTok ?_
    intro K hK
    simp -implicitDefEqProofs (disch := first | decide | assumption | omega) only [go_sem, RdS.len hdX sl22, RdS.idx hdX sl22, R1.intB hdX (Ext.pres eB), RdS.cells hdX, RdS.len hmX sl23, RdS.idx hmX sl23, RdS.cellB hmX (Ext.pres eB), RdS.cells hmX, RdS.len (OS.rd ho3_0) sl56, RdS.idx (OS.rd ho3_0) sl56, RdS.cellN (OS.rd ho3_0), RdS.cells (OS.rd ho3_0), BoxAt.cell hb0_0, wrap_id]
    refine hK _ _ ?_
    clear hK K
    refine den_block ?_
    refine den_sel [5, 6, 1, 2] ?_
    intro env_2
    simp only [go_sem]
    refine den_loopS (σ := Nat × Value × List Nat) (fun st_ => [(5, st_.2.1), (6, .int .i64 (st_.1 : Int))]) (fun st_ H => ((st_.1 : Int) ≤ dimP X n) ∧ (O2 H st_.2.1 (List.replicate st_.1 []) st_.2.2) ∧ (Fresh (h0_0.size) st_.2.2) ∧ (Sub [h0_0.size] h3_0.size st_.2.2) ∧ (Chg [h0_0.size] h3_0 H)) (fun st_ => (dimP X n).toNat - st_.1) (0, v3_0, [h0_0.size]) ?_ ?_
    · exact ⟨by first | (simp; done) | (dsimp only; omega) | (simp; omega), by simpa using ho3_0, hfho3_0, Sub.refl, Chg.refl _ _⟩
    · rintro ⟨k, vhI, fphI⟩ h5 ee4 ⟨hi0, hI, hfhI, sbhI, cL3⟩
      dsimp only at hi0 hI hfhI sbhI cL3
      replace hb0_0 := BoxAt.chgA hb0_0 cL3 (apart_lt hlhb0_0 hfho3_0 (by omega))
      have := cL3.size
      replace eB := Ext.then eB cL3 (ge_of hfho3_0 (by omega))
      have hlhI := OS.lt hI
      simp only [List.cons_append, List.nil_append]
      have hlr : (List.replicate k ([] : List Int)).length = k := List.length_replicate
      refine den_seq ?_
      refine den_seq ?_
      refine den_region TTok ?_
      intro K hK
      simp -implicitDefEqProofs (disch := first | decide | assumption | omega) only [go_sem, ld30, RdS.len hdX sl22, RdS.idx hdX sl22, R1.intB hdX (Ext.pres eB), RdS.cells hdX, RdS.len hmX sl23, RdS.idx hmX sl23, RdS.cellB hmX (Ext.pres eB), RdS.cells hmX, RdS.len (OS.rd hI) sl56, RdS.idx (OS.rd hI) sl56, RdS.cellN (OS.rd hI), RdS.cells (OS.rd hI), BoxAt.cell hb0_0, wrap_id]
      try simp -implicitDefEqProofs (disch := first | decide | assumption | omega) only [go_sem, RdS.len hdX sl22, RdS.idx hdX sl22, R1.intB hdX (Ext.pres eB), RdS.cells hdX, RdS.len hmX sl23, RdS.idx hmX sl23, RdS.cellB hmX (Ext.pres eB), RdS.cells hmX, RdS.len (OS.rd hI) sl56, RdS.idx (OS.rd hI) sl56, RdS.cellN (OS.rd hI), RdS.cells (OS.rd hI), BoxAt.cell hb0_0, wrap_id]
      refine CallA.mono (sDim_ok _ X _ _ ⟨_, _, rfl, (RdS.pres hdX (Ext.pres eB)), (RdS.pres hmX (Ext.pres eB))⟩) ?_
      intro v_ h5_3
      rintro ⟨rfl, e5_3⟩
      replace hI := OS.ext hI e5_3
      replace hb0_0 := BoxAt.ext hb0_0 e5_3
      have := Ext.size e5_3
      replace eB := Ext.trans eB e5_3
      replace cL3 := Chg.stepE cL3 e5_3
      try simp -implicitDefEqProofs (disch := first | decide | assumption | omega) only [go_sem, RdS.len hdX sl22, RdS.idx hdX sl22, R1.intB hdX (Ext.pres eB), RdS.cells hdX, RdS.len hmX sl23, RdS.idx hmX sl23, RdS.cellB hmX (Ext.pres eB), RdS.cells hmX, RdS.len (OS.rd hI) sl56, RdS.idx (OS.rd hI) sl56, RdS.cellN (OS.rd hI), RdS.cells (OS.rd hI), BoxAt.cell hb0_0, wrap_id]
      refine hK _ _ ?_
      clear hK K
      refine den_cond rfl (fun c1 => ?_) (fun c1 => ?_)
      · try simp only [decide_eq_true_eq, decide_eq_false_iff_not, beq_iff_eq, beq_eq_false_iff_ne, bne_iff_ne, ne_eq, Bool.not_eq_true', Bool.not_eq_false', Bool.and_eq_true, Bool.or_eq_true, bne_eq_false_iff_eq, in3_iff, in3_f] at c1
        refine den_skip ?_
        refine den_seq ?_
        refine den_block ?_
        refine den_region TTok ?_
        intro K hK
        simp -implicitDefEqProofs (disch := first | decide | assumption | omega) only [go_sem, RdS.len hdX sl22, RdS.idx hdX sl22, R1.intB hdX (Ext.pres eB), RdS.cells hdX, RdS.len hmX sl23, RdS.idx hmX sl23, RdS.cellB hmX (Ext.pres eB), RdS.cells hmX, RdS.len (OS.rd hI) sl56, RdS.idx (OS.rd hI) sl56, RdS.cellN (OS.rd hI), RdS.cells (OS.rd hI), BoxAt.cell hb0_0, wrap_id]
        refine op_bs0 sz22 OI ?_
        intro v7_1 h7_1 ho7_1 e7_1
        replace hI := OS.ext hI e7_1
        replace hb0_0 := BoxAt.ext hb0_0 e7_1
        have := Ext.size e7_1
        replace eB := Ext.trans eB e7_1
        replace cL3 := Chg.stepE cL3 e7_1
        have hfho7_1 : Fresh h5_3.size [h5_3.size] := Fresh.one _
        have hlho7_1 := OS.lt ho7_1
        try simp -implicitDefEqProofs (disch := first | decide | assumption | omega) only [go_sem, RdS.len hdX sl22, RdS.idx hdX sl22, R1.intB hdX (Ext.pres eB), RdS.cells hdX, RdS.len hmX sl23, RdS.idx hmX sl23, RdS.cellB hmX (Ext.pres eB), RdS.cells hmX, RdS.len (OS.rd hI) sl56, RdS.idx (OS.rd hI) sl56, RdS.cellN (OS.rd hI), RdS.cells (OS.rd hI), RdS.len (OS.rd ho7_1) sl22, RdS.idx (OS.rd ho7_1) sl22, R1.intN (OS.rd ho7_1), RdS.cells (OS.rd ho7_1), BoxAt.cell hb0_0, wrap_id]
        refine op_bs1 sz56 rfl (OS.one ho7_1).2 ?_
        try simp -implicitDefEqProofs (disch := first | decide | assumption | omega) only [go_sem, RdS.len hdX sl22, RdS.idx hdX sl22, R1.intB hdX (Ext.pres eB), RdS.cells hdX, RdS.len hmX sl23, RdS.idx hmX sl23, RdS.cellB hmX (Ext.pres eB), RdS.cells hmX, RdS.len (OS.rd hI) sl56, RdS.idx (OS.rd hI) sl56, RdS.cellN (OS.rd hI), RdS.cells (OS.rd hI), RdS.len (OS.rd ho7_1) sl22, RdS.idx (OS.rd ho7_1) sl22, R1.intN (OS.rd ho7_1), RdS.cells (OS.rd ho7_1), BoxAt.cell hb0_0, wrap_id]
        refine op_append1 sz56 hI hfhI.nodup ho7_1 hfho7_1.nodup (apart_lt hlhI hfho7_1 (by omega)) (by first | omega | (simp; omega)) rfl rfl ?_
        intro v7_3 h7_3 fp7_3 ho7_3 hn7_3 hs7_3 c7_3
        have hsz7_3 := c7_3.size
        have hfho7_3 : Fresh h0_0.size fp7_3 := Fresh.appd hfhI hfho7_1 (by omega) (by omega) hn7_3 hs7_3
        have sb6 : Sub [h0_0.size] h3_0.size fp7_3 := Sub.grow sbhI (Sub.fresh hfho7_1 (by omega)) (by omega) hs7_3
        replace hb0_0 := BoxAt.chgA hb0_0 c7_3 (apart_lt hlhb0_0 hfhI (by omega))
        have := c7_3.size
        replace eB := Ext.then eB c7_3 (ge_of hfhI (by omega))
        replace cL3 := Chg.step cL3 c7_3 sbhI
        have hlho7_3 := OS.lt ho7_3
        try simp -implicitDefEqProofs (disch := first | decide | assumption | omega) only [go_sem, RdS.len hdX sl22, RdS.idx hdX sl22, R1.intB hdX (Ext.pres eB), RdS.cells hdX, RdS.len hmX sl23, RdS.idx hmX sl23, RdS.cellB hmX (Ext.pres eB), RdS.cells hmX, RdS.len (OS.rd ho7_3) sl56, RdS.idx (OS.rd ho7_3) sl56, RdS.cellN (OS.rd ho7_3), RdS.cells (OS.rd ho7_3), BoxAt.cell hb0_0, wrap_id]
        refine hK _ _ ?_
        clear hK K
        refine den_blk ?_
        refine den_region TTok ?_
        intro K hK
        simp -implicitDefEqProofs (disch := first | decide | assumption | omega) only [go_sem, RdS.len hdX sl22, RdS.idx hdX sl22, R1.intB hdX (Ext.pres eB), RdS.cells hdX, RdS.len hmX sl23, RdS.idx hmX sl23, RdS.cellB hmX (Ext.pres eB), RdS.cells hmX, RdS.len (OS.rd ho7_3) sl56, RdS.idx (OS.rd ho7_3) sl56, RdS.cellN (OS.rd ho7_3), RdS.cells (OS.rd ho7_3), BoxAt.cell hb0_0, wrap_id]
        refine hK _ _ ?_
        clear hK K
        refine den_stop ?_
        rw [← List.replicate_succ'] at ho7_3
        exact ⟨(k + 1, v7_3, fp7_3), by simp [HasL, puts_at], ⟨by first | omega | (dsimp only; omega), ho7_3, hfho7_3, sb6, cL3⟩, by first | omega | (dsimp only; omega)⟩
      · try simp only [decide_eq_true_eq, decide_eq_false_iff_not, beq_iff_eq, beq_eq_false_iff_ne, bne_iff_ne, ne_eq, Bool.not_eq_true', Bool.not_eq_false', Bool.and_eq_true, Bool.or_eq_true, bne_eq_false_iff_eq, in3_iff, in3_f] at c1
        refine den_exit ?_
        refine denX_code ?_
        refine denX_stop ?_
        refine denX_hit ?_
        refine den_seq ?_
        refine den_region TTok ?_
        intro K hK
        simp -implicitDefEqProofs (disch := first | decide | assumption | omega) only [go_sem, RdS.len hdX sl22, RdS.idx hdX sl22, R1.intB hdX (Ext.pres eB), RdS.cells hdX, RdS.len hmX sl23, RdS.idx hmX sl23, RdS.cellB hmX (Ext.pres eB), RdS.cells hmX, RdS.len (OS.rd hI) sl56, RdS.idx (OS.rd hI) sl56, RdS.cellN (OS.rd hI), RdS.cells (OS.rd hI), wrap_id]
        refine hK _ _ ?_
        clear hK K
        refine den_ret ?_
        simp (disch := decide) only [resP_1, puts_same, puts_ne]
        have e : dimP X n = 0 := by rw [dimP, if_neg (by rw [in3_iff]; omega)]
        exact ⟨_, rfl, by rw [mapP, if_neg (by rw [in3_iff]; omega), e]; exact RdS.nilAny (OS.rd hI) (by rw [show k = 0 by omega]; rfl), eB⟩

set_option maxRecDepth 100000 in
set_option maxHeartbeats 4000000 in
theorem sAdd_ok (vX vY : Value) (X : Cx) (Y : Cx) (h : Heap) (rX : RC h vX X) (rY : RC h vY Y)  : CallA Try.prog 29 #[vX, vY] h fun v' h' => ∃ wd0 wm0 fd0 fm0, v' = .tuple #[.agg #[.int .i64 ((addP X Y).1).p, wd0, wm0], .int .i64 ((addP X Y).2)] ∧ O1 h' wd0 ((addP X Y).1).dims fd0 ∧ O3 h' wm0 ((addP X Y).1).maps fm0 ∧ Fresh h.size (fd0 ++ fm0) ∧ Ext h h' := by
  obtain ⟨vdX, vmX, rfl, hdX, hmX⟩ := rX
  have hledX := RdS.le hdX
  have hlemX := RdS.le hmX
  obtain ⟨vdY, vmY, rfl, hdY, hmY⟩ := rY
  have hledY := RdS.le hdY
  have hlemY := RdS.le hmY
  refine callA_intro TTok (args := [_, _]) Try.func29 (by kernel_rfl) rfl 119 rfl (by simp) [.cell 4 30, .tmp 5] rfl ?_
  simp only [idxs, Nat.reduceAdd]
  refine den_seq ?_
  refine den_region TTok ?_
  intro K hK
  simp -implicitDefEqProofs (disch := first | decide | assumption | omega) only [go_sem, RdS.len hdX sl22, RdS.idx hdX sl22, R1.intB hdX (HPres.refl _), RdS.cells hdX, RdS.len hmX sl23, RdS.idx hmX sl23, RdS.cellB hmX (HPres.refl _), RdS.cells hmX, RdS.len hdY sl22, RdS.idx hdY sl22, R1.intB hdY (HPres.refl _), RdS.cells hdY, RdS.len hmY sl23, RdS.idx hmY sl23, RdS.cellB hmY (HPres.refl _), RdS.cells hmY, wrap_id, bC0, Int.toNat_zero]
  refine op_box (cs := #[.int .i64 (X.p), vdX, vmX]) rfl ?_
  intro h0_0 e0_0 hb0_0 z0_0
  have := Ext.size e0_0
  have eB := e0_0
  have hfhb0_0 : Fresh h.size [h.size] := Fresh.one _
  have hlhb0_0 := one_lt (show h.size < h0_0.size by omega)
  try simp -implicitDefEqProofs (disch := first | decide | assumption | omega) only [go_sem, RdS.len hdX sl22, RdS.idx hdX sl22, R1.intB hdX (Ext.pres eB), RdS.cells hdX, RdS.len hmX sl23, RdS.idx hmX sl23, RdS.cellB hmX (Ext.pres eB), RdS.cells hmX, RdS.len hdY sl22, RdS.idx hdY sl22, R1.intB hdY (Ext.pres eB), RdS.cells hdY, RdS.len hmY sl23, RdS.idx hmY sl23, RdS.cellB hmY (Ext.pres eB), RdS.cells hmY, BoxAt.cell hb0_0, wrap_id, bC0, Int.toNat_zero]
  refine op_box (cs := #[.int .i64 (Y.p), vdY, vmY]) rfl ?_
  intro h0_1 e0_1 hb0_1 z0_1
  replace hb0_0 := BoxAt.ext hb0_0 e0_1
  have := Ext.size e0_1
  replace eB := Ext.trans eB e0_1
  have hfhb0_1 : Fresh h0_0.size [h0_0.size] := Fresh.one _
  have hlhb0_1 := one_lt (show h0_0.size < h0_1.size by omega)
  try simp -implicitDefEqProofs (disch := first | decide | assumption | omega) only [go_sem, RdS.len hdX sl22, RdS.idx hdX sl22, R1.intB hdX (Ext.pres eB), RdS.cells hdX, RdS.len hmX sl23, RdS.idx hmX sl23, RdS.cellB hmX (Ext.pres eB), RdS.cells hmX, RdS.len hdY sl22, RdS.idx hdY sl22, R1.intB hdY (Ext.pres eB), RdS.cells hdY, RdS.len hmY sl23, RdS.idx hmY sl23, RdS.cellB hmY (Ext.pres eB), RdS.cells hmY, BoxAt.cell hb0_0, BoxAt.cell hb0_1, wrap_id, bC0, Int.toNat_zero]
  refine op_alloc (cs := #[.int .i64 0, .slice none 0 0, .slice none 0 0]) (by kernel_rfl) ?_
  intro h0_2 e0_2 hb0_2 z0_2
  replace hb0_0 := BoxAt.ext hb0_0 e0_2
  replace hb0_1 := BoxAt.ext hb0_1 e0_2
  have := Ext.size e0_2
  replace eB := Ext.trans eB e0_2
  have hfhb0_2 : Fresh h0_1.size [h0_1.size] := Fresh.one _
  have hlhb0_2 := one_lt (show h0_1.size < h0_2.size by omega)
  try simp -implicitDefEqProofs (disch := first | decide | assumption | omega) only [go_sem, RdS.len hdX sl22, RdS.idx hdX sl22, R1.intB hdX (Ext.pres eB), RdS.cells hdX, RdS.len hmX sl23, RdS.idx hmX sl23, RdS.cellB hmX (Ext.pres eB), RdS.cells hmX, RdS.len hdY sl22, RdS.idx hdY sl22, R1.intB hdY (Ext.pres eB), RdS.cells hdY, RdS.len hmY sl23, RdS.idx hmY sl23, RdS.cellB hmY (Ext.pres eB), RdS.cells hmY, BoxAt.cell hb0_0, BoxAt.cell hb0_1, BoxAt.cell hb0_2, wrap_id, bC0, Int.toNat_zero]
  refine hK _ _ ?_
  clear hK K
  refine den_seq ?_
  refine den_block ?_
  refine den_seq ?_
  refine den_merge [(14, .bool (((!((isC X))) || (!((isC Y))))))] [2, 3, 4] (fun H => Ext h0_2 H) ?_ ?_
    -- a way
  · refine den_region TTok ?_
    intro K hK
    simp -implicitDefEqProofs (disch := first | decide | assumption | (simp (disch := decide) only [slotOf_zero, slotOf_succ, Option.map_some, puts_same, puts_ne, gv_bool, gv_undef, tt, tf, ft, ff, eq_self, if_true, if_false, Bool.false_eq_true, Bool.not_true, Bool.not_false]; done) | omega) only [go_sem, ld30, RdS.len hdX sl22, RdS.idx hdX sl22, R1.intB hdX (Ext.pres eB), RdS.cells hdX, RdS.len hmX sl23, RdS.idx hmX sl23, RdS.cellB hmX (Ext.pres eB), RdS.cells hmX, RdS.len hdY sl22, RdS.idx hdY sl22, R1.intB hdY (Ext.pres eB), RdS.cells hdY, RdS.len hmY sl23, RdS.idx hmY sl23, RdS.cellB hmY (Ext.pres eB), RdS.cells hmY, BoxAt.cell hb0_0, BoxAt.cell hb0_1, BoxAt.cell hb0_2, wrap_id, bC0, Int.toNat_zero]
    try simp -implicitDefEqProofs (disch := first | decide | assumption | omega) only [go_sem, RdS.len hdX sl22, RdS.idx hdX sl22, R1.intB hdX (Ext.pres eB), RdS.cells hdX, RdS.len hmX sl23, RdS.idx hmX sl23, RdS.cellB hmX (Ext.pres eB), RdS.cells hmX, RdS.len hdY sl22, RdS.idx hdY sl22, R1.intB hdY (Ext.pres eB), RdS.cells hdY, RdS.len hmY sl23, RdS.idx hmY sl23, RdS.cellB hmY (Ext.pres eB), RdS.cells hmY, BoxAt.cell hb0_0, BoxAt.cell hb0_1, BoxAt.cell hb0_2, wrap_id, bC0, Int.toNat_zero]
    refine CallA.mono (sIs_ok _ X _ ⟨_, _, rfl, (RdS.pres hdX (Ext.pres eB)), (RdS.pres hmX (Ext.pres eB))⟩) ?_
    intro v_ h1_1
    rintro ⟨rfl, e1_1⟩
    replace hb0_0 := BoxAt.ext hb0_0 e1_1
    replace hb0_1 := BoxAt.ext hb0_1 e1_1
    replace hb0_2 := BoxAt.ext hb0_2 e1_1
    have := Ext.size e1_1
    replace eB := Ext.trans eB e1_1
    try simp -implicitDefEqProofs (disch := first | decide | assumption | (simp (disch := decide) only [slotOf_zero, slotOf_succ, Option.map_some, puts_same, puts_ne, gv_bool, gv_undef, tt, tf, ft, ff, eq_self, if_true, if_false, Bool.false_eq_true, Bool.not_true, Bool.not_false]; done) | omega) only [go_sem, RdS.len hdX sl22, RdS.idx hdX sl22, R1.intB hdX (Ext.pres eB), RdS.cells hdX, RdS.len hmX sl23, RdS.idx hmX sl23, RdS.cellB hmX (Ext.pres eB), RdS.cells hmX, RdS.len hdY sl22, RdS.idx hdY sl22, R1.intB hdY (Ext.pres eB), RdS.cells hdY, RdS.len hmY sl23, RdS.idx hmY sl23, RdS.cellB hmY (Ext.pres eB), RdS.cells hmY, BoxAt.cell hb0_0, BoxAt.cell hb0_1, BoxAt.cell hb0_2, wrap_id, bC0, Int.toNat_zero]
    refine opsP_F (by simp (disch := decide) only [slotOf_zero, slotOf_succ, Option.map_some, puts_same, puts_ne, gv_bool, gv_undef, tt, tf, ft, ff, eq_self, if_true, if_false, Bool.false_eq_true, Bool.not_true, Bool.not_false]; rfl) (fun g1 => ?_) (fun g1 => ?_)
    · try simp -implicitDefEqProofs (disch := first | decide | assumption | (simp (disch := decide) only [slotOf_zero, slotOf_succ, Option.map_some, puts_same, puts_ne, gv_bool, gv_undef, tt, tf, ft, ff, eq_self, if_true, if_false, Bool.false_eq_true, Bool.not_true, Bool.not_false, g1]; done) | omega) only [go_sem, ld30, RdS.len hdX sl22, RdS.idx hdX sl22, R1.intB hdX (Ext.pres eB), RdS.cells hdX, RdS.len hmX sl23, RdS.idx hmX sl23, RdS.cellB hmX (Ext.pres eB), RdS.cells hmX, RdS.len hdY sl22, RdS.idx hdY sl22, R1.intB hdY (Ext.pres eB), RdS.cells hdY, RdS.len hmY sl23, RdS.idx hmY sl23, RdS.cellB hmY (Ext.pres eB), RdS.cells hmY, BoxAt.cell hb0_0, BoxAt.cell hb0_1, BoxAt.cell hb0_2, wrap_id, bC0, Int.toNat_zero, g1, eq_self, if_true, if_false, Bool.false_eq_true]
      try simp -implicitDefEqProofs (disch := first | decide | assumption | omega) only [go_sem, RdS.len hdX sl22, RdS.idx hdX sl22, R1.intB hdX (Ext.pres eB), RdS.cells hdX, RdS.len hmX sl23, RdS.idx hmX sl23, RdS.cellB hmX (Ext.pres eB), RdS.cells hmX, RdS.len hdY sl22, RdS.idx hdY sl22, R1.intB hdY (Ext.pres eB), RdS.cells hdY, RdS.len hmY sl23, RdS.idx hmY sl23, RdS.cellB hmY (Ext.pres eB), RdS.cells hmY, BoxAt.cell hb0_0, BoxAt.cell hb0_1, BoxAt.cell hb0_2, wrap_id, bC0, Int.toNat_zero]
      refine CallA.mono (sIs_ok _ Y _ ⟨_, _, rfl, (RdS.pres hdY (Ext.pres eB)), (RdS.pres hmY (Ext.pres eB))⟩) ?_
      intro v_ h1_5
      rintro ⟨rfl, e1_5⟩
      replace hb0_0 := BoxAt.ext hb0_0 e1_5
      replace hb0_1 := BoxAt.ext hb0_1 e1_5
      replace hb0_2 := BoxAt.ext hb0_2 e1_5
      have := Ext.size e1_5
      replace eB := Ext.trans eB e1_5
      try simp -implicitDefEqProofs (disch := first | decide | assumption | (simp (disch := decide) only [slotOf_zero, slotOf_succ, Option.map_some, puts_same, puts_ne, gv_bool, gv_undef, tt, tf, ft, ff, eq_self, if_true, if_false, Bool.false_eq_true, Bool.not_true, Bool.not_false, g1]; done) | omega) only [go_sem, RdS.len hdX sl22, RdS.idx hdX sl22, R1.intB hdX (Ext.pres eB), RdS.cells hdX, RdS.len hmX sl23, RdS.idx hmX sl23, RdS.cellB hmX (Ext.pres eB), RdS.cells hmX, RdS.len hdY sl22, RdS.idx hdY sl22, R1.intB hdY (Ext.pres eB), RdS.cells hdY, RdS.len hmY sl23, RdS.idx hmY sl23, RdS.cellB hmY (Ext.pres eB), RdS.cells hmY, BoxAt.cell hb0_0, BoxAt.cell hb0_1, BoxAt.cell hb0_2, wrap_id, bC0, Int.toNat_zero, g1, eq_self, if_true, if_false, Bool.false_eq_true]
      refine hK _ _ ?_
      clear hK K
      refine den_stop ?_
      refine ⟨?_, (Ext.trans e1_1 e1_5)⟩
      first | (simp (disch := decide) only [go_sem, g1, eq_self, Bool.true_and, Bool.and_true, Bool.false_and, Bool.and_false, Bool.true_or, Bool.or_true, Bool.false_or, Bool.or_false, if_true, if_false, Bool.false_eq_true]; done) | simp [HasL, sel, puts_at, g1]
    · try simp -implicitDefEqProofs (disch := first | decide | assumption | (simp (disch := decide) only [slotOf_zero, slotOf_succ, Option.map_some, puts_same, puts_ne, gv_bool, gv_undef, tt, tf, ft, ff, eq_self, if_true, if_false, Bool.false_eq_true, Bool.not_true, Bool.not_false, g1]; done) | omega) only [go_sem, RdS.len hdX sl22, RdS.idx hdX sl22, R1.intB hdX (Ext.pres eB), RdS.cells hdX, RdS.len hmX sl23, RdS.idx hmX sl23, RdS.cellB hmX (Ext.pres eB), RdS.cells hmX, RdS.len hdY sl22, RdS.idx hdY sl22, R1.intB hdY (Ext.pres eB), RdS.cells hdY, RdS.len hmY sl23, RdS.idx hmY sl23, RdS.cellB hmY (Ext.pres eB), RdS.cells hmY, BoxAt.cell hb0_0, BoxAt.cell hb0_1, BoxAt.cell hb0_2, wrap_id, bC0, Int.toNat_zero, g1, eq_self, if_true, if_false, Bool.false_eq_true]
      refine hK _ _ ?_
      clear hK K
      refine den_stop ?_
      refine ⟨?_, e1_1⟩
      first | (simp (disch := decide) only [go_sem, g1, eq_self, Bool.true_and, Bool.and_true, Bool.false_and, Bool.and_false, Bool.true_or, Bool.or_true, Bool.false_or, Bool.or_false, if_true, if_false, Bool.false_eq_true]; done) | simp [HasL, sel, puts_at, g1]
  intro en2 h3 e4
  replace hb0_0 := BoxAt.ext hb0_0 e4
  replace hb0_1 := BoxAt.ext hb0_1 e4
  replace hb0_2 := BoxAt.ext hb0_2 e4
  have := Ext.size e4
  replace eB := Ext.trans eB e4
  simp (disch := decide) only [go_sem]
  refine den_cond rfl (fun c0 => ?_) (fun c0 => ?_)
  · try simp only [decide_eq_true_eq, decide_eq_false_iff_not, beq_iff_eq, beq_eq_false_iff_ne, bne_iff_ne, ne_eq, Bool.not_eq_true', Bool.not_eq_false', Bool.and_eq_true, Bool.or_eq_true, bne_eq_false_iff_eq, Bool.or_eq_false_iff, Bool.and_eq_false_iff] at c0
    refine den_seq ?_
    refine den_region TTok ?_
    intro K hK
    simp -implicitDefEqProofs (disch := first | decide | assumption | omega) only [go_sem, RdS.len hdX sl22, RdS.idx hdX sl22, R1.intB hdX (Ext.pres eB), RdS.cells hdX, RdS.len hmX sl23, RdS.idx hmX sl23, RdS.cellB hmX (Ext.pres eB), RdS.cells hmX, RdS.len hdY sl22, RdS.idx hdY sl22, R1.intB hdY (Ext.pres eB), RdS.cells hdY, RdS.len hmY sl23, RdS.idx hmY sl23, RdS.cellB hmY (Ext.pres eB), RdS.cells hmY, BoxAt.cell hb0_2, wrap_id, bC0, Int.toNat_zero]
    refine op_storeB (cs' := #[.int .i64 ((0 : Int)), .slice none 0 0, .slice none 0 0]) st30 hb0_2 rfl rfl rfl (by simp) (allOne_mem (l := [.int .i64 ((0 : Int)), .slice none 0 0, .slice none 0 0]) ⟨rfl, rfl, rfl, trivial⟩) rfl ?_
    intro h2_1 hb0_2 c2_1
    have := c2_1.size
    replace eB := Ext.then eB c2_1 (ge_of hfhb0_2 (by omega))
    try simp -implicitDefEqProofs (disch := first | decide | assumption | omega) only [go_sem, RdS.len hdX sl22, RdS.idx hdX sl22, R1.intB hdX (Ext.pres eB), RdS.cells hdX, RdS.len hmX sl23, RdS.idx hmX sl23, RdS.cellB hmX (Ext.pres eB), RdS.cells hmX, RdS.len hdY sl22, RdS.idx hdY sl22, R1.intB hdY (Ext.pres eB), RdS.cells hdY, RdS.len hmY sl23, RdS.idx hmY sl23, RdS.cellB hmY (Ext.pres eB), RdS.cells hmY, BoxAt.cell hb0_2, wrap_id, bC0, Int.toNat_zero]
    refine hK _ _ ?_
    clear hK K
    refine den_ret ?_
    simp -implicitDefEqProofs (disch := first | decide | assumption | omega) only [go_sem, RdS.len hdX sl22, RdS.idx hdX sl22, R1.intB hdX (Ext.pres eB), RdS.cells hdX, RdS.len hmX sl23, RdS.idx hmX sl23, RdS.cellB hmX (Ext.pres eB), RdS.cells hmX, RdS.len hdY sl22, RdS.idx hdY sl22, R1.intB hdY (Ext.pres eB), RdS.cells hdY, RdS.len hmY sl23, RdS.idx hmY sl23, RdS.cellB hmY (Ext.pres eB), RdS.cells hmY, BoxAt.cell hb0_2, wrap_id, bC0, Int.toNat_zero, resP_ct, ld30]
    have hz : addP X Y = (⟨0, [], []⟩, 1) := by rw [addP, if_neg (by rintro ⟨h1, h2⟩; rw [h1, h2] at c0; simp at c0)]
    rw [hz]
    exact ⟨.slice none 0 0, .slice none 0 0, [], [], rfl, OS.nil, OS.nil, Fresh.nil _, eB⟩
  · try simp only [decide_eq_true_eq, decide_eq_false_iff_not, beq_iff_eq, beq_eq_false_iff_ne, bne_iff_ne, ne_eq, Bool.not_eq_true', Bool.not_eq_false', Bool.and_eq_true, Bool.or_eq_true, bne_eq_false_iff_eq, Bool.or_eq_false_iff, Bool.and_eq_false_iff] at c0
    have hXY : isC X = true ∧ isC Y = true := by simpa using c0
    have hX := isC_t.1 hXY.1
    have hY := isC_t.1 hXY.2
    have hCX := hX
    have hCY := hY
    have hmlX := hX.ml
    have hmlY := hY.ml
    have hlX := hX.len
    have hlY := hY.len
    have hpb := isP_bnd hX.p
    refine den_seq ?_
    refine den_region TTok ?_
    intro K hK
    simp -implicitDefEqProofs (disch := first | decide | assumption | omega) only [go_sem, fa30_0, ld2, RdS.len hdX sl22, RdS.idx hdX sl22, R1.intB hdX (Ext.pres eB), RdS.cells hdX, RdS.len hmX sl23, RdS.idx hmX sl23, RdS.cellB hmX (Ext.pres eB), RdS.cells hmX, RdS.len hdY sl22, RdS.idx hdY sl22, R1.intB hdY (Ext.pres eB), RdS.cells hdY, RdS.len hmY sl23, RdS.idx hmY sl23, RdS.cellB hmY (Ext.pres eB), RdS.cells hmY, BoxAt.cell hb0_0, BoxAt.cell hb0_1, BoxAt.cell hb0_2, wrap_id, bC0, Int.toNat_zero]
    refine hK _ _ ?_
    clear hK K
    refine den_cond rfl (fun c1 => ?_) (fun c1 => ?_)
    · try simp only [decide_eq_true_eq, decide_eq_false_iff_not, beq_iff_eq, beq_eq_false_iff_ne, bne_iff_ne, ne_eq, Bool.not_eq_true', Bool.not_eq_false', Bool.and_eq_true, Bool.or_eq_true, bne_eq_false_iff_eq, Bool.or_eq_false_iff, Bool.and_eq_false_iff] at c1
      refine den_seq ?_
      refine den_region TTok ?_
      intro K hK
      simp -implicitDefEqProofs (disch := first | decide | assumption | omega) only [go_sem, RdS.len hdX sl22, RdS.idx hdX sl22, R1.intB hdX (Ext.pres eB), RdS.cells hdX, RdS.len hmX sl23, RdS.idx hmX sl23, RdS.cellB hmX (Ext.pres eB), RdS.cells hmX, RdS.len hdY sl22, RdS.idx hdY sl22, R1.intB hdY (Ext.pres eB), RdS.cells hdY, RdS.len hmY sl23, RdS.idx hmY sl23, RdS.cellB hmY (Ext.pres eB), RdS.cells hmY, BoxAt.cell hb0_2, wrap_id, bC0, Int.toNat_zero]
      refine op_storeB (cs' := #[.int .i64 ((0 : Int)), .slice none 0 0, .slice none 0 0]) st30 hb0_2 rfl rfl rfl (by simp) (allOne_mem (l := [.int .i64 ((0 : Int)), .slice none 0 0, .slice none 0 0]) ⟨rfl, rfl, rfl, trivial⟩) rfl ?_
      intro h4_1 hb0_2 c4_1
      have := c4_1.size
      replace eB := Ext.then eB c4_1 (ge_of hfhb0_2 (by omega))
      try simp -implicitDefEqProofs (disch := first | decide | assumption | omega) only [go_sem, RdS.len hdX sl22, RdS.idx hdX sl22, R1.intB hdX (Ext.pres eB), RdS.cells hdX, RdS.len hmX sl23, RdS.idx hmX sl23, RdS.cellB hmX (Ext.pres eB), RdS.cells hmX, RdS.len hdY sl22, RdS.idx hdY sl22, R1.intB hdY (Ext.pres eB), RdS.cells hdY, RdS.len hmY sl23, RdS.idx hmY sl23, RdS.cellB hmY (Ext.pres eB), RdS.cells hmY, BoxAt.cell hb0_2, wrap_id, bC0, Int.toNat_zero]
      refine hK _ _ ?_
      clear hK K
      refine den_ret ?_
      simp -implicitDefEqProofs (disch := first | decide | assumption | omega) only [go_sem, RdS.len hdX sl22, RdS.idx hdX sl22, R1.intB hdX (Ext.pres eB), RdS.cells hdX, RdS.len hmX sl23, RdS.idx hmX sl23, RdS.cellB hmX (Ext.pres eB), RdS.cells hmX, RdS.len hdY sl22, RdS.idx hdY sl22, R1.intB hdY (Ext.pres eB), RdS.cells hdY, RdS.len hmY sl23, RdS.idx hmY sl23, RdS.cellB hmY (Ext.pres eB), RdS.cells hmY, BoxAt.cell hb0_2, wrap_id, bC0, Int.toNat_zero, resP_ct, ld30]
      have hz : addP X Y = (⟨0, [], []⟩, 2) := by rw [addP, if_pos hXY, if_neg c1]
      rw [hz]
      exact ⟨.slice none 0 0, .slice none 0 0, [], [], rfl, OS.nil, OS.nil, Fresh.nil _, eB⟩
    · try simp only [decide_eq_true_eq, decide_eq_false_iff_not, beq_iff_eq, beq_eq_false_iff_ne, bne_iff_ne, ne_eq, Bool.not_eq_true', Bool.not_eq_false', Bool.and_eq_true, Bool.or_eq_true, bne_eq_false_iff_eq, Bool.or_eq_false_iff, Bool.and_eq_false_iff] at c1
      refine den_skip ?_
      refine den_blk ?_
      refine den_seq ?_
      refine den_region TTok ?_
      intro K hK
      simp -implicitDefEqProofs (disch := first | decide | assumption | omega) only [go_sem, fa30_0, ld2, RdS.len hdX sl22, RdS.idx hdX sl22, R1.intB hdX (Ext.pres eB), RdS.cells hdX, RdS.len hmX sl23, RdS.idx hmX sl23, RdS.cellB hmX (Ext.pres eB), RdS.cells hmX, RdS.len hdY sl22, RdS.idx hdY sl22, R1.intB hdY (Ext.pres eB), RdS.cells hdY, RdS.len hmY sl23, RdS.idx hmY sl23, RdS.cellB hmY (Ext.pres eB), RdS.cells hmY, BoxAt.cell hb0_0, BoxAt.cell hb0_1, BoxAt.cell hb0_2, wrap_id, bC0, Int.toNat_zero]
      refine op_bs0 sz22 OI ?_
      intro v5_2 h5_2 ho5_2 e5_2
      replace hb0_0 := BoxAt.ext hb0_0 e5_2
      replace hb0_1 := BoxAt.ext hb0_1 e5_2
      replace hb0_2 := BoxAt.ext hb0_2 e5_2
      have := Ext.size e5_2
      replace eB := Ext.trans eB e5_2
      have hfho5_2 : Fresh h3.size [h3.size] := Fresh.one _
      have hlho5_2 := OS.lt ho5_2
      try simp -implicitDefEqProofs (disch := first | decide | assumption | omega) only [go_sem, RdS.len hdX sl22, RdS.idx hdX sl22, R1.intB hdX (Ext.pres eB), RdS.cells hdX, RdS.len hmX sl23, RdS.idx hmX sl23, RdS.cellB hmX (Ext.pres eB), RdS.cells hmX, RdS.len hdY sl22, RdS.idx hdY sl22, R1.intB hdY (Ext.pres eB), RdS.cells hdY, RdS.len hmY sl23, RdS.idx hmY sl23, RdS.cellB hmY (Ext.pres eB), RdS.cells hmY, RdS.len (OS.rd ho5_2) sl22, RdS.idx (OS.rd ho5_2) sl22, R1.intN (OS.rd ho5_2), RdS.cells (OS.rd ho5_2), BoxAt.cell hb0_0, BoxAt.cell hb0_1, BoxAt.cell hb0_2, wrap_id, bC0, Int.toNat_zero]
      refine op_bs0 sz23 O2 ?_
      intro v5_3 h5_3 ho5_3 e5_3
      replace ho5_2 := OS.ext ho5_2 e5_3
      replace hb0_0 := BoxAt.ext hb0_0 e5_3
      replace hb0_1 := BoxAt.ext hb0_1 e5_3
      replace hb0_2 := BoxAt.ext hb0_2 e5_3
      have := Ext.size e5_3
      replace eB := Ext.trans eB e5_3
      have hfho5_3 : Fresh h5_2.size [h5_2.size] := Fresh.one _
      have hlho5_3 := OS.lt ho5_3
      try simp -implicitDefEqProofs (disch := first | decide | assumption | omega) only [go_sem, RdS.len hdX sl22, RdS.idx hdX sl22, R1.intB hdX (Ext.pres eB), RdS.cells hdX, RdS.len hmX sl23, RdS.idx hmX sl23, RdS.cellB hmX (Ext.pres eB), RdS.cells hmX, RdS.len hdY sl22, RdS.idx hdY sl22, R1.intB hdY (Ext.pres eB), RdS.cells hdY, RdS.len hmY sl23, RdS.idx hmY sl23, RdS.cellB hmY (Ext.pres eB), RdS.cells hmY, RdS.len (OS.rd ho5_2) sl22, RdS.idx (OS.rd ho5_2) sl22, R1.intN (OS.rd ho5_2), RdS.cells (OS.rd ho5_2), RdS.len (OS.rd ho5_3) sl23, RdS.idx (OS.rd ho5_3) sl23, RdS.cellN (OS.rd ho5_3), RdS.cells (OS.rd ho5_3), BoxAt.cell hb0_0, BoxAt.cell hb0_1, BoxAt.cell hb0_2, wrap_id, bC0, Int.toNat_zero, bC3 (OS.isSl ho5_2) (OS.isSl ho5_3)]
      refine op_alloc (cs := #[.int .i64 0, .slice none 0 0, .slice none 0 0]) (by kernel_rfl) ?_
      intro h5_5 e5_5 hb5_5 z5_5
      replace ho5_2 := OS.ext ho5_2 e5_5
      replace ho5_3 := OS.ext ho5_3 e5_5
      replace hb0_0 := BoxAt.ext hb0_0 e5_5
      replace hb0_1 := BoxAt.ext hb0_1 e5_5
      replace hb0_2 := BoxAt.ext hb0_2 e5_5
      have := Ext.size e5_5
      replace eB := Ext.trans eB e5_5
      have hfhb5_5 : Fresh h5_3.size [h5_3.size] := Fresh.one _
      have hlhb5_5 := one_lt (show h5_3.size < h5_5.size by omega)
      try simp -implicitDefEqProofs (disch := first | decide | assumption | omega) only [go_sem, RdS.len hdX sl22, RdS.idx hdX sl22, R1.intB hdX (Ext.pres eB), RdS.cells hdX, RdS.len hmX sl23, RdS.idx hmX sl23, RdS.cellB hmX (Ext.pres eB), RdS.cells hmX, RdS.len hdY sl22, RdS.idx hdY sl22, R1.intB hdY (Ext.pres eB), RdS.cells hdY, RdS.len hmY sl23, RdS.idx hmY sl23, RdS.cellB hmY (Ext.pres eB), RdS.cells hmY, RdS.len (OS.rd ho5_2) sl22, RdS.idx (OS.rd ho5_2) sl22, R1.intN (OS.rd ho5_2), RdS.cells (OS.rd ho5_2), RdS.len (OS.rd ho5_3) sl23, RdS.idx (OS.rd ho5_3) sl23, RdS.cellN (OS.rd ho5_3), RdS.cells (OS.rd ho5_3), BoxAt.cell hb0_0, BoxAt.cell hb0_1, BoxAt.cell hb0_2, BoxAt.cell hb5_5, wrap_id, bC0, Int.toNat_zero, bC3 (OS.isSl ho5_2) (OS.isSl ho5_3)]
      refine op_storeB (cs' := #[.int .i64 (X.p), v5_2, v5_3]) st30 hb5_5 rfl rfl rfl (by simp) (allOne_mem (l := [.int .i64 (X.p), v5_2, v5_3]) ⟨rfl, (OS.one ho5_2).1, (OS.one ho5_3).1, trivial⟩) rfl ?_
      intro h5_6 hb5_5 c5_6
      replace ho5_2 := OS.chg ho5_2 c5_6 (apart_lt hlho5_2 hfhb5_5 (by omega))
      replace ho5_3 := OS.chg ho5_3 c5_6 (apart_lt hlho5_3 hfhb5_5 (by omega))
      replace hb0_0 := BoxAt.chgA hb0_0 c5_6 (apart_lt hlhb0_0 hfhb5_5 (by omega))
      replace hb0_1 := BoxAt.chgA hb0_1 c5_6 (apart_lt hlhb0_1 hfhb5_5 (by omega))
      replace hb0_2 := BoxAt.chgA hb0_2 c5_6 (apart_lt hlhb0_2 hfhb5_5 (by omega))
      have := c5_6.size
      replace eB := Ext.then eB c5_6 (ge_of hfhb5_5 (by omega))
      try simp -implicitDefEqProofs (disch := first | decide | assumption | omega) only [go_sem, RdS.len hdX sl22, RdS.idx hdX sl22, R1.intB hdX (Ext.pres eB), RdS.cells hdX, RdS.len hmX sl23, RdS.idx hmX sl23, RdS.cellB hmX (Ext.pres eB), RdS.cells hmX, RdS.len hdY sl22, RdS.idx hdY sl22, R1.intB hdY (Ext.pres eB), RdS.cells hdY, RdS.len hmY sl23, RdS.idx hmY sl23, RdS.cellB hmY (Ext.pres eB), RdS.cells hmY, RdS.len (OS.rd ho5_2) sl22, RdS.idx (OS.rd ho5_2) sl22, R1.intN (OS.rd ho5_2), RdS.cells (OS.rd ho5_2), RdS.len (OS.rd ho5_3) sl23, RdS.idx (OS.rd ho5_3) sl23, RdS.cellN (OS.rd ho5_3), RdS.cells (OS.rd ho5_3), BoxAt.cell hb0_0, BoxAt.cell hb0_1, BoxAt.cell hb0_2, BoxAt.cell hb5_5, wrap_id, bC0, Int.toNat_zero, bC3 (OS.isSl ho5_2) (OS.isSl ho5_3)]
      refine hK _ _ ?_
      clear hK K
      refine den_seq ?_
      refine den_seq ?_
      refine den_region TTok ?_
      intro K hK
      simp -implicitDefEqProofs (disch := first | decide | assumption | omega) only [go_sem, RdS.len hdX sl22, RdS.idx hdX sl22, R1.intB hdX (Ext.pres eB), RdS.cells hdX, RdS.len hmX sl23, RdS.idx hmX sl23, RdS.cellB hmX (Ext.pres eB), RdS.cells hmX, RdS.len hdY sl22, RdS.idx hdY sl22, R1.intB hdY (Ext.pres eB), RdS.cells hdY, RdS.len hmY sl23, RdS.idx hmY sl23, RdS.cellB hmY (Ext.pres eB), RdS.cells hmY, RdS.len (OS.rd ho5_2) sl22, RdS.idx (OS.rd ho5_2) sl22, R1.intN (OS.rd ho5_2), RdS.cells (OS.rd ho5_2), RdS.len (OS.rd ho5_3) sl23, RdS.idx (OS.rd ho5_3) sl23, RdS.cellN (OS.rd ho5_3), RdS.cells (OS.rd ho5_3), BoxAt.cell hb0_0, BoxAt.cell hb0_1, BoxAt.cell hb0_2, BoxAt.cell hb5_5, wrap_id, bC0, Int.toNat_zero]
      refine hK _ _ ?_
      clear hK K
      refine den_block ?_
      refine den_sel [7, 2, 3, 4, 6] ?_
      intro env_5
      simp only [go_sem]
      refine den_loopS (σ := Nat × Value × List Nat × Value × List Nat) (fun st_ => [(7, .int .i64 (st_.1 : Int))]) (fun st_ H => ((st_.1 : Int) ≤ max (X.dims.length : Int) (Y.dims.length : Int)) ∧ (∀ q, q < st_.1 → dimP X (q : Int) + dimP Y (q : Int) ≤ 8) ∧ (O1 H st_.2.1 ((List.range st_.1).map fun q : Nat => dimP X (q : Int) + dimP Y (q : Int)) st_.2.2.1) ∧ (Fresh (h3.size) st_.2.2.1) ∧ (Sub ([h3.size] ++ ([h5_2.size] ++ ([h5_3.size]))) h5_6.size st_.2.2.1) ∧ (O3 H st_.2.2.2.1 ((List.range (st_.1 - 1)).map fun q : Nat => addRows X Y (q + 1)) st_.2.2.2.2) ∧ (Fresh (h5_2.size) st_.2.2.2.2) ∧ (Sub ([h3.size] ++ ([h5_2.size] ++ ([h5_3.size]))) h5_6.size st_.2.2.2.2) ∧ (BoxAt H (h5_3.size) #[.int .i64 (X.p), st_.2.1, st_.2.2.2.1] 30) ∧ (Apart st_.2.2.1 st_.2.2.2.2) ∧ (Apart st_.2.2.1 [h5_3.size]) ∧ (Apart st_.2.2.2.2 [h5_3.size]) ∧ (Chg ([h3.size] ++ ([h5_2.size] ++ ([h5_3.size]))) h5_6 H)) (fun st_ => X.dims.length + Y.dims.length - st_.1) (0, v5_2, [h3.size], v5_3, [h5_2.size]) ?_ ?_
      · exact ⟨by omega, fun q hq => by omega, by simpa using ho5_2, hfho5_2, (Sub.left Sub.refl), by simpa using ho5_3, hfho5_3, (Sub.right (Sub.left Sub.refl)), by simpa using hb5_5, (apart_lt hlho5_2 hfho5_3 (by omega)), (apart_lt hlho5_2 hfhb5_5 (by omega)), (apart_lt hlho5_3 hfhb5_5 (by omega)), Chg.refl _ _⟩
      · rintro ⟨n, vhD, fphD, vhM, fphM⟩ h8 ee7 ⟨hn_, h8_, hD, hfhD, sbhD, hM, hfhM, sbhM, hbx6, ap_hD_hM, ap_hD_hbx6, ap_hM_hbx6, cL6⟩
        dsimp only at hn_ h8_ hD hfhD sbhD hM hfhM sbhM hbx6 ap_hD_hM ap_hD_hbx6 ap_hM_hbx6 cL6
        replace hb0_0 := BoxAt.chgA hb0_0 cL6 (Apart.app (apart_lt hlhb0_0 hfho5_2 (by omega)) (Apart.app (apart_lt hlhb0_0 hfho5_3 (by omega)) (apart_lt hlhb0_0 hfhb5_5 (by omega))))
        replace hb0_1 := BoxAt.chgA hb0_1 cL6 (Apart.app (apart_lt hlhb0_1 hfho5_2 (by omega)) (Apart.app (apart_lt hlhb0_1 hfho5_3 (by omega)) (apart_lt hlhb0_1 hfhb5_5 (by omega))))
        replace hb0_2 := BoxAt.chgA hb0_2 cL6 (Apart.app (apart_lt hlhb0_2 hfho5_2 (by omega)) (Apart.app (apart_lt hlhb0_2 hfho5_3 (by omega)) (apart_lt hlhb0_2 hfhb5_5 (by omega))))
        have := cL6.size
        replace eB := Ext.then eB cL6 (ge_app (ge_of hfho5_2 (by omega)) (ge_app (ge_of hfho5_3 (by omega)) (ge_of hfhb5_5 (by omega))))
        have hlhD := OS.lt hD
        have hlhM := OS.lt hM
        have hfhbx6 := hfhb5_5
        have hlhbx6 := hlhb5_5
        simp only [List.cons_append, List.nil_append]
        refine den_seq ?_
        refine den_seq ?_
        refine den_region TTok ?_
        intro K hK
        simp -implicitDefEqProofs (disch := first | decide | assumption | omega) only [go_sem, fa30_1, ld22, RdS.len hdX sl22, RdS.idx hdX sl22, R1.intB hdX (Ext.pres eB), RdS.cells hdX, RdS.len hmX sl23, RdS.idx hmX sl23, RdS.cellB hmX (Ext.pres eB), RdS.cells hmX, RdS.len hdY sl22, RdS.idx hdY sl22, R1.intB hdY (Ext.pres eB), RdS.cells hdY, RdS.len hmY sl23, RdS.idx hmY sl23, RdS.cellB hmY (Ext.pres eB), RdS.cells hmY, RdS.len (OS.rd hD) sl22, RdS.idx (OS.rd hD) sl22, R1.intN (OS.rd hD), RdS.cells (OS.rd hD), RdS.len (OS.rd hM) sl23, RdS.idx (OS.rd hM) sl23, RdS.cellN (OS.rd hM), RdS.cells (OS.rd hM), BoxAt.cell hb0_0, BoxAt.cell hb0_1, BoxAt.cell hb0_2, BoxAt.cell hbx6, wrap_id, bC0, Int.toNat_zero]
        refine hK _ _ ?_
        clear hK K
        refine den_cond rfl (fun c2 => ?_) (fun c2 => ?_)
        · try simp only [decide_eq_true_eq, decide_eq_false_iff_not, beq_iff_eq, beq_eq_false_iff_ne, bne_iff_ne, ne_eq, Bool.not_eq_true', Bool.not_eq_false', Bool.and_eq_true, Bool.or_eq_true, bne_eq_false_iff_eq, Bool.or_eq_false_iff, Bool.and_eq_false_iff] at c2
          refine den_skip ?_
          refine den_seq ?_
          refine den_block ?_
          refine den_seq ?_
          have hdx := dimP_bnd hX (n : Int)
          have hdy := dimP_bnd hY (n : Int)
          refine den_draw TTok mixed [] [(0, true), (1, true), (3, true), (4, true), (2, false), (5, false), (6, true), (7, true)] (by kernel_rfl) ?_
          intro K hK
          simp -implicitDefEqProofs (disch := first | decide | assumption | omega) only [go_sem, ld30, RdS.len hdX sl22, RdS.idx hdX sl22, R1.intB hdX (Ext.pres eB), RdS.cells hdX, RdS.len hmX sl23, RdS.idx hmX sl23, RdS.cellB hmX (Ext.pres eB), RdS.cells hmX, RdS.len hdY sl22, RdS.idx hdY sl22, R1.intB hdY (Ext.pres eB), RdS.cells hdY, RdS.len hmY sl23, RdS.idx hmY sl23, RdS.cellB hmY (Ext.pres eB), RdS.cells hmY, RdS.len (OS.rd hD) sl22, RdS.idx (OS.rd hD) sl22, R1.intN (OS.rd hD), RdS.cells (OS.rd hD), RdS.len (OS.rd hM) sl23, RdS.idx (OS.rd hM) sl23, RdS.cellN (OS.rd hM), RdS.cells (OS.rd hM), BoxAt.cell hb0_0, BoxAt.cell hb0_1, BoxAt.cell hb0_2, BoxAt.cell hbx6, wrap_id, bC0, Int.toNat_zero]
          try simp -implicitDefEqProofs (disch := first | decide | assumption | omega) only [go_sem, RdS.len hdX sl22, RdS.idx hdX sl22, R1.intB hdX (Ext.pres eB), RdS.cells hdX, RdS.len hmX sl23, RdS.idx hmX sl23, RdS.cellB hmX (Ext.pres eB), RdS.cells hmX, RdS.len hdY sl22, RdS.idx hdY sl22, R1.intB hdY (Ext.pres eB), RdS.cells hdY, RdS.len hmY sl23, RdS.idx hmY sl23, RdS.cellB hmY (Ext.pres eB), RdS.cells hmY, RdS.len (OS.rd hD) sl22, RdS.idx (OS.rd hD) sl22, R1.intN (OS.rd hD), RdS.cells (OS.rd hD), RdS.len (OS.rd hM) sl23, RdS.idx (OS.rd hM) sl23, RdS.cellN (OS.rd hM), RdS.cells (OS.rd hM), BoxAt.cell hb0_0, BoxAt.cell hb0_1, BoxAt.cell hb0_2, BoxAt.cell hbx6, wrap_id, bC0, Int.toNat_zero]
          refine CallA.mono (sDim_ok _ X _ _ ⟨_, _, rfl, (RdS.pres hdX (Ext.pres eB)), (RdS.pres hmX (Ext.pres eB))⟩) ?_
          intro v_ h9_2
          rintro ⟨rfl, e9_2⟩
          replace hD := OS.ext hD e9_2
          replace hM := OS.ext hM e9_2
          replace hb0_0 := BoxAt.ext hb0_0 e9_2
          replace hb0_1 := BoxAt.ext hb0_1 e9_2
          replace hb0_2 := BoxAt.ext hb0_2 e9_2
          replace hbx6 := BoxAt.ext hbx6 e9_2
          have := Ext.size e9_2
          replace eB := Ext.trans eB e9_2
          replace cL6 := Chg.stepE cL6 e9_2
          try simp (disch := decide) only [outv_some, outv_none, put_puts]
          refine plK_pres (Ext.pres e9_2) ?_
          try simp -implicitDefEqProofs (disch := first | decide | assumption | omega) only [go_sem, RdS.len hdX sl22, RdS.idx hdX sl22, R1.intB hdX (Ext.pres eB), RdS.cells hdX, RdS.len hmX sl23, RdS.idx hmX sl23, RdS.cellB hmX (Ext.pres eB), RdS.cells hmX, RdS.len hdY sl22, RdS.idx hdY sl22, R1.intB hdY (Ext.pres eB), RdS.cells hdY, RdS.len hmY sl23, RdS.idx hmY sl23, RdS.cellB hmY (Ext.pres eB), RdS.cells hmY, RdS.len (OS.rd hD) sl22, RdS.idx (OS.rd hD) sl22, R1.intN (OS.rd hD), RdS.cells (OS.rd hD), RdS.len (OS.rd hM) sl23, RdS.idx (OS.rd hM) sl23, RdS.cellN (OS.rd hM), RdS.cells (OS.rd hM), BoxAt.cell hb0_0, BoxAt.cell hb0_1, BoxAt.cell hb0_2, BoxAt.cell hbx6, wrap_id, bC0, Int.toNat_zero]
          try simp -implicitDefEqProofs (disch := first | decide | assumption | omega) only [go_sem, RdS.len hdX sl22, RdS.idx hdX sl22, R1.intB hdX (Ext.pres eB), RdS.cells hdX, RdS.len hmX sl23, RdS.idx hmX sl23, RdS.cellB hmX (Ext.pres eB), RdS.cells hmX, RdS.len hdY sl22, RdS.idx hdY sl22, R1.intB hdY (Ext.pres eB), RdS.cells hdY, RdS.len hmY sl23, RdS.idx hmY sl23, RdS.cellB hmY (Ext.pres eB), RdS.cells hmY, RdS.len (OS.rd hD) sl22, RdS.idx (OS.rd hD) sl22, R1.intN (OS.rd hD), RdS.cells (OS.rd hD), RdS.len (OS.rd hM) sl23, RdS.idx (OS.rd hM) sl23, RdS.cellN (OS.rd hM), RdS.cells (OS.rd hM), BoxAt.cell hb0_0, BoxAt.cell hb0_1, BoxAt.cell hb0_2, BoxAt.cell hbx6, wrap_id, bC0, Int.toNat_zero]
          refine CallA.mono (sDim_ok _ Y _ _ ⟨_, _, rfl, (RdS.pres hdY (Ext.pres eB)), (RdS.pres hmY (Ext.pres eB))⟩) ?_
          intro v_ h9_5
          rintro ⟨rfl, e9_5⟩
          replace hD := OS.ext hD e9_5
          replace hM := OS.ext hM e9_5
          replace hb0_0 := BoxAt.ext hb0_0 e9_5
          replace hb0_1 := BoxAt.ext hb0_1 e9_5
          replace hb0_2 := BoxAt.ext hb0_2 e9_5
          replace hbx6 := BoxAt.ext hbx6 e9_5
          have := Ext.size e9_5
          replace eB := Ext.trans eB e9_5
          replace cL6 := Chg.stepE cL6 e9_5
          try simp (disch := decide) only [outv_some, outv_none, put_puts]
          refine plK_pres (Ext.pres e9_5) ?_
          try simp -implicitDefEqProofs (disch := first | decide | assumption | omega) only [go_sem, RdS.len hdX sl22, RdS.idx hdX sl22, R1.intB hdX (Ext.pres eB), RdS.cells hdX, RdS.len hmX sl23, RdS.idx hmX sl23, RdS.cellB hmX (Ext.pres eB), RdS.cells hmX, RdS.len hdY sl22, RdS.idx hdY sl22, R1.intB hdY (Ext.pres eB), RdS.cells hdY, RdS.len hmY sl23, RdS.idx hmY sl23, RdS.cellB hmY (Ext.pres eB), RdS.cells hmY, RdS.len (OS.rd hD) sl22, RdS.idx (OS.rd hD) sl22, R1.intN (OS.rd hD), RdS.cells (OS.rd hD), RdS.len (OS.rd hM) sl23, RdS.idx (OS.rd hM) sl23, RdS.cellN (OS.rd hM), RdS.cells (OS.rd hM), BoxAt.cell hb0_0, BoxAt.cell hb0_1, BoxAt.cell hb0_2, BoxAt.cell hbx6, wrap_id, bC0, Int.toNat_zero]
          refine hK _ _ ?_
          clear hK K
          refine den_seq ?_
          refine den_seq ?_
          refine den_region TTok ?_
          intro K hK
          simp -implicitDefEqProofs (disch := first | decide | assumption | omega) only [go_sem, RdS.len hdX sl22, RdS.idx hdX sl22, R1.intB hdX (Ext.pres eB), RdS.cells hdX, RdS.len hmX sl23, RdS.idx hmX sl23, RdS.cellB hmX (Ext.pres eB), RdS.cells hmX, RdS.len hdY sl22, RdS.idx hdY sl22, R1.intB hdY (Ext.pres eB), RdS.cells hdY, RdS.len hmY sl23, RdS.idx hmY sl23, RdS.cellB hmY (Ext.pres eB), RdS.cells hmY, RdS.len (OS.rd hD) sl22, RdS.idx (OS.rd hD) sl22, R1.intN (OS.rd hD), RdS.cells (OS.rd hD), RdS.len (OS.rd hM) sl23, RdS.idx (OS.rd hM) sl23, RdS.cellN (OS.rd hM), RdS.cells (OS.rd hM), BoxAt.cell hb0_0, BoxAt.cell hb0_1, BoxAt.cell hb0_2, BoxAt.cell hbx6, wrap_id, bC0, Int.toNat_zero]
          refine hK _ _ ?_
          clear hK K
          refine den_cond rfl (fun c3 => ?_) (fun c3 => ?_)
          · try simp only [decide_eq_true_eq, decide_eq_false_iff_not, beq_iff_eq, beq_eq_false_iff_ne, bne_iff_ne, ne_eq, Bool.not_eq_true', Bool.not_eq_false', Bool.and_eq_true, Bool.or_eq_true, bne_eq_false_iff_eq, Bool.or_eq_false_iff, Bool.and_eq_false_iff] at c3
            refine den_seq ?_
            refine den_region TTok ?_
            intro K hK
            simp -implicitDefEqProofs (disch := first | decide | assumption | omega) only [go_sem, RdS.len hdX sl22, RdS.idx hdX sl22, R1.intB hdX (Ext.pres eB), RdS.cells hdX, RdS.len hmX sl23, RdS.idx hmX sl23, RdS.cellB hmX (Ext.pres eB), RdS.cells hmX, RdS.len hdY sl22, RdS.idx hdY sl22, R1.intB hdY (Ext.pres eB), RdS.cells hdY, RdS.len hmY sl23, RdS.idx hmY sl23, RdS.cellB hmY (Ext.pres eB), RdS.cells hmY, BoxAt.cell hb0_2, wrap_id, bC0, Int.toNat_zero]
            refine op_storeB (cs' := #[.int .i64 ((0 : Int)), .slice none 0 0, .slice none 0 0]) st30 hb0_2 rfl rfl rfl (by simp) (allOne_mem (l := [.int .i64 ((0 : Int)), .slice none 0 0, .slice none 0 0]) ⟨rfl, rfl, rfl, trivial⟩) rfl ?_
            intro h11_1 hb0_2 c11_1
            have := c11_1.size
            replace eB := Ext.then eB c11_1 (ge_of hfhb0_2 (by omega))
            try simp -implicitDefEqProofs (disch := first | decide | assumption | omega) only [go_sem, RdS.len hdX sl22, RdS.idx hdX sl22, R1.intB hdX (Ext.pres eB), RdS.cells hdX, RdS.len hmX sl23, RdS.idx hmX sl23, RdS.cellB hmX (Ext.pres eB), RdS.cells hmX, RdS.len hdY sl22, RdS.idx hdY sl22, R1.intB hdY (Ext.pres eB), RdS.cells hdY, RdS.len hmY sl23, RdS.idx hmY sl23, RdS.cellB hmY (Ext.pres eB), RdS.cells hmY, BoxAt.cell hb0_2, wrap_id, bC0, Int.toNat_zero]
            refine hK _ _ ?_
            clear hK K
            refine den_ret ?_
            simp -implicitDefEqProofs (disch := first | decide | assumption | omega) only [go_sem, RdS.len hdX sl22, RdS.idx hdX sl22, R1.intB hdX (Ext.pres eB), RdS.cells hdX, RdS.len hmX sl23, RdS.idx hmX sl23, RdS.cellB hmX (Ext.pres eB), RdS.cells hmX, RdS.len hdY sl22, RdS.idx hdY sl22, R1.intB hdY (Ext.pres eB), RdS.cells hdY, RdS.len hmY sl23, RdS.idx hmY sl23, RdS.cellB hmY (Ext.pres eB), RdS.cells hmY, BoxAt.cell hb0_2, wrap_id, bC0, Int.toNat_zero, resP_ct, ld30]
            have hz : addP X Y = (⟨0, [], []⟩, 3) := by rw [addP, if_pos hXY, if_pos (by omega), if_neg (add_at (n := n) (by unfold addN; omega) (by omega))]
            rw [hz]
            exact ⟨.slice none 0 0, .slice none 0 0, [], [], rfl, OS.nil, OS.nil, Fresh.nil _, eB⟩
          · try simp only [decide_eq_true_eq, decide_eq_false_iff_not, beq_iff_eq, beq_eq_false_iff_ne, bne_iff_ne, ne_eq, Bool.not_eq_true', Bool.not_eq_false', Bool.and_eq_true, Bool.or_eq_true, bne_eq_false_iff_eq, Bool.or_eq_false_iff, Bool.and_eq_false_iff] at c3
            refine den_skip ?_
            refine den_seq ?_
            have hl0 : ((List.range n).map fun q : Nat => dimP X (q : Int) + dimP Y (q : Int)).length = n := by simp
            have hl1 : ((List.range (n - 1)).map fun q : Nat => addRows X Y (q + 1)).length = n - 1 := by simp
            refine den_region TTok ?_
            intro K hK
            simp -implicitDefEqProofs (disch := first | decide | assumption | omega) only [go_sem, fa30_1, ld22, RdS.len hdX sl22, RdS.idx hdX sl22, R1.intB hdX (Ext.pres eB), RdS.cells hdX, RdS.len hmX sl23, RdS.idx hmX sl23, RdS.cellB hmX (Ext.pres eB), RdS.cells hmX, RdS.len hdY sl22, RdS.idx hdY sl22, R1.intB hdY (Ext.pres eB), RdS.cells hdY, RdS.len hmY sl23, RdS.idx hmY sl23, RdS.cellB hmY (Ext.pres eB), RdS.cells hmY, RdS.len (OS.rd hD) sl22, RdS.idx (OS.rd hD) sl22, R1.intN (OS.rd hD), RdS.cells (OS.rd hD), RdS.len (OS.rd hM) sl23, RdS.idx (OS.rd hM) sl23, RdS.cellN (OS.rd hM), RdS.cells (OS.rd hM), BoxAt.cell hb0_0, BoxAt.cell hb0_1, BoxAt.cell hb0_2, BoxAt.cell hbx6, wrap_id, bC0, Int.toNat_zero]
            refine op_bs1 sz22 rfl rfl ?_
            try simp -implicitDefEqProofs (disch := first | decide | assumption | omega) only [go_sem, RdS.len hdX sl22, RdS.idx hdX sl22, R1.intB hdX (Ext.pres eB), RdS.cells hdX, RdS.len hmX sl23, RdS.idx hmX sl23, RdS.cellB hmX (Ext.pres eB), RdS.cells hmX, RdS.len hdY sl22, RdS.idx hdY sl22, R1.intB hdY (Ext.pres eB), RdS.cells hdY, RdS.len hmY sl23, RdS.idx hmY sl23, RdS.cellB hmY (Ext.pres eB), RdS.cells hmY, RdS.len (OS.rd hD) sl22, RdS.idx (OS.rd hD) sl22, R1.intN (OS.rd hD), RdS.cells (OS.rd hD), RdS.len (OS.rd hM) sl23, RdS.idx (OS.rd hM) sl23, RdS.cellN (OS.rd hM), RdS.cells (OS.rd hM), BoxAt.cell hb0_0, BoxAt.cell hb0_1, BoxAt.cell hb0_2, BoxAt.cell hbx6, wrap_id, bC0, Int.toNat_zero]
            refine op_append1 sz22 hD hfhD.nodup ⟨rfl, rfl⟩ List.nodup_nil (Apart.nil _) (by first | omega | (simp; omega)) rfl rfl ?_
            intro v12_4 h12_4 fp12_4 ho12_4 hn12_4 hs12_4 c12_4
            have hsz12_4 := c12_4.size
            have hfho12_4 : Fresh h3.size fp12_4 := Fresh.appd hfhD (Fresh.nil h9_5.size) (by omega) (by omega) hn12_4 hs12_4
            have sb9 : Sub ([h3.size] ++ ([h5_2.size] ++ ([h5_3.size]))) h5_6.size fp12_4 := Sub.grow sbhD Sub.nil (by omega) hs12_4
            replace hM := OS.chg hM c12_4 (Apart.symm ap_hD_hM)
            replace hb0_0 := BoxAt.chgA hb0_0 c12_4 (apart_lt hlhb0_0 hfhD (by omega))
            replace hb0_1 := BoxAt.chgA hb0_1 c12_4 (apart_lt hlhb0_1 hfhD (by omega))
            replace hb0_2 := BoxAt.chgA hb0_2 c12_4 (apart_lt hlhb0_2 hfhD (by omega))
            replace hbx6 := BoxAt.chgA hbx6 c12_4 (Apart.symm ap_hD_hbx6)
            have := c12_4.size
            replace eB := Ext.then eB c12_4 (ge_of hfhD (by omega))
            replace cL6 := Chg.step cL6 c12_4 sbhD
            have ap10 : Apart fphM fp12_4 := Apart.grow hlhM (by omega) (Apart.symm ap_hD_hM) (Apart.nil _) hs12_4
            have ap11 : Apart [h5_3.size] fp12_4 := Apart.grow hlhbx6 (by omega) (Apart.symm ap_hD_hbx6) (Apart.nil _) hs12_4
            have hlho12_4 := OS.lt ho12_4
            try simp -implicitDefEqProofs (disch := first | decide | assumption | omega) only [go_sem, fa30_1, RdS.len hdX sl22, RdS.idx hdX sl22, R1.intB hdX (Ext.pres eB), RdS.cells hdX, RdS.len hmX sl23, RdS.idx hmX sl23, RdS.cellB hmX (Ext.pres eB), RdS.cells hmX, RdS.len hdY sl22, RdS.idx hdY sl22, R1.intB hdY (Ext.pres eB), RdS.cells hdY, RdS.len hmY sl23, RdS.idx hmY sl23, RdS.cellB hmY (Ext.pres eB), RdS.cells hmY, RdS.len (OS.rd hM) sl23, RdS.idx (OS.rd hM) sl23, RdS.cellN (OS.rd hM), RdS.cells (OS.rd hM), RdS.len (OS.rd ho12_4) sl22, RdS.idx (OS.rd ho12_4) sl22, R1.intN (OS.rd ho12_4), RdS.cells (OS.rd ho12_4), BoxAt.cell hb0_0, BoxAt.cell hb0_1, BoxAt.cell hb0_2, BoxAt.cell hbx6, wrap_id, bC0, Int.toNat_zero]
            refine op_storeB (cs' := #[.int .i64 (X.p), v12_4, vhM]) st22 hbx6 rfl (OS.one ho12_4).2 rfl (by simp) (allOne_mem (l := [v12_4]) ⟨(OS.one ho12_4).1, trivial⟩) rfl ?_
            intro h12_6 hbx6 c12_6
            replace hM := OS.chg hM c12_6 ap_hM_hbx6
            replace ho12_4 := OS.chg ho12_4 c12_6 (Apart.symm ap11)
            replace hb0_0 := BoxAt.chgA hb0_0 c12_6 (apart_lt hlhb0_0 hfhbx6 (by omega))
            replace hb0_1 := BoxAt.chgA hb0_1 c12_6 (apart_lt hlhb0_1 hfhbx6 (by omega))
            replace hb0_2 := BoxAt.chgA hb0_2 c12_6 (apart_lt hlhb0_2 hfhbx6 (by omega))
            have := c12_6.size
            replace eB := Ext.then eB c12_6 (ge_of hfhbx6 (by omega))
            replace cL6 := Chg.step cL6 c12_6 (Sub.right (Sub.right Sub.refl))
            try simp -implicitDefEqProofs (disch := first | decide | assumption | omega) only [go_sem, RdS.len hdX sl22, RdS.idx hdX sl22, R1.intB hdX (Ext.pres eB), RdS.cells hdX, RdS.len hmX sl23, RdS.idx hmX sl23, RdS.cellB hmX (Ext.pres eB), RdS.cells hmX, RdS.len hdY sl22, RdS.idx hdY sl22, R1.intB hdY (Ext.pres eB), RdS.cells hdY, RdS.len hmY sl23, RdS.idx hmY sl23, RdS.cellB hmY (Ext.pres eB), RdS.cells hmY, RdS.len (OS.rd hM) sl23, RdS.idx (OS.rd hM) sl23, RdS.cellN (OS.rd hM), RdS.cells (OS.rd hM), RdS.len (OS.rd ho12_4) sl22, RdS.idx (OS.rd ho12_4) sl22, R1.intN (OS.rd ho12_4), RdS.cells (OS.rd ho12_4), BoxAt.cell hb0_0, BoxAt.cell hb0_1, BoxAt.cell hb0_2, BoxAt.cell hbx6, wrap_id, bC0, Int.toNat_zero]
            refine hK _ _ ?_
            clear hK K
            refine den_seq ?_
            refine den_seq ?_
            refine den_region TTok ?_
            intro K hK
            simp -implicitDefEqProofs (disch := first | decide | assumption | omega) only [go_sem, RdS.len hdX sl22, RdS.idx hdX sl22, R1.intB hdX (Ext.pres eB), RdS.cells hdX, RdS.len hmX sl23, RdS.idx hmX sl23, RdS.cellB hmX (Ext.pres eB), RdS.cells hmX, RdS.len hdY sl22, RdS.idx hdY sl22, R1.intB hdY (Ext.pres eB), RdS.cells hdY, RdS.len hmY sl23, RdS.idx hmY sl23, RdS.cellB hmY (Ext.pres eB), RdS.cells hmY, RdS.len (OS.rd hM) sl23, RdS.idx (OS.rd hM) sl23, RdS.cellN (OS.rd hM), RdS.cells (OS.rd hM), RdS.len (OS.rd ho12_4) sl22, RdS.idx (OS.rd ho12_4) sl22, R1.intN (OS.rd ho12_4), RdS.cells (OS.rd ho12_4), BoxAt.cell hb0_0, BoxAt.cell hb0_1, BoxAt.cell hb0_2, BoxAt.cell hbx6, wrap_id, bC0, Int.toNat_zero]
            refine hK _ _ ?_
            clear hK K
            refine den_cond rfl (fun c4 => ?_) (fun c4 => ?_)
            · try simp only [decide_eq_true_eq, decide_eq_false_iff_not, beq_iff_eq, beq_eq_false_iff_ne, bne_iff_ne, ne_eq, Bool.not_eq_true', Bool.not_eq_false', Bool.and_eq_true, Bool.or_eq_true, bne_eq_false_iff_eq, Bool.or_eq_false_iff, Bool.and_eq_false_iff] at c4
              refine den_exit ?_
              refine denX_code ?_
              refine denX_hit ?_
              refine den_region TTok ?_
              intro K hK
              simp -implicitDefEqProofs (disch := first | decide | assumption | omega) only [go_sem, RdS.len hdX sl22, RdS.idx hdX sl22, R1.intB hdX (Ext.pres eB), RdS.cells hdX, RdS.len hmX sl23, RdS.idx hmX sl23, RdS.cellB hmX (Ext.pres eB), RdS.cells hmX, RdS.len hdY sl22, RdS.idx hdY sl22, R1.intB hdY (Ext.pres eB), RdS.cells hdY, RdS.len hmY sl23, RdS.idx hmY sl23, RdS.cellB hmY (Ext.pres eB), RdS.cells hmY, RdS.len (OS.rd hM) sl23, RdS.idx (OS.rd hM) sl23, RdS.cellN (OS.rd hM), RdS.cells (OS.rd hM), RdS.len (OS.rd ho12_4) sl22, RdS.idx (OS.rd ho12_4) sl22, R1.intN (OS.rd ho12_4), RdS.cells (OS.rd ho12_4), BoxAt.cell hb0_0, BoxAt.cell hb0_1, BoxAt.cell hb0_2, BoxAt.cell hbx6, wrap_id, bC0, Int.toNat_zero]
              refine hK _ _ ?_
              clear hK K
              refine den_stop ?_
              rw [range_step (fun q : Nat => dimP X (q : Int) + dimP Y (q : Int))] at ho12_4
              first | rw [add_rows_end (X := X) (Y := Y) (n := n) (A := i) (B := j) (by omega) (by omega), add_step (by omega)] at hM | rw [show n - 1 = n + 1 - 1 by omega] at hM
              exact ⟨(n + 1, v12_4, fp12_4, vhM, fphM), by simp [HasL, puts_at], ⟨by omega, (fun q hq => (Nat.lt_succ_iff_lt_or_eq.1 hq).elim (h8_ q) (fun e => by subst e; omega)), ho12_4, hfho12_4, sb9, hM, hfhM, sbhM, hbx6, (Apart.symm ap10), (Apart.symm ap11), ap_hM_hbx6, cL6⟩, by first | omega | (dsimp only; omega)⟩
            · try simp only [decide_eq_true_eq, decide_eq_false_iff_not, beq_iff_eq, beq_eq_false_iff_ne, bne_iff_ne, ne_eq, Bool.not_eq_true', Bool.not_eq_false', Bool.and_eq_true, Bool.or_eq_true, bne_eq_false_iff_eq, Bool.or_eq_false_iff, Bool.and_eq_false_iff] at c4
              refine den_skip ?_
              refine den_seq ?_
              have hmx := mapP_len hX (n := n) (by omega)
              have hmy := mapP_len hY (n := n) (by omega)
              have hdx1 := dimP_bnd hX ((n : Int) - 1)
              have hdy1 := dimP_bnd hY ((n : Int) - 1)
              refine den_sel [2, 3, 4, 6, 7] ?_
              intro env_12
              simp only [go_sem]
              refine den_drawTJ (σ := Value × List Nat × Value × Value) TTok (fun st_ => [(9, st_.1), (10, st_.2.2.1), (11, st_.2.2.2)]) (fun st_ H => (O2 H st_.1 ([]) st_.2.1) ∧ (Fresh h12_6.size st_.2.1) ∧ (R2 h st_.2.2.1 (mapP X (n : Int))) ∧ (Ext h H) ∧ (R2 h st_.2.2.2 (mapP Y (n : Int))) ∧ (Ext h H) ∧ (Ext h12_6 H)) mixed [] [(1, true), (2, true), (4, true), (5, true)] (.fork 0 [(3, false), (6, false), (7, true), (8, true), (9, true)] .fin 3 [] (.fork 0 [(6, false), (7, true), (8, true), (9, true)] .fin 6 [(0, false), (7, true), (8, true), (9, true)] .fin)) (by kernel_rfl) ?_ ?_
              · intro K hK
                have cJ13 := Ext.refl h12_6
                simp -implicitDefEqProofs (disch := first | decide | assumption | omega) only [go_sem, ld30, RdS.len hdX sl22, RdS.idx hdX sl22, R1.intB hdX (Ext.pres eB), RdS.cells hdX, RdS.len hmX sl23, RdS.idx hmX sl23, RdS.cellB hmX (Ext.pres eB), RdS.cells hmX, RdS.len hdY sl22, RdS.idx hdY sl22, R1.intB hdY (Ext.pres eB), RdS.cells hdY, RdS.len hmY sl23, RdS.idx hmY sl23, RdS.cellB hmY (Ext.pres eB), RdS.cells hmY, RdS.len (OS.rd hM) sl23, RdS.idx (OS.rd hM) sl23, RdS.cellN (OS.rd hM), RdS.cells (OS.rd hM), RdS.len (OS.rd ho12_4) sl22, RdS.idx (OS.rd ho12_4) sl22, R1.intN (OS.rd ho12_4), RdS.cells (OS.rd ho12_4), BoxAt.cell hb0_0, BoxAt.cell hb0_1, BoxAt.cell hb0_2, BoxAt.cell hbx6, wrap_id, bC0, Int.toNat_zero]
                refine And.intro ?_ ?_
                · simp -implicitDefEqProofs (disch := first | decide | assumption | omega) only [go_sem, RdS.len hdX sl22, RdS.idx hdX sl22, R1.intB hdX (Ext.pres eB), RdS.cells hdX, RdS.len hmX sl23, RdS.idx hmX sl23, RdS.cellB hmX (Ext.pres eB), RdS.cells hmX, RdS.len hdY sl22, RdS.idx hdY sl22, R1.intB hdY (Ext.pres eB), RdS.cells hdY, RdS.len hmY sl23, RdS.idx hmY sl23, RdS.cellB hmY (Ext.pres eB), RdS.cells hmY, RdS.len (OS.rd hM) sl23, RdS.idx (OS.rd hM) sl23, RdS.cellN (OS.rd hM), RdS.cells (OS.rd hM), RdS.len (OS.rd ho12_4) sl22, RdS.idx (OS.rd ho12_4) sl22, R1.intN (OS.rd ho12_4), RdS.cells (OS.rd ho12_4), BoxAt.cell hb0_0, BoxAt.cell hb0_1, BoxAt.cell hb0_2, BoxAt.cell hbx6, wrap_id, bC0, Int.toNat_zero]
                  refine op_bs0 sz56 O1 ?_
                  intro v14_0 h14_0 ho14_0 e14_0
                  replace hM := OS.ext hM e14_0
                  replace ho12_4 := OS.ext ho12_4 e14_0
                  replace hb0_0 := BoxAt.ext hb0_0 e14_0
                  replace hb0_1 := BoxAt.ext hb0_1 e14_0
                  replace hb0_2 := BoxAt.ext hb0_2 e14_0
                  replace hbx6 := BoxAt.ext hbx6 e14_0
                  have := Ext.size e14_0
                  replace eB := Ext.trans eB e14_0
                  replace cL6 := Chg.stepE cL6 e14_0
                  replace cJ13 := Ext.trans cJ13 e14_0
                  have hfho14_0 : Fresh h12_6.size [h12_6.size] := Fresh.one _
                  have hlho14_0 := OS.lt ho14_0
                  try simp (disch := decide) only [outv_some, outv_none, put_puts]
                  refine plK_pres (Ext.pres e14_0) ?_
                  try simp -implicitDefEqProofs (disch := first | decide | assumption | omega) only [go_sem, RdS.len hdX sl22, RdS.idx hdX sl22, R1.intB hdX (Ext.pres eB), RdS.cells hdX, RdS.len hmX sl23, RdS.idx hmX sl23, RdS.cellB hmX (Ext.pres eB), RdS.cells hmX, RdS.len hdY sl22, RdS.idx hdY sl22, R1.intB hdY (Ext.pres eB), RdS.cells hdY, RdS.len hmY sl23, RdS.idx hmY sl23, RdS.cellB hmY (Ext.pres eB), RdS.cells hmY, RdS.len (OS.rd hM) sl23, RdS.idx (OS.rd hM) sl23, RdS.cellN (OS.rd hM), RdS.cells (OS.rd hM), RdS.len (OS.rd ho12_4) sl22, RdS.idx (OS.rd ho12_4) sl22, R1.intN (OS.rd ho12_4), RdS.cells (OS.rd ho12_4), RdS.len (OS.rd ho14_0) sl56, RdS.idx (OS.rd ho14_0) sl56, RdS.cellN (OS.rd ho14_0), RdS.cells (OS.rd ho14_0), BoxAt.cell hb0_0, BoxAt.cell hb0_1, BoxAt.cell hb0_2, BoxAt.cell hbx6, wrap_id, bC0, Int.toNat_zero]
                  try simp -implicitDefEqProofs (disch := first | decide | assumption | omega) only [go_sem, RdS.len hdX sl22, RdS.idx hdX sl22, R1.intB hdX (Ext.pres eB), RdS.cells hdX, RdS.len hmX sl23, RdS.idx hmX sl23, RdS.cellB hmX (Ext.pres eB), RdS.cells hmX, RdS.len hdY sl22, RdS.idx hdY sl22, R1.intB hdY (Ext.pres eB), RdS.cells hdY, RdS.len hmY sl23, RdS.idx hmY sl23, RdS.cellB hmY (Ext.pres eB), RdS.cells hmY, RdS.len (OS.rd hM) sl23, RdS.idx (OS.rd hM) sl23, RdS.cellN (OS.rd hM), RdS.cells (OS.rd hM), RdS.len (OS.rd ho12_4) sl22, RdS.idx (OS.rd ho12_4) sl22, R1.intN (OS.rd ho12_4), RdS.cells (OS.rd ho12_4), RdS.len (OS.rd ho14_0) sl56, RdS.idx (OS.rd ho14_0) sl56, RdS.cellN (OS.rd ho14_0), RdS.cells (OS.rd ho14_0), BoxAt.cell hb0_0, BoxAt.cell hb0_1, BoxAt.cell hb0_2, BoxAt.cell hbx6, wrap_id, bC0, Int.toNat_zero]
                  refine CallA.mono (sMapB_ok _ _ X _ h _ hdX hmX eB hX (by omega)) ?_
                  intro vw14_3 h14_3
                  rintro ⟨zvw14_3, rfl, hrw14_3, e14_3⟩
                  replace hM := OS.ext hM e14_3
                  replace ho12_4 := OS.ext ho12_4 e14_3
                  replace ho14_0 := OS.ext ho14_0 e14_3
                  replace hb0_0 := BoxAt.ext hb0_0 e14_3
                  replace hb0_1 := BoxAt.ext hb0_1 e14_3
                  replace hb0_2 := BoxAt.ext hb0_2 e14_3
                  replace hbx6 := BoxAt.ext hbx6 e14_3
                  have := Ext.size e14_3
                  replace eB := Ext.trans eB e14_3
                  replace cL6 := Chg.stepE cL6 e14_3
                  replace cJ13 := Ext.trans cJ13 e14_3
                  have xrw14_3 := eB
                  have hlrw14_3 := RdS.le hrw14_3
                  try simp (disch := decide) only [outv_some, outv_none, put_puts]
                  refine plK_pres (Ext.pres e14_3) ?_
                  try simp -implicitDefEqProofs (disch := first | decide | assumption | omega) only [go_sem, RdS.len hdX sl22, RdS.idx hdX sl22, R1.intB hdX (Ext.pres eB), RdS.cells hdX, RdS.len hmX sl23, RdS.idx hmX sl23, RdS.cellB hmX (Ext.pres eB), RdS.cells hmX, RdS.len hdY sl22, RdS.idx hdY sl22, R1.intB hdY (Ext.pres eB), RdS.cells hdY, RdS.len hmY sl23, RdS.idx hmY sl23, RdS.cellB hmY (Ext.pres eB), RdS.cells hmY, RdS.len (OS.rd hM) sl23, RdS.idx (OS.rd hM) sl23, RdS.cellN (OS.rd hM), RdS.cells (OS.rd hM), RdS.len (OS.rd ho12_4) sl22, RdS.idx (OS.rd ho12_4) sl22, R1.intN (OS.rd ho12_4), RdS.cells (OS.rd ho12_4), RdS.len (OS.rd ho14_0) sl56, RdS.idx (OS.rd ho14_0) sl56, RdS.cellN (OS.rd ho14_0), RdS.cells (OS.rd ho14_0), BoxAt.cell hb0_0, BoxAt.cell hb0_1, BoxAt.cell hb0_2, BoxAt.cell hbx6, RdS.len hrw14_3 sl56, RdS.idx hrw14_3 sl56, RdS.cellB hrw14_3 (Ext.pres xrw14_3), RdS.cells hrw14_3, wrap_id, bC0, Int.toNat_zero]
                  try simp -implicitDefEqProofs (disch := first | decide | assumption | omega) only [go_sem, RdS.len hdX sl22, RdS.idx hdX sl22, R1.intB hdX (Ext.pres eB), RdS.cells hdX, RdS.len hmX sl23, RdS.idx hmX sl23, RdS.cellB hmX (Ext.pres eB), RdS.cells hmX, RdS.len hdY sl22, RdS.idx hdY sl22, R1.intB hdY (Ext.pres eB), RdS.cells hdY, RdS.len hmY sl23, RdS.idx hmY sl23, RdS.cellB hmY (Ext.pres eB), RdS.cells hmY, RdS.len (OS.rd hM) sl23, RdS.idx (OS.rd hM) sl23, RdS.cellN (OS.rd hM), RdS.cells (OS.rd hM), RdS.len (OS.rd ho12_4) sl22, RdS.idx (OS.rd ho12_4) sl22, R1.intN (OS.rd ho12_4), RdS.cells (OS.rd ho12_4), RdS.len (OS.rd ho14_0) sl56, RdS.idx (OS.rd ho14_0) sl56, RdS.cellN (OS.rd ho14_0), RdS.cells (OS.rd ho14_0), BoxAt.cell hb0_0, BoxAt.cell hb0_1, BoxAt.cell hb0_2, BoxAt.cell hbx6, RdS.len hrw14_3 sl56, RdS.idx hrw14_3 sl56, RdS.cellB hrw14_3 (Ext.pres xrw14_3), RdS.cells hrw14_3, wrap_id, bC0, Int.toNat_zero]
                  refine CallA.mono (sMapB_ok _ _ Y _ h _ hdY hmY eB hY (by omega)) ?_
                  intro vw14_6 h14_6
                  rintro ⟨zvw14_6, rfl, hrw14_6, e14_6⟩
                  replace hM := OS.ext hM e14_6
                  replace ho12_4 := OS.ext ho12_4 e14_6
                  replace ho14_0 := OS.ext ho14_0 e14_6
                  replace hb0_0 := BoxAt.ext hb0_0 e14_6
                  replace hb0_1 := BoxAt.ext hb0_1 e14_6
                  replace hb0_2 := BoxAt.ext hb0_2 e14_6
                  replace hbx6 := BoxAt.ext hbx6 e14_6
                  have := Ext.size e14_6
                  replace eB := Ext.trans eB e14_6
                  replace xrw14_3 := Ext.trans xrw14_3 e14_6
                  replace cL6 := Chg.stepE cL6 e14_6
                  replace cJ13 := Ext.trans cJ13 e14_6
                  have xrw14_6 := eB
                  have hlrw14_6 := RdS.le hrw14_6
                  try simp (disch := decide) only [outv_some, outv_none, put_puts]
                  refine plK_pres (Ext.pres e14_6) ?_
                  try simp -implicitDefEqProofs (disch := first | decide | assumption | omega) only [go_sem, RdS.len hdX sl22, RdS.idx hdX sl22, R1.intB hdX (Ext.pres eB), RdS.cells hdX, RdS.len hmX sl23, RdS.idx hmX sl23, RdS.cellB hmX (Ext.pres eB), RdS.cells hmX, RdS.len hdY sl22, RdS.idx hdY sl22, R1.intB hdY (Ext.pres eB), RdS.cells hdY, RdS.len hmY sl23, RdS.idx hmY sl23, RdS.cellB hmY (Ext.pres eB), RdS.cells hmY, RdS.len (OS.rd hM) sl23, RdS.idx (OS.rd hM) sl23, RdS.cellN (OS.rd hM), RdS.cells (OS.rd hM), RdS.len (OS.rd ho12_4) sl22, RdS.idx (OS.rd ho12_4) sl22, R1.intN (OS.rd ho12_4), RdS.cells (OS.rd ho12_4), RdS.len (OS.rd ho14_0) sl56, RdS.idx (OS.rd ho14_0) sl56, RdS.cellN (OS.rd ho14_0), RdS.cells (OS.rd ho14_0), BoxAt.cell hb0_0, BoxAt.cell hb0_1, BoxAt.cell hb0_2, BoxAt.cell hbx6, RdS.len hrw14_3 sl56, RdS.idx hrw14_3 sl56, RdS.cellB hrw14_3 (Ext.pres xrw14_3), RdS.cells hrw14_3, RdS.len hrw14_6 sl56, RdS.idx hrw14_6 sl56, RdS.cellB hrw14_6 (Ext.pres xrw14_6), RdS.cells hrw14_6, wrap_id, bC0, Int.toNat_zero]
                  exact hK (v14_0, [h12_6.size], vw14_3, vw14_6) _ _ (by simp [HasL, puts_at]) ⟨ho14_0, (hfho14_0.mono (by omega)), hrw14_3, xrw14_3, hrw14_6, xrw14_6, cJ13⟩
                · simp -implicitDefEqProofs (disch := first | decide | assumption | omega) only [go_sem, RdS.len hdX sl22, RdS.idx hdX sl22, R1.intB hdX (Ext.pres eB), RdS.cells hdX, RdS.len hmX sl23, RdS.idx hmX sl23, RdS.cellB hmX (Ext.pres eB), RdS.cells hmX, RdS.len hdY sl22, RdS.idx hdY sl22, R1.intB hdY (Ext.pres eB), RdS.cells hdY, RdS.len hmY sl23, RdS.idx hmY sl23, RdS.cellB hmY (Ext.pres eB), RdS.cells hmY, RdS.len (OS.rd hM) sl23, RdS.idx (OS.rd hM) sl23, RdS.cellN (OS.rd hM), RdS.cells (OS.rd hM), RdS.len (OS.rd ho12_4) sl22, RdS.idx (OS.rd ho12_4) sl22, R1.intN (OS.rd ho12_4), RdS.cells (OS.rd ho12_4), BoxAt.cell hb0_0, BoxAt.cell hb0_1, BoxAt.cell hb0_2, BoxAt.cell hbx6, wrap_id, bC0, Int.toNat_zero]
                  try simp -implicitDefEqProofs (disch := first | decide | assumption | omega) only [go_sem, RdS.len hdX sl22, RdS.idx hdX sl22, R1.intB hdX (Ext.pres eB), RdS.cells hdX, RdS.len hmX sl23, RdS.idx hmX sl23, RdS.cellB hmX (Ext.pres eB), RdS.cells hmX, RdS.len hdY sl22, RdS.idx hdY sl22, R1.intB hdY (Ext.pres eB), RdS.cells hdY, RdS.len hmY sl23, RdS.idx hmY sl23, RdS.cellB hmY (Ext.pres eB), RdS.cells hmY, RdS.len (OS.rd hM) sl23, RdS.idx (OS.rd hM) sl23, RdS.cellN (OS.rd hM), RdS.cells (OS.rd hM), RdS.len (OS.rd ho12_4) sl22, RdS.idx (OS.rd ho12_4) sl22, R1.intN (OS.rd ho12_4), RdS.cells (OS.rd ho12_4), BoxAt.cell hb0_0, BoxAt.cell hb0_1, BoxAt.cell hb0_2, BoxAt.cell hbx6, wrap_id, bC0, Int.toNat_zero]
                  refine CallA.mono (sMapB_ok _ _ X _ h _ hdX hmX eB hX (by omega)) ?_
                  intro vw14_3 h14_3
                  rintro ⟨zvw14_3, rfl, hrw14_3, e14_3⟩
                  replace hM := OS.ext hM e14_3
                  replace ho12_4 := OS.ext ho12_4 e14_3
                  replace hb0_0 := BoxAt.ext hb0_0 e14_3
                  replace hb0_1 := BoxAt.ext hb0_1 e14_3
                  replace hb0_2 := BoxAt.ext hb0_2 e14_3
                  replace hbx6 := BoxAt.ext hbx6 e14_3
                  have := Ext.size e14_3
                  replace eB := Ext.trans eB e14_3
                  replace cL6 := Chg.stepE cL6 e14_3
                  replace cJ13 := Ext.trans cJ13 e14_3
                  have xrw14_3 := eB
                  have hlrw14_3 := RdS.le hrw14_3
                  try simp (disch := decide) only [outv_some, outv_none, put_puts]
                  refine plK_pres (Ext.pres e14_3) ?_
                  try simp -implicitDefEqProofs (disch := first | decide | assumption | omega) only [go_sem, RdS.len hdX sl22, RdS.idx hdX sl22, R1.intB hdX (Ext.pres eB), RdS.cells hdX, RdS.len hmX sl23, RdS.idx hmX sl23, RdS.cellB hmX (Ext.pres eB), RdS.cells hmX, RdS.len hdY sl22, RdS.idx hdY sl22, R1.intB hdY (Ext.pres eB), RdS.cells hdY, RdS.len hmY sl23, RdS.idx hmY sl23, RdS.cellB hmY (Ext.pres eB), RdS.cells hmY, RdS.len (OS.rd hM) sl23, RdS.idx (OS.rd hM) sl23, RdS.cellN (OS.rd hM), RdS.cells (OS.rd hM), RdS.len (OS.rd ho12_4) sl22, RdS.idx (OS.rd ho12_4) sl22, R1.intN (OS.rd ho12_4), RdS.cells (OS.rd ho12_4), BoxAt.cell hb0_0, BoxAt.cell hb0_1, BoxAt.cell hb0_2, BoxAt.cell hbx6, RdS.len hrw14_3 sl56, RdS.idx hrw14_3 sl56, RdS.cellB hrw14_3 (Ext.pres xrw14_3), RdS.cells hrw14_3, wrap_id, bC0, Int.toNat_zero]
                  refine And.intro ?_ ?_
                  · simp -implicitDefEqProofs (disch := first | decide | assumption | omega) only [go_sem, RdS.len hdX sl22, RdS.idx hdX sl22, R1.intB hdX (Ext.pres eB), RdS.cells hdX, RdS.len hmX sl23, RdS.idx hmX sl23, RdS.cellB hmX (Ext.pres eB), RdS.cells hmX, RdS.len hdY sl22, RdS.idx hdY sl22, R1.intB hdY (Ext.pres eB), RdS.cells hdY, RdS.len hmY sl23, RdS.idx hmY sl23, RdS.cellB hmY (Ext.pres eB), RdS.cells hmY, RdS.len (OS.rd hM) sl23, RdS.idx (OS.rd hM) sl23, RdS.cellN (OS.rd hM), RdS.cells (OS.rd hM), RdS.len (OS.rd ho12_4) sl22, RdS.idx (OS.rd ho12_4) sl22, R1.intN (OS.rd ho12_4), RdS.cells (OS.rd ho12_4), BoxAt.cell hb0_0, BoxAt.cell hb0_1, BoxAt.cell hb0_2, BoxAt.cell hbx6, RdS.len hrw14_3 sl56, RdS.idx hrw14_3 sl56, RdS.cellB hrw14_3 (Ext.pres xrw14_3), RdS.cells hrw14_3, wrap_id, bC0, Int.toNat_zero]
                    refine op_bs0 sz56 O1 ?_
                    intro v14_0 h14_0 ho14_0 e14_0
                    replace hM := OS.ext hM e14_0
                    replace ho12_4 := OS.ext ho12_4 e14_0
                    replace hb0_0 := BoxAt.ext hb0_0 e14_0
                    replace hb0_1 := BoxAt.ext hb0_1 e14_0
                    replace hb0_2 := BoxAt.ext hb0_2 e14_0
                    replace hbx6 := BoxAt.ext hbx6 e14_0
                    have := Ext.size e14_0
                    replace eB := Ext.trans eB e14_0
                    replace xrw14_3 := Ext.trans xrw14_3 e14_0
                    replace cL6 := Chg.stepE cL6 e14_0
                    replace cJ13 := Ext.trans cJ13 e14_0
                    have hfho14_0 : Fresh h14_3.size [h14_3.size] := Fresh.one _
                    have hlho14_0 := OS.lt ho14_0
                    try simp (disch := decide) only [outv_some, outv_none, put_puts]
                    refine plK_pres (Ext.pres e14_0) ?_
                    try simp -implicitDefEqProofs (disch := first | decide | assumption | omega) only [go_sem, RdS.len hdX sl22, RdS.idx hdX sl22, R1.intB hdX (Ext.pres eB), RdS.cells hdX, RdS.len hmX sl23, RdS.idx hmX sl23, RdS.cellB hmX (Ext.pres eB), RdS.cells hmX, RdS.len hdY sl22, RdS.idx hdY sl22, R1.intB hdY (Ext.pres eB), RdS.cells hdY, RdS.len hmY sl23, RdS.idx hmY sl23, RdS.cellB hmY (Ext.pres eB), RdS.cells hmY, RdS.len (OS.rd hM) sl23, RdS.idx (OS.rd hM) sl23, RdS.cellN (OS.rd hM), RdS.cells (OS.rd hM), RdS.len (OS.rd ho12_4) sl22, RdS.idx (OS.rd ho12_4) sl22, R1.intN (OS.rd ho12_4), RdS.cells (OS.rd ho12_4), RdS.len (OS.rd ho14_0) sl56, RdS.idx (OS.rd ho14_0) sl56, RdS.cellN (OS.rd ho14_0), RdS.cells (OS.rd ho14_0), BoxAt.cell hb0_0, BoxAt.cell hb0_1, BoxAt.cell hb0_2, BoxAt.cell hbx6, RdS.len hrw14_3 sl56, RdS.idx hrw14_3 sl56, RdS.cellB hrw14_3 (Ext.pres xrw14_3), RdS.cells hrw14_3, wrap_id, bC0, Int.toNat_zero]
                    try simp -implicitDefEqProofs (disch := first | decide | assumption | omega) only [go_sem, RdS.len hdX sl22, RdS.idx hdX sl22, R1.intB hdX (Ext.pres eB), RdS.cells hdX, RdS.len hmX sl23, RdS.idx hmX sl23, RdS.cellB hmX (Ext.pres eB), RdS.cells hmX, RdS.len hdY sl22, RdS.idx hdY sl22, R1.intB hdY (Ext.pres eB), RdS.cells hdY, RdS.len hmY sl23, RdS.idx hmY sl23, RdS.cellB hmY (Ext.pres eB), RdS.cells hmY, RdS.len (OS.rd hM) sl23, RdS.idx (OS.rd hM) sl23, RdS.cellN (OS.rd hM), RdS.cells (OS.rd hM), RdS.len (OS.rd ho12_4) sl22, RdS.idx (OS.rd ho12_4) sl22, R1.intN (OS.rd ho12_4), RdS.cells (OS.rd ho12_4), RdS.len (OS.rd ho14_0) sl56, RdS.idx (OS.rd ho14_0) sl56, RdS.cellN (OS.rd ho14_0), RdS.cells (OS.rd ho14_0), BoxAt.cell hb0_0, BoxAt.cell hb0_1, BoxAt.cell hb0_2, BoxAt.cell hbx6, RdS.len hrw14_3 sl56, RdS.idx hrw14_3 sl56, RdS.cellB hrw14_3 (Ext.pres xrw14_3), RdS.cells hrw14_3, wrap_id, bC0, Int.toNat_zero]
                    refine CallA.mono (sMapB_ok _ _ Y _ h _ hdY hmY eB hY (by omega)) ?_
                    intro vw14_6 h14_6
                    rintro ⟨zvw14_6, rfl, hrw14_6, e14_6⟩
                    replace hM := OS.ext hM e14_6
                    replace ho12_4 := OS.ext ho12_4 e14_6
                    replace ho14_0 := OS.ext ho14_0 e14_6
                    replace hb0_0 := BoxAt.ext hb0_0 e14_6
                    replace hb0_1 := BoxAt.ext hb0_1 e14_6
                    replace hb0_2 := BoxAt.ext hb0_2 e14_6
                    replace hbx6 := BoxAt.ext hbx6 e14_6
                    have := Ext.size e14_6
                    replace eB := Ext.trans eB e14_6
                    replace xrw14_3 := Ext.trans xrw14_3 e14_6
                    replace cL6 := Chg.stepE cL6 e14_6
                    replace cJ13 := Ext.trans cJ13 e14_6
                    have xrw14_6 := eB
                    have hlrw14_6 := RdS.le hrw14_6
                    try simp (disch := decide) only [outv_some, outv_none, put_puts]
                    refine plK_pres (Ext.pres e14_6) ?_
                    try simp -implicitDefEqProofs (disch := first | decide | assumption | omega) only [go_sem, RdS.len hdX sl22, RdS.idx hdX sl22, R1.intB hdX (Ext.pres eB), RdS.cells hdX, RdS.len hmX sl23, RdS.idx hmX sl23, RdS.cellB hmX (Ext.pres eB), RdS.cells hmX, RdS.len hdY sl22, RdS.idx hdY sl22, R1.intB hdY (Ext.pres eB), RdS.cells hdY, RdS.len hmY sl23, RdS.idx hmY sl23, RdS.cellB hmY (Ext.pres eB), RdS.cells hmY, RdS.len (OS.rd hM) sl23, RdS.idx (OS.rd hM) sl23, RdS.cellN (OS.rd hM), RdS.cells (OS.rd hM), RdS.len (OS.rd ho12_4) sl22, RdS.idx (OS.rd ho12_4) sl22, R1.intN (OS.rd ho12_4), RdS.cells (OS.rd ho12_4), RdS.len (OS.rd ho14_0) sl56, RdS.idx (OS.rd ho14_0) sl56, RdS.cellN (OS.rd ho14_0), RdS.cells (OS.rd ho14_0), BoxAt.cell hb0_0, BoxAt.cell hb0_1, BoxAt.cell hb0_2, BoxAt.cell hbx6, RdS.len hrw14_3 sl56, RdS.idx hrw14_3 sl56, RdS.cellB hrw14_3 (Ext.pres xrw14_3), RdS.cells hrw14_3, RdS.len hrw14_6 sl56, RdS.idx hrw14_6 sl56, RdS.cellB hrw14_6 (Ext.pres xrw14_6), RdS.cells hrw14_6, wrap_id, bC0, Int.toNat_zero]
                    exact hK (v14_0, [h14_3.size], vw14_3, vw14_6) _ _ (by simp [HasL, puts_at]) ⟨ho14_0, (hfho14_0.mono (by omega)), hrw14_3, xrw14_3, hrw14_6, xrw14_6, cJ13⟩
                  · simp -implicitDefEqProofs (disch := first | decide | assumption | omega) only [go_sem, RdS.len hdX sl22, RdS.idx hdX sl22, R1.intB hdX (Ext.pres eB), RdS.cells hdX, RdS.len hmX sl23, RdS.idx hmX sl23, RdS.cellB hmX (Ext.pres eB), RdS.cells hmX, RdS.len hdY sl22, RdS.idx hdY sl22, R1.intB hdY (Ext.pres eB), RdS.cells hdY, RdS.len hmY sl23, RdS.idx hmY sl23, RdS.cellB hmY (Ext.pres eB), RdS.cells hmY, RdS.len (OS.rd hM) sl23, RdS.idx (OS.rd hM) sl23, RdS.cellN (OS.rd hM), RdS.cells (OS.rd hM), RdS.len (OS.rd ho12_4) sl22, RdS.idx (OS.rd ho12_4) sl22, R1.intN (OS.rd ho12_4), RdS.cells (OS.rd ho12_4), BoxAt.cell hb0_0, BoxAt.cell hb0_1, BoxAt.cell hb0_2, BoxAt.cell hbx6, RdS.len hrw14_3 sl56, RdS.idx hrw14_3 sl56, RdS.cellB hrw14_3 (Ext.pres xrw14_3), RdS.cells hrw14_3, wrap_id, bC0, Int.toNat_zero]
                    try simp -implicitDefEqProofs (disch := first | decide | assumption | omega) only [go_sem, RdS.len hdX sl22, RdS.idx hdX sl22, R1.intB hdX (Ext.pres eB), RdS.cells hdX, RdS.len hmX sl23, RdS.idx hmX sl23, RdS.cellB hmX (Ext.pres eB), RdS.cells hmX, RdS.len hdY sl22, RdS.idx hdY sl22, R1.intB hdY (Ext.pres eB), RdS.cells hdY, RdS.len hmY sl23, RdS.idx hmY sl23, RdS.cellB hmY (Ext.pres eB), RdS.cells hmY, RdS.len (OS.rd hM) sl23, RdS.idx (OS.rd hM) sl23, RdS.cellN (OS.rd hM), RdS.cells (OS.rd hM), RdS.len (OS.rd ho12_4) sl22, RdS.idx (OS.rd ho12_4) sl22, R1.intN (OS.rd ho12_4), RdS.cells (OS.rd ho12_4), BoxAt.cell hb0_0, BoxAt.cell hb0_1, BoxAt.cell hb0_2, BoxAt.cell hbx6, RdS.len hrw14_3 sl56, RdS.idx hrw14_3 sl56, RdS.cellB hrw14_3 (Ext.pres xrw14_3), RdS.cells hrw14_3, wrap_id, bC0, Int.toNat_zero]
                    refine CallA.mono (sMapB_ok _ _ Y _ h _ hdY hmY eB hY (by omega)) ?_
                    intro vw14_6 h14_6
                    rintro ⟨zvw14_6, rfl, hrw14_6, e14_6⟩
                    replace hM := OS.ext hM e14_6
                    replace ho12_4 := OS.ext ho12_4 e14_6
                    replace hb0_0 := BoxAt.ext hb0_0 e14_6
                    replace hb0_1 := BoxAt.ext hb0_1 e14_6
                    replace hb0_2 := BoxAt.ext hb0_2 e14_6
                    replace hbx6 := BoxAt.ext hbx6 e14_6
                    have := Ext.size e14_6
                    replace eB := Ext.trans eB e14_6
                    replace xrw14_3 := Ext.trans xrw14_3 e14_6
                    replace cL6 := Chg.stepE cL6 e14_6
                    replace cJ13 := Ext.trans cJ13 e14_6
                    have xrw14_6 := eB
                    have hlrw14_6 := RdS.le hrw14_6
                    try simp (disch := decide) only [outv_some, outv_none, put_puts]
                    refine plK_pres (Ext.pres e14_6) ?_
                    try simp -implicitDefEqProofs (disch := first | decide | assumption | omega) only [go_sem, RdS.len hdX sl22, RdS.idx hdX sl22, R1.intB hdX (Ext.pres eB), RdS.cells hdX, RdS.len hmX sl23, RdS.idx hmX sl23, RdS.cellB hmX (Ext.pres eB), RdS.cells hmX, RdS.len hdY sl22, RdS.idx hdY sl22, R1.intB hdY (Ext.pres eB), RdS.cells hdY, RdS.len hmY sl23, RdS.idx hmY sl23, RdS.cellB hmY (Ext.pres eB), RdS.cells hmY, RdS.len (OS.rd hM) sl23, RdS.idx (OS.rd hM) sl23, RdS.cellN (OS.rd hM), RdS.cells (OS.rd hM), RdS.len (OS.rd ho12_4) sl22, RdS.idx (OS.rd ho12_4) sl22, R1.intN (OS.rd ho12_4), RdS.cells (OS.rd ho12_4), BoxAt.cell hb0_0, BoxAt.cell hb0_1, BoxAt.cell hb0_2, BoxAt.cell hbx6, RdS.len hrw14_3 sl56, RdS.idx hrw14_3 sl56, RdS.cellB hrw14_3 (Ext.pres xrw14_3), RdS.cells hrw14_3, RdS.len hrw14_6 sl56, RdS.idx hrw14_6 sl56, RdS.cellB hrw14_6 (Ext.pres xrw14_6), RdS.cells hrw14_6, wrap_id, bC0, Int.toNat_zero]
                    refine op_bs0 sz56 O1 ?_
                    intro v14_0 h14_0 ho14_0 e14_0
                    replace hM := OS.ext hM e14_0
                    replace ho12_4 := OS.ext ho12_4 e14_0
                    replace hb0_0 := BoxAt.ext hb0_0 e14_0
                    replace hb0_1 := BoxAt.ext hb0_1 e14_0
                    replace hb0_2 := BoxAt.ext hb0_2 e14_0
                    replace hbx6 := BoxAt.ext hbx6 e14_0
                    have := Ext.size e14_0
                    replace eB := Ext.trans eB e14_0
                    replace xrw14_3 := Ext.trans xrw14_3 e14_0
                    replace xrw14_6 := Ext.trans xrw14_6 e14_0
                    replace cL6 := Chg.stepE cL6 e14_0
                    replace cJ13 := Ext.trans cJ13 e14_0
                    have hfho14_0 : Fresh h14_6.size [h14_6.size] := Fresh.one _
                    have hlho14_0 := OS.lt ho14_0
                    try simp (disch := decide) only [outv_some, outv_none, put_puts]
                    refine plK_pres (Ext.pres e14_0) ?_
                    try simp -implicitDefEqProofs (disch := first | decide | assumption | omega) only [go_sem, RdS.len hdX sl22, RdS.idx hdX sl22, R1.intB hdX (Ext.pres eB), RdS.cells hdX, RdS.len hmX sl23, RdS.idx hmX sl23, RdS.cellB hmX (Ext.pres eB), RdS.cells hmX, RdS.len hdY sl22, RdS.idx hdY sl22, R1.intB hdY (Ext.pres eB), RdS.cells hdY, RdS.len hmY sl23, RdS.idx hmY sl23, RdS.cellB hmY (Ext.pres eB), RdS.cells hmY, RdS.len (OS.rd hM) sl23, RdS.idx (OS.rd hM) sl23, RdS.cellN (OS.rd hM), RdS.cells (OS.rd hM), RdS.len (OS.rd ho12_4) sl22, RdS.idx (OS.rd ho12_4) sl22, R1.intN (OS.rd ho12_4), RdS.cells (OS.rd ho12_4), RdS.len (OS.rd ho14_0) sl56, RdS.idx (OS.rd ho14_0) sl56, RdS.cellN (OS.rd ho14_0), RdS.cells (OS.rd ho14_0), BoxAt.cell hb0_0, BoxAt.cell hb0_1, BoxAt.cell hb0_2, BoxAt.cell hbx6, RdS.len hrw14_3 sl56, RdS.idx hrw14_3 sl56, RdS.cellB hrw14_3 (Ext.pres xrw14_3), RdS.cells hrw14_3, RdS.len hrw14_6 sl56, RdS.idx hrw14_6 sl56, RdS.cellB hrw14_6 (Ext.pres xrw14_6), RdS.cells hrw14_6, wrap_id, bC0, Int.toNat_zero]
                    exact hK (v14_0, [h14_6.size], vw14_3, vw14_6) _ _ (by simp [HasL, puts_at]) ⟨ho14_0, (hfho14_0.mono (by omega)), hrw14_3, xrw14_3, hrw14_6, xrw14_6, cJ13⟩
              · rintro ⟨v14_0, fpJho14_0, vw14_3, vw14_6⟩ hj14 ee16 ⟨ho14_0, hfho14_0, hrw14_3, xhrw14_3, hrw14_6, xhrw14_6, eJ15⟩
                dsimp only at ho14_0 hfho14_0 hrw14_3 xhrw14_3 hrw14_6 xhrw14_6 eJ15
                replace hM := OS.ext hM eJ15
                replace ho12_4 := OS.ext ho12_4 eJ15
                replace hb0_0 := BoxAt.ext hb0_0 eJ15
                replace hb0_1 := BoxAt.ext hb0_1 eJ15
                replace hb0_2 := BoxAt.ext hb0_2 eJ15
                replace hbx6 := BoxAt.ext hbx6 eJ15
                have := Ext.size eJ15
                replace eB := Ext.trans eB eJ15
                replace cL6 := Chg.stepE cL6 eJ15
                have hlho14_0 := OS.lt ho14_0
                have hlxhrw14_3 := RdS.le hrw14_3
                have hlxhrw14_6 := RdS.le hrw14_6
                simp only [List.cons_append, List.nil_append]
                refine den_seq ?_
                refine den_seq ?_
                refine den_region TTok ?_
                intro K hK
                simp -implicitDefEqProofs (disch := first | decide | assumption | omega) only [go_sem, RdS.len hdX sl22, RdS.idx hdX sl22, R1.intB hdX (Ext.pres eB), RdS.cells hdX, RdS.len hmX sl23, RdS.idx hmX sl23, RdS.cellB hmX (Ext.pres eB), RdS.cells hmX, RdS.len hdY sl22, RdS.idx hdY sl22, R1.intB hdY (Ext.pres eB), RdS.cells hdY, RdS.len hmY sl23, RdS.idx hmY sl23, RdS.cellB hmY (Ext.pres eB), RdS.cells hmY, RdS.len (OS.rd hM) sl23, RdS.idx (OS.rd hM) sl23, RdS.cellN (OS.rd hM), RdS.cells (OS.rd hM), RdS.len (OS.rd ho12_4) sl22, RdS.idx (OS.rd ho12_4) sl22, R1.intN (OS.rd ho12_4), RdS.cells (OS.rd ho12_4), RdS.len (OS.rd ho14_0) sl56, RdS.idx (OS.rd ho14_0) sl56, RdS.cellN (OS.rd ho14_0), RdS.cells (OS.rd ho14_0), BoxAt.cell hb0_0, BoxAt.cell hb0_1, BoxAt.cell hb0_2, BoxAt.cell hbx6, RdS.len hrw14_3 sl56, RdS.idx hrw14_3 sl56, RdS.cellB hrw14_3 (Ext.pres xhrw14_3), RdS.cells hrw14_3, RdS.len hrw14_6 sl56, RdS.idx hrw14_6 sl56, RdS.cellB hrw14_6 (Ext.pres xhrw14_6), RdS.cells hrw14_6, wrap_id, bC0, Int.toNat_zero]
                refine hK _ _ ?_
                clear hK K
                refine den_block ?_
                refine den_sel [9, 12, 2, 3, 4, 6, 7, 10, 11] ?_
                intro env_17
                simp only [go_sem]
                refine den_loopS (σ := Nat × Value × List Nat) (fun st_ => [(9, st_.2.1), (12, .int .i64 (st_.1 : Int))]) (fun st_ H => ((st_.1 : Int) ≤ dimP X (n : Int)) ∧ (O2 H st_.2.1 ((List.range st_.1).map fun q : Nat => addTop X Y n q) st_.2.2) ∧ (Fresh (h12_6.size) st_.2.2) ∧ (Sub fpJho14_0 hj14.size st_.2.2) ∧ (Chg fpJho14_0 hj14 H)) (fun st_ => (dimP X (n : Int)).toNat - st_.1) (0, v14_0, fpJho14_0) ?_ ?_
                · exact ⟨by first | (simp; done) | (dsimp only; omega) | (simp; omega), by simpa using ho14_0, hfho14_0, Sub.refl, Chg.refl _ _⟩
                · rintro ⟨i, vhR, fphR⟩ h20 ee19 ⟨hi0, hR, hfhR, sbhR, cL18⟩
                  dsimp only at hi0 hR hfhR sbhR cL18
                  replace hM := OS.chg hM cL18 (apart_lt hlhM hfho14_0 (by omega))
                  replace ho12_4 := OS.chg ho12_4 cL18 (apart_lt hlho12_4 hfho14_0 (by omega))
                  replace hb0_0 := BoxAt.chgA hb0_0 cL18 (apart_lt hlhb0_0 hfho14_0 (by omega))
                  replace hb0_1 := BoxAt.chgA hb0_1 cL18 (apart_lt hlhb0_1 hfho14_0 (by omega))
                  replace hb0_2 := BoxAt.chgA hb0_2 cL18 (apart_lt hlhb0_2 hfho14_0 (by omega))
                  replace hbx6 := BoxAt.chgA hbx6 cL18 (apart_lt hlhbx6 hfho14_0 (by omega))
                  have := cL18.size
                  replace eB := Ext.then eB cL18 (ge_of hfho14_0 (by omega))
                  replace xhrw14_3 := Ext.then xhrw14_3 cL18 (ge_of hfho14_0 (by omega))
                  replace xhrw14_6 := Ext.then xhrw14_6 cL18 (ge_of hfho14_0 (by omega))
                  replace cL6 := Chg.step cL6 cL18 (Sub.fresh hfho14_0 (by omega))
                  have hlhR := OS.lt hR
                  simp only [List.cons_append, List.nil_append]
                  refine den_seq ?_
                  refine den_seq ?_
                  refine den_region TTok ?_
                  intro K hK
                  simp -implicitDefEqProofs (disch := first | decide | assumption | omega) only [go_sem, ld30, RdS.len hdX sl22, RdS.idx hdX sl22, R1.intB hdX (Ext.pres eB), RdS.cells hdX, RdS.len hmX sl23, RdS.idx hmX sl23, RdS.cellB hmX (Ext.pres eB), RdS.cells hmX, RdS.len hdY sl22, RdS.idx hdY sl22, R1.intB hdY (Ext.pres eB), RdS.cells hdY, RdS.len hmY sl23, RdS.idx hmY sl23, RdS.cellB hmY (Ext.pres eB), RdS.cells hmY, RdS.len (OS.rd hM) sl23, RdS.idx (OS.rd hM) sl23, RdS.cellN (OS.rd hM), RdS.cells (OS.rd hM), RdS.len (OS.rd ho12_4) sl22, RdS.idx (OS.rd ho12_4) sl22, R1.intN (OS.rd ho12_4), RdS.cells (OS.rd ho12_4), RdS.len (OS.rd hR) sl56, RdS.idx (OS.rd hR) sl56, RdS.cellN (OS.rd hR), RdS.cells (OS.rd hR), BoxAt.cell hb0_0, BoxAt.cell hb0_1, BoxAt.cell hb0_2, BoxAt.cell hbx6, RdS.len hrw14_3 sl56, RdS.idx hrw14_3 sl56, RdS.cellB hrw14_3 (Ext.pres xhrw14_3), RdS.cells hrw14_3, RdS.len hrw14_6 sl56, RdS.idx hrw14_6 sl56, RdS.cellB hrw14_6 (Ext.pres xhrw14_6), RdS.cells hrw14_6, wrap_id, bC0, Int.toNat_zero]
                  try simp -implicitDefEqProofs (disch := first | decide | assumption | omega) only [go_sem, RdS.len hdX sl22, RdS.idx hdX sl22, R1.intB hdX (Ext.pres eB), RdS.cells hdX, RdS.len hmX sl23, RdS.idx hmX sl23, RdS.cellB hmX (Ext.pres eB), RdS.cells hmX, RdS.len hdY sl22, RdS.idx hdY sl22, R1.intB hdY (Ext.pres eB), RdS.cells hdY, RdS.len hmY sl23, RdS.idx hmY sl23, RdS.cellB hmY (Ext.pres eB), RdS.cells hmY, RdS.len (OS.rd hM) sl23, RdS.idx (OS.rd hM) sl23, RdS.cellN (OS.rd hM), RdS.cells (OS.rd hM), RdS.len (OS.rd ho12_4) sl22, RdS.idx (OS.rd ho12_4) sl22, R1.intN (OS.rd ho12_4), RdS.cells (OS.rd ho12_4), RdS.len (OS.rd hR) sl56, RdS.idx (OS.rd hR) sl56, RdS.cellN (OS.rd hR), RdS.cells (OS.rd hR), BoxAt.cell hb0_0, BoxAt.cell hb0_1, BoxAt.cell hb0_2, BoxAt.cell hbx6, RdS.len hrw14_3 sl56, RdS.idx hrw14_3 sl56, RdS.cellB hrw14_3 (Ext.pres xhrw14_3), RdS.cells hrw14_3, RdS.len hrw14_6 sl56, RdS.idx hrw14_6 sl56, RdS.cellB hrw14_6 (Ext.pres xhrw14_6), RdS.cells hrw14_6, wrap_id, bC0, Int.toNat_zero]
                  refine CallA.mono (sDim_ok _ X _ _ ⟨_, _, rfl, (RdS.pres hdX (Ext.pres eB)), (RdS.pres hmX (Ext.pres eB))⟩) ?_
                  intro v_ h16_3
                  rintro ⟨rfl, e16_3⟩
                  replace hM := OS.ext hM e16_3
                  replace ho12_4 := OS.ext ho12_4 e16_3
                  replace hR := OS.ext hR e16_3
                  replace hb0_0 := BoxAt.ext hb0_0 e16_3
                  replace hb0_1 := BoxAt.ext hb0_1 e16_3
                  replace hb0_2 := BoxAt.ext hb0_2 e16_3
                  replace hbx6 := BoxAt.ext hbx6 e16_3
                  have := Ext.size e16_3
                  replace eB := Ext.trans eB e16_3
                  replace xhrw14_3 := Ext.trans xhrw14_3 e16_3
                  replace xhrw14_6 := Ext.trans xhrw14_6 e16_3
                  replace cL6 := Chg.stepE cL6 e16_3
                  replace cL18 := Chg.stepE cL18 e16_3
                  try simp -implicitDefEqProofs (disch := first | decide | assumption | omega) only [go_sem, RdS.len hdX sl22, RdS.idx hdX sl22, R1.intB hdX (Ext.pres eB), RdS.cells hdX, RdS.len hmX sl23, RdS.idx hmX sl23, RdS.cellB hmX (Ext.pres eB), RdS.cells hmX, RdS.len hdY sl22, RdS.idx hdY sl22, R1.intB hdY (Ext.pres eB), RdS.cells hdY, RdS.len hmY sl23, RdS.idx hmY sl23, RdS.cellB hmY (Ext.pres eB), RdS.cells hmY, RdS.len (OS.rd hM) sl23, RdS.idx (OS.rd hM) sl23, RdS.cellN (OS.rd hM), RdS.cells (OS.rd hM), RdS.len (OS.rd ho12_4) sl22, RdS.idx (OS.rd ho12_4) sl22, R1.intN (OS.rd ho12_4), RdS.cells (OS.rd ho12_4), RdS.len (OS.rd hR) sl56, RdS.idx (OS.rd hR) sl56, RdS.cellN (OS.rd hR), RdS.cells (OS.rd hR), BoxAt.cell hb0_0, BoxAt.cell hb0_1, BoxAt.cell hb0_2, BoxAt.cell hbx6, RdS.len hrw14_3 sl56, RdS.idx hrw14_3 sl56, RdS.cellB hrw14_3 (Ext.pres xhrw14_3), RdS.cells hrw14_3, RdS.len hrw14_6 sl56, RdS.idx hrw14_6 sl56, RdS.cellB hrw14_6 (Ext.pres xhrw14_6), RdS.cells hrw14_6, wrap_id, bC0, Int.toNat_zero]
                  refine hK _ _ ?_
                  clear hK K
                  refine den_cond rfl (fun c5 => ?_) (fun c5 => ?_)
                  · try simp only [decide_eq_true_eq, decide_eq_false_iff_not, beq_iff_eq, beq_eq_false_iff_ne, bne_iff_ne, ne_eq, Bool.not_eq_true', Bool.not_eq_false', Bool.and_eq_true, Bool.or_eq_true, bne_eq_false_iff_eq, Bool.or_eq_false_iff, Bool.and_eq_false_iff] at c5
                    refine den_skip ?_
                    refine den_seq ?_
                    refine den_block ?_
                    have hq := hmx.2 i (by omega)
                    have hlt : ((List.range i).map fun q : Nat => addTop X Y n q).length = i := by simp
                    refine den_draw TTok mixed [10, 12] [(0, true), (1, true), (2, true), (3, true), (4, true), (6, true), (7, true), (8, true), (5, false), (9, false), (10, false), (11, false), (12, false), (13, true)] (by kernel_rfl) ?_
                    intro K hK
                    have hr21 := RdS.rowN hrw14_3 i (by omega)
                    have hlhr21 := RdS.le hr21
                    have xr22 := xhrw14_3
                    simp -implicitDefEqProofs (disch := first | decide | assumption | omega) only [go_sem, ld22, ld30, RdS.len hdX sl22, RdS.idx hdX sl22, R1.intB hdX (Ext.pres eB), RdS.cells hdX, RdS.len hmX sl23, RdS.idx hmX sl23, RdS.cellB hmX (Ext.pres eB), RdS.cells hmX, RdS.len hdY sl22, RdS.idx hdY sl22, R1.intB hdY (Ext.pres eB), RdS.cells hdY, RdS.len hmY sl23, RdS.idx hmY sl23, RdS.cellB hmY (Ext.pres eB), RdS.cells hmY, RdS.len (OS.rd hM) sl23, RdS.idx (OS.rd hM) sl23, RdS.cellN (OS.rd hM), RdS.cells (OS.rd hM), RdS.len (OS.rd ho12_4) sl22, RdS.idx (OS.rd ho12_4) sl22, R1.intN (OS.rd ho12_4), RdS.cells (OS.rd ho12_4), RdS.len (OS.rd hR) sl56, RdS.idx (OS.rd hR) sl56, RdS.cellN (OS.rd hR), RdS.cells (OS.rd hR), BoxAt.cell hb0_0, BoxAt.cell hb0_1, BoxAt.cell hb0_2, BoxAt.cell hbx6, RdS.len hrw14_3 sl56, RdS.idx hrw14_3 sl56, RdS.cellB hrw14_3 (Ext.pres xhrw14_3), RdS.cells hrw14_3, RdS.len hrw14_6 sl56, RdS.idx hrw14_6 sl56, RdS.cellB hrw14_6 (Ext.pres xhrw14_6), RdS.cells hrw14_6, RdS.len hr21 sl22, RdS.idx hr21 sl22, R1.intB hr21 (Ext.pres xr22), RdS.cells hr21, wrap_id, bC0, Int.toNat_zero]
                    try simp -implicitDefEqProofs (disch := first | decide | assumption | omega) only [go_sem, RdS.len hdX sl22, RdS.idx hdX sl22, R1.intB hdX (Ext.pres eB), RdS.cells hdX, RdS.len hmX sl23, RdS.idx hmX sl23, RdS.cellB hmX (Ext.pres eB), RdS.cells hmX, RdS.len hdY sl22, RdS.idx hdY sl22, R1.intB hdY (Ext.pres eB), RdS.cells hdY, RdS.len hmY sl23, RdS.idx hmY sl23, RdS.cellB hmY (Ext.pres eB), RdS.cells hmY, RdS.len (OS.rd hM) sl23, RdS.idx (OS.rd hM) sl23, RdS.cellN (OS.rd hM), RdS.cells (OS.rd hM), RdS.len (OS.rd ho12_4) sl22, RdS.idx (OS.rd ho12_4) sl22, R1.intN (OS.rd ho12_4), RdS.cells (OS.rd ho12_4), RdS.len (OS.rd hR) sl56, RdS.idx (OS.rd hR) sl56, RdS.cellN (OS.rd hR), RdS.cells (OS.rd hR), BoxAt.cell hb0_0, BoxAt.cell hb0_1, BoxAt.cell hb0_2, BoxAt.cell hbx6, RdS.len hrw14_3 sl56, RdS.idx hrw14_3 sl56, RdS.cellB hrw14_3 (Ext.pres xhrw14_3), RdS.cells hrw14_3, RdS.len hrw14_6 sl56, RdS.idx hrw14_6 sl56, RdS.cellB hrw14_6 (Ext.pres xhrw14_6), RdS.cells hrw14_6, RdS.len hr21 sl22, RdS.idx hr21 sl22, R1.intB hr21 (Ext.pres xr22), RdS.cells hr21, wrap_id, bC0, Int.toNat_zero]
                    refine CallA.mono (sOwn_ok _ ((mapP X (n : Int)).getD i default) _ (RdS.pres hr21 (Ext.pres xr22)) (by omega)) ?_
                    intro vw18_5_0 h18_5
                    rintro ⟨zvw18_5_0, fw18_5_0, rfl, how18_5_0, hfw18_5_0, e18_5⟩
                    replace hM := OS.ext hM e18_5
                    replace ho12_4 := OS.ext ho12_4 e18_5
                    replace hR := OS.ext hR e18_5
                    replace hb0_0 := BoxAt.ext hb0_0 e18_5
                    replace hb0_1 := BoxAt.ext hb0_1 e18_5
                    replace hb0_2 := BoxAt.ext hb0_2 e18_5
                    replace hbx6 := BoxAt.ext hbx6 e18_5
                    have := Ext.size e18_5
                    replace eB := Ext.trans eB e18_5
                    replace xhrw14_3 := Ext.trans xhrw14_3 e18_5
                    replace xhrw14_6 := Ext.trans xhrw14_6 e18_5
                    replace xr22 := Ext.trans xr22 e18_5
                    replace cL6 := Chg.stepE cL6 e18_5
                    replace cL18 := Chg.stepE cL18 e18_5
                    have hlhow18_5_0 := OS.lt how18_5_0
                    try simp (disch := decide) only [outv_some, outv_none, put_puts]
                    refine plK_pres (Ext.pres e18_5) ?_
                    try simp -implicitDefEqProofs (disch := first | decide | assumption | omega) only [go_sem, RdS.len hdX sl22, RdS.idx hdX sl22, R1.intB hdX (Ext.pres eB), RdS.cells hdX, RdS.len hmX sl23, RdS.idx hmX sl23, RdS.cellB hmX (Ext.pres eB), RdS.cells hmX, RdS.len hdY sl22, RdS.idx hdY sl22, R1.intB hdY (Ext.pres eB), RdS.cells hdY, RdS.len hmY sl23, RdS.idx hmY sl23, RdS.cellB hmY (Ext.pres eB), RdS.cells hmY, RdS.len (OS.rd hM) sl23, RdS.idx (OS.rd hM) sl23, RdS.cellN (OS.rd hM), RdS.cells (OS.rd hM), RdS.len (OS.rd ho12_4) sl22, RdS.idx (OS.rd ho12_4) sl22, R1.intN (OS.rd ho12_4), RdS.cells (OS.rd ho12_4), RdS.len (OS.rd hR) sl56, RdS.idx (OS.rd hR) sl56, RdS.cellN (OS.rd hR), RdS.cells (OS.rd hR), RdS.len (OS.rd how18_5_0) sl22, RdS.idx (OS.rd how18_5_0) sl22, R1.intN (OS.rd how18_5_0), RdS.cells (OS.rd how18_5_0), BoxAt.cell hb0_0, BoxAt.cell hb0_1, BoxAt.cell hb0_2, BoxAt.cell hbx6, RdS.len hrw14_3 sl56, RdS.idx hrw14_3 sl56, RdS.cellB hrw14_3 (Ext.pres xhrw14_3), RdS.cells hrw14_3, RdS.len hrw14_6 sl56, RdS.idx hrw14_6 sl56, RdS.cellB hrw14_6 (Ext.pres xhrw14_6), RdS.cells hrw14_6, RdS.len hr21 sl22, RdS.idx hr21 sl22, R1.intB hr21 (Ext.pres xr22), RdS.cells hr21, wrap_id, bC0, Int.toNat_zero]
                    try simp -implicitDefEqProofs (disch := first | decide | assumption | omega) only [go_sem, RdS.len hdX sl22, RdS.idx hdX sl22, R1.intB hdX (Ext.pres eB), RdS.cells hdX, RdS.len hmX sl23, RdS.idx hmX sl23, RdS.cellB hmX (Ext.pres eB), RdS.cells hmX, RdS.len hdY sl22, RdS.idx hdY sl22, R1.intB hdY (Ext.pres eB), RdS.cells hdY, RdS.len hmY sl23, RdS.idx hmY sl23, RdS.cellB hmY (Ext.pres eB), RdS.cells hmY, RdS.len (OS.rd hM) sl23, RdS.idx (OS.rd hM) sl23, RdS.cellN (OS.rd hM), RdS.cells (OS.rd hM), RdS.len (OS.rd ho12_4) sl22, RdS.idx (OS.rd ho12_4) sl22, R1.intN (OS.rd ho12_4), RdS.cells (OS.rd ho12_4), RdS.len (OS.rd hR) sl56, RdS.idx (OS.rd hR) sl56, RdS.cellN (OS.rd hR), RdS.cells (OS.rd hR), RdS.len (OS.rd how18_5_0) sl22, RdS.idx (OS.rd how18_5_0) sl22, R1.intN (OS.rd how18_5_0), RdS.cells (OS.rd how18_5_0), BoxAt.cell hb0_0, BoxAt.cell hb0_1, BoxAt.cell hb0_2, BoxAt.cell hbx6, RdS.len hrw14_3 sl56, RdS.idx hrw14_3 sl56, RdS.cellB hrw14_3 (Ext.pres xhrw14_3), RdS.cells hrw14_3, RdS.len hrw14_6 sl56, RdS.idx hrw14_6 sl56, RdS.cellB hrw14_6 (Ext.pres xhrw14_6), RdS.cells hrw14_6, RdS.len hr21 sl22, RdS.idx hr21 sl22, R1.intB hr21 (Ext.pres xr22), RdS.cells hr21, wrap_id, bC0, Int.toNat_zero]
                    refine CallA.mono (sDim_ok _ Y _ _ ⟨_, _, rfl, (RdS.pres hdY (Ext.pres eB)), (RdS.pres hmY (Ext.pres eB))⟩) ?_
                    intro v_ h18_9
                    rintro ⟨rfl, e18_9⟩
                    replace hM := OS.ext hM e18_9
                    replace ho12_4 := OS.ext ho12_4 e18_9
                    replace hR := OS.ext hR e18_9
                    replace how18_5_0 := OS.ext how18_5_0 e18_9
                    replace hb0_0 := BoxAt.ext hb0_0 e18_9
                    replace hb0_1 := BoxAt.ext hb0_1 e18_9
                    replace hb0_2 := BoxAt.ext hb0_2 e18_9
                    replace hbx6 := BoxAt.ext hbx6 e18_9
                    have := Ext.size e18_9
                    replace eB := Ext.trans eB e18_9
                    replace xhrw14_3 := Ext.trans xhrw14_3 e18_9
                    replace xhrw14_6 := Ext.trans xhrw14_6 e18_9
                    replace xr22 := Ext.trans xr22 e18_9
                    replace cL6 := Chg.stepE cL6 e18_9
                    replace cL18 := Chg.stepE cL18 e18_9
                    try simp (disch := decide) only [outv_some, outv_none, put_puts]
                    refine plK_pres (Ext.pres e18_9) ?_
                    try simp -implicitDefEqProofs (disch := first | decide | assumption | omega) only [go_sem, RdS.len hdX sl22, RdS.idx hdX sl22, R1.intB hdX (Ext.pres eB), RdS.cells hdX, RdS.len hmX sl23, RdS.idx hmX sl23, RdS.cellB hmX (Ext.pres eB), RdS.cells hmX, RdS.len hdY sl22, RdS.idx hdY sl22, R1.intB hdY (Ext.pres eB), RdS.cells hdY, RdS.len hmY sl23, RdS.idx hmY sl23, RdS.cellB hmY (Ext.pres eB), RdS.cells hmY, RdS.len (OS.rd hM) sl23, RdS.idx (OS.rd hM) sl23, RdS.cellN (OS.rd hM), RdS.cells (OS.rd hM), RdS.len (OS.rd ho12_4) sl22, RdS.idx (OS.rd ho12_4) sl22, R1.intN (OS.rd ho12_4), RdS.cells (OS.rd ho12_4), RdS.len (OS.rd hR) sl56, RdS.idx (OS.rd hR) sl56, RdS.cellN (OS.rd hR), RdS.cells (OS.rd hR), RdS.len (OS.rd how18_5_0) sl22, RdS.idx (OS.rd how18_5_0) sl22, R1.intN (OS.rd how18_5_0), RdS.cells (OS.rd how18_5_0), BoxAt.cell hb0_0, BoxAt.cell hb0_1, BoxAt.cell hb0_2, BoxAt.cell hbx6, RdS.len hrw14_3 sl56, RdS.idx hrw14_3 sl56, RdS.cellB hrw14_3 (Ext.pres xhrw14_3), RdS.cells hrw14_3, RdS.len hrw14_6 sl56, RdS.idx hrw14_6 sl56, RdS.cellB hrw14_6 (Ext.pres xhrw14_6), RdS.cells hrw14_6, RdS.len hr21 sl22, RdS.idx hr21 sl22, R1.intB hr21 (Ext.pres xr22), RdS.cells hr21, wrap_id, bC0, Int.toNat_zero]
                    refine op_appendZ (by kernel_rfl) how18_5_0 rfl (by omega) (by first | omega | (simp; omega)) rfl ?_
                    intro v18_10 h18_10 fp18_10 ho18_10 hn18_10 hs18_10 c18_10
                    have hsz18_10 := c18_10.size
                    have hfho18_10 : Fresh h16_3.size fp18_10 := Fresh.appd hfw18_5_0 (Fresh.nil h18_9.size) (by omega) (by omega) hn18_10 hs18_10
                    replace hM := OS.chg hM c18_10 (apart_lt hlhM hfw18_5_0 (by omega))
                    replace ho12_4 := OS.chg ho12_4 c18_10 (apart_lt hlho12_4 hfw18_5_0 (by omega))
                    replace hR := OS.chg hR c18_10 (apart_lt hlhR hfw18_5_0 (by omega))
                    replace hb0_0 := BoxAt.chgA hb0_0 c18_10 (apart_lt hlhb0_0 hfw18_5_0 (by omega))
                    replace hb0_1 := BoxAt.chgA hb0_1 c18_10 (apart_lt hlhb0_1 hfw18_5_0 (by omega))
                    replace hb0_2 := BoxAt.chgA hb0_2 c18_10 (apart_lt hlhb0_2 hfw18_5_0 (by omega))
                    replace hbx6 := BoxAt.chgA hbx6 c18_10 (apart_lt hlhbx6 hfw18_5_0 (by omega))
                    have := c18_10.size
                    replace eB := Ext.then eB c18_10 (ge_of hfw18_5_0 (by omega))
                    replace xhrw14_3 := Ext.then xhrw14_3 c18_10 (ge_of hfw18_5_0 (by omega))
                    replace xhrw14_6 := Ext.then xhrw14_6 c18_10 (ge_of hfw18_5_0 (by omega))
                    replace xr22 := Ext.then xr22 c18_10 (ge_of hfw18_5_0 (by omega))
                    replace cL6 := Chg.step cL6 c18_10 (Sub.fresh hfw18_5_0 (by omega))
                    replace cL18 := Chg.step cL18 c18_10 (Sub.fresh hfw18_5_0 (by omega))
                    have hlho18_10 := OS.lt ho18_10
                    try simp (disch := decide) only [outv_some, outv_none, put_puts]
                    refine plK_last (by decide) ?_
                    try simp -implicitDefEqProofs (disch := first | decide | assumption | omega) only [go_sem, RdS.len hdX sl22, RdS.idx hdX sl22, R1.intB hdX (Ext.pres eB), RdS.cells hdX, RdS.len hmX sl23, RdS.idx hmX sl23, RdS.cellB hmX (Ext.pres eB), RdS.cells hmX, RdS.len hdY sl22, RdS.idx hdY sl22, R1.intB hdY (Ext.pres eB), RdS.cells hdY, RdS.len hmY sl23, RdS.idx hmY sl23, RdS.cellB hmY (Ext.pres eB), RdS.cells hmY, RdS.len (OS.rd hM) sl23, RdS.idx (OS.rd hM) sl23, RdS.cellN (OS.rd hM), RdS.cells (OS.rd hM), RdS.len (OS.rd ho12_4) sl22, RdS.idx (OS.rd ho12_4) sl22, R1.intN (OS.rd ho12_4), RdS.cells (OS.rd ho12_4), RdS.len (OS.rd hR) sl56, RdS.idx (OS.rd hR) sl56, RdS.cellN (OS.rd hR), RdS.cells (OS.rd hR), RdS.len (OS.rd ho18_10) sl22, RdS.idx (OS.rd ho18_10) sl22, R1.intN (OS.rd ho18_10), RdS.cells (OS.rd ho18_10), BoxAt.cell hb0_0, BoxAt.cell hb0_1, BoxAt.cell hb0_2, BoxAt.cell hbx6, RdS.len hrw14_3 sl56, RdS.idx hrw14_3 sl56, RdS.cellB hrw14_3 (Ext.pres xhrw14_3), RdS.cells hrw14_3, RdS.len hrw14_6 sl56, RdS.idx hrw14_6 sl56, RdS.cellB hrw14_6 (Ext.pres xhrw14_6), RdS.cells hrw14_6, RdS.len hr21 sl22, RdS.idx hr21 sl22, R1.intB hr21 (Ext.pres xr22), RdS.cells hr21, wrap_id, bC0, Int.toNat_zero]
                    refine op_bs1 sz56 rfl (OS.one ho18_10).2 ?_
                    try simp (disch := decide) only [outv_some, outv_none, put_puts]
                    refine plK_pres (Ext.pres (Ext.push _ _)) ?_
                    try simp -implicitDefEqProofs (disch := first | decide | assumption | omega) only [go_sem, RdS.len hdX sl22, RdS.idx hdX sl22, R1.intB hdX (Ext.pres eB), RdS.cells hdX, RdS.len hmX sl23, RdS.idx hmX sl23, RdS.cellB hmX (Ext.pres eB), RdS.cells hmX, RdS.len hdY sl22, RdS.idx hdY sl22, R1.intB hdY (Ext.pres eB), RdS.cells hdY, RdS.len hmY sl23, RdS.idx hmY sl23, RdS.cellB hmY (Ext.pres eB), RdS.cells hmY, RdS.len (OS.rd hM) sl23, RdS.idx (OS.rd hM) sl23, RdS.cellN (OS.rd hM), RdS.cells (OS.rd hM), RdS.len (OS.rd ho12_4) sl22, RdS.idx (OS.rd ho12_4) sl22, R1.intN (OS.rd ho12_4), RdS.cells (OS.rd ho12_4), RdS.len (OS.rd hR) sl56, RdS.idx (OS.rd hR) sl56, RdS.cellN (OS.rd hR), RdS.cells (OS.rd hR), RdS.len (OS.rd ho18_10) sl22, RdS.idx (OS.rd ho18_10) sl22, R1.intN (OS.rd ho18_10), RdS.cells (OS.rd ho18_10), BoxAt.cell hb0_0, BoxAt.cell hb0_1, BoxAt.cell hb0_2, BoxAt.cell hbx6, RdS.len hrw14_3 sl56, RdS.idx hrw14_3 sl56, RdS.cellB hrw14_3 (Ext.pres xhrw14_3), RdS.cells hrw14_3, RdS.len hrw14_6 sl56, RdS.idx hrw14_6 sl56, RdS.cellB hrw14_6 (Ext.pres xhrw14_6), RdS.cells hrw14_6, RdS.len hr21 sl22, RdS.idx hr21 sl22, R1.intB hr21 (Ext.pres xr22), RdS.cells hr21, wrap_id, bC0, Int.toNat_zero]
                    refine op_append1 sz56 hR hfhR.nodup ho18_10 hfho18_10.nodup (apart_lt hlhR hfho18_10 (by omega)) (by first | omega | (simp; omega)) rfl rfl ?_
                    intro v18_12 h18_12 fp18_12 ho18_12 hn18_12 hs18_12 c18_12
                    have hsz18_12 := c18_12.size
                    have hfho18_12 : Fresh h12_6.size fp18_12 := Fresh.appd hfhR hfho18_10 (by omega) (by omega) hn18_12 hs18_12
                    have sb23 : Sub fpJho14_0 hj14.size fp18_12 := Sub.grow sbhR (Sub.fresh hfho18_10 (by omega)) (by omega) hs18_12
                    replace hM := OS.chg hM c18_12 (apart_lt hlhM hfhR (by omega))
                    replace ho12_4 := OS.chg ho12_4 c18_12 (apart_lt hlho12_4 hfhR (by omega))
                    replace hb0_0 := BoxAt.chgA hb0_0 c18_12 (apart_lt hlhb0_0 hfhR (by omega))
                    replace hb0_1 := BoxAt.chgA hb0_1 c18_12 (apart_lt hlhb0_1 hfhR (by omega))
                    replace hb0_2 := BoxAt.chgA hb0_2 c18_12 (apart_lt hlhb0_2 hfhR (by omega))
                    replace hbx6 := BoxAt.chgA hbx6 c18_12 (apart_lt hlhbx6 hfhR (by omega))
                    have := c18_12.size
                    replace eB := Ext.then eB c18_12 (ge_of hfhR (by omega))
                    replace xhrw14_3 := Ext.then xhrw14_3 c18_12 (ge_of hfhR (by omega))
                    replace xhrw14_6 := Ext.then xhrw14_6 c18_12 (ge_of hfhR (by omega))
                    replace xr22 := Ext.then xr22 c18_12 (ge_of hfhR (by omega))
                    replace cL6 := Chg.step cL6 c18_12 (Sub.fresh hfhR (by omega))
                    replace cL18 := Chg.step cL18 c18_12 sbhR
                    have hlho18_12 := OS.lt ho18_12
                    try simp (disch := decide) only [outv_some, outv_none, put_puts]
                    refine plK_last (by decide) ?_
                    try simp -implicitDefEqProofs (disch := first | decide | assumption | omega) only [go_sem, RdS.len hdX sl22, RdS.idx hdX sl22, R1.intB hdX (Ext.pres eB), RdS.cells hdX, RdS.len hmX sl23, RdS.idx hmX sl23, RdS.cellB hmX (Ext.pres eB), RdS.cells hmX, RdS.len hdY sl22, RdS.idx hdY sl22, R1.intB hdY (Ext.pres eB), RdS.cells hdY, RdS.len hmY sl23, RdS.idx hmY sl23, RdS.cellB hmY (Ext.pres eB), RdS.cells hmY, RdS.len (OS.rd hM) sl23, RdS.idx (OS.rd hM) sl23, RdS.cellN (OS.rd hM), RdS.cells (OS.rd hM), RdS.len (OS.rd ho12_4) sl22, RdS.idx (OS.rd ho12_4) sl22, R1.intN (OS.rd ho12_4), RdS.cells (OS.rd ho12_4), RdS.len (OS.rd ho18_12) sl56, RdS.idx (OS.rd ho18_12) sl56, RdS.cellN (OS.rd ho18_12), RdS.cells (OS.rd ho18_12), BoxAt.cell hb0_0, BoxAt.cell hb0_1, BoxAt.cell hb0_2, BoxAt.cell hbx6, RdS.len hrw14_3 sl56, RdS.idx hrw14_3 sl56, RdS.cellB hrw14_3 (Ext.pres xhrw14_3), RdS.cells hrw14_3, RdS.len hrw14_6 sl56, RdS.idx hrw14_6 sl56, RdS.cellB hrw14_6 (Ext.pres xhrw14_6), RdS.cells hrw14_6, RdS.len hr21 sl22, RdS.idx hr21 sl22, R1.intB hr21 (Ext.pres xr22), RdS.cells hr21, wrap_id, bC0, Int.toNat_zero]
                    refine hK _ _ ?_
                    clear hK K
                    refine den_blk ?_
                    refine den_region TTok ?_
                    intro K hK
                    simp -implicitDefEqProofs (disch := first | decide | assumption | omega) only [go_sem, RdS.len hdX sl22, RdS.idx hdX sl22, R1.intB hdX (Ext.pres eB), RdS.cells hdX, RdS.len hmX sl23, RdS.idx hmX sl23, RdS.cellB hmX (Ext.pres eB), RdS.cells hmX, RdS.len hdY sl22, RdS.idx hdY sl22, R1.intB hdY (Ext.pres eB), RdS.cells hdY, RdS.len hmY sl23, RdS.idx hmY sl23, RdS.cellB hmY (Ext.pres eB), RdS.cells hmY, RdS.len (OS.rd hM) sl23, RdS.idx (OS.rd hM) sl23, RdS.cellN (OS.rd hM), RdS.cells (OS.rd hM), RdS.len (OS.rd ho12_4) sl22, RdS.idx (OS.rd ho12_4) sl22, R1.intN (OS.rd ho12_4), RdS.cells (OS.rd ho12_4), RdS.len (OS.rd ho18_12) sl56, RdS.idx (OS.rd ho18_12) sl56, RdS.cellN (OS.rd ho18_12), RdS.cells (OS.rd ho18_12), BoxAt.cell hb0_0, BoxAt.cell hb0_1, BoxAt.cell hb0_2, BoxAt.cell hbx6, RdS.len hrw14_3 sl56, RdS.idx hrw14_3 sl56, RdS.cellB hrw14_3 (Ext.pres xhrw14_3), RdS.cells hrw14_3, RdS.len hrw14_6 sl56, RdS.idx hrw14_6 sl56, RdS.cellB hrw14_6 (Ext.pres xhrw14_6), RdS.cells hrw14_6, RdS.len hr21 sl22, RdS.idx hr21 sl22, R1.intB hr21 (Ext.pres xr22), RdS.cells hr21, wrap_id, bC0, Int.toNat_zero]
                    refine hK _ _ ?_
                    clear hK K
                    refine den_stop ?_
                    rw [show (mapP X (n : Int)).getD i default ++ List.replicate (dimP Y ((n : Int) - 1)).toNat 0 = addTop X Y n i from rfl, range_step (fun q : Nat => addTop X Y n q)] at ho18_12
                    exact ⟨(i + 1, v18_12, fp18_12), by simp [HasL, puts_at], ⟨by first | omega | (dsimp only; omega), ho18_12, hfho18_12, sb23, cL18⟩, by first | omega | (dsimp only; omega)⟩
                  · try simp only [decide_eq_true_eq, decide_eq_false_iff_not, beq_iff_eq, beq_eq_false_iff_ne, bne_iff_ne, ne_eq, Bool.not_eq_true', Bool.not_eq_false', Bool.and_eq_true, Bool.or_eq_true, bne_eq_false_iff_eq, Bool.or_eq_false_iff, Bool.and_eq_false_iff] at c5
                    refine den_exit ?_
                    refine denX_code ?_
                    refine denX_stop ?_
                    refine denX_hit ?_
                    refine den_seq ?_
                    refine den_seq ?_
                    refine den_region TTok ?_
                    intro K hK
                    simp -implicitDefEqProofs (disch := first | decide | assumption | omega) only [go_sem, RdS.len hdX sl22, RdS.idx hdX sl22, R1.intB hdX (Ext.pres eB), RdS.cells hdX, RdS.len hmX sl23, RdS.idx hmX sl23, RdS.cellB hmX (Ext.pres eB), RdS.cells hmX, RdS.len hdY sl22, RdS.idx hdY sl22, R1.intB hdY (Ext.pres eB), RdS.cells hdY, RdS.len hmY sl23, RdS.idx hmY sl23, RdS.cellB hmY (Ext.pres eB), RdS.cells hmY, RdS.len (OS.rd hM) sl23, RdS.idx (OS.rd hM) sl23, RdS.cellN (OS.rd hM), RdS.cells (OS.rd hM), RdS.len (OS.rd ho12_4) sl22, RdS.idx (OS.rd ho12_4) sl22, R1.intN (OS.rd ho12_4), RdS.cells (OS.rd ho12_4), RdS.len (OS.rd hR) sl56, RdS.idx (OS.rd hR) sl56, RdS.cellN (OS.rd hR), RdS.cells (OS.rd hR), BoxAt.cell hb0_0, BoxAt.cell hb0_1, BoxAt.cell hb0_2, BoxAt.cell hbx6, RdS.len hrw14_3 sl56, RdS.idx hrw14_3 sl56, RdS.cellB hrw14_3 (Ext.pres xhrw14_3), RdS.cells hrw14_3, RdS.len hrw14_6 sl56, RdS.idx hrw14_6 sl56, RdS.cellB hrw14_6 (Ext.pres xhrw14_6), RdS.cells hrw14_6, wrap_id, bC0, Int.toNat_zero]
                    refine hK _ _ ?_
                    clear hK K
                    refine den_block ?_
                    refine den_sel [9, 13, 2, 3, 4, 6, 7, 11] ?_
                    intro env_24
                    simp only [go_sem]
                    refine den_loopS (σ := Nat × Value × List Nat) (fun st_ => [(9, st_.2.1), (13, .int .i64 (st_.1 : Int))]) (fun st_ H => ((st_.1 : Int) ≤ dimP Y (n : Int)) ∧ (O2 H st_.2.1 ((List.range i).map (fun q : Nat => addTop X Y n q) ++ (List.range st_.1).map (fun q : Nat => addBot X Y n q)) st_.2.2) ∧ (Fresh (h12_6.size) st_.2.2) ∧ (Sub fphR h16_3.size st_.2.2) ∧ (Chg fphR h16_3 H)) (fun st_ => (dimP Y (n : Int)).toNat - st_.1) (0, vhR, fphR) ?_ ?_
                    · exact ⟨by first | (simp; done) | (dsimp only; omega) | (simp; omega), by simpa using hR, hfhR, Sub.refl, Chg.refl _ _⟩
                    · rintro ⟨j, vhS, fphS⟩ h27 ee26 ⟨hi0, hS, hfhS, sbhS, cL25⟩
                      dsimp only at hi0 hS hfhS sbhS cL25
                      replace hM := OS.chg hM cL25 (apart_lt hlhM hfhR (by omega))
                      replace ho12_4 := OS.chg ho12_4 cL25 (apart_lt hlho12_4 hfhR (by omega))
                      replace hb0_0 := BoxAt.chgA hb0_0 cL25 (apart_lt hlhb0_0 hfhR (by omega))
                      replace hb0_1 := BoxAt.chgA hb0_1 cL25 (apart_lt hlhb0_1 hfhR (by omega))
                      replace hb0_2 := BoxAt.chgA hb0_2 cL25 (apart_lt hlhb0_2 hfhR (by omega))
                      replace hbx6 := BoxAt.chgA hbx6 cL25 (apart_lt hlhbx6 hfhR (by omega))
                      have := cL25.size
                      replace eB := Ext.then eB cL25 (ge_of hfhR (by omega))
                      replace xhrw14_3 := Ext.then xhrw14_3 cL25 (ge_of hfhR (by omega))
                      replace xhrw14_6 := Ext.then xhrw14_6 cL25 (ge_of hfhR (by omega))
                      replace cL6 := Chg.step cL6 cL25 (Sub.fresh hfhR (by omega))
                      have hlhS := OS.lt hS
                      simp only [List.cons_append, List.nil_append]
                      refine den_seq ?_
                      refine den_seq ?_
                      refine den_region TTok ?_
                      intro K hK
                      simp -implicitDefEqProofs (disch := first | decide | assumption | omega) only [go_sem, ld30, RdS.len hdX sl22, RdS.idx hdX sl22, R1.intB hdX (Ext.pres eB), RdS.cells hdX, RdS.len hmX sl23, RdS.idx hmX sl23, RdS.cellB hmX (Ext.pres eB), RdS.cells hmX, RdS.len hdY sl22, RdS.idx hdY sl22, R1.intB hdY (Ext.pres eB), RdS.cells hdY, RdS.len hmY sl23, RdS.idx hmY sl23, RdS.cellB hmY (Ext.pres eB), RdS.cells hmY, RdS.len (OS.rd hM) sl23, RdS.idx (OS.rd hM) sl23, RdS.cellN (OS.rd hM), RdS.cells (OS.rd hM), RdS.len (OS.rd ho12_4) sl22, RdS.idx (OS.rd ho12_4) sl22, R1.intN (OS.rd ho12_4), RdS.cells (OS.rd ho12_4), RdS.len (OS.rd hS) sl56, RdS.idx (OS.rd hS) sl56, RdS.cellN (OS.rd hS), RdS.cells (OS.rd hS), BoxAt.cell hb0_0, BoxAt.cell hb0_1, BoxAt.cell hb0_2, BoxAt.cell hbx6, RdS.len hrw14_3 sl56, RdS.idx hrw14_3 sl56, RdS.cellB hrw14_3 (Ext.pres xhrw14_3), RdS.cells hrw14_3, RdS.len hrw14_6 sl56, RdS.idx hrw14_6 sl56, RdS.cellB hrw14_6 (Ext.pres xhrw14_6), RdS.cells hrw14_6, wrap_id, bC0, Int.toNat_zero]
                      try simp -implicitDefEqProofs (disch := first | decide | assumption | omega) only [go_sem, RdS.len hdX sl22, RdS.idx hdX sl22, R1.intB hdX (Ext.pres eB), RdS.cells hdX, RdS.len hmX sl23, RdS.idx hmX sl23, RdS.cellB hmX (Ext.pres eB), RdS.cells hmX, RdS.len hdY sl22, RdS.idx hdY sl22, R1.intB hdY (Ext.pres eB), RdS.cells hdY, RdS.len hmY sl23, RdS.idx hmY sl23, RdS.cellB hmY (Ext.pres eB), RdS.cells hmY, RdS.len (OS.rd hM) sl23, RdS.idx (OS.rd hM) sl23, RdS.cellN (OS.rd hM), RdS.cells (OS.rd hM), RdS.len (OS.rd ho12_4) sl22, RdS.idx (OS.rd ho12_4) sl22, R1.intN (OS.rd ho12_4), RdS.cells (OS.rd ho12_4), RdS.len (OS.rd hS) sl56, RdS.idx (OS.rd hS) sl56, RdS.cellN (OS.rd hS), RdS.cells (OS.rd hS), BoxAt.cell hb0_0, BoxAt.cell hb0_1, BoxAt.cell hb0_2, BoxAt.cell hbx6, RdS.len hrw14_3 sl56, RdS.idx hrw14_3 sl56, RdS.cellB hrw14_3 (Ext.pres xhrw14_3), RdS.cells hrw14_3, RdS.len hrw14_6 sl56, RdS.idx hrw14_6 sl56, RdS.cellB hrw14_6 (Ext.pres xhrw14_6), RdS.cells hrw14_6, wrap_id, bC0, Int.toNat_zero]
                      refine CallA.mono (sDim_ok _ Y _ _ ⟨_, _, rfl, (RdS.pres hdY (Ext.pres eB)), (RdS.pres hmY (Ext.pres eB))⟩) ?_
                      intro v_ h20_3
                      rintro ⟨rfl, e20_3⟩
                      replace hM := OS.ext hM e20_3
                      replace ho12_4 := OS.ext ho12_4 e20_3
                      replace hS := OS.ext hS e20_3
                      replace hb0_0 := BoxAt.ext hb0_0 e20_3
                      replace hb0_1 := BoxAt.ext hb0_1 e20_3
                      replace hb0_2 := BoxAt.ext hb0_2 e20_3
                      replace hbx6 := BoxAt.ext hbx6 e20_3
                      have := Ext.size e20_3
                      replace eB := Ext.trans eB e20_3
                      replace xhrw14_3 := Ext.trans xhrw14_3 e20_3
                      replace xhrw14_6 := Ext.trans xhrw14_6 e20_3
                      replace cL6 := Chg.stepE cL6 e20_3
                      replace cL25 := Chg.stepE cL25 e20_3
                      try simp -implicitDefEqProofs (disch := first | decide | assumption | omega) only [go_sem, RdS.len hdX sl22, RdS.idx hdX sl22, R1.intB hdX (Ext.pres eB), RdS.cells hdX, RdS.len hmX sl23, RdS.idx hmX sl23, RdS.cellB hmX (Ext.pres eB), RdS.cells hmX, RdS.len hdY sl22, RdS.idx hdY sl22, R1.intB hdY (Ext.pres eB), RdS.cells hdY, RdS.len hmY sl23, RdS.idx hmY sl23, RdS.cellB hmY (Ext.pres eB), RdS.cells hmY, RdS.len (OS.rd hM) sl23, RdS.idx (OS.rd hM) sl23, RdS.cellN (OS.rd hM), RdS.cells (OS.rd hM), RdS.len (OS.rd ho12_4) sl22, RdS.idx (OS.rd ho12_4) sl22, R1.intN (OS.rd ho12_4), RdS.cells (OS.rd ho12_4), RdS.len (OS.rd hS) sl56, RdS.idx (OS.rd hS) sl56, RdS.cellN (OS.rd hS), RdS.cells (OS.rd hS), BoxAt.cell hb0_0, BoxAt.cell hb0_1, BoxAt.cell hb0_2, BoxAt.cell hbx6, RdS.len hrw14_3 sl56, RdS.idx hrw14_3 sl56, RdS.cellB hrw14_3 (Ext.pres xhrw14_3), RdS.cells hrw14_3, RdS.len hrw14_6 sl56, RdS.idx hrw14_6 sl56, RdS.cellB hrw14_6 (Ext.pres xhrw14_6), RdS.cells hrw14_6, wrap_id, bC0, Int.toNat_zero]
                      refine hK _ _ ?_
                      clear hK K
                      refine den_cond rfl (fun c6 => ?_) (fun c6 => ?_)
                      · try simp only [decide_eq_true_eq, decide_eq_false_iff_not, beq_iff_eq, beq_eq_false_iff_ne, bne_iff_ne, ne_eq, Bool.not_eq_true', Bool.not_eq_false', Bool.and_eq_true, Bool.or_eq_true, bne_eq_false_iff_eq, Bool.or_eq_false_iff, Bool.and_eq_false_iff] at c6
                        refine den_skip ?_
                        refine den_seq ?_
                        refine den_block ?_
                        have hq := hmy.2 j (by omega)
                        have hlt : ((List.range i).map (fun q : Nat => addTop X Y n q) ++ (List.range j).map (fun q : Nat => addBot X Y n q)).length = i + j := by simp
                        refine den_draw TTok mixed [10, 12] [(0, true), (1, true), (2, true), (3, true), (6, true), (7, true), (8, true), (9, true), (4, false), (5, false), (10, false), (11, false), (12, false), (13, true)] (by kernel_rfl) ?_
                        intro K hK
                        have hr28 := RdS.rowN hrw14_6 j (by omega)
                        have hlhr28 := RdS.le hr28
                        have xr29 := xhrw14_6
                        simp -implicitDefEqProofs (disch := first | decide | assumption | omega) only [go_sem, ld22, ld30, RdS.len hdX sl22, RdS.idx hdX sl22, R1.intB hdX (Ext.pres eB), RdS.cells hdX, RdS.len hmX sl23, RdS.idx hmX sl23, RdS.cellB hmX (Ext.pres eB), RdS.cells hmX, RdS.len hdY sl22, RdS.idx hdY sl22, R1.intB hdY (Ext.pres eB), RdS.cells hdY, RdS.len hmY sl23, RdS.idx hmY sl23, RdS.cellB hmY (Ext.pres eB), RdS.cells hmY, RdS.len (OS.rd hM) sl23, RdS.idx (OS.rd hM) sl23, RdS.cellN (OS.rd hM), RdS.cells (OS.rd hM), RdS.len (OS.rd ho12_4) sl22, RdS.idx (OS.rd ho12_4) sl22, R1.intN (OS.rd ho12_4), RdS.cells (OS.rd ho12_4), RdS.len (OS.rd hS) sl56, RdS.idx (OS.rd hS) sl56, RdS.cellN (OS.rd hS), RdS.cells (OS.rd hS), BoxAt.cell hb0_0, BoxAt.cell hb0_1, BoxAt.cell hb0_2, BoxAt.cell hbx6, RdS.len hrw14_3 sl56, RdS.idx hrw14_3 sl56, RdS.cellB hrw14_3 (Ext.pres xhrw14_3), RdS.cells hrw14_3, RdS.len hrw14_6 sl56, RdS.idx hrw14_6 sl56, RdS.cellB hrw14_6 (Ext.pres xhrw14_6), RdS.cells hrw14_6, RdS.len hr28 sl22, RdS.idx hr28 sl22, R1.intB hr28 (Ext.pres xr29), RdS.cells hr28, wrap_id, bC0, Int.toNat_zero]
                        try simp -implicitDefEqProofs (disch := first | decide | assumption | omega) only [go_sem, RdS.len hdX sl22, RdS.idx hdX sl22, R1.intB hdX (Ext.pres eB), RdS.cells hdX, RdS.len hmX sl23, RdS.idx hmX sl23, RdS.cellB hmX (Ext.pres eB), RdS.cells hmX, RdS.len hdY sl22, RdS.idx hdY sl22, R1.intB hdY (Ext.pres eB), RdS.cells hdY, RdS.len hmY sl23, RdS.idx hmY sl23, RdS.cellB hmY (Ext.pres eB), RdS.cells hmY, RdS.len (OS.rd hM) sl23, RdS.idx (OS.rd hM) sl23, RdS.cellN (OS.rd hM), RdS.cells (OS.rd hM), RdS.len (OS.rd ho12_4) sl22, RdS.idx (OS.rd ho12_4) sl22, R1.intN (OS.rd ho12_4), RdS.cells (OS.rd ho12_4), RdS.len (OS.rd hS) sl56, RdS.idx (OS.rd hS) sl56, RdS.cellN (OS.rd hS), RdS.cells (OS.rd hS), BoxAt.cell hb0_0, BoxAt.cell hb0_1, BoxAt.cell hb0_2, BoxAt.cell hbx6, RdS.len hrw14_3 sl56, RdS.idx hrw14_3 sl56, RdS.cellB hrw14_3 (Ext.pres xhrw14_3), RdS.cells hrw14_3, RdS.len hrw14_6 sl56, RdS.idx hrw14_6 sl56, RdS.cellB hrw14_6 (Ext.pres xhrw14_6), RdS.cells hrw14_6, RdS.len hr28 sl22, RdS.idx hr28 sl22, R1.intB hr28 (Ext.pres xr29), RdS.cells hr28, wrap_id, bC0, Int.toNat_zero]
                        refine CallA.mono (sDim_ok _ X _ _ ⟨_, _, rfl, (RdS.pres hdX (Ext.pres eB)), (RdS.pres hmX (Ext.pres eB))⟩) ?_
                        intro v_ h22_4
                        rintro ⟨rfl, e22_4⟩
                        replace hM := OS.ext hM e22_4
                        replace ho12_4 := OS.ext ho12_4 e22_4
                        replace hS := OS.ext hS e22_4
                        replace hb0_0 := BoxAt.ext hb0_0 e22_4
                        replace hb0_1 := BoxAt.ext hb0_1 e22_4
                        replace hb0_2 := BoxAt.ext hb0_2 e22_4
                        replace hbx6 := BoxAt.ext hbx6 e22_4
                        have := Ext.size e22_4
                        replace eB := Ext.trans eB e22_4
                        replace xhrw14_3 := Ext.trans xhrw14_3 e22_4
                        replace xhrw14_6 := Ext.trans xhrw14_6 e22_4
                        replace xr29 := Ext.trans xr29 e22_4
                        replace cL6 := Chg.stepE cL6 e22_4
                        replace cL25 := Chg.stepE cL25 e22_4
                        try simp (disch := decide) only [outv_some, outv_none, put_puts]
                        refine plK_pres (Ext.pres e22_4) ?_
                        try simp -implicitDefEqProofs (disch := first | decide | assumption | omega) only [go_sem, RdS.len hdX sl22, RdS.idx hdX sl22, R1.intB hdX (Ext.pres eB), RdS.cells hdX, RdS.len hmX sl23, RdS.idx hmX sl23, RdS.cellB hmX (Ext.pres eB), RdS.cells hmX, RdS.len hdY sl22, RdS.idx hdY sl22, R1.intB hdY (Ext.pres eB), RdS.cells hdY, RdS.len hmY sl23, RdS.idx hmY sl23, RdS.cellB hmY (Ext.pres eB), RdS.cells hmY, RdS.len (OS.rd hM) sl23, RdS.idx (OS.rd hM) sl23, RdS.cellN (OS.rd hM), RdS.cells (OS.rd hM), RdS.len (OS.rd ho12_4) sl22, RdS.idx (OS.rd ho12_4) sl22, R1.intN (OS.rd ho12_4), RdS.cells (OS.rd ho12_4), RdS.len (OS.rd hS) sl56, RdS.idx (OS.rd hS) sl56, RdS.cellN (OS.rd hS), RdS.cells (OS.rd hS), BoxAt.cell hb0_0, BoxAt.cell hb0_1, BoxAt.cell hb0_2, BoxAt.cell hbx6, RdS.len hrw14_3 sl56, RdS.idx hrw14_3 sl56, RdS.cellB hrw14_3 (Ext.pres xhrw14_3), RdS.cells hrw14_3, RdS.len hrw14_6 sl56, RdS.idx hrw14_6 sl56, RdS.cellB hrw14_6 (Ext.pres xhrw14_6), RdS.cells hrw14_6, RdS.len hr28 sl22, RdS.idx hr28 sl22, R1.intB hr28 (Ext.pres xr29), RdS.cells hr28, wrap_id, bC0, Int.toNat_zero]
                        refine op_make sz22 rfl rfl (by omega) (by omega) OI 0 (fun _ => ⟨rfl, rfl⟩) ?_
                        intro v22_5 h22_5 ho22_5 e22_5
                        replace hM := OS.ext hM e22_5
                        replace ho12_4 := OS.ext ho12_4 e22_5
                        replace hS := OS.ext hS e22_5
                        replace hb0_0 := BoxAt.ext hb0_0 e22_5
                        replace hb0_1 := BoxAt.ext hb0_1 e22_5
                        replace hb0_2 := BoxAt.ext hb0_2 e22_5
                        replace hbx6 := BoxAt.ext hbx6 e22_5
                        have := Ext.size e22_5
                        replace eB := Ext.trans eB e22_5
                        replace xhrw14_3 := Ext.trans xhrw14_3 e22_5
                        replace xhrw14_6 := Ext.trans xhrw14_6 e22_5
                        replace xr29 := Ext.trans xr29 e22_5
                        replace cL6 := Chg.stepE cL6 e22_5
                        replace cL25 := Chg.stepE cL25 e22_5
                        have hfho22_5 : Fresh h22_4.size [h22_4.size] := Fresh.one _
                        have hlenho22_5 : (List.replicate ((dimP X ((n : Int) - (1 : Int)))).toNat (0 : Int)).length = ((dimP X ((n : Int) - (1 : Int)))).toNat := List.length_replicate
                        have hlho22_5 := OS.lt ho22_5
                        try simp (disch := decide) only [outv_some, outv_none, put_puts]
                        refine plK_pres (Ext.pres e22_5) ?_
                        try simp -implicitDefEqProofs (disch := first | decide | assumption | omega) only [go_sem, RdS.len hdX sl22, RdS.idx hdX sl22, R1.intB hdX (Ext.pres eB), RdS.cells hdX, RdS.len hmX sl23, RdS.idx hmX sl23, RdS.cellB hmX (Ext.pres eB), RdS.cells hmX, RdS.len hdY sl22, RdS.idx hdY sl22, R1.intB hdY (Ext.pres eB), RdS.cells hdY, RdS.len hmY sl23, RdS.idx hmY sl23, RdS.cellB hmY (Ext.pres eB), RdS.cells hmY, RdS.len (OS.rd hM) sl23, RdS.idx (OS.rd hM) sl23, RdS.cellN (OS.rd hM), RdS.cells (OS.rd hM), RdS.len (OS.rd ho12_4) sl22, RdS.idx (OS.rd ho12_4) sl22, R1.intN (OS.rd ho12_4), RdS.cells (OS.rd ho12_4), RdS.len (OS.rd hS) sl56, RdS.idx (OS.rd hS) sl56, RdS.cellN (OS.rd hS), RdS.cells (OS.rd hS), RdS.len (OS.rd ho22_5) sl22, RdS.idx (OS.rd ho22_5) sl22, R1.intN (OS.rd ho22_5), RdS.cells (OS.rd ho22_5), BoxAt.cell hb0_0, BoxAt.cell hb0_1, BoxAt.cell hb0_2, BoxAt.cell hbx6, RdS.len hrw14_3 sl56, RdS.idx hrw14_3 sl56, RdS.cellB hrw14_3 (Ext.pres xhrw14_3), RdS.cells hrw14_3, RdS.len hrw14_6 sl56, RdS.idx hrw14_6 sl56, RdS.cellB hrw14_6 (Ext.pres xhrw14_6), RdS.cells hrw14_6, RdS.len hr28 sl22, RdS.idx hr28 sl22, R1.intB hr28 (Ext.pres xr29), RdS.cells hr28, wrap_id, bC0, Int.toNat_zero]
                        refine op_appendR ho22_5 (RdS.pres hr28 (Ext.pres xr29)) (by first | omega | (simp; omega)) rfl ?_
                        intro v22_10 h22_10 fp22_10 ho22_10 hn22_10 hs22_10 c22_10
                        have hsz22_10 := c22_10.size
                        have hfho22_10 : Fresh h22_4.size fp22_10 := Fresh.appd hfho22_5 (Fresh.nil h22_5.size) (by omega) (by omega) hn22_10 hs22_10
                        replace hM := OS.chg hM c22_10 (apart_lt hlhM hfho22_5 (by omega))
                        replace ho12_4 := OS.chg ho12_4 c22_10 (apart_lt hlho12_4 hfho22_5 (by omega))
                        replace hS := OS.chg hS c22_10 (apart_lt hlhS hfho22_5 (by omega))
                        replace hb0_0 := BoxAt.chgA hb0_0 c22_10 (apart_lt hlhb0_0 hfho22_5 (by omega))
                        replace hb0_1 := BoxAt.chgA hb0_1 c22_10 (apart_lt hlhb0_1 hfho22_5 (by omega))
                        replace hb0_2 := BoxAt.chgA hb0_2 c22_10 (apart_lt hlhb0_2 hfho22_5 (by omega))
                        replace hbx6 := BoxAt.chgA hbx6 c22_10 (apart_lt hlhbx6 hfho22_5 (by omega))
                        have := c22_10.size
                        replace eB := Ext.then eB c22_10 (ge_of hfho22_5 (by omega))
                        replace xhrw14_3 := Ext.then xhrw14_3 c22_10 (ge_of hfho22_5 (by omega))
                        replace xhrw14_6 := Ext.then xhrw14_6 c22_10 (ge_of hfho22_5 (by omega))
                        replace xr29 := Ext.then xr29 c22_10 (ge_of hfho22_5 (by omega))
                        replace cL6 := Chg.step cL6 c22_10 (Sub.fresh hfho22_5 (by omega))
                        replace cL25 := Chg.step cL25 c22_10 (Sub.fresh hfho22_5 (by omega))
                        have hlho22_10 := OS.lt ho22_10
                        try simp (disch := decide) only [outv_some, outv_none, put_puts]
                        refine plK_last (by decide) ?_
                        try simp -implicitDefEqProofs (disch := first | decide | assumption | omega) only [go_sem, RdS.len hdX sl22, RdS.idx hdX sl22, R1.intB hdX (Ext.pres eB), RdS.cells hdX, RdS.len hmX sl23, RdS.idx hmX sl23, RdS.cellB hmX (Ext.pres eB), RdS.cells hmX, RdS.len hdY sl22, RdS.idx hdY sl22, R1.intB hdY (Ext.pres eB), RdS.cells hdY, RdS.len hmY sl23, RdS.idx hmY sl23, RdS.cellB hmY (Ext.pres eB), RdS.cells hmY, RdS.len (OS.rd hM) sl23, RdS.idx (OS.rd hM) sl23, RdS.cellN (OS.rd hM), RdS.cells (OS.rd hM), RdS.len (OS.rd ho12_4) sl22, RdS.idx (OS.rd ho12_4) sl22, R1.intN (OS.rd ho12_4), RdS.cells (OS.rd ho12_4), RdS.len (OS.rd hS) sl56, RdS.idx (OS.rd hS) sl56, RdS.cellN (OS.rd hS), RdS.cells (OS.rd hS), RdS.len (OS.rd ho22_10) sl22, RdS.idx (OS.rd ho22_10) sl22, R1.intN (OS.rd ho22_10), RdS.cells (OS.rd ho22_10), BoxAt.cell hb0_0, BoxAt.cell hb0_1, BoxAt.cell hb0_2, BoxAt.cell hbx6, RdS.len hrw14_3 sl56, RdS.idx hrw14_3 sl56, RdS.cellB hrw14_3 (Ext.pres xhrw14_3), RdS.cells hrw14_3, RdS.len hrw14_6 sl56, RdS.idx hrw14_6 sl56, RdS.cellB hrw14_6 (Ext.pres xhrw14_6), RdS.cells hrw14_6, RdS.len hr28 sl22, RdS.idx hr28 sl22, R1.intB hr28 (Ext.pres xr29), RdS.cells hr28, wrap_id, bC0, Int.toNat_zero]
                        refine op_bs1 sz56 rfl (OS.one ho22_10).2 ?_
                        try simp (disch := decide) only [outv_some, outv_none, put_puts]
                        refine plK_pres (Ext.pres (Ext.push _ _)) ?_
                        try simp -implicitDefEqProofs (disch := first | decide | assumption | omega) only [go_sem, RdS.len hdX sl22, RdS.idx hdX sl22, R1.intB hdX (Ext.pres eB), RdS.cells hdX, RdS.len hmX sl23, RdS.idx hmX sl23, RdS.cellB hmX (Ext.pres eB), RdS.cells hmX, RdS.len hdY sl22, RdS.idx hdY sl22, R1.intB hdY (Ext.pres eB), RdS.cells hdY, RdS.len hmY sl23, RdS.idx hmY sl23, RdS.cellB hmY (Ext.pres eB), RdS.cells hmY, RdS.len (OS.rd hM) sl23, RdS.idx (OS.rd hM) sl23, RdS.cellN (OS.rd hM), RdS.cells (OS.rd hM), RdS.len (OS.rd ho12_4) sl22, RdS.idx (OS.rd ho12_4) sl22, R1.intN (OS.rd ho12_4), RdS.cells (OS.rd ho12_4), RdS.len (OS.rd hS) sl56, RdS.idx (OS.rd hS) sl56, RdS.cellN (OS.rd hS), RdS.cells (OS.rd hS), RdS.len (OS.rd ho22_10) sl22, RdS.idx (OS.rd ho22_10) sl22, R1.intN (OS.rd ho22_10), RdS.cells (OS.rd ho22_10), BoxAt.cell hb0_0, BoxAt.cell hb0_1, BoxAt.cell hb0_2, BoxAt.cell hbx6, RdS.len hrw14_3 sl56, RdS.idx hrw14_3 sl56, RdS.cellB hrw14_3 (Ext.pres xhrw14_3), RdS.cells hrw14_3, RdS.len hrw14_6 sl56, RdS.idx hrw14_6 sl56, RdS.cellB hrw14_6 (Ext.pres xhrw14_6), RdS.cells hrw14_6, RdS.len hr28 sl22, RdS.idx hr28 sl22, R1.intB hr28 (Ext.pres xr29), RdS.cells hr28, wrap_id, bC0, Int.toNat_zero]
                        refine op_append1 sz56 hS hfhS.nodup ho22_10 hfho22_10.nodup (apart_lt hlhS hfho22_10 (by omega)) (by first | omega | (simp; omega)) rfl rfl ?_
                        intro v22_12 h22_12 fp22_12 ho22_12 hn22_12 hs22_12 c22_12
                        have hsz22_12 := c22_12.size
                        have hfho22_12 : Fresh h12_6.size fp22_12 := Fresh.appd hfhS hfho22_10 (by omega) (by omega) hn22_12 hs22_12
                        have sb30 : Sub fphR h16_3.size fp22_12 := Sub.grow sbhS (Sub.fresh hfho22_10 (by omega)) (by omega) hs22_12
                        replace hM := OS.chg hM c22_12 (apart_lt hlhM hfhS (by omega))
                        replace ho12_4 := OS.chg ho12_4 c22_12 (apart_lt hlho12_4 hfhS (by omega))
                        replace hb0_0 := BoxAt.chgA hb0_0 c22_12 (apart_lt hlhb0_0 hfhS (by omega))
                        replace hb0_1 := BoxAt.chgA hb0_1 c22_12 (apart_lt hlhb0_1 hfhS (by omega))
                        replace hb0_2 := BoxAt.chgA hb0_2 c22_12 (apart_lt hlhb0_2 hfhS (by omega))
                        replace hbx6 := BoxAt.chgA hbx6 c22_12 (apart_lt hlhbx6 hfhS (by omega))
                        have := c22_12.size
                        replace eB := Ext.then eB c22_12 (ge_of hfhS (by omega))
                        replace xhrw14_3 := Ext.then xhrw14_3 c22_12 (ge_of hfhS (by omega))
                        replace xhrw14_6 := Ext.then xhrw14_6 c22_12 (ge_of hfhS (by omega))
                        replace xr29 := Ext.then xr29 c22_12 (ge_of hfhS (by omega))
                        replace cL6 := Chg.step cL6 c22_12 (Sub.fresh hfhS (by omega))
                        replace cL25 := Chg.step cL25 c22_12 sbhS
                        have hlho22_12 := OS.lt ho22_12
                        try simp (disch := decide) only [outv_some, outv_none, put_puts]
                        refine plK_last (by decide) ?_
                        try simp -implicitDefEqProofs (disch := first | decide | assumption | omega) only [go_sem, RdS.len hdX sl22, RdS.idx hdX sl22, R1.intB hdX (Ext.pres eB), RdS.cells hdX, RdS.len hmX sl23, RdS.idx hmX sl23, RdS.cellB hmX (Ext.pres eB), RdS.cells hmX, RdS.len hdY sl22, RdS.idx hdY sl22, R1.intB hdY (Ext.pres eB), RdS.cells hdY, RdS.len hmY sl23, RdS.idx hmY sl23, RdS.cellB hmY (Ext.pres eB), RdS.cells hmY, RdS.len (OS.rd hM) sl23, RdS.idx (OS.rd hM) sl23, RdS.cellN (OS.rd hM), RdS.cells (OS.rd hM), RdS.len (OS.rd ho12_4) sl22, RdS.idx (OS.rd ho12_4) sl22, R1.intN (OS.rd ho12_4), RdS.cells (OS.rd ho12_4), RdS.len (OS.rd ho22_12) sl56, RdS.idx (OS.rd ho22_12) sl56, RdS.cellN (OS.rd ho22_12), RdS.cells (OS.rd ho22_12), BoxAt.cell hb0_0, BoxAt.cell hb0_1, BoxAt.cell hb0_2, BoxAt.cell hbx6, RdS.len hrw14_3 sl56, RdS.idx hrw14_3 sl56, RdS.cellB hrw14_3 (Ext.pres xhrw14_3), RdS.cells hrw14_3, RdS.len hrw14_6 sl56, RdS.idx hrw14_6 sl56, RdS.cellB hrw14_6 (Ext.pres xhrw14_6), RdS.cells hrw14_6, RdS.len hr28 sl22, RdS.idx hr28 sl22, R1.intB hr28 (Ext.pres xr29), RdS.cells hr28, wrap_id, bC0, Int.toNat_zero]
                        refine hK _ _ ?_
                        clear hK K
                        refine den_blk ?_
                        refine den_region TTok ?_
                        intro K hK
                        simp -implicitDefEqProofs (disch := first | decide | assumption | omega) only [go_sem, RdS.len hdX sl22, RdS.idx hdX sl22, R1.intB hdX (Ext.pres eB), RdS.cells hdX, RdS.len hmX sl23, RdS.idx hmX sl23, RdS.cellB hmX (Ext.pres eB), RdS.cells hmX, RdS.len hdY sl22, RdS.idx hdY sl22, R1.intB hdY (Ext.pres eB), RdS.cells hdY, RdS.len hmY sl23, RdS.idx hmY sl23, RdS.cellB hmY (Ext.pres eB), RdS.cells hmY, RdS.len (OS.rd hM) sl23, RdS.idx (OS.rd hM) sl23, RdS.cellN (OS.rd hM), RdS.cells (OS.rd hM), RdS.len (OS.rd ho12_4) sl22, RdS.idx (OS.rd ho12_4) sl22, R1.intN (OS.rd ho12_4), RdS.cells (OS.rd ho12_4), RdS.len (OS.rd ho22_12) sl56, RdS.idx (OS.rd ho22_12) sl56, RdS.cellN (OS.rd ho22_12), RdS.cells (OS.rd ho22_12), BoxAt.cell hb0_0, BoxAt.cell hb0_1, BoxAt.cell hb0_2, BoxAt.cell hbx6, RdS.len hrw14_3 sl56, RdS.idx hrw14_3 sl56, RdS.cellB hrw14_3 (Ext.pres xhrw14_3), RdS.cells hrw14_3, RdS.len hrw14_6 sl56, RdS.idx hrw14_6 sl56, RdS.cellB hrw14_6 (Ext.pres xhrw14_6), RdS.cells hrw14_6, RdS.len hr28 sl22, RdS.idx hr28 sl22, R1.intB hr28 (Ext.pres xr29), RdS.cells hr28, wrap_id, bC0, Int.toNat_zero]
                        refine hK _ _ ?_
                        clear hK K
                        refine den_stop ?_
                        rw [List.append_assoc, show List.replicate (dimP X ((n : Int) - 1)).toNat 0 ++ (mapP Y (n : Int)).getD j default = addBot X Y n j from rfl, range_step (fun q : Nat => addBot X Y n q)] at ho22_12
                        exact ⟨(j + 1, v22_12, fp22_12), by simp [HasL, puts_at], ⟨by first | omega | (dsimp only; omega), ho22_12, hfho22_12, sb30, cL25⟩, by first | omega | (dsimp only; omega)⟩
                      · try simp only [decide_eq_true_eq, decide_eq_false_iff_not, beq_iff_eq, beq_eq_false_iff_ne, bne_iff_ne, ne_eq, Bool.not_eq_true', Bool.not_eq_false', Bool.and_eq_true, Bool.or_eq_true, bne_eq_false_iff_eq, Bool.or_eq_false_iff, Bool.and_eq_false_iff] at c6
                        refine den_exit ?_
                        refine denX_code ?_
                        refine denX_stop ?_
                        refine denX_hit ?_
                        refine den_region TTok ?_
                        intro K hK
                        simp -implicitDefEqProofs (disch := first | decide | assumption | omega) only [go_sem, fa30_2, ld23, RdS.len hdX sl22, RdS.idx hdX sl22, R1.intB hdX (Ext.pres eB), RdS.cells hdX, RdS.len hmX sl23, RdS.idx hmX sl23, RdS.cellB hmX (Ext.pres eB), RdS.cells hmX, RdS.len hdY sl22, RdS.idx hdY sl22, R1.intB hdY (Ext.pres eB), RdS.cells hdY, RdS.len hmY sl23, RdS.idx hmY sl23, RdS.cellB hmY (Ext.pres eB), RdS.cells hmY, RdS.len (OS.rd hM) sl23, RdS.idx (OS.rd hM) sl23, RdS.cellN (OS.rd hM), RdS.cells (OS.rd hM), RdS.len (OS.rd ho12_4) sl22, RdS.idx (OS.rd ho12_4) sl22, R1.intN (OS.rd ho12_4), RdS.cells (OS.rd ho12_4), RdS.len (OS.rd hS) sl56, RdS.idx (OS.rd hS) sl56, RdS.cellN (OS.rd hS), RdS.cells (OS.rd hS), BoxAt.cell hb0_0, BoxAt.cell hb0_1, BoxAt.cell hb0_2, BoxAt.cell hbx6, RdS.len hrw14_3 sl56, RdS.idx hrw14_3 sl56, RdS.cellB hrw14_3 (Ext.pres xhrw14_3), RdS.cells hrw14_3, RdS.len hrw14_6 sl56, RdS.idx hrw14_6 sl56, RdS.cellB hrw14_6 (Ext.pres xhrw14_6), RdS.cells hrw14_6, wrap_id, bC0, Int.toNat_zero]
                        refine op_bs1 sz23 rfl (OS.one hS).2 ?_
                        try simp -implicitDefEqProofs (disch := first | decide | assumption | omega) only [go_sem, RdS.len hdX sl22, RdS.idx hdX sl22, R1.intB hdX (Ext.pres eB), RdS.cells hdX, RdS.len hmX sl23, RdS.idx hmX sl23, RdS.cellB hmX (Ext.pres eB), RdS.cells hmX, RdS.len hdY sl22, RdS.idx hdY sl22, R1.intB hdY (Ext.pres eB), RdS.cells hdY, RdS.len hmY sl23, RdS.idx hmY sl23, RdS.cellB hmY (Ext.pres eB), RdS.cells hmY, RdS.len (OS.rd hM) sl23, RdS.idx (OS.rd hM) sl23, RdS.cellN (OS.rd hM), RdS.cells (OS.rd hM), RdS.len (OS.rd ho12_4) sl22, RdS.idx (OS.rd ho12_4) sl22, R1.intN (OS.rd ho12_4), RdS.cells (OS.rd ho12_4), RdS.len (OS.rd hS) sl56, RdS.idx (OS.rd hS) sl56, RdS.cellN (OS.rd hS), RdS.cells (OS.rd hS), BoxAt.cell hb0_0, BoxAt.cell hb0_1, BoxAt.cell hb0_2, BoxAt.cell hbx6, RdS.len hrw14_3 sl56, RdS.idx hrw14_3 sl56, RdS.cellB hrw14_3 (Ext.pres xhrw14_3), RdS.cells hrw14_3, RdS.len hrw14_6 sl56, RdS.idx hrw14_6 sl56, RdS.cellB hrw14_6 (Ext.pres xhrw14_6), RdS.cells hrw14_6, wrap_id, bC0, Int.toNat_zero]
                        refine op_append1 sz23 hM hfhM.nodup hS hfhS.nodup (apart_lt hlhM hfhS (by omega)) (by first | omega | (simp; omega)) rfl rfl ?_
                        intro v23_4 h23_4 fp23_4 ho23_4 hn23_4 hs23_4 c23_4
                        have hsz23_4 := c23_4.size
                        have hfho23_4 : Fresh h5_2.size fp23_4 := Fresh.appd hfhM hfhS (by omega) (by omega) hn23_4 hs23_4
                        have sb31 : Sub ([h3.size] ++ ([h5_2.size] ++ ([h5_3.size]))) h5_6.size fp23_4 := Sub.grow sbhM (Sub.fresh hfhS (by omega)) (by omega) hs23_4
                        replace ho12_4 := OS.chg ho12_4 c23_4 (Apart.symm ap10)
                        replace hb0_0 := BoxAt.chgA hb0_0 c23_4 (apart_lt hlhb0_0 hfhM (by omega))
                        replace hb0_1 := BoxAt.chgA hb0_1 c23_4 (apart_lt hlhb0_1 hfhM (by omega))
                        replace hb0_2 := BoxAt.chgA hb0_2 c23_4 (apart_lt hlhb0_2 hfhM (by omega))
                        replace hbx6 := BoxAt.chgA hbx6 c23_4 (Apart.symm ap_hM_hbx6)
                        have := c23_4.size
                        replace eB := Ext.then eB c23_4 (ge_of hfhM (by omega))
                        replace xhrw14_3 := Ext.then xhrw14_3 c23_4 (ge_of hfhM (by omega))
                        replace xhrw14_6 := Ext.then xhrw14_6 c23_4 (ge_of hfhM (by omega))
                        replace cL6 := Chg.step cL6 c23_4 sbhM
                        have ap32 : Apart fp12_4 fp23_4 := Apart.grow hlho12_4 (by omega) (Apart.symm ap10) (apart_lt hlho12_4 hfhS (by omega)) hs23_4
                        have ap33 : Apart [h5_3.size] fp23_4 := Apart.grow hlhbx6 (by omega) (Apart.symm ap_hM_hbx6) (apart_lt hlhbx6 hfhS (by omega)) hs23_4
                        have hlho23_4 := OS.lt ho23_4
                        try simp -implicitDefEqProofs (disch := first | decide | assumption | omega) only [go_sem, fa30_2, RdS.len hdX sl22, RdS.idx hdX sl22, R1.intB hdX (Ext.pres eB), RdS.cells hdX, RdS.len hmX sl23, RdS.idx hmX sl23, RdS.cellB hmX (Ext.pres eB), RdS.cells hmX, RdS.len hdY sl22, RdS.idx hdY sl22, R1.intB hdY (Ext.pres eB), RdS.cells hdY, RdS.len hmY sl23, RdS.idx hmY sl23, RdS.cellB hmY (Ext.pres eB), RdS.cells hmY, RdS.len (OS.rd ho12_4) sl22, RdS.idx (OS.rd ho12_4) sl22, R1.intN (OS.rd ho12_4), RdS.cells (OS.rd ho12_4), RdS.len (OS.rd ho23_4) sl23, RdS.idx (OS.rd ho23_4) sl23, RdS.cellN (OS.rd ho23_4), RdS.cells (OS.rd ho23_4), BoxAt.cell hb0_0, BoxAt.cell hb0_1, BoxAt.cell hb0_2, BoxAt.cell hbx6, RdS.len hrw14_3 sl56, RdS.idx hrw14_3 sl56, RdS.cellB hrw14_3 (Ext.pres xhrw14_3), RdS.cells hrw14_3, RdS.len hrw14_6 sl56, RdS.idx hrw14_6 sl56, RdS.cellB hrw14_6 (Ext.pres xhrw14_6), RdS.cells hrw14_6, wrap_id, bC0, Int.toNat_zero]
                        refine op_storeB (cs' := #[.int .i64 (X.p), v12_4, v23_4]) st23 hbx6 rfl (OS.one ho23_4).2 rfl (by simp) (allOne_mem (l := [v23_4]) ⟨(OS.one ho23_4).1, trivial⟩) rfl ?_
                        intro h23_6 hbx6 c23_6
                        replace ho12_4 := OS.chg ho12_4 c23_6 (Apart.symm ap11)
                        replace ho23_4 := OS.chg ho23_4 c23_6 (Apart.symm ap33)
                        replace hb0_0 := BoxAt.chgA hb0_0 c23_6 (apart_lt hlhb0_0 hfhbx6 (by omega))
                        replace hb0_1 := BoxAt.chgA hb0_1 c23_6 (apart_lt hlhb0_1 hfhbx6 (by omega))
                        replace hb0_2 := BoxAt.chgA hb0_2 c23_6 (apart_lt hlhb0_2 hfhbx6 (by omega))
                        have := c23_6.size
                        replace eB := Ext.then eB c23_6 (ge_of hfhbx6 (by omega))
                        replace xhrw14_3 := Ext.then xhrw14_3 c23_6 (ge_of hfhbx6 (by omega))
                        replace xhrw14_6 := Ext.then xhrw14_6 c23_6 (ge_of hfhbx6 (by omega))
                        replace cL6 := Chg.step cL6 c23_6 (Sub.right (Sub.right Sub.refl))
                        try simp -implicitDefEqProofs (disch := first | decide | assumption | omega) only [go_sem, RdS.len hdX sl22, RdS.idx hdX sl22, R1.intB hdX (Ext.pres eB), RdS.cells hdX, RdS.len hmX sl23, RdS.idx hmX sl23, RdS.cellB hmX (Ext.pres eB), RdS.cells hmX, RdS.len hdY sl22, RdS.idx hdY sl22, R1.intB hdY (Ext.pres eB), RdS.cells hdY, RdS.len hmY sl23, RdS.idx hmY sl23, RdS.cellB hmY (Ext.pres eB), RdS.cells hmY, RdS.len (OS.rd ho12_4) sl22, RdS.idx (OS.rd ho12_4) sl22, R1.intN (OS.rd ho12_4), RdS.cells (OS.rd ho12_4), RdS.len (OS.rd ho23_4) sl23, RdS.idx (OS.rd ho23_4) sl23, RdS.cellN (OS.rd ho23_4), RdS.cells (OS.rd ho23_4), BoxAt.cell hb0_0, BoxAt.cell hb0_1, BoxAt.cell hb0_2, BoxAt.cell hbx6, RdS.len hrw14_3 sl56, RdS.idx hrw14_3 sl56, RdS.cellB hrw14_3 (Ext.pres xhrw14_3), RdS.cells hrw14_3, RdS.len hrw14_6 sl56, RdS.idx hrw14_6 sl56, RdS.cellB hrw14_6 (Ext.pres xhrw14_6), RdS.cells hrw14_6, wrap_id, bC0, Int.toNat_zero]
                        refine hK _ _ ?_
                        clear hK K
                        refine den_blk ?_
                        refine den_region TTok ?_
                        intro K hK
                        simp -implicitDefEqProofs (disch := first | decide | assumption | omega) only [go_sem, RdS.len hdX sl22, RdS.idx hdX sl22, R1.intB hdX (Ext.pres eB), RdS.cells hdX, RdS.len hmX sl23, RdS.idx hmX sl23, RdS.cellB hmX (Ext.pres eB), RdS.cells hmX, RdS.len hdY sl22, RdS.idx hdY sl22, R1.intB hdY (Ext.pres eB), RdS.cells hdY, RdS.len hmY sl23, RdS.idx hmY sl23, RdS.cellB hmY (Ext.pres eB), RdS.cells hmY, RdS.len (OS.rd ho12_4) sl22, RdS.idx (OS.rd ho12_4) sl22, R1.intN (OS.rd ho12_4), RdS.cells (OS.rd ho12_4), RdS.len (OS.rd ho23_4) sl23, RdS.idx (OS.rd ho23_4) sl23, RdS.cellN (OS.rd ho23_4), RdS.cells (OS.rd ho23_4), BoxAt.cell hb0_0, BoxAt.cell hb0_1, BoxAt.cell hb0_2, BoxAt.cell hbx6, RdS.len hrw14_3 sl56, RdS.idx hrw14_3 sl56, RdS.cellB hrw14_3 (Ext.pres xhrw14_3), RdS.cells hrw14_3, RdS.len hrw14_6 sl56, RdS.idx hrw14_6 sl56, RdS.cellB hrw14_6 (Ext.pres xhrw14_6), RdS.cells hrw14_6, wrap_id, bC0, Int.toNat_zero]
                        refine hK _ _ ?_
                        clear hK K
                        refine den_stop ?_
                        rw [range_step (fun q : Nat => dimP X (q : Int) + dimP Y (q : Int))] at ho12_4
                        first | rw [add_rows_end (X := X) (Y := Y) (n := n) (A := i) (B := j) (by omega) (by omega), add_step (by omega)] at ho23_4 | rw [show n - 1 = n + 1 - 1 by omega] at ho23_4
                        exact ⟨(n + 1, v12_4, fp12_4, v23_4, fp23_4), by simp [HasL, puts_at], ⟨by omega, (fun q hq => (Nat.lt_succ_iff_lt_or_eq.1 hq).elim (h8_ q) (fun e => by subst e; omega)), ho12_4, hfho12_4, sb9, ho23_4, hfho23_4, sb31, hbx6, ap32, (Apart.symm ap11), (Apart.symm ap33), cL6⟩, by first | omega | (dsimp only; omega)⟩
        · try simp only [decide_eq_true_eq, decide_eq_false_iff_not, beq_iff_eq, beq_eq_false_iff_ne, bne_iff_ne, ne_eq, Bool.not_eq_true', Bool.not_eq_false', Bool.and_eq_true, Bool.or_eq_true, bne_eq_false_iff_eq, Bool.or_eq_false_iff, Bool.and_eq_false_iff] at c2
          refine den_exit ?_
          refine denX_code ?_
          refine denX_stop ?_
          refine denX_hit ?_
          refine den_seq ?_
          refine den_region TTok ?_
          intro K hK
          simp -implicitDefEqProofs (disch := first | decide | assumption | omega) only [go_sem, ld30, RdS.len hdX sl22, RdS.idx hdX sl22, R1.intB hdX (Ext.pres eB), RdS.cells hdX, RdS.len hmX sl23, RdS.idx hmX sl23, RdS.cellB hmX (Ext.pres eB), RdS.cells hmX, RdS.len hdY sl22, RdS.idx hdY sl22, R1.intB hdY (Ext.pres eB), RdS.cells hdY, RdS.len hmY sl23, RdS.idx hmY sl23, RdS.cellB hmY (Ext.pres eB), RdS.cells hmY, RdS.len (OS.rd hD) sl22, RdS.idx (OS.rd hD) sl22, R1.intN (OS.rd hD), RdS.cells (OS.rd hD), RdS.len (OS.rd hM) sl23, RdS.idx (OS.rd hM) sl23, RdS.cellN (OS.rd hM), RdS.cells (OS.rd hM), BoxAt.cell hb0_2, BoxAt.cell hbx6, wrap_id, bC0, Int.toNat_zero]
          refine op_storeB (cs' := #[.int .i64 (X.p), vhD, vhM]) st30 hb0_2 rfl rfl rfl (by simp) (allOne_mem (l := [.int .i64 (X.p), vhD, vhM]) ⟨rfl, (OS.one hD).1, (OS.one hM).1, trivial⟩) rfl ?_
          intro h24_1 hb0_2 c24_1
          replace hD := OS.chg hD c24_1 (apart_gt hfhD hlhb0_2 (by omega))
          replace hM := OS.chg hM c24_1 (apart_gt hfhM hlhb0_2 (by omega))
          replace hbx6 := BoxAt.chgA hbx6 c24_1 (apart_gt hfhbx6 hlhb0_2 (by omega))
          have := c24_1.size
          replace eB := Ext.then eB c24_1 (ge_of hfhb0_2 (by omega))
          try simp -implicitDefEqProofs (disch := first | decide | assumption | omega) only [go_sem, RdS.len hdX sl22, RdS.idx hdX sl22, R1.intB hdX (Ext.pres eB), RdS.cells hdX, RdS.len hmX sl23, RdS.idx hmX sl23, RdS.cellB hmX (Ext.pres eB), RdS.cells hmX, RdS.len hdY sl22, RdS.idx hdY sl22, R1.intB hdY (Ext.pres eB), RdS.cells hdY, RdS.len hmY sl23, RdS.idx hmY sl23, RdS.cellB hmY (Ext.pres eB), RdS.cells hmY, RdS.len (OS.rd hD) sl22, RdS.idx (OS.rd hD) sl22, R1.intN (OS.rd hD), RdS.cells (OS.rd hD), RdS.len (OS.rd hM) sl23, RdS.idx (OS.rd hM) sl23, RdS.cellN (OS.rd hM), RdS.cells (OS.rd hM), BoxAt.cell hb0_2, BoxAt.cell hbx6, wrap_id, bC0, Int.toNat_zero]
          refine hK _ _ ?_
          clear hK K
          refine den_ret ?_
          simp -implicitDefEqProofs (disch := first | decide | assumption | omega) only [go_sem, RdS.len hdX sl22, RdS.idx hdX sl22, R1.intB hdX (Ext.pres eB), RdS.cells hdX, RdS.len hmX sl23, RdS.idx hmX sl23, RdS.cellB hmX (Ext.pres eB), RdS.cells hmX, RdS.len hdY sl22, RdS.idx hdY sl22, R1.intB hdY (Ext.pres eB), RdS.cells hdY, RdS.len hmY sl23, RdS.idx hmY sl23, RdS.cellB hmY (Ext.pres eB), RdS.cells hmY, RdS.len (OS.rd hD) sl22, RdS.idx (OS.rd hD) sl22, R1.intN (OS.rd hD), RdS.cells (OS.rd hD), RdS.len (OS.rd hM) sl23, RdS.idx (OS.rd hM) sl23, RdS.cellN (OS.rd hM), RdS.cells (OS.rd hM), BoxAt.cell hb0_2, BoxAt.cell hbx6, wrap_id, bC0, Int.toNat_zero, resP_ct, ld30]
          have hz : addP X Y = (⟨X.p, addD X Y, addM X Y⟩, 0) := by rw [addP, if_pos hXY, if_pos (by omega), if_pos (add_all hX hY (n := n) (by unfold addN; omega) h8_)]
          rw [hz]
          have hD2 := hD
          have hM2 := hM
          rw [show (List.range n).map (fun q : Nat => dimP X (q : Int) + dimP Y (q : Int)) = addD X Y by rw [addD, show addN X Y = n by unfold addN; omega]] at hD2
          rw [show (List.range (n - 1)).map (fun q : Nat => addRows X Y (q + 1)) = addM X Y by rw [addM, show addN X Y = n by unfold addN; omega]] at hM2
          exact ⟨_, _, _, _, rfl, hD2, hM2, Fresh.two hfhD hfhM ap_hD_hM (by omega) (by omega), eB⟩

end Go.Proofs.Ytffggocjkhcgeaa
