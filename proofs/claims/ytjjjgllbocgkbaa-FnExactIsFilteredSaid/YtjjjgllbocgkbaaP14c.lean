/-
  Walks: the reference's sum.
  Conditions: each theorem's own.
-/
import Derived.Test.YtjjjgllbocgkbaaP14b
import Derived.Test.YtjjjgllbocgkbaaG18
import Derived.Test.YtjjjgllbocgkbaaG21
set_option linter.unusedVariables false
set_option linter.unusedSimpArgs false
namespace Go.Proofs.Ytjjjgllbocgkbaa
open Go
theorem RdS.nilAny {α β : Type} {E : Heap → Value → α → Prop} {F : Heap → Value → β → Prop} {h h' : Heap} {v : Value} {xs : List α} (hv : RdS E h v xs) (hx : xs = []) : RdS F h' v [] := by
  obtain ⟨A, c, e, _, _, hm, _⟩ := hv
  subst hx
  exact ⟨A, c, e, .inr rfl, Nat.zero_le _, hm, fun j hj => by cases hj⟩
theorem mapP_len {X : Cx} (hC : IsC X) {n : Nat} (h : 1 ≤ n) : (mapP X (n : Int)).length = (dimP X (n : Int)).toNat ∧ ∀ r, r < (mapP X (n : Int)).length → ((mapP X (n : Int)).getD r default).length = (dimP X ((n : Int) - 1)).toNat := by
  obtain ⟨q, rfl⟩ : ∃ q, n = q + 1 := ⟨n - 1, by omega⟩
  rw [mapP_nat q (by have := hC.ml; omega), dimP_nat, show ((q + 1 : Nat) : Int) - 1 = (q : Nat) by omega, dimP_nat]
  exact lens_nat hC q

theorem rowV_ext {α : Type} {E : Heap → Value → α → Prop} {h h' : Heap} {v : Value} {xs : List α} (hv : RdS E h v xs) (e : Ext h h') {j : Nat} (hj : j < xs.length) : rowV h' v j = rowV h v j := by
  obtain ⟨A, c, rfl, _, _, _, hr⟩ := hv
  obtain ⟨u, h1, _⟩ := hr j hj
  unfold rowV
  rw [h1, Ext.pres e _ _ h1]

set_option maxRecDepth 100000 in
theorem sMapB_ok (vdX vmX : Value) (X : Cx) (n : Int) (h0 h : Heap) (hd0 : R1 h0 vdX X.dims) (hm0 : R3 h0 vmX X.maps) (e0 : Ext h0 h) (hC : IsC X) (hn : 1 ≤ n ∧ n ≤ 1000) : CallA Try.prog 80 #[.agg #[.int .i64 X.p, vdX, vmX], .int .i64 n] h fun v' h' => ∃ w, v' = w ∧ R2 h0 w (mapP X n) ∧ Ext h h' := by
  have hdX := RdS.pres hd0 (Ext.pres e0)
  have hmX := RdS.pres hm0 (Ext.pres e0)
  have hledX := RdS.le hdX
  have hlemX := RdS.le hmX
  have hml := hC.ml
  have hdb := dimP_bnd hC n
  refine callA_intro TTok (args := [_, _]) Try.func80 (by kernel_rfl) rfl 32 rfl (by simp) [.tmp 4] rfl ?_
  simp only [idxs, Nat.reduceAdd]
  refine den_seq ?_
  refine den_region TTok ?_
  intro K hK
  simp -implicitDefEqProofs (disch := first | decide | assumption | omega) only [go_sem, RdS.len hdX sl22, RdS.idx hdX sl22, R1.intB hdX (HPres.refl _), RdS.cells hdX, RdS.len hmX sl23, RdS.idx hmX sl23, RdS.cellB hmX (HPres.refl _), RdS.cells hmX, wrap_id]
  refine op_box (cs := #[.int .i64 (X.p), vdX, vmX]) rfl ?_
  intro h0_0 e0_0 hb0_0 z0_0
  have := Ext.size e0_0
  have eB := e0_0
  have hfhb0_0 : Fresh h.size [h.size] := Fresh.one _
  have hlhb0_0 := one_lt (show h.size < h0_0.size by omega)
  try simp -implicitDefEqProofs (disch := first | decide | assumption | omega) only [go_sem, RdS.len hdX sl22, RdS.idx hdX sl22, R1.intB hdX (Ext.pres eB), RdS.cells hdX, RdS.len hmX sl23, RdS.idx hmX sl23, RdS.cellB hmX (Ext.pres eB), RdS.cells hmX, BoxAt.cell hb0_0, wrap_id]
  refine hK _ _ ?_
  clear hK K
  refine den_seq ?_
  refine den_seq ?_
  refine den_region TTok ?_
  intro K hK
  simp -implicitDefEqProofs (disch := first | decide | assumption | omega) only [go_sem, fa31_1, ld22, RdS.len hdX sl22, RdS.idx hdX sl22, R1.intB hdX (Ext.pres eB), RdS.cells hdX, RdS.len hmX sl23, RdS.idx hmX sl23, RdS.cellB hmX (Ext.pres eB), RdS.cells hmX, BoxAt.cell hb0_0, wrap_id]
  try simp -implicitDefEqProofs (disch := first | decide | assumption | omega) only [go_sem, RdS.len hdX sl22, RdS.idx hdX sl22, R1.intB hdX (Ext.pres eB), RdS.cells hdX, RdS.len hmX sl23, RdS.idx hmX sl23, RdS.cellB hmX (Ext.pres eB), RdS.cells hmX, BoxAt.cell hb0_0, wrap_id]
  refine CallA.pure (sIn_ok _ _ _ _) ?_
  try simp -implicitDefEqProofs (disch := first | decide | assumption | omega) only [go_sem, RdS.len hdX sl22, RdS.idx hdX sl22, R1.intB hdX (Ext.pres eB), RdS.cells hdX, RdS.len hmX sl23, RdS.idx hmX sl23, RdS.cellB hmX (Ext.pres eB), RdS.cells hmX, BoxAt.cell hb0_0, wrap_id]
  refine hK _ _ ?_
  clear hK K
  refine den_cond rfl (fun c0 => ?_) (fun c0 => ?_)
  · try simp only [decide_eq_true_eq, decide_eq_false_iff_not, beq_iff_eq, beq_eq_false_iff_ne, bne_iff_ne, ne_eq, Bool.not_eq_true', Bool.not_eq_false', Bool.and_eq_true, Bool.or_eq_true, bne_eq_false_iff_eq, in3_iff, in3_f] at c0
    refine den_seq ?_
    refine den_region TTok ?_
    intro K hK
    have hr1 := RdS.rowN hmX ((n - (1 : Int))).toNat (by omega)
    have hlhr1 := RdS.le hr1
    simp -implicitDefEqProofs (disch := first | decide | assumption | omega) only [go_sem, fa31_2, ld23, ld26, RdS.len hdX sl22, RdS.idx hdX sl22, R1.intB hdX (Ext.pres eB), RdS.cells hdX, RdS.len hmX sl23, RdS.idx hmX sl23, RdS.cellB hmX (Ext.pres eB), RdS.cells hmX, RdS.len hr1 sl26, RdS.idx hr1 sl26, RdS.cellB hr1 (Ext.pres eB), RdS.cells hr1, BoxAt.cell hb0_0, wrap_id]
    refine hK _ _ ?_
    clear hK K
    refine den_ret ?_
    simp (disch := decide) only [resP_1, puts_same, puts_ne]
    exact ⟨_, rfl, by rw [mapP, if_pos (in3_iff.2 c0), rowV_ext hm0 e0 (by omega)]; exact RdS.rowN hm0 _ (by omega), eB⟩
  · try simp only [decide_eq_true_eq, decide_eq_false_iff_not, beq_iff_eq, beq_eq_false_iff_ne, bne_iff_ne, ne_eq, Bool.not_eq_true', Bool.not_eq_false', Bool.and_eq_true, Bool.or_eq_true, bne_eq_false_iff_eq, in3_iff, in3_f] at c0
    refine den_skip ?_
    refine den_seq ?_
    refine den_region TTok ?_
    intro K hK
    simp -implicitDefEqProofs (disch := first | decide | assumption | omega) only [go_sem, RdS.len hdX sl22, RdS.idx hdX sl22, R1.intB hdX (Ext.pres eB), RdS.cells hdX, RdS.len hmX sl23, RdS.idx hmX sl23, RdS.cellB hmX (Ext.pres eB), RdS.cells hmX, BoxAt.cell hb0_0, wrap_id]
    refine op_bs0 sz26 O1 ?_
    intro v3_0 h3_0 ho3_0 e3_0
    replace hb0_0 := BoxAt.ext hb0_0 e3_0
    have := Ext.size e3_0
    replace eB := Ext.trans eB e3_0
    have hfho3_0 : Fresh h0_0.size [h0_0.size] := Fresh.one _
    have hlho3_0 := OS.lt ho3_0
    try simp -implicitDefEqProofs (disch := first | decide | assumption | omega) only [go_sem, RdS.len hdX sl22, RdS.idx hdX sl22, R1.intB hdX (Ext.pres eB), RdS.cells hdX, RdS.len hmX sl23, RdS.idx hmX sl23, RdS.cellB hmX (Ext.pres eB), RdS.cells hmX, RdS.len (OS.rd ho3_0) sl26, RdS.idx (OS.rd ho3_0) sl26, RdS.cellN (OS.rd ho3_0), RdS.cells (OS.rd ho3_0), BoxAt.cell hb0_0, wrap_id]
    refine hK _ _ ?_
    clear hK K
    refine den_seq ?_
    refine den_seq ?_
    refine den_region TTok ?_
    intro K hK
    simp -implicitDefEqProofs (disch := first | decide | assumption | omega) only [go_sem, RdS.len hdX sl22, RdS.idx hdX sl22, R1.intB hdX (Ext.pres eB), RdS.cells hdX, RdS.len hmX sl23, RdS.idx hmX sl23, RdS.cellB hmX (Ext.pres eB), RdS.cells hmX, RdS.len (OS.rd ho3_0) sl26, RdS.idx (OS.rd ho3_0) sl26, RdS.cellN (OS.rd ho3_0), RdS.cells (OS.rd ho3_0), BoxAt.cell hb0_0, wrap_id]
    refine hK _ _ ?_
    clear hK K
    refine den_block ?_
    refine den_sel [5, 6, 1, 2] ?_
    intro env_2
    simp only [go_sem]
    refine den_loopS (σ := Nat × Value × List Nat) (fun st_ => [(5, st_.2.1), (6, .int .i64 (st_.1 : Int))]) (fun st_ H => ((st_.1 : Int) ≤ dimP X n) ∧ (O2 H st_.2.1 (List.replicate st_.1 []) st_.2.2) ∧ (Fresh (h0_0.size) st_.2.2) ∧ (Sub [h0_0.size] h3_0.size st_.2.2) ∧ (Chg [h0_0.size] h3_0 H)) (fun st_ => (dimP X n).toNat - st_.1) (0, v3_0, [h0_0.size]) ?_ ?_
    · exact ⟨by first | (simp; done) | (dsimp only; omega) | (simp; omega), by simpa using ho3_0, hfho3_0, Sub.refl, Chg.refl _ _⟩
    · rintro ⟨k, vhI, fphI⟩ h5 ee4 ⟨hi0, hI, hfhI, sbhI, cL3⟩
      dsimp only at hi0 hI hfhI sbhI cL3
      replace hb0_0 := BoxAt.chgA hb0_0 cL3 (apart_lt hlhb0_0 hfho3_0 (by omega))
      have := cL3.size
      replace eB := Ext.then eB cL3 (ge_of hfho3_0 (by omega))
      have hlhI := OS.lt hI
      simp only [List.cons_append, List.nil_append]
      have hlr : (List.replicate k ([] : List Int)).length = k := List.length_replicate
      refine den_seq ?_
      refine den_seq ?_
      refine den_region TTok ?_
      intro K hK
      simp -implicitDefEqProofs (disch := first | decide | assumption | omega) only [go_sem, ld31, RdS.len hdX sl22, RdS.idx hdX sl22, R1.intB hdX (Ext.pres eB), RdS.cells hdX, RdS.len hmX sl23, RdS.idx hmX sl23, RdS.cellB hmX (Ext.pres eB), RdS.cells hmX, RdS.len (OS.rd hI) sl26, RdS.idx (OS.rd hI) sl26, RdS.cellN (OS.rd hI), RdS.cells (OS.rd hI), BoxAt.cell hb0_0, wrap_id]
      try simp -implicitDefEqProofs (disch := first | decide | assumption | omega) only [go_sem, RdS.len hdX sl22, RdS.idx hdX sl22, R1.intB hdX (Ext.pres eB), RdS.cells hdX, RdS.len hmX sl23, RdS.idx hmX sl23, RdS.cellB hmX (Ext.pres eB), RdS.cells hmX, RdS.len (OS.rd hI) sl26, RdS.idx (OS.rd hI) sl26, RdS.cellN (OS.rd hI), RdS.cells (OS.rd hI), BoxAt.cell hb0_0, wrap_id]
      refine CallA.mono (sDim_ok _ X _ _ ⟨_, _, rfl, (RdS.pres hdX (Ext.pres eB)), (RdS.pres hmX (Ext.pres eB))⟩) ?_
      intro v_ h5_3
      rintro ⟨rfl, e5_3⟩
      replace hI := OS.ext hI e5_3
      replace hb0_0 := BoxAt.ext hb0_0 e5_3
      have := Ext.size e5_3
      replace eB := Ext.trans eB e5_3
      replace cL3 := Chg.stepE cL3 e5_3
      try simp -implicitDefEqProofs (disch := first | decide | assumption | omega) only [go_sem, RdS.len hdX sl22, RdS.idx hdX sl22, R1.intB hdX (Ext.pres eB), RdS.cells hdX, RdS.len hmX sl23, RdS.idx hmX sl23, RdS.cellB hmX (Ext.pres eB), RdS.cells hmX, RdS.len (OS.rd hI) sl26, RdS.idx (OS.rd hI) sl26, RdS.cellN (OS.rd hI), RdS.cells (OS.rd hI), BoxAt.cell hb0_0, wrap_id]
      refine hK _ _ ?_
      clear hK K
      refine den_cond rfl (fun c1 => ?_) (fun c1 => ?_)
      · try simp only [decide_eq_true_eq, decide_eq_false_iff_not, beq_iff_eq, beq_eq_false_iff_ne, bne_iff_ne, ne_eq, Bool.not_eq_true', Bool.not_eq_false', Bool.and_eq_true, Bool.or_eq_true, bne_eq_false_iff_eq, in3_iff, in3_f] at c1
        refine den_skip ?_
        refine den_seq ?_
        refine den_block ?_
        refine den_region TTok ?_
        intro K hK
        simp -implicitDefEqProofs (disch := first | decide | assumption | omega) only [go_sem, RdS.len hdX sl22, RdS.idx hdX sl22, R1.intB hdX (Ext.pres eB), RdS.cells hdX, RdS.len hmX sl23, RdS.idx hmX sl23, RdS.cellB hmX (Ext.pres eB), RdS.cells hmX, RdS.len (OS.rd hI) sl26, RdS.idx (OS.rd hI) sl26, RdS.cellN (OS.rd hI), RdS.cells (OS.rd hI), BoxAt.cell hb0_0, wrap_id]
        refine op_bs0 sz22 OI ?_
        intro v7_1 h7_1 ho7_1 e7_1
        replace hI := OS.ext hI e7_1
        replace hb0_0 := BoxAt.ext hb0_0 e7_1
        have := Ext.size e7_1
        replace eB := Ext.trans eB e7_1
        replace cL3 := Chg.stepE cL3 e7_1
        have hfho7_1 : Fresh h5_3.size [h5_3.size] := Fresh.one _
        have hlho7_1 := OS.lt ho7_1
        try simp -implicitDefEqProofs (disch := first | decide | assumption | omega) only [go_sem, RdS.len hdX sl22, RdS.idx hdX sl22, R1.intB hdX (Ext.pres eB), RdS.cells hdX, RdS.len hmX sl23, RdS.idx hmX sl23, RdS.cellB hmX (Ext.pres eB), RdS.cells hmX, RdS.len (OS.rd hI) sl26, RdS.idx (OS.rd hI) sl26, RdS.cellN (OS.rd hI), RdS.cells (OS.rd hI), RdS.len (OS.rd ho7_1) sl22, RdS.idx (OS.rd ho7_1) sl22, R1.intN (OS.rd ho7_1), RdS.cells (OS.rd ho7_1), BoxAt.cell hb0_0, wrap_id]
        refine op_bs1 sz26 rfl (OS.one ho7_1).2 ?_
        try simp -implicitDefEqProofs (disch := first | decide | assumption | omega) only [go_sem, RdS.len hdX sl22, RdS.idx hdX sl22, R1.intB hdX (Ext.pres eB), RdS.cells hdX, RdS.len hmX sl23, RdS.idx hmX sl23, RdS.cellB hmX (Ext.pres eB), RdS.cells hmX, RdS.len (OS.rd hI) sl26, RdS.idx (OS.rd hI) sl26, RdS.cellN (OS.rd hI), RdS.cells (OS.rd hI), RdS.len (OS.rd ho7_1) sl22, RdS.idx (OS.rd ho7_1) sl22, R1.intN (OS.rd ho7_1), RdS.cells (OS.rd ho7_1), BoxAt.cell hb0_0, wrap_id]
        refine op_append1 sz26 hI hfhI.nodup ho7_1 hfho7_1.nodup (apart_lt hlhI hfho7_1 (by omega)) (by first | omega | (simp; omega)) rfl rfl ?_
        intro v7_3 h7_3 fp7_3 ho7_3 hn7_3 hs7_3 c7_3
        have hsz7_3 := c7_3.size
        have hfho7_3 : Fresh h0_0.size fp7_3 := Fresh.appd hfhI hfho7_1 (by omega) (by omega) hn7_3 hs7_3
        have sb6 : Sub [h0_0.size] h3_0.size fp7_3 := Sub.grow sbhI (Sub.fresh hfho7_1 (by omega)) (by omega) hs7_3
        replace hb0_0 := BoxAt.chgA hb0_0 c7_3 (apart_lt hlhb0_0 hfhI (by omega))
        have := c7_3.size
        replace eB := Ext.then eB c7_3 (ge_of hfhI (by omega))
        replace cL3 := Chg.step cL3 c7_3 sbhI
        have hlho7_3 := OS.lt ho7_3
        try simp -implicitDefEqProofs (disch := first | decide | assumption | omega) only [go_sem, RdS.len hdX sl22, RdS.idx hdX sl22, R1.intB hdX (Ext.pres eB), RdS.cells hdX, RdS.len hmX sl23, RdS.idx hmX sl23, RdS.cellB hmX (Ext.pres eB), RdS.cells hmX, RdS.len (OS.rd ho7_3) sl26, RdS.idx (OS.rd ho7_3) sl26, RdS.cellN (OS.rd ho7_3), RdS.cells (OS.rd ho7_3), BoxAt.cell hb0_0, wrap_id]
        refine hK _ _ ?_
        clear hK K
        refine den_blk ?_
        refine den_region TTok ?_
        intro K hK
        simp -implicitDefEqProofs (disch := first | decide | assumption | omega) only [go_sem, RdS.len hdX sl22, RdS.idx hdX sl22, R1.intB hdX (Ext.pres eB), RdS.cells hdX, RdS.len hmX sl23, RdS.idx hmX sl23, RdS.cellB hmX (Ext.pres eB), RdS.cells hmX, RdS.len (OS.rd ho7_3) sl26, RdS.idx (OS.rd ho7_3) sl26, RdS.cellN (OS.rd ho7_3), RdS.cells (OS.rd ho7_3), BoxAt.cell hb0_0, wrap_id]
        refine hK _ _ ?_
        clear hK K
        refine den_stop ?_
        rw [← List.replicate_succ'] at ho7_3
        exact ⟨(k + 1, v7_3, fp7_3), by simp [HasL, puts_at], ⟨by first | omega | (dsimp only; omega), ho7_3, hfho7_3, sb6, cL3⟩, by first | omega | (dsimp only; omega)⟩
      · try simp only [decide_eq_true_eq, decide_eq_false_iff_not, beq_iff_eq, beq_eq_false_iff_ne, bne_iff_ne, ne_eq, Bool.not_eq_true', Bool.not_eq_false', Bool.and_eq_true, Bool.or_eq_true, bne_eq_false_iff_eq, in3_iff, in3_f] at c1
        refine den_exit ?_
        refine denX_code ?_
        refine denX_stop ?_
        refine denX_hit ?_
        refine den_seq ?_
        refine den_region TTok ?_
        intro K hK
        simp -implicitDefEqProofs (disch := first | decide | assumption | omega) only [go_sem, RdS.len hdX sl22, RdS.idx hdX sl22, R1.intB hdX (Ext.pres eB), RdS.cells hdX, RdS.len hmX sl23, RdS.idx hmX sl23, RdS.cellB hmX (Ext.pres eB), RdS.cells hmX, RdS.len (OS.rd hI) sl26, RdS.idx (OS.rd hI) sl26, RdS.cellN (OS.rd hI), RdS.cells (OS.rd hI), wrap_id]
        refine hK _ _ ?_
        clear hK K
        refine den_ret ?_
        simp (disch := decide) only [resP_1, puts_same, puts_ne]
        have e : dimP X n = 0 := by rw [dimP, if_neg (by rw [in3_iff]; omega)]
        exact ⟨_, rfl, by rw [mapP, if_neg (by rw [in3_iff]; omega), e]; exact RdS.nilAny (OS.rd hI) (by rw [show k = 0 by omega]; rfl), eB⟩

end Go.Proofs.Ytjjjgllbocgkbaa
