/-
  Walks: ShiftComplex.
  Conditions: each theorem's own.
-/
import Derived.Test.YtffggocjkhcgeaaP16a
import Derived.Test.YtffggocjkhcgeaaG18
import Derived.Test.YtffggocjkhcgeaaG21
set_option linter.unusedVariables false
set_option linter.unusedSimpArgs false
namespace Go.Proofs.Ytffggocjkhcgeaa
open Go
set_option maxRecDepth 100000 in
theorem shift1_ok (p : Int) (vD vw : Value) (D : List Int) (M : M3) (f : List Nat) (k n r c x : Int) (b6 b3 : Nat) (h : Heap) (rD : R1 h vD D) (hom : O3 h vw M f) (hb6 : BoxAt h b6 #[.int .i64 p, vD, vw] 30) (hb3 : BoxAt h b3 #[.int .i64 k] 2) (hn : f.Nodup) (hp : 0 < p ∧ p ≤ 7) (hk : 0 ≤ k ∧ k ≤ 5) (hn0 : 1 ≤ n ∧ n ≤ 6) (h1 : 1 ≤ n + k ∧ n + k ≤ M.length) (h2 : 0 ≤ r ∧ r < (M.getD (n + k - 1).toNat default).length) (h3 : 0 ≤ c ∧ c < ((M.getD (n + k - 1).toNat default).getD r.toNat default).length) (hc : 0 ≤ get3 M (n + k - 1).toNat r.toNat c.toNat ∧ get3 M (n + k - 1).toNat r.toNat c.toNat < p) (hx : 0 ≤ x ∧ x < p) : CallA Try.prog 92 #[.int .i64 n, .int .i64 r, .int .i64 c, .int .i64 x, .pointer (some ⟨b6, 0, none⟩), .pointer (some ⟨b3, 0, none⟩)] h fun v' h' => v' = .tuple #[] ∧ O3 h' vw (upd3 p M (n + k - 1).toNat r.toNat c.toNat (shS k * x)) f ∧ Chg f h h' := by
  have hlM := OS.lt hom
  have hsg := shS_in hk.1
  have hsx : -7 ≤ shS k * x ∧ shS k * x ≤ 7 := by rcases hsg with e | e <;> rw [e] <;> omega
  have htm := tmod_in (p := 2) (x := k) (by decide)
  unfold shS at hsx hsg
  refine callA_intro TTok (args := [_, _, _, _, _, _]) Try.func92 (by kernel_rfl) rfl 21 rfl (by simp) [] rfl ?_
  simp only [idxs, Nat.reduceAdd]
  refine den_draw TTok mixed [10] [(0, true), (1, true), (2, true), (3, true), (4, true), (5, true), (6, true), (8, true), (7, false), (9, true), (10, false)] (by kernel_rfl) ?_
  intro K hK
  simp -implicitDefEqProofs (disch := first | decide | assumption | omega) only [go_sem, ld2, ld30, RdS.len (OS.rd hom) sl23, RdS.idx (OS.rd hom) sl23, RdS.cellN (OS.rd hom), RdS.cells (OS.rd hom), BoxAt.cell hb6, BoxAt.cell hb3, wrap_id]
  try simp -implicitDefEqProofs (disch := first | decide | assumption | omega) only [go_sem, RdS.len (OS.rd hom) sl23, RdS.idx (OS.rd hom) sl23, RdS.cellN (OS.rd hom), RdS.cells (OS.rd hom), BoxAt.cell hb6, BoxAt.cell hb3, wrap_id]
  refine CallA.mono (iSign_ok  k _  (by omega)) ?_
  intro v_ h0_7
  rintro ⟨rfl, e0_7⟩
  replace hom := OS.ext hom e0_7
  replace hb6 := BoxAt.ext hb6 e0_7
  replace hb3 := BoxAt.ext hb3 e0_7
  replace rD := RdS.pres rD (Ext.pres e0_7)
  have := Ext.size e0_7
  have eB := e0_7
  try simp (disch := decide) only [outv_some, outv_none, put_puts]
  refine plK_pres (Ext.pres e0_7) ?_
  try simp -implicitDefEqProofs (disch := first | decide | assumption | omega) only [go_sem, RdS.len (OS.rd hom) sl23, RdS.idx (OS.rd hom) sl23, RdS.cellN (OS.rd hom), RdS.cells (OS.rd hom), BoxAt.cell hb6, BoxAt.cell hb3, wrap_id]
  try simp -implicitDefEqProofs (disch := first | decide | assumption | omega) only [go_sem, RdS.len (OS.rd hom) sl23, RdS.idx (OS.rd hom) sl23, RdS.cellN (OS.rd hom), RdS.cells (OS.rd hom), BoxAt.cell hb6, BoxAt.cell hb3, wrap_id]
  refine CallA.mono (addAt_ok p _ _ D M f _ r c (shS k * x) _ rD hom hn hp (by omega) h2 h3 hc (by unfold shS; omega)) ?_
  intro v_ h0_10
  rintro ⟨rfl, hom2, c9⟩
  try simp (disch := decide) only [outv_some, outv_none, put_puts]
  refine plK_last (by decide) ?_
  try simp -implicitDefEqProofs (disch := first | decide | assumption | omega) only [go_sem, RdS.len (OS.rd hom) sl23, RdS.idx (OS.rd hom) sl23, RdS.cellN (OS.rd hom), RdS.cells (OS.rd hom), BoxAt.cell hb6, BoxAt.cell hb3, wrap_id]
  refine hK _ _ ?_
  clear hK K
  refine den_nil ?_
  simp (disch := decide) only [resP_0, puts_same, puts_ne]
  exact ⟨by first | rfl | trivial, hom2, (Ext.chg e0_7 _).trans c9⟩

set_option maxRecDepth 100000 in
theorem sSh_ok (vX : Value) (X : Cx) (k : Int) (h : Heap) (rX : RC h vX X)  : CallA Try.prog 35 #[vX, .int .i64 k] h fun v' h' => ∃ wd0 wm0 fd0 fm0, v' = .tuple #[.agg #[.int .i64 ((shP X k).1).p, wd0, wm0], .int .i64 ((shP X k).2)] ∧ O1 h' wd0 ((shP X k).1).dims fd0 ∧ O3 h' wm0 ((shP X k).1).maps fm0 ∧ Fresh h.size (fd0 ++ fm0) ∧ Ext h h' := by
  obtain ⟨vdX, vmX, rfl, hdX, hmX⟩ := rX
  have hledX := RdS.le hdX
  have hlemX := RdS.le hmX
  refine callA_intro TTok (args := [_, _]) Try.func35 (by kernel_rfl) rfl 27 rfl (by simp) [.cell 4 30, .tmp 5] rfl ?_
  simp only [idxs, Nat.reduceAdd]
  refine den_seq ?_
  refine den_region TTok ?_
  intro K hK
  simp -implicitDefEqProofs (disch := first | decide | assumption | omega) only [go_sem, RdS.len hdX sl22, RdS.idx hdX sl22, R1.intB hdX (HPres.refl _), RdS.cells hdX, RdS.len hmX sl23, RdS.idx hmX sl23, RdS.cellB hmX (HPres.refl _), RdS.cells hmX, wrap_id, bC0]
  refine op_box (cs := #[.int .i64 (X.p), vdX, vmX]) rfl ?_
  intro h0_0 e0_0 hb0_0 z0_0
  have := Ext.size e0_0
  have eB := e0_0
  have hfhb0_0 : Fresh h.size [h.size] := Fresh.one _
  have hlhb0_0 := one_lt (show h.size < h0_0.size by omega)
  try simp -implicitDefEqProofs (disch := first | decide | assumption | omega) only [go_sem, RdS.len hdX sl22, RdS.idx hdX sl22, R1.intB hdX (Ext.pres eB), RdS.cells hdX, RdS.len hmX sl23, RdS.idx hmX sl23, RdS.cellB hmX (Ext.pres eB), RdS.cells hmX, BoxAt.cell hb0_0, wrap_id, bC0]
  refine op_alloc (cs := #[.int .i64 0, .slice none 0 0, .slice none 0 0]) (by kernel_rfl) ?_
  intro h0_1 e0_1 hb0_1 z0_1
  replace hb0_0 := BoxAt.ext hb0_0 e0_1
  have := Ext.size e0_1
  replace eB := Ext.trans eB e0_1
  have hfhb0_1 : Fresh h0_0.size [h0_0.size] := Fresh.one _
  have hlhb0_1 := one_lt (show h0_0.size < h0_1.size by omega)
  try simp -implicitDefEqProofs (disch := first | decide | assumption | omega) only [go_sem, RdS.len hdX sl22, RdS.idx hdX sl22, R1.intB hdX (Ext.pres eB), RdS.cells hdX, RdS.len hmX sl23, RdS.idx hmX sl23, RdS.cellB hmX (Ext.pres eB), RdS.cells hmX, BoxAt.cell hb0_0, BoxAt.cell hb0_1, wrap_id, bC0]
  refine hK _ _ ?_
  clear hK K
  refine den_seq ?_
  refine den_block ?_
  refine den_seq ?_
  refine den_region TTok ?_
  intro K hK
  simp -implicitDefEqProofs (disch := first | decide | assumption | omega) only [go_sem, ld30, RdS.len hdX sl22, RdS.idx hdX sl22, R1.intB hdX (Ext.pres eB), RdS.cells hdX, RdS.len hmX sl23, RdS.idx hmX sl23, RdS.cellB hmX (Ext.pres eB), RdS.cells hmX, BoxAt.cell hb0_0, BoxAt.cell hb0_1, wrap_id, bC0]
  try simp -implicitDefEqProofs (disch := first | decide | assumption | omega) only [go_sem, RdS.len hdX sl22, RdS.idx hdX sl22, R1.intB hdX (Ext.pres eB), RdS.cells hdX, RdS.len hmX sl23, RdS.idx hmX sl23, RdS.cellB hmX (Ext.pres eB), RdS.cells hmX, BoxAt.cell hb0_0, BoxAt.cell hb0_1, wrap_id, bC0]
  refine CallA.mono (sIs_ok _ X _ ⟨_, _, rfl, (RdS.pres hdX (Ext.pres eB)), (RdS.pres hmX (Ext.pres eB))⟩) ?_
  intro v_ h1_1
  rintro ⟨rfl, e1_1⟩
  replace hb0_0 := BoxAt.ext hb0_0 e1_1
  replace hb0_1 := BoxAt.ext hb0_1 e1_1
  have := Ext.size e1_1
  replace eB := Ext.trans eB e1_1
  try simp -implicitDefEqProofs (disch := first | decide | assumption | omega) only [go_sem, RdS.len hdX sl22, RdS.idx hdX sl22, R1.intB hdX (Ext.pres eB), RdS.cells hdX, RdS.len hmX sl23, RdS.idx hmX sl23, RdS.cellB hmX (Ext.pres eB), RdS.cells hmX, BoxAt.cell hb0_0, BoxAt.cell hb0_1, wrap_id, bC0]
  refine hK _ _ ?_
  clear hK K
  refine den_cond rfl (fun c0 => ?_) (fun c0 => ?_)
  · try simp only [decide_eq_true_eq, decide_eq_false_iff_not, beq_iff_eq, beq_eq_false_iff_ne, bne_iff_ne, ne_eq, Bool.not_eq_true', Bool.not_eq_false', Bool.and_eq_true, Bool.or_eq_true, bne_eq_false_iff_eq, Bool.not_eq_true] at c0
    refine den_seq ?_
    refine den_region TTok ?_
    intro K hK
    simp -implicitDefEqProofs (disch := first | decide | assumption | omega) only [go_sem, RdS.len hdX sl22, RdS.idx hdX sl22, R1.intB hdX (Ext.pres eB), RdS.cells hdX, RdS.len hmX sl23, RdS.idx hmX sl23, RdS.cellB hmX (Ext.pres eB), RdS.cells hmX, BoxAt.cell hb0_1, wrap_id, bC0]
    refine op_storeB (cs' := #[.int .i64 ((0 : Int)), .slice none 0 0, .slice none 0 0]) st30 hb0_1 rfl rfl rfl (by simp) (allOne_mem (l := [.int .i64 ((0 : Int)), .slice none 0 0, .slice none 0 0]) ⟨rfl, rfl, rfl, trivial⟩) rfl ?_
    intro h2_1 hb0_1 c2_1
    have := c2_1.size
    replace eB := Ext.then eB c2_1 (ge_of hfhb0_1 (by omega))
    try simp -implicitDefEqProofs (disch := first | decide | assumption | omega) only [go_sem, RdS.len hdX sl22, RdS.idx hdX sl22, R1.intB hdX (Ext.pres eB), RdS.cells hdX, RdS.len hmX sl23, RdS.idx hmX sl23, RdS.cellB hmX (Ext.pres eB), RdS.cells hmX, BoxAt.cell hb0_1, wrap_id, bC0]
    refine hK _ _ ?_
    clear hK K
    refine den_ret ?_
    simp -implicitDefEqProofs (disch := first | decide | assumption | omega) only [go_sem, RdS.len hdX sl22, RdS.idx hdX sl22, R1.intB hdX (Ext.pres eB), RdS.cells hdX, RdS.len hmX sl23, RdS.idx hmX sl23, RdS.cellB hmX (Ext.pres eB), RdS.cells hmX, BoxAt.cell hb0_1, wrap_id, bC0, resP_ct, ld30]
    have hz : shP X k = (⟨0, [], []⟩, 1) := by rw [shP, if_neg (by rw [c0]; decide)]
    rw [hz]
    exact ⟨.slice none 0 0, .slice none 0 0, [], [], rfl, OS.nil, OS.nil, Fresh.nil _, eB⟩
  · try simp only [decide_eq_true_eq, decide_eq_false_iff_not, beq_iff_eq, beq_eq_false_iff_ne, bne_iff_ne, ne_eq, Bool.not_eq_true', Bool.not_eq_false', Bool.and_eq_true, Bool.or_eq_true, bne_eq_false_iff_eq, Bool.not_eq_true] at c0
    have hC := isC_t.1 c0
    have hml := hC.ml
    have hlX := hC.len
    have hpb := isP_bnd hC.p
    refine den_seq ?_
    refine den_region TTok ?_
    intro K hK
    simp -implicitDefEqProofs (disch := first | decide | assumption | omega) only [go_sem, RdS.len hdX sl22, RdS.idx hdX sl22, R1.intB hdX (Ext.pres eB), RdS.cells hdX, RdS.len hmX sl23, RdS.idx hmX sl23, RdS.cellB hmX (Ext.pres eB), RdS.cells hmX, BoxAt.cell hb0_0, BoxAt.cell hb0_1, wrap_id, bC0]
    try simp -implicitDefEqProofs (disch := first | decide | assumption | omega) only [go_sem, RdS.len hdX sl22, RdS.idx hdX sl22, R1.intB hdX (Ext.pres eB), RdS.cells hdX, RdS.len hmX sl23, RdS.idx hmX sl23, RdS.cellB hmX (Ext.pres eB), RdS.cells hmX, BoxAt.cell hb0_0, BoxAt.cell hb0_1, wrap_id, bC0]
    refine CallA.pure (sIn_ok _ _ _ _) ?_
    try simp -implicitDefEqProofs (disch := first | decide | assumption | omega) only [go_sem, RdS.len hdX sl22, RdS.idx hdX sl22, R1.intB hdX (Ext.pres eB), RdS.cells hdX, RdS.len hmX sl23, RdS.idx hmX sl23, RdS.cellB hmX (Ext.pres eB), RdS.cells hmX, BoxAt.cell hb0_0, BoxAt.cell hb0_1, wrap_id, bC0]
    refine hK _ _ ?_
    clear hK K
    refine den_cond rfl (fun c1 => ?_) (fun c1 => ?_)
    · try simp only [decide_eq_true_eq, decide_eq_false_iff_not, beq_iff_eq, beq_eq_false_iff_ne, bne_iff_ne, ne_eq, Bool.not_eq_true', Bool.not_eq_false', Bool.and_eq_true, Bool.or_eq_true, bne_eq_false_iff_eq, Bool.not_eq_true] at c1
      refine den_seq ?_
      refine den_region TTok ?_
      intro K hK
      simp -implicitDefEqProofs (disch := first | decide | assumption | omega) only [go_sem, RdS.len hdX sl22, RdS.idx hdX sl22, R1.intB hdX (Ext.pres eB), RdS.cells hdX, RdS.len hmX sl23, RdS.idx hmX sl23, RdS.cellB hmX (Ext.pres eB), RdS.cells hmX, BoxAt.cell hb0_1, wrap_id, bC0]
      refine op_storeB (cs' := #[.int .i64 ((0 : Int)), .slice none 0 0, .slice none 0 0]) st30 hb0_1 rfl rfl rfl (by simp) (allOne_mem (l := [.int .i64 ((0 : Int)), .slice none 0 0, .slice none 0 0]) ⟨rfl, rfl, rfl, trivial⟩) rfl ?_
      intro h4_1 hb0_1 c4_1
      have := c4_1.size
      replace eB := Ext.then eB c4_1 (ge_of hfhb0_1 (by omega))
      try simp -implicitDefEqProofs (disch := first | decide | assumption | omega) only [go_sem, RdS.len hdX sl22, RdS.idx hdX sl22, R1.intB hdX (Ext.pres eB), RdS.cells hdX, RdS.len hmX sl23, RdS.idx hmX sl23, RdS.cellB hmX (Ext.pres eB), RdS.cells hmX, BoxAt.cell hb0_1, wrap_id, bC0]
      refine hK _ _ ?_
      clear hK K
      refine den_ret ?_
      simp -implicitDefEqProofs (disch := first | decide | assumption | omega) only [go_sem, RdS.len hdX sl22, RdS.idx hdX sl22, R1.intB hdX (Ext.pres eB), RdS.cells hdX, RdS.len hmX sl23, RdS.idx hmX sl23, RdS.cellB hmX (Ext.pres eB), RdS.cells hmX, BoxAt.cell hb0_1, wrap_id, bC0, resP_ct, ld30]
      have hz : shP X k = (⟨0, [], []⟩, 2) := by rw [shP, if_pos c0, if_neg (by rw [c1]; decide)]
      rw [hz]
      exact ⟨.slice none 0 0, .slice none 0 0, [], [], rfl, OS.nil, OS.nil, Fresh.nil _, eB⟩
    · try simp only [decide_eq_true_eq, decide_eq_false_iff_not, beq_iff_eq, beq_eq_false_iff_ne, bne_iff_ne, ne_eq, Bool.not_eq_true', Bool.not_eq_false', Bool.and_eq_true, Bool.or_eq_true, bne_eq_false_iff_eq, Bool.not_eq_true] at c1
      have hk5 := in3_iff.1 c1
      refine den_seq ?_
      refine den_region TTok ?_
      intro K hK
      simp -implicitDefEqProofs (disch := first | decide | assumption | omega) only [go_sem, fa30_1, ld22, RdS.len hdX sl22, RdS.idx hdX sl22, R1.intB hdX (Ext.pres eB), RdS.cells hdX, RdS.len hmX sl23, RdS.idx hmX sl23, RdS.cellB hmX (Ext.pres eB), RdS.cells hmX, BoxAt.cell hb0_0, BoxAt.cell hb0_1, wrap_id, bC0]
      refine hK _ _ ?_
      clear hK K
      refine den_cond rfl (fun c2 => ?_) (fun c2 => ?_)
      · try simp only [decide_eq_true_eq, decide_eq_false_iff_not, beq_iff_eq, beq_eq_false_iff_ne, bne_iff_ne, ne_eq, Bool.not_eq_true', Bool.not_eq_false', Bool.and_eq_true, Bool.or_eq_true, bne_eq_false_iff_eq, Bool.not_eq_true] at c2
        refine den_seq ?_
        refine den_region TTok ?_
        intro K hK
        simp -implicitDefEqProofs (disch := first | decide | assumption | omega) only [go_sem, RdS.len hdX sl22, RdS.idx hdX sl22, R1.intB hdX (Ext.pres eB), RdS.cells hdX, RdS.len hmX sl23, RdS.idx hmX sl23, RdS.cellB hmX (Ext.pres eB), RdS.cells hmX, BoxAt.cell hb0_1, wrap_id, bC0]
        refine op_storeB (cs' := #[.int .i64 ((0 : Int)), .slice none 0 0, .slice none 0 0]) st30 hb0_1 rfl rfl rfl (by simp) (allOne_mem (l := [.int .i64 ((0 : Int)), .slice none 0 0, .slice none 0 0]) ⟨rfl, rfl, rfl, trivial⟩) rfl ?_
        intro h6_1 hb0_1 c6_1
        have := c6_1.size
        replace eB := Ext.then eB c6_1 (ge_of hfhb0_1 (by omega))
        try simp -implicitDefEqProofs (disch := first | decide | assumption | omega) only [go_sem, RdS.len hdX sl22, RdS.idx hdX sl22, R1.intB hdX (Ext.pres eB), RdS.cells hdX, RdS.len hmX sl23, RdS.idx hmX sl23, RdS.cellB hmX (Ext.pres eB), RdS.cells hmX, BoxAt.cell hb0_1, wrap_id, bC0]
        refine hK _ _ ?_
        clear hK K
        refine den_ret ?_
        simp -implicitDefEqProofs (disch := first | decide | assumption | omega) only [go_sem, RdS.len hdX sl22, RdS.idx hdX sl22, R1.intB hdX (Ext.pres eB), RdS.cells hdX, RdS.len hmX sl23, RdS.idx hmX sl23, RdS.cellB hmX (Ext.pres eB), RdS.cells hmX, BoxAt.cell hb0_1, wrap_id, bC0, resP_ct, ld30]
        have hz : shP X k = (⟨0, [], []⟩, 3) := by rw [shP, if_pos c0, if_pos c1, if_neg (by omega)]
        rw [hz]
        exact ⟨.slice none 0 0, .slice none 0 0, [], [], rfl, OS.nil, OS.nil, Fresh.nil _, eB⟩
      · try simp only [decide_eq_true_eq, decide_eq_false_iff_not, beq_iff_eq, beq_eq_false_iff_ne, bne_iff_ne, ne_eq, Bool.not_eq_true', Bool.not_eq_false', Bool.and_eq_true, Bool.or_eq_true, bne_eq_false_iff_eq, Bool.not_eq_true] at c2
        refine den_skip ?_
        refine den_blk ?_
        refine den_seq ?_
        refine den_region TTok ?_
        intro K hK
        simp -implicitDefEqProofs (disch := first | decide | assumption | omega) only [go_sem, ld30, RdS.len hdX sl22, RdS.idx hdX sl22, R1.intB hdX (Ext.pres eB), RdS.cells hdX, RdS.len hmX sl23, RdS.idx hmX sl23, RdS.cellB hmX (Ext.pres eB), RdS.cells hmX, BoxAt.cell hb0_0, BoxAt.cell hb0_1, wrap_id, bC0]
        try simp -implicitDefEqProofs (disch := first | decide | assumption | omega) only [go_sem, RdS.len hdX sl22, RdS.idx hdX sl22, R1.intB hdX (Ext.pres eB), RdS.cells hdX, RdS.len hmX sl23, RdS.idx hmX sl23, RdS.cellB hmX (Ext.pres eB), RdS.cells hmX, BoxAt.cell hb0_0, BoxAt.cell hb0_1, wrap_id, bC0]
        refine CallA.mono (sShift_ok _ X k _ ⟨_, _, rfl, (RdS.pres hdX (Ext.pres eB)), (RdS.pres hmX (Ext.pres eB))⟩ hC (by omega)) ?_
        intro v_ h7_2
        rintro ⟨vd7_2_0, vm7_2_0, fd7_2_0, fm7_2_0, rfl, hod7_2_0, hom7_2_0, hf7_2_0, e7_2⟩
        replace hb0_0 := BoxAt.ext hb0_0 e7_2
        replace hb0_1 := BoxAt.ext hb0_1 e7_2
        have := Ext.size e7_2
        replace eB := Ext.trans eB e7_2
        have hfd7_2_0 := hf7_2_0.left
        have hfm7_2_0 := hf7_2_0.right
        have hlhod7_2_0 := OS.lt hod7_2_0
        have hlhom7_2_0 := OS.lt hom7_2_0
        have ap1 : Apart fd7_2_0 fm7_2_0 := apart_nodup hf7_2_0
        try simp -implicitDefEqProofs (disch := first | decide | assumption | omega) only [go_sem, RdS.len hdX sl22, RdS.idx hdX sl22, R1.intB hdX (Ext.pres eB), RdS.cells hdX, RdS.len hmX sl23, RdS.idx hmX sl23, RdS.cellB hmX (Ext.pres eB), RdS.cells hmX, RdS.len (OS.rd hod7_2_0) sl22, RdS.idx (OS.rd hod7_2_0) sl22, R1.intN (OS.rd hod7_2_0), RdS.cells (OS.rd hod7_2_0), RdS.len (OS.rd hom7_2_0) sl23, RdS.idx (OS.rd hom7_2_0) sl23, RdS.cellN (OS.rd hom7_2_0), RdS.cells (OS.rd hom7_2_0), BoxAt.cell hb0_0, BoxAt.cell hb0_1, wrap_id, bC0]
        refine op_storeB (cs' := #[.int .i64 (((⟨X.p, shD X k, shM X k⟩ : Cx).p)), vd7_2_0, vm7_2_0]) st30 hb0_1 rfl rfl rfl (by simp) (allOne_mem (l := [.int .i64 (((⟨X.p, shD X k, shM X k⟩ : Cx).p)), vd7_2_0, vm7_2_0]) ⟨rfl, (OS.one hod7_2_0).1, (OS.one hom7_2_0).1, trivial⟩) rfl ?_
        intro h7_3 hb0_1 c7_3
        replace hod7_2_0 := OS.chg hod7_2_0 c7_3 (apart_gt hfd7_2_0 hlhb0_1 (by omega))
        replace hom7_2_0 := OS.chg hom7_2_0 c7_3 (apart_gt hfm7_2_0 hlhb0_1 (by omega))
        replace hb0_0 := BoxAt.chgA hb0_0 c7_3 (apart_lt hlhb0_0 hfhb0_1 (by omega))
        have := c7_3.size
        replace eB := Ext.then eB c7_3 (ge_of hfhb0_1 (by omega))
        try simp -implicitDefEqProofs (disch := first | decide | assumption | omega) only [go_sem, RdS.len hdX sl22, RdS.idx hdX sl22, R1.intB hdX (Ext.pres eB), RdS.cells hdX, RdS.len hmX sl23, RdS.idx hmX sl23, RdS.cellB hmX (Ext.pres eB), RdS.cells hmX, RdS.len (OS.rd hod7_2_0) sl22, RdS.idx (OS.rd hod7_2_0) sl22, R1.intN (OS.rd hod7_2_0), RdS.cells (OS.rd hod7_2_0), RdS.len (OS.rd hom7_2_0) sl23, RdS.idx (OS.rd hom7_2_0) sl23, RdS.cellN (OS.rd hom7_2_0), RdS.cells (OS.rd hom7_2_0), BoxAt.cell hb0_0, BoxAt.cell hb0_1, wrap_id, bC0]
        refine hK _ _ ?_
        clear hK K
        refine den_ret ?_
        simp -implicitDefEqProofs (disch := first | decide | assumption | omega) only [go_sem, RdS.len hdX sl22, RdS.idx hdX sl22, R1.intB hdX (Ext.pres eB), RdS.cells hdX, RdS.len hmX sl23, RdS.idx hmX sl23, RdS.cellB hmX (Ext.pres eB), RdS.cells hmX, RdS.len (OS.rd hod7_2_0) sl22, RdS.idx (OS.rd hod7_2_0) sl22, R1.intN (OS.rd hod7_2_0), RdS.cells (OS.rd hod7_2_0), RdS.len (OS.rd hom7_2_0) sl23, RdS.idx (OS.rd hom7_2_0) sl23, RdS.cellN (OS.rd hom7_2_0), RdS.cells (OS.rd hom7_2_0), BoxAt.cell hb0_0, BoxAt.cell hb0_1, wrap_id, bC0, resP_ct, ld30]
        have hz : shP X k = (⟨X.p, shD X k, shM X k⟩, 0) := by rw [shP, if_pos c0, if_pos c1, if_pos (by omega)]
        rw [hz]
        exact ⟨_, _, _, _, rfl, hod7_2_0, hom7_2_0, hf7_2_0.mono (by omega), eB⟩

set_option maxRecDepth 100000 in
theorem iSh_ok (vX : Value) (X : Cx) (k : Int) (h : Heap) (rX : RC h vX X)  : CallA Try.prog 36 #[vX, .int .i64 k] h fun v' h' => ∃ wd0 wm0 fd0 fm0, v' = .tuple #[.agg #[.int .i64 ((shP X k).1).p, wd0, wm0], .int .i64 ((shP X k).2)] ∧ O1 h' wd0 ((shP X k).1).dims fd0 ∧ O3 h' wm0 ((shP X k).1).maps fm0 ∧ Fresh h.size (fd0 ++ fm0) ∧ Ext h h' := by
  obtain ⟨vdX, vmX, rfl, hdX, hmX⟩ := rX
  have hledX := RdS.le hdX
  have hlemX := RdS.le hmX
  refine callA_intro TTok (args := [_, _]) Try.func36 (by kernel_rfl) rfl 36 rfl (by simp) [.cell 4 30, .tmp 5] rfl ?_
  simp only [idxs, Nat.reduceAdd]
  refine den_seq ?_
  refine den_region TTok ?_
  intro K hK
  simp -implicitDefEqProofs (disch := first | decide | assumption | omega) only [go_sem, RdS.len hdX sl22, RdS.idx hdX sl22, R1.intB hdX (HPres.refl _), RdS.cells hdX, RdS.len hmX sl23, RdS.idx hmX sl23, RdS.cellB hmX (HPres.refl _), RdS.cells hmX, wrap_id, bC0]
  refine op_box (cs := #[.int .i64 (X.p), vdX, vmX]) rfl ?_
  intro h0_0 e0_0 hb0_0 z0_0
  have := Ext.size e0_0
  have eB := e0_0
  have hfhb0_0 : Fresh h.size [h.size] := Fresh.one _
  have hlhb0_0 := one_lt (show h.size < h0_0.size by omega)
  try simp -implicitDefEqProofs (disch := first | decide | assumption | omega) only [go_sem, RdS.len hdX sl22, RdS.idx hdX sl22, R1.intB hdX (Ext.pres eB), RdS.cells hdX, RdS.len hmX sl23, RdS.idx hmX sl23, RdS.cellB hmX (Ext.pres eB), RdS.cells hmX, BoxAt.cell hb0_0, wrap_id, bC0]
  refine op_box (cs := #[.int .i64 (k)]) rfl ?_
  intro h0_1 e0_1 hb0_1 z0_1
  replace hb0_0 := BoxAt.ext hb0_0 e0_1
  have := Ext.size e0_1
  replace eB := Ext.trans eB e0_1
  have hfhb0_1 : Fresh h0_0.size [h0_0.size] := Fresh.one _
  have hlhb0_1 := one_lt (show h0_0.size < h0_1.size by omega)
  try simp -implicitDefEqProofs (disch := first | decide | assumption | omega) only [go_sem, RdS.len hdX sl22, RdS.idx hdX sl22, R1.intB hdX (Ext.pres eB), RdS.cells hdX, RdS.len hmX sl23, RdS.idx hmX sl23, RdS.cellB hmX (Ext.pres eB), RdS.cells hmX, BoxAt.cell hb0_0, BoxAt.cell hb0_1, wrap_id, bC0]
  refine op_alloc (cs := #[.int .i64 0, .slice none 0 0, .slice none 0 0]) (by kernel_rfl) ?_
  intro h0_2 e0_2 hb0_2 z0_2
  replace hb0_0 := BoxAt.ext hb0_0 e0_2
  replace hb0_1 := BoxAt.ext hb0_1 e0_2
  have := Ext.size e0_2
  replace eB := Ext.trans eB e0_2
  have hfhb0_2 : Fresh h0_1.size [h0_1.size] := Fresh.one _
  have hlhb0_2 := one_lt (show h0_1.size < h0_2.size by omega)
  try simp -implicitDefEqProofs (disch := first | decide | assumption | omega) only [go_sem, RdS.len hdX sl22, RdS.idx hdX sl22, R1.intB hdX (Ext.pres eB), RdS.cells hdX, RdS.len hmX sl23, RdS.idx hmX sl23, RdS.cellB hmX (Ext.pres eB), RdS.cells hmX, BoxAt.cell hb0_0, BoxAt.cell hb0_1, BoxAt.cell hb0_2, wrap_id, bC0]
  refine hK _ _ ?_
  clear hK K
  refine den_seq ?_
  refine den_block ?_
  refine den_seq ?_
  refine den_region TTok ?_
  intro K hK
  simp -implicitDefEqProofs (disch := first | decide | assumption | omega) only [go_sem, ld30, RdS.len hdX sl22, RdS.idx hdX sl22, R1.intB hdX (Ext.pres eB), RdS.cells hdX, RdS.len hmX sl23, RdS.idx hmX sl23, RdS.cellB hmX (Ext.pres eB), RdS.cells hmX, BoxAt.cell hb0_0, BoxAt.cell hb0_1, BoxAt.cell hb0_2, wrap_id, bC0]
  try simp -implicitDefEqProofs (disch := first | decide | assumption | omega) only [go_sem, RdS.len hdX sl22, RdS.idx hdX sl22, R1.intB hdX (Ext.pres eB), RdS.cells hdX, RdS.len hmX sl23, RdS.idx hmX sl23, RdS.cellB hmX (Ext.pres eB), RdS.cells hmX, BoxAt.cell hb0_0, BoxAt.cell hb0_1, BoxAt.cell hb0_2, wrap_id, bC0]
  refine CallA.mono (iIs_ok _ X _ ⟨_, _, rfl, (RdS.pres hdX (Ext.pres eB)), (RdS.pres hmX (Ext.pres eB))⟩) ?_
  intro v_ h1_1
  rintro ⟨rfl, e1_1⟩
  replace hb0_0 := BoxAt.ext hb0_0 e1_1
  replace hb0_1 := BoxAt.ext hb0_1 e1_1
  replace hb0_2 := BoxAt.ext hb0_2 e1_1
  have := Ext.size e1_1
  replace eB := Ext.trans eB e1_1
  try simp -implicitDefEqProofs (disch := first | decide | assumption | omega) only [go_sem, RdS.len hdX sl22, RdS.idx hdX sl22, R1.intB hdX (Ext.pres eB), RdS.cells hdX, RdS.len hmX sl23, RdS.idx hmX sl23, RdS.cellB hmX (Ext.pres eB), RdS.cells hmX, BoxAt.cell hb0_0, BoxAt.cell hb0_1, BoxAt.cell hb0_2, wrap_id, bC0]
  refine hK _ _ ?_
  clear hK K
  refine den_cond rfl (fun c0 => ?_) (fun c0 => ?_)
  · try simp only [decide_eq_true_eq, decide_eq_false_iff_not, beq_iff_eq, beq_eq_false_iff_ne, bne_iff_ne, ne_eq, Bool.not_eq_true', Bool.not_eq_false', Bool.and_eq_true, Bool.or_eq_true, bne_eq_false_iff_eq, Bool.not_eq_true] at c0
    refine den_seq ?_
    refine den_region TTok ?_
    intro K hK
    simp -implicitDefEqProofs (disch := first | decide | assumption | omega) only [go_sem, RdS.len hdX sl22, RdS.idx hdX sl22, R1.intB hdX (Ext.pres eB), RdS.cells hdX, RdS.len hmX sl23, RdS.idx hmX sl23, RdS.cellB hmX (Ext.pres eB), RdS.cells hmX, BoxAt.cell hb0_2, wrap_id, bC0]
    refine op_storeB (cs' := #[.int .i64 ((0 : Int)), .slice none 0 0, .slice none 0 0]) st30 hb0_2 rfl rfl rfl (by simp) (allOne_mem (l := [.int .i64 ((0 : Int)), .slice none 0 0, .slice none 0 0]) ⟨rfl, rfl, rfl, trivial⟩) rfl ?_
    intro h2_1 hb0_2 c2_1
    have := c2_1.size
    replace eB := Ext.then eB c2_1 (ge_of hfhb0_2 (by omega))
    try simp -implicitDefEqProofs (disch := first | decide | assumption | omega) only [go_sem, RdS.len hdX sl22, RdS.idx hdX sl22, R1.intB hdX (Ext.pres eB), RdS.cells hdX, RdS.len hmX sl23, RdS.idx hmX sl23, RdS.cellB hmX (Ext.pres eB), RdS.cells hmX, BoxAt.cell hb0_2, wrap_id, bC0]
    refine hK _ _ ?_
    clear hK K
    refine den_ret ?_
    simp -implicitDefEqProofs (disch := first | decide | assumption | omega) only [go_sem, RdS.len hdX sl22, RdS.idx hdX sl22, R1.intB hdX (Ext.pres eB), RdS.cells hdX, RdS.len hmX sl23, RdS.idx hmX sl23, RdS.cellB hmX (Ext.pres eB), RdS.cells hmX, BoxAt.cell hb0_2, wrap_id, bC0, resP_ct, ld30]
    have hz : shP X k = (⟨0, [], []⟩, 1) := by rw [shP, if_neg (by rw [c0]; decide)]
    rw [hz]
    exact ⟨.slice none 0 0, .slice none 0 0, [], [], rfl, OS.nil, OS.nil, Fresh.nil _, eB⟩
  · try simp only [decide_eq_true_eq, decide_eq_false_iff_not, beq_iff_eq, beq_eq_false_iff_ne, bne_iff_ne, ne_eq, Bool.not_eq_true', Bool.not_eq_false', Bool.and_eq_true, Bool.or_eq_true, bne_eq_false_iff_eq, Bool.not_eq_true] at c0
    have hC := isC_t.1 c0
    have hml := hC.ml
    have hlX := hC.len
    have hpb := isP_bnd hC.p
    refine den_seq ?_
    refine den_region TTok ?_
    intro K hK
    simp -implicitDefEqProofs (disch := first | decide | assumption | omega) only [go_sem, ld2, RdS.len hdX sl22, RdS.idx hdX sl22, R1.intB hdX (Ext.pres eB), RdS.cells hdX, RdS.len hmX sl23, RdS.idx hmX sl23, RdS.cellB hmX (Ext.pres eB), RdS.cells hmX, BoxAt.cell hb0_0, BoxAt.cell hb0_1, BoxAt.cell hb0_2, wrap_id, bC0]
    try simp -implicitDefEqProofs (disch := first | decide | assumption | omega) only [go_sem, RdS.len hdX sl22, RdS.idx hdX sl22, R1.intB hdX (Ext.pres eB), RdS.cells hdX, RdS.len hmX sl23, RdS.idx hmX sl23, RdS.cellB hmX (Ext.pres eB), RdS.cells hmX, BoxAt.cell hb0_0, BoxAt.cell hb0_1, BoxAt.cell hb0_2, wrap_id, bC0]
    refine CallA.pure (iIn_ok _ _ _ _) ?_
    try simp -implicitDefEqProofs (disch := first | decide | assumption | omega) only [go_sem, RdS.len hdX sl22, RdS.idx hdX sl22, R1.intB hdX (Ext.pres eB), RdS.cells hdX, RdS.len hmX sl23, RdS.idx hmX sl23, RdS.cellB hmX (Ext.pres eB), RdS.cells hmX, BoxAt.cell hb0_0, BoxAt.cell hb0_1, BoxAt.cell hb0_2, wrap_id, bC0]
    refine hK _ _ ?_
    clear hK K
    refine den_cond rfl (fun c1 => ?_) (fun c1 => ?_)
    · try simp only [decide_eq_true_eq, decide_eq_false_iff_not, beq_iff_eq, beq_eq_false_iff_ne, bne_iff_ne, ne_eq, Bool.not_eq_true', Bool.not_eq_false', Bool.and_eq_true, Bool.or_eq_true, bne_eq_false_iff_eq, Bool.not_eq_true] at c1
      refine den_seq ?_
      refine den_region TTok ?_
      intro K hK
      simp -implicitDefEqProofs (disch := first | decide | assumption | omega) only [go_sem, RdS.len hdX sl22, RdS.idx hdX sl22, R1.intB hdX (Ext.pres eB), RdS.cells hdX, RdS.len hmX sl23, RdS.idx hmX sl23, RdS.cellB hmX (Ext.pres eB), RdS.cells hmX, BoxAt.cell hb0_2, wrap_id, bC0]
      refine op_storeB (cs' := #[.int .i64 ((0 : Int)), .slice none 0 0, .slice none 0 0]) st30 hb0_2 rfl rfl rfl (by simp) (allOne_mem (l := [.int .i64 ((0 : Int)), .slice none 0 0, .slice none 0 0]) ⟨rfl, rfl, rfl, trivial⟩) rfl ?_
      intro h4_1 hb0_2 c4_1
      have := c4_1.size
      replace eB := Ext.then eB c4_1 (ge_of hfhb0_2 (by omega))
      try simp -implicitDefEqProofs (disch := first | decide | assumption | omega) only [go_sem, RdS.len hdX sl22, RdS.idx hdX sl22, R1.intB hdX (Ext.pres eB), RdS.cells hdX, RdS.len hmX sl23, RdS.idx hmX sl23, RdS.cellB hmX (Ext.pres eB), RdS.cells hmX, BoxAt.cell hb0_2, wrap_id, bC0]
      refine hK _ _ ?_
      clear hK K
      refine den_ret ?_
      simp -implicitDefEqProofs (disch := first | decide | assumption | omega) only [go_sem, RdS.len hdX sl22, RdS.idx hdX sl22, R1.intB hdX (Ext.pres eB), RdS.cells hdX, RdS.len hmX sl23, RdS.idx hmX sl23, RdS.cellB hmX (Ext.pres eB), RdS.cells hmX, BoxAt.cell hb0_2, wrap_id, bC0, resP_ct, ld30]
      have hz : shP X k = (⟨0, [], []⟩, 2) := by rw [shP, if_pos c0, if_neg (by rw [c1]; decide)]
      rw [hz]
      exact ⟨.slice none 0 0, .slice none 0 0, [], [], rfl, OS.nil, OS.nil, Fresh.nil _, eB⟩
    · try simp only [decide_eq_true_eq, decide_eq_false_iff_not, beq_iff_eq, beq_eq_false_iff_ne, bne_iff_ne, ne_eq, Bool.not_eq_true', Bool.not_eq_false', Bool.and_eq_true, Bool.or_eq_true, bne_eq_false_iff_eq, Bool.not_eq_true] at c1
      have hk5 := in3_iff.1 c1
      refine den_seq ?_
      refine den_draw TTok mixed [] [(0, true), (2, true), (1, false), (3, true), (4, true), (5, true)] (by kernel_rfl) ?_
      intro K hK
      simp -implicitDefEqProofs (disch := first | decide | assumption | omega) only [go_sem, ld2, ld30, RdS.len hdX sl22, RdS.idx hdX sl22, R1.intB hdX (Ext.pres eB), RdS.cells hdX, RdS.len hmX sl23, RdS.idx hmX sl23, RdS.cellB hmX (Ext.pres eB), RdS.cells hmX, BoxAt.cell hb0_0, BoxAt.cell hb0_1, BoxAt.cell hb0_2, wrap_id, bC0]
      try simp -implicitDefEqProofs (disch := first | decide | assumption | omega) only [go_sem, RdS.len hdX sl22, RdS.idx hdX sl22, R1.intB hdX (Ext.pres eB), RdS.cells hdX, RdS.len hmX sl23, RdS.idx hmX sl23, RdS.cellB hmX (Ext.pres eB), RdS.cells hmX, BoxAt.cell hb0_0, BoxAt.cell hb0_1, BoxAt.cell hb0_2, wrap_id, bC0]
      refine CallA.mono (top_ok _ X _ ⟨_, _, rfl, (RdS.pres hdX (Ext.pres eB)), (RdS.pres hmX (Ext.pres eB))⟩) ?_
      intro v_ h5_1
      rintro ⟨rfl, e5_1⟩
      replace hb0_0 := BoxAt.ext hb0_0 e5_1
      replace hb0_1 := BoxAt.ext hb0_1 e5_1
      replace hb0_2 := BoxAt.ext hb0_2 e5_1
      have := Ext.size e5_1
      replace eB := Ext.trans eB e5_1
      try simp (disch := decide) only [outv_some, outv_none, put_puts]
      refine plK_pres (Ext.pres e5_1) ?_
      try simp -implicitDefEqProofs (disch := first | decide | assumption | omega) only [go_sem, RdS.len hdX sl22, RdS.idx hdX sl22, R1.intB hdX (Ext.pres eB), RdS.cells hdX, RdS.len hmX sl23, RdS.idx hmX sl23, RdS.cellB hmX (Ext.pres eB), RdS.cells hmX, BoxAt.cell hb0_0, BoxAt.cell hb0_1, BoxAt.cell hb0_2, wrap_id, bC0]
      refine hK _ _ ?_
      clear hK K
      refine den_cond rfl (fun c2 => ?_) (fun c2 => ?_)
      · try simp only [decide_eq_true_eq, decide_eq_false_iff_not, beq_iff_eq, beq_eq_false_iff_ne, bne_iff_ne, ne_eq, Bool.not_eq_true', Bool.not_eq_false', Bool.and_eq_true, Bool.or_eq_true, bne_eq_false_iff_eq, Bool.not_eq_true] at c2
        refine den_seq ?_
        refine den_region TTok ?_
        intro K hK
        simp -implicitDefEqProofs (disch := first | decide | assumption | omega) only [go_sem, RdS.len hdX sl22, RdS.idx hdX sl22, R1.intB hdX (Ext.pres eB), RdS.cells hdX, RdS.len hmX sl23, RdS.idx hmX sl23, RdS.cellB hmX (Ext.pres eB), RdS.cells hmX, BoxAt.cell hb0_2, wrap_id, bC0]
        refine op_storeB (cs' := #[.int .i64 ((0 : Int)), .slice none 0 0, .slice none 0 0]) st30 hb0_2 rfl rfl rfl (by simp) (allOne_mem (l := [.int .i64 ((0 : Int)), .slice none 0 0, .slice none 0 0]) ⟨rfl, rfl, rfl, trivial⟩) rfl ?_
        intro h6_1 hb0_2 c6_1
        have := c6_1.size
        replace eB := Ext.then eB c6_1 (ge_of hfhb0_2 (by omega))
        try simp -implicitDefEqProofs (disch := first | decide | assumption | omega) only [go_sem, RdS.len hdX sl22, RdS.idx hdX sl22, R1.intB hdX (Ext.pres eB), RdS.cells hdX, RdS.len hmX sl23, RdS.idx hmX sl23, RdS.cellB hmX (Ext.pres eB), RdS.cells hmX, BoxAt.cell hb0_2, wrap_id, bC0]
        refine hK _ _ ?_
        clear hK K
        refine den_ret ?_
        simp -implicitDefEqProofs (disch := first | decide | assumption | omega) only [go_sem, RdS.len hdX sl22, RdS.idx hdX sl22, R1.intB hdX (Ext.pres eB), RdS.cells hdX, RdS.len hmX sl23, RdS.idx hmX sl23, RdS.cellB hmX (Ext.pres eB), RdS.cells hmX, BoxAt.cell hb0_2, wrap_id, bC0, resP_ct, ld30]
        have hz : shP X k = (⟨0, [], []⟩, 3) := by rw [shP, if_pos c0, if_pos c1, if_neg (by omega)]
        rw [hz]
        exact ⟨.slice none 0 0, .slice none 0 0, [], [], rfl, OS.nil, OS.nil, Fresh.nil _, eB⟩
      · try simp only [decide_eq_true_eq, decide_eq_false_iff_not, beq_iff_eq, beq_eq_false_iff_ne, bne_iff_ne, ne_eq, Bool.not_eq_true', Bool.not_eq_false', Bool.and_eq_true, Bool.or_eq_true, bne_eq_false_iff_eq, Bool.not_eq_true] at c2
        refine den_skip ?_
        refine den_blk ?_
        refine den_seq ?_
        have hbD : (List.replicate k.toNat 0 ++ X.dims).all (fun x => in3 x 0 8) = true := by rw [List.all_append, hC.dm, Bool.and_true, List.all_eq_true]; intro x hx; rw [List.eq_of_mem_replicate hx]; rfl
        have hbL : (List.replicate k.toNat 0 ++ X.dims).length ≤ 16 := by rw [List.length_append, List.length_replicate]; omega
        refine den_drawT TTok mixed [9] [(0, true), (1, true), (2, true), (4, true), (5, true)] (.fork 3 [] (.fork 6 [] (.fork 7 [(8, false), (9, false)] .fin 8 [(7, false), (9, false)] .fin) 8 [(6, false), (7, false), (9, false)] .fin) 8 [(3, false), (6, false), (7, false), (9, false)] .fin) (by kernel_rfl) ?_
        intro K hK
        simp -implicitDefEqProofs (disch := first | decide | assumption | omega) only [go_sem, fa30_0, fa30_1, ld22, ld2, RdS.len hdX sl22, RdS.idx hdX sl22, R1.intB hdX (Ext.pres eB), RdS.cells hdX, RdS.len hmX sl23, RdS.idx hmX sl23, RdS.cellB hmX (Ext.pres eB), RdS.cells hmX, BoxAt.cell hb0_0, BoxAt.cell hb0_1, BoxAt.cell hb0_2, wrap_id, bC0]
        refine And.intro ?_ ?_
        · simp -implicitDefEqProofs (disch := first | decide | assumption | omega) only [go_sem, RdS.len hdX sl22, RdS.idx hdX sl22, R1.intB hdX (Ext.pres eB), RdS.cells hdX, RdS.len hmX sl23, RdS.idx hmX sl23, RdS.cellB hmX (Ext.pres eB), RdS.cells hmX, BoxAt.cell hb0_0, BoxAt.cell hb0_1, BoxAt.cell hb0_2, wrap_id, bC0]
          refine op_makeC sz22 rfl rfl (by omega) (by omega) OI 0 (fun _ => ⟨rfl, rfl⟩) ?_
          intro v7_3 h7_3 ho7_3 e7_3 hcpv7_3
          replace hb0_0 := BoxAt.ext hb0_0 e7_3
          replace hb0_1 := BoxAt.ext hb0_1 e7_3
          replace hb0_2 := BoxAt.ext hb0_2 e7_3
          have := Ext.size e7_3
          replace eB := Ext.trans eB e7_3
          have hfho7_3 : Fresh h5_1.size [h5_1.size] := Fresh.one _
          have hlenho7_3 : (List.replicate (k).toNat (0 : Int)).length = (k).toNat := List.length_replicate
          have hlho7_3 := OS.lt ho7_3
          try simp (disch := decide) only [outv_some, outv_none, put_puts]
          refine plK_pres (Ext.pres e7_3) ?_
          try simp -implicitDefEqProofs (disch := first | decide | assumption | omega) only [go_sem, RdS.len hdX sl22, RdS.idx hdX sl22, R1.intB hdX (Ext.pres eB), RdS.cells hdX, RdS.len hmX sl23, RdS.idx hmX sl23, RdS.cellB hmX (Ext.pres eB), RdS.cells hmX, RdS.len (OS.rd ho7_3) sl22, RdS.idx (OS.rd ho7_3) sl22, R1.intN (OS.rd ho7_3), RdS.cells (OS.rd ho7_3), BoxAt.cell hb0_0, BoxAt.cell hb0_1, BoxAt.cell hb0_2, wrap_id, bC0]
          refine And.intro ?_ ?_
          · simp -implicitDefEqProofs (disch := first | decide | assumption | omega) only [go_sem, RdS.len hdX sl22, RdS.idx hdX sl22, R1.intB hdX (Ext.pres eB), RdS.cells hdX, RdS.len hmX sl23, RdS.idx hmX sl23, RdS.cellB hmX (Ext.pres eB), RdS.cells hmX, RdS.len (OS.rd ho7_3) sl22, RdS.idx (OS.rd ho7_3) sl22, R1.intN (OS.rd ho7_3), RdS.cells (OS.rd ho7_3), BoxAt.cell hb0_0, BoxAt.cell hb0_1, BoxAt.cell hb0_2, wrap_id, bC0]
            refine op_appendRF hcpv7_3 ho7_3 (RdS.pres hdX (Ext.pres eB)) (by first | omega | (simp; omega)) rfl ?_
            intro v7_6 h7_6 fp7_6 ho7_6 hn7_6 hs7_6 c7_6
            have hsz7_6 := c7_6.size
            have hfho7_6 : Fresh h5_1.size fp7_6 := Fresh.appd hfho7_3 (Fresh.nil h7_3.size) (by omega) (by omega) hn7_6 hs7_6
            replace hb0_0 := BoxAt.chgA hb0_0 c7_6 (apart_lt hlhb0_0 hfho7_3 (by omega))
            replace hb0_1 := BoxAt.chgA hb0_1 c7_6 (apart_lt hlhb0_1 hfho7_3 (by omega))
            replace hb0_2 := BoxAt.chgA hb0_2 c7_6 (apart_lt hlhb0_2 hfho7_3 (by omega))
            have := c7_6.size
            replace eB := Ext.then eB c7_6 (ge_of hfho7_3 (by omega))
            have hlho7_6 := OS.lt ho7_6
            intro e7_6
            try simp (disch := decide) only [outv_some, outv_none, put_puts]
            refine plK_pres (Ext.pres e7_6) ?_
            try simp -implicitDefEqProofs (disch := first | decide | assumption | omega) only [go_sem, RdS.len hdX sl22, RdS.idx hdX sl22, R1.intB hdX (Ext.pres eB), RdS.cells hdX, RdS.len hmX sl23, RdS.idx hmX sl23, RdS.cellB hmX (Ext.pres eB), RdS.cells hmX, RdS.len (OS.rd ho7_6) sl22, RdS.idx (OS.rd ho7_6) sl22, R1.intN (OS.rd ho7_6), RdS.cells (OS.rd ho7_6), BoxAt.cell hb0_0, BoxAt.cell hb0_1, BoxAt.cell hb0_2, wrap_id, bC0]
            refine And.intro ?_ ?_
            · simp -implicitDefEqProofs (disch := first | decide | assumption | omega) only [go_sem, RdS.len hdX sl22, RdS.idx hdX sl22, R1.intB hdX (Ext.pres eB), RdS.cells hdX, RdS.len hmX sl23, RdS.idx hmX sl23, RdS.cellB hmX (Ext.pres eB), RdS.cells hmX, RdS.len (OS.rd ho7_6) sl22, RdS.idx (OS.rd ho7_6) sl22, R1.intN (OS.rd ho7_6), RdS.cells (OS.rd ho7_6), BoxAt.cell hb0_0, BoxAt.cell hb0_1, BoxAt.cell hb0_2, wrap_id, bC0]
              try simp -implicitDefEqProofs (disch := first | decide | assumption | omega) only [go_sem, RdS.len hdX sl22, RdS.idx hdX sl22, R1.intB hdX (Ext.pres eB), RdS.cells hdX, RdS.len hmX sl23, RdS.idx hmX sl23, RdS.cellB hmX (Ext.pres eB), RdS.cells hmX, RdS.len (OS.rd ho7_6) sl22, RdS.idx (OS.rd ho7_6) sl22, R1.intN (OS.rd ho7_6), RdS.cells (OS.rd ho7_6), BoxAt.cell hb0_0, BoxAt.cell hb0_1, BoxAt.cell hb0_2, wrap_id, bC0]
              refine CallA.mono (blank_ok _ _ (List.replicate (k).toNat 0 ++ X.dims) _ (OS.rd ho7_6) hbD hbL) ?_
              intro v_ h7_7
              rintro ⟨vw7_7, fw7_7, rfl, how7_7, hfw7_7, e7_7⟩
              replace ho7_6 := OS.ext ho7_6 e7_7
              replace hb0_0 := BoxAt.ext hb0_0 e7_7
              replace hb0_1 := BoxAt.ext hb0_1 e7_7
              replace hb0_2 := BoxAt.ext hb0_2 e7_7
              have := Ext.size e7_7
              replace eB := Ext.trans eB e7_7
              have hlhow7_7 := OS.lt how7_7
              try simp (disch := decide) only [outv_some, outv_none, put_puts]
              refine plK_pres (Ext.pres e7_7) ?_
              try simp -implicitDefEqProofs (disch := first | decide | assumption | omega) only [go_sem, RdS.len hdX sl22, RdS.idx hdX sl22, R1.intB hdX (Ext.pres eB), RdS.cells hdX, RdS.len hmX sl23, RdS.idx hmX sl23, RdS.cellB hmX (Ext.pres eB), RdS.cells hmX, RdS.len (OS.rd ho7_6) sl22, RdS.idx (OS.rd ho7_6) sl22, R1.intN (OS.rd ho7_6), RdS.cells (OS.rd ho7_6), RdS.len (OS.rd how7_7) sl23, RdS.idx (OS.rd how7_7) sl23, RdS.cellN (OS.rd how7_7), RdS.cells (OS.rd how7_7), BoxAt.cell hb0_0, BoxAt.cell hb0_1, BoxAt.cell hb0_2, wrap_id, bC0]
              refine op_alloc (cs := #[.int .i64 0, .slice none 0 0, .slice none 0 0]) (by kernel_rfl) ?_
              intro h7_8 e7_8 hb7_8 z7_8
              replace ho7_6 := OS.ext ho7_6 e7_8
              replace how7_7 := OS.ext how7_7 e7_8
              replace hb0_0 := BoxAt.ext hb0_0 e7_8
              replace hb0_1 := BoxAt.ext hb0_1 e7_8
              replace hb0_2 := BoxAt.ext hb0_2 e7_8
              have := Ext.size e7_8
              replace eB := Ext.trans eB e7_8
              have hfhb7_8 : Fresh h7_7.size [h7_7.size] := Fresh.one _
              have hlhb7_8 := one_lt (show h7_7.size < h7_8.size by omega)
              try simp (disch := decide) only [outv_some, outv_none, put_puts]
              refine plK_pres (Ext.pres e7_8) ?_
              try simp -implicitDefEqProofs (disch := first | decide | assumption | omega) only [go_sem, RdS.len hdX sl22, RdS.idx hdX sl22, R1.intB hdX (Ext.pres eB), RdS.cells hdX, RdS.len hmX sl23, RdS.idx hmX sl23, RdS.cellB hmX (Ext.pres eB), RdS.cells hmX, RdS.len (OS.rd ho7_6) sl22, RdS.idx (OS.rd ho7_6) sl22, R1.intN (OS.rd ho7_6), RdS.cells (OS.rd ho7_6), RdS.len (OS.rd how7_7) sl23, RdS.idx (OS.rd how7_7) sl23, RdS.cellN (OS.rd how7_7), RdS.cells (OS.rd how7_7), BoxAt.cell hb0_0, BoxAt.cell hb0_1, BoxAt.cell hb0_2, BoxAt.cell hb7_8, wrap_id, bC0]
              refine op_storeB (cs' := #[.int .i64 (X.p), v7_6, vw7_7]) st30 hb7_8 rfl rfl rfl (by simp) (allOne_mem (l := [.int .i64 (X.p), v7_6, vw7_7]) ⟨rfl, (OS.one ho7_6).1, (OS.one how7_7).1, trivial⟩) rfl ?_
              intro h7_9 hb7_8 c7_9
              replace ho7_6 := OS.chg ho7_6 c7_9 (apart_lt hlho7_6 hfhb7_8 (by omega))
              replace how7_7 := OS.chg how7_7 c7_9 (apart_lt hlhow7_7 hfhb7_8 (by omega))
              replace hb0_0 := BoxAt.chgA hb0_0 c7_9 (apart_lt hlhb0_0 hfhb7_8 (by omega))
              replace hb0_1 := BoxAt.chgA hb0_1 c7_9 (apart_lt hlhb0_1 hfhb7_8 (by omega))
              replace hb0_2 := BoxAt.chgA hb0_2 c7_9 (apart_lt hlhb0_2 hfhb7_8 (by omega))
              have := c7_9.size
              replace eB := Ext.then eB c7_9 (ge_of hfhb7_8 (by omega))
              try simp (disch := decide) only [outv_some, outv_none, put_puts]
              refine plK_last (by decide) ?_
              try simp -implicitDefEqProofs (disch := first | decide | assumption | omega) only [go_sem, RdS.len hdX sl22, RdS.idx hdX sl22, R1.intB hdX (Ext.pres eB), RdS.cells hdX, RdS.len hmX sl23, RdS.idx hmX sl23, RdS.cellB hmX (Ext.pres eB), RdS.cells hmX, RdS.len (OS.rd ho7_6) sl22, RdS.idx (OS.rd ho7_6) sl22, R1.intN (OS.rd ho7_6), RdS.cells (OS.rd ho7_6), RdS.len (OS.rd how7_7) sl23, RdS.idx (OS.rd how7_7) sl23, RdS.cellN (OS.rd how7_7), RdS.cells (OS.rd how7_7), BoxAt.cell hb0_0, BoxAt.cell hb0_1, BoxAt.cell hb0_2, BoxAt.cell hb7_8, wrap_id, bC0]
              refine hK _ _ ?_
              clear hK K
              refine den_seq ?_
              have hl_ : (shD X k).length - 1 = X.dims.length + k.toNat - 1 := by simp [shD]; omega
              have hzs : Sh (X.dims.length + k.toNat - 1) (shA X k) (shB X k) (zblk (shD X k) ((shD X k).length - 1)) := by rw [hl_]; exact zblk_sh _ _
              have hzi : In3 X.p (X.dims.length + k.toNat - 1) (shA X k) (shB X k) (zblk (shD X k) ((shD X k).length - 1)) := fun k r c h1 h2 h3 => by rw [hl_, zblk_get _ _ h1 h2 h3]; omega
              refine den_region TTok ?_
              intro K hK
              simp -implicitDefEqProofs (disch := first | decide | assumption | omega) only [go_sem, ld30, RdS.len hdX sl22, RdS.idx hdX sl22, R1.intB hdX (Ext.pres eB), RdS.cells hdX, RdS.len hmX sl23, RdS.idx hmX sl23, RdS.cellB hmX (Ext.pres eB), RdS.cells hmX, RdS.len (OS.rd ho7_6) sl22, RdS.idx (OS.rd ho7_6) sl22, R1.intN (OS.rd ho7_6), RdS.cells (OS.rd ho7_6), RdS.len (OS.rd how7_7) sl23, RdS.idx (OS.rd how7_7) sl23, RdS.cellN (OS.rd how7_7), RdS.cells (OS.rd how7_7), BoxAt.cell hb0_0, BoxAt.cell hb0_1, BoxAt.cell hb0_2, BoxAt.cell hb7_8, wrap_id, bC0]
              try simp -implicitDefEqProofs (disch := first | decide | assumption | omega) only [go_sem, RdS.len hdX sl22, RdS.idx hdX sl22, R1.intB hdX (Ext.pres eB), RdS.cells hdX, RdS.len hmX sl23, RdS.idx hmX sl23, RdS.cellB hmX (Ext.pres eB), RdS.cells hmX, RdS.len (OS.rd ho7_6) sl22, RdS.idx (OS.rd ho7_6) sl22, R1.intN (OS.rd ho7_6), RdS.cells (OS.rd ho7_6), RdS.len (OS.rd how7_7) sl23, RdS.idx (OS.rd how7_7) sl23, RdS.cellN (OS.rd how7_7), RdS.cells (OS.rd how7_7), BoxAt.cell hb0_0, BoxAt.cell hb0_1, BoxAt.cell hb0_2, BoxAt.cell hb7_8, wrap_id, bC0]
              refine CallA.mono (each_upd (p := X.p) (L := X.dims.length + k.toNat - 1) (A := shA X k) (B := shB X k) (U := shU k) (Ot := (fun H => BoxAt H (h7_7.size) #[.int .i64 X.p, v7_6, vw7_7] 30 ∧ BoxAt H (h0_0.size) #[.int .i64 k] 2 ∧ O1 H v7_6 (shD X k) fp7_6)) hpb.1 hdX hmX ⟨how7_7, hzs, hzi, eB, hb7_8, hb0_1, ho7_6⟩ (fun H H' c o => ⟨BoxAt.chgA o.1 c (apart_gt hfhb7_8 hlhow7_7 (by omega)), BoxAt.chgA o.2.1 c (apart_lt hlhb0_1 hfw7_7 (by omega)), OS.chg o.2.2 c (apart_lt hlho7_6 hfw7_7 (by omega))⟩) (ge_of hfw7_7 (by omega)) (fun a i j ha hi hj u hu => by
    rw [shU, List.mem_singleton] at hu
    subst hu
    exact sh_in hC hk5.1 ha hi hj) (fun s H a i j ha hi hj r => by
    simp only [List.append_toArray, List.cons_append, List.nil_append]
    have hin := sh_in hC hk5.1 ha hi hj
    have hnm := hC.num ha hi hj
    have ek : (((a : Int) + 1) + k - 1).toNat = a + k.toNat := by omega
    have hi3 := r.i3 _ _ _ hin.1 hin.2.1 hin.2.2
    have hr1 := r.sh.rows _ hin.1
    have hr2 := r.sh.cols _ _ hin.1 hin.2.1
    have hsl := r.sh.len
    refine (shift1_ok X.p _ _ (shD X k) s _ k _ _ _ _ _ _ H (OS.rd r.ot.2.2) r.o r.ot.1 r.ot.2.1 hfw7_7.nodup hpb hk5 (by omega) (by omega) (by rw [ek, hr1]; omega) (by rw [ek]; simp only [Int.toNat_natCast]; rw [hr2]; omega) (by rw [ek]; exact hi3) hnm).mono (fun u H' q => ⟨?_, q.2.2⟩)
    have q2 := q.2.1
    rw [ek] at q2
    exact q2)) ?_
              intro v_ h8_2
              rintro ⟨rfl, hog8_2, cg8_2⟩
              replace ho7_6 := OS.chg ho7_6 cg8_2 (apart_lt hlho7_6 hfw7_7 (by omega))
              replace hb0_0 := BoxAt.chgA hb0_0 cg8_2 (apart_lt hlhb0_0 hfw7_7 (by omega))
              replace hb0_1 := BoxAt.chgA hb0_1 cg8_2 (apart_lt hlhb0_1 hfw7_7 (by omega))
              replace hb0_2 := BoxAt.chgA hb0_2 cg8_2 (apart_lt hlhb0_2 hfw7_7 (by omega))
              replace hb7_8 := BoxAt.chgA hb7_8 cg8_2 (apart_gt hfhb7_8 hlhow7_7 (by omega))
              have := cg8_2.size
              replace eB := Ext.then eB cg8_2 (ge_of hfw7_7 (by omega))
              have hlhog8_2 := hlhow7_7
              try simp -implicitDefEqProofs (disch := first | decide | assumption | omega) only [go_sem, RdS.len hdX sl22, RdS.idx hdX sl22, R1.intB hdX (Ext.pres eB), RdS.cells hdX, RdS.len hmX sl23, RdS.idx hmX sl23, RdS.cellB hmX (Ext.pres eB), RdS.cells hmX, RdS.len (OS.rd ho7_6) sl22, RdS.idx (OS.rd ho7_6) sl22, R1.intN (OS.rd ho7_6), RdS.cells (OS.rd ho7_6), RdS.len (OS.rd hog8_2) sl23, RdS.idx (OS.rd hog8_2) sl23, RdS.cellN (OS.rd hog8_2), RdS.cells (OS.rd hog8_2), BoxAt.cell hb0_0, BoxAt.cell hb0_1, BoxAt.cell hb0_2, BoxAt.cell hb7_8, wrap_id, bC0]
              refine hK _ _ ?_
              clear hK K
              refine den_seq ?_
              refine den_region TTok ?_
              intro K hK
              simp -implicitDefEqProofs (disch := first | decide | assumption | omega) only [go_sem, ld30, RdS.len hdX sl22, RdS.idx hdX sl22, R1.intB hdX (Ext.pres eB), RdS.cells hdX, RdS.len hmX sl23, RdS.idx hmX sl23, RdS.cellB hmX (Ext.pres eB), RdS.cells hmX, RdS.len (OS.rd ho7_6) sl22, RdS.idx (OS.rd ho7_6) sl22, R1.intN (OS.rd ho7_6), RdS.cells (OS.rd ho7_6), RdS.len (OS.rd hog8_2) sl23, RdS.idx (OS.rd hog8_2) sl23, RdS.cellN (OS.rd hog8_2), RdS.cells (OS.rd hog8_2), BoxAt.cell hb0_2, BoxAt.cell hb7_8, wrap_id, bC0]
              refine op_storeB (cs' := #[.int .i64 (X.p), v7_6, vw7_7]) st30 hb0_2 rfl rfl rfl (by simp) (allOne_mem (l := [.int .i64 (X.p), v7_6, vw7_7]) ⟨rfl, (OS.one ho7_6).1, (OS.one hog8_2).1, trivial⟩) rfl ?_
              intro h9_1 hb0_2 c9_1
              replace ho7_6 := OS.chg ho7_6 c9_1 (apart_gt hfho7_6 hlhb0_2 (by omega))
              replace hog8_2 := OS.chg hog8_2 c9_1 (apart_gt hfw7_7 hlhb0_2 (by omega))
              replace hb7_8 := BoxAt.chgA hb7_8 c9_1 (apart_gt hfhb7_8 hlhb0_2 (by omega))
              have := c9_1.size
              replace eB := Ext.then eB c9_1 (ge_of hfhb0_2 (by omega))
              try simp -implicitDefEqProofs (disch := first | decide | assumption | omega) only [go_sem, RdS.len hdX sl22, RdS.idx hdX sl22, R1.intB hdX (Ext.pres eB), RdS.cells hdX, RdS.len hmX sl23, RdS.idx hmX sl23, RdS.cellB hmX (Ext.pres eB), RdS.cells hmX, RdS.len (OS.rd ho7_6) sl22, RdS.idx (OS.rd ho7_6) sl22, R1.intN (OS.rd ho7_6), RdS.cells (OS.rd ho7_6), RdS.len (OS.rd hog8_2) sl23, RdS.idx (OS.rd hog8_2) sl23, RdS.cellN (OS.rd hog8_2), RdS.cells (OS.rd hog8_2), BoxAt.cell hb0_2, BoxAt.cell hb7_8, wrap_id, bC0]
              refine hK _ _ ?_
              clear hK K
              refine den_ret ?_
              simp -implicitDefEqProofs (disch := first | decide | assumption | omega) only [go_sem, RdS.len hdX sl22, RdS.idx hdX sl22, R1.intB hdX (Ext.pres eB), RdS.cells hdX, RdS.len hmX sl23, RdS.idx hmX sl23, RdS.cellB hmX (Ext.pres eB), RdS.cells hmX, RdS.len (OS.rd ho7_6) sl22, RdS.idx (OS.rd ho7_6) sl22, R1.intN (OS.rd ho7_6), RdS.cells (OS.rd ho7_6), RdS.len (OS.rd hog8_2) sl23, RdS.idx (OS.rd hog8_2) sl23, RdS.cellN (OS.rd hog8_2), RdS.cells (OS.rd hog8_2), BoxAt.cell hb0_2, BoxAt.cell hb7_8, wrap_id, bC0, resP_ct, ld30]
              have hz : shP X k = (⟨X.p, shD X k, shM X k⟩, 0) := by rw [shP, if_pos c0, if_pos c1, if_pos (by omega)]
              rw [hz]
              have hM2 := hog8_2
              change OS _ _ _ _ (applyU X.p (zblk (shD X k) ((shD X k).length - 1)) (uK (shU k) X.maps X.maps.length)) _ at hM2
              rw [sh_eq hC hk5.1] at hM2
              exact ⟨_, _, _, _, rfl, ho7_6, hM2, Fresh.two hfho7_6 hfw7_7 (apart_lt hlho7_6 hfw7_7 (by omega)) (by omega) (by omega), eB⟩
            · simp -implicitDefEqProofs (disch := first | decide | assumption | omega) only [go_sem, RdS.len hdX sl22, RdS.idx hdX sl22, R1.intB hdX (Ext.pres eB), RdS.cells hdX, RdS.len hmX sl23, RdS.idx hmX sl23, RdS.cellB hmX (Ext.pres eB), RdS.cells hmX, RdS.len (OS.rd ho7_6) sl22, RdS.idx (OS.rd ho7_6) sl22, R1.intN (OS.rd ho7_6), RdS.cells (OS.rd ho7_6), BoxAt.cell hb0_0, BoxAt.cell hb0_1, BoxAt.cell hb0_2, wrap_id, bC0]
              refine op_alloc (cs := #[.int .i64 0, .slice none 0 0, .slice none 0 0]) (by kernel_rfl) ?_
              intro h7_8 e7_8 hb7_8 z7_8
              replace ho7_6 := OS.ext ho7_6 e7_8
              replace hb0_0 := BoxAt.ext hb0_0 e7_8
              replace hb0_1 := BoxAt.ext hb0_1 e7_8
              replace hb0_2 := BoxAt.ext hb0_2 e7_8
              have := Ext.size e7_8
              replace eB := Ext.trans eB e7_8
              have hfhb7_8 : Fresh h7_6.size [h7_6.size] := Fresh.one _
              have hlhb7_8 := one_lt (show h7_6.size < h7_8.size by omega)
              try simp (disch := decide) only [outv_some, outv_none, put_puts]
              refine plK_pres (Ext.pres e7_8) ?_
              try simp -implicitDefEqProofs (disch := first | decide | assumption | omega) only [go_sem, RdS.len hdX sl22, RdS.idx hdX sl22, R1.intB hdX (Ext.pres eB), RdS.cells hdX, RdS.len hmX sl23, RdS.idx hmX sl23, RdS.cellB hmX (Ext.pres eB), RdS.cells hmX, RdS.len (OS.rd ho7_6) sl22, RdS.idx (OS.rd ho7_6) sl22, R1.intN (OS.rd ho7_6), RdS.cells (OS.rd ho7_6), BoxAt.cell hb0_0, BoxAt.cell hb0_1, BoxAt.cell hb0_2, BoxAt.cell hb7_8, wrap_id, bC0]
              try simp -implicitDefEqProofs (disch := first | decide | assumption | omega) only [go_sem, RdS.len hdX sl22, RdS.idx hdX sl22, R1.intB hdX (Ext.pres eB), RdS.cells hdX, RdS.len hmX sl23, RdS.idx hmX sl23, RdS.cellB hmX (Ext.pres eB), RdS.cells hmX, RdS.len (OS.rd ho7_6) sl22, RdS.idx (OS.rd ho7_6) sl22, R1.intN (OS.rd ho7_6), RdS.cells (OS.rd ho7_6), BoxAt.cell hb0_0, BoxAt.cell hb0_1, BoxAt.cell hb0_2, BoxAt.cell hb7_8, wrap_id, bC0]
              refine CallA.mono (blank_ok _ _ (List.replicate (k).toNat 0 ++ X.dims) _ (OS.rd ho7_6) hbD hbL) ?_
              intro v_ h7_7
              rintro ⟨vw7_7, fw7_7, rfl, how7_7, hfw7_7, e7_7⟩
              replace ho7_6 := OS.ext ho7_6 e7_7
              replace hb0_0 := BoxAt.ext hb0_0 e7_7
              replace hb0_1 := BoxAt.ext hb0_1 e7_7
              replace hb0_2 := BoxAt.ext hb0_2 e7_7
              replace hb7_8 := BoxAt.ext hb7_8 e7_7
              have := Ext.size e7_7
              replace eB := Ext.trans eB e7_7
              have hlhow7_7 := OS.lt how7_7
              try simp (disch := decide) only [outv_some, outv_none, put_puts]
              refine plK_pres (Ext.pres e7_7) ?_
              try simp -implicitDefEqProofs (disch := first | decide | assumption | omega) only [go_sem, RdS.len hdX sl22, RdS.idx hdX sl22, R1.intB hdX (Ext.pres eB), RdS.cells hdX, RdS.len hmX sl23, RdS.idx hmX sl23, RdS.cellB hmX (Ext.pres eB), RdS.cells hmX, RdS.len (OS.rd ho7_6) sl22, RdS.idx (OS.rd ho7_6) sl22, R1.intN (OS.rd ho7_6), RdS.cells (OS.rd ho7_6), RdS.len (OS.rd how7_7) sl23, RdS.idx (OS.rd how7_7) sl23, RdS.cellN (OS.rd how7_7), RdS.cells (OS.rd how7_7), BoxAt.cell hb0_0, BoxAt.cell hb0_1, BoxAt.cell hb0_2, BoxAt.cell hb7_8, wrap_id, bC0]
              refine op_storeB (cs' := #[.int .i64 (X.p), v7_6, vw7_7]) st30 hb7_8 rfl rfl rfl (by simp) (allOne_mem (l := [.int .i64 (X.p), v7_6, vw7_7]) ⟨rfl, (OS.one ho7_6).1, (OS.one how7_7).1, trivial⟩) rfl ?_
              intro h7_9 hb7_8 c7_9
              replace ho7_6 := OS.chg ho7_6 c7_9 (apart_lt hlho7_6 hfhb7_8 (by omega))
              replace how7_7 := OS.chg how7_7 c7_9 (apart_gt hfw7_7 hlhb7_8 (by omega))
              replace hb0_0 := BoxAt.chgA hb0_0 c7_9 (apart_lt hlhb0_0 hfhb7_8 (by omega))
              replace hb0_1 := BoxAt.chgA hb0_1 c7_9 (apart_lt hlhb0_1 hfhb7_8 (by omega))
              replace hb0_2 := BoxAt.chgA hb0_2 c7_9 (apart_lt hlhb0_2 hfhb7_8 (by omega))
              have := c7_9.size
              replace eB := Ext.then eB c7_9 (ge_of hfhb7_8 (by omega))
              try simp (disch := decide) only [outv_some, outv_none, put_puts]
              refine plK_last (by decide) ?_
              try simp -implicitDefEqProofs (disch := first | decide | assumption | omega) only [go_sem, RdS.len hdX sl22, RdS.idx hdX sl22, R1.intB hdX (Ext.pres eB), RdS.cells hdX, RdS.len hmX sl23, RdS.idx hmX sl23, RdS.cellB hmX (Ext.pres eB), RdS.cells hmX, RdS.len (OS.rd ho7_6) sl22, RdS.idx (OS.rd ho7_6) sl22, R1.intN (OS.rd ho7_6), RdS.cells (OS.rd ho7_6), RdS.len (OS.rd how7_7) sl23, RdS.idx (OS.rd how7_7) sl23, RdS.cellN (OS.rd how7_7), RdS.cells (OS.rd how7_7), BoxAt.cell hb0_0, BoxAt.cell hb0_1, BoxAt.cell hb0_2, BoxAt.cell hb7_8, wrap_id, bC0]
              refine hK _ _ ?_
              clear hK K
              refine den_seq ?_
              have hl_ : (shD X k).length - 1 = X.dims.length + k.toNat - 1 := by simp [shD]; omega
              have hzs : Sh (X.dims.length + k.toNat - 1) (shA X k) (shB X k) (zblk (shD X k) ((shD X k).length - 1)) := by rw [hl_]; exact zblk_sh _ _
              have hzi : In3 X.p (X.dims.length + k.toNat - 1) (shA X k) (shB X k) (zblk (shD X k) ((shD X k).length - 1)) := fun k r c h1 h2 h3 => by rw [hl_, zblk_get _ _ h1 h2 h3]; omega
              refine den_region TTok ?_
              intro K hK
              simp -implicitDefEqProofs (disch := first | decide | assumption | omega) only [go_sem, ld30, RdS.len hdX sl22, RdS.idx hdX sl22, R1.intB hdX (Ext.pres eB), RdS.cells hdX, RdS.len hmX sl23, RdS.idx hmX sl23, RdS.cellB hmX (Ext.pres eB), RdS.cells hmX, RdS.len (OS.rd ho7_6) sl22, RdS.idx (OS.rd ho7_6) sl22, R1.intN (OS.rd ho7_6), RdS.cells (OS.rd ho7_6), RdS.len (OS.rd how7_7) sl23, RdS.idx (OS.rd how7_7) sl23, RdS.cellN (OS.rd how7_7), RdS.cells (OS.rd how7_7), BoxAt.cell hb0_0, BoxAt.cell hb0_1, BoxAt.cell hb0_2, BoxAt.cell hb7_8, wrap_id, bC0]
              try simp -implicitDefEqProofs (disch := first | decide | assumption | omega) only [go_sem, RdS.len hdX sl22, RdS.idx hdX sl22, R1.intB hdX (Ext.pres eB), RdS.cells hdX, RdS.len hmX sl23, RdS.idx hmX sl23, RdS.cellB hmX (Ext.pres eB), RdS.cells hmX, RdS.len (OS.rd ho7_6) sl22, RdS.idx (OS.rd ho7_6) sl22, R1.intN (OS.rd ho7_6), RdS.cells (OS.rd ho7_6), RdS.len (OS.rd how7_7) sl23, RdS.idx (OS.rd how7_7) sl23, RdS.cellN (OS.rd how7_7), RdS.cells (OS.rd how7_7), BoxAt.cell hb0_0, BoxAt.cell hb0_1, BoxAt.cell hb0_2, BoxAt.cell hb7_8, wrap_id, bC0]
              refine CallA.mono (each_upd (p := X.p) (L := X.dims.length + k.toNat - 1) (A := shA X k) (B := shB X k) (U := shU k) (Ot := (fun H => BoxAt H (h7_6.size) #[.int .i64 X.p, v7_6, vw7_7] 30 ∧ BoxAt H (h0_0.size) #[.int .i64 k] 2 ∧ O1 H v7_6 (shD X k) fp7_6)) hpb.1 hdX hmX ⟨how7_7, hzs, hzi, eB, hb7_8, hb0_1, ho7_6⟩ (fun H H' c o => ⟨BoxAt.chgA o.1 c (apart_lt hlhb7_8 hfw7_7 (by omega)), BoxAt.chgA o.2.1 c (apart_lt hlhb0_1 hfw7_7 (by omega)), OS.chg o.2.2 c (apart_lt hlho7_6 hfw7_7 (by omega))⟩) (ge_of hfw7_7 (by omega)) (fun a i j ha hi hj u hu => by
    rw [shU, List.mem_singleton] at hu
    subst hu
    exact sh_in hC hk5.1 ha hi hj) (fun s H a i j ha hi hj r => by
    simp only [List.append_toArray, List.cons_append, List.nil_append]
    have hin := sh_in hC hk5.1 ha hi hj
    have hnm := hC.num ha hi hj
    have ek : (((a : Int) + 1) + k - 1).toNat = a + k.toNat := by omega
    have hi3 := r.i3 _ _ _ hin.1 hin.2.1 hin.2.2
    have hr1 := r.sh.rows _ hin.1
    have hr2 := r.sh.cols _ _ hin.1 hin.2.1
    have hsl := r.sh.len
    refine (shift1_ok X.p _ _ (shD X k) s _ k _ _ _ _ _ _ H (OS.rd r.ot.2.2) r.o r.ot.1 r.ot.2.1 hfw7_7.nodup hpb hk5 (by omega) (by omega) (by rw [ek, hr1]; omega) (by rw [ek]; simp only [Int.toNat_natCast]; rw [hr2]; omega) (by rw [ek]; exact hi3) hnm).mono (fun u H' q => ⟨?_, q.2.2⟩)
    have q2 := q.2.1
    rw [ek] at q2
    exact q2)) ?_
              intro v_ h8_2
              rintro ⟨rfl, hog8_2, cg8_2⟩
              replace ho7_6 := OS.chg ho7_6 cg8_2 (apart_lt hlho7_6 hfw7_7 (by omega))
              replace hb0_0 := BoxAt.chgA hb0_0 cg8_2 (apart_lt hlhb0_0 hfw7_7 (by omega))
              replace hb0_1 := BoxAt.chgA hb0_1 cg8_2 (apart_lt hlhb0_1 hfw7_7 (by omega))
              replace hb0_2 := BoxAt.chgA hb0_2 cg8_2 (apart_lt hlhb0_2 hfw7_7 (by omega))
              replace hb7_8 := BoxAt.chgA hb7_8 cg8_2 (apart_lt hlhb7_8 hfw7_7 (by omega))
              have := cg8_2.size
              replace eB := Ext.then eB cg8_2 (ge_of hfw7_7 (by omega))
              have hlhog8_2 := hlhow7_7
              try simp -implicitDefEqProofs (disch := first | decide | assumption | omega) only [go_sem, RdS.len hdX sl22, RdS.idx hdX sl22, R1.intB hdX (Ext.pres eB), RdS.cells hdX, RdS.len hmX sl23, RdS.idx hmX sl23, RdS.cellB hmX (Ext.pres eB), RdS.cells hmX, RdS.len (OS.rd ho7_6) sl22, RdS.idx (OS.rd ho7_6) sl22, R1.intN (OS.rd ho7_6), RdS.cells (OS.rd ho7_6), RdS.len (OS.rd hog8_2) sl23, RdS.idx (OS.rd hog8_2) sl23, RdS.cellN (OS.rd hog8_2), RdS.cells (OS.rd hog8_2), BoxAt.cell hb0_0, BoxAt.cell hb0_1, BoxAt.cell hb0_2, BoxAt.cell hb7_8, wrap_id, bC0]
              refine hK _ _ ?_
              clear hK K
              refine den_seq ?_
              refine den_region TTok ?_
              intro K hK
              simp -implicitDefEqProofs (disch := first | decide | assumption | omega) only [go_sem, ld30, RdS.len hdX sl22, RdS.idx hdX sl22, R1.intB hdX (Ext.pres eB), RdS.cells hdX, RdS.len hmX sl23, RdS.idx hmX sl23, RdS.cellB hmX (Ext.pres eB), RdS.cells hmX, RdS.len (OS.rd ho7_6) sl22, RdS.idx (OS.rd ho7_6) sl22, R1.intN (OS.rd ho7_6), RdS.cells (OS.rd ho7_6), RdS.len (OS.rd hog8_2) sl23, RdS.idx (OS.rd hog8_2) sl23, RdS.cellN (OS.rd hog8_2), RdS.cells (OS.rd hog8_2), BoxAt.cell hb0_2, BoxAt.cell hb7_8, wrap_id, bC0]
              refine op_storeB (cs' := #[.int .i64 (X.p), v7_6, vw7_7]) st30 hb0_2 rfl rfl rfl (by simp) (allOne_mem (l := [.int .i64 (X.p), v7_6, vw7_7]) ⟨rfl, (OS.one ho7_6).1, (OS.one hog8_2).1, trivial⟩) rfl ?_
              intro h9_1 hb0_2 c9_1
              replace ho7_6 := OS.chg ho7_6 c9_1 (apart_gt hfho7_6 hlhb0_2 (by omega))
              replace hog8_2 := OS.chg hog8_2 c9_1 (apart_gt hfw7_7 hlhb0_2 (by omega))
              replace hb7_8 := BoxAt.chgA hb7_8 c9_1 (apart_gt hfhb7_8 hlhb0_2 (by omega))
              have := c9_1.size
              replace eB := Ext.then eB c9_1 (ge_of hfhb0_2 (by omega))
              try simp -implicitDefEqProofs (disch := first | decide | assumption | omega) only [go_sem, RdS.len hdX sl22, RdS.idx hdX sl22, R1.intB hdX (Ext.pres eB), RdS.cells hdX, RdS.len hmX sl23, RdS.idx hmX sl23, RdS.cellB hmX (Ext.pres eB), RdS.cells hmX, RdS.len (OS.rd ho7_6) sl22, RdS.idx (OS.rd ho7_6) sl22, R1.intN (OS.rd ho7_6), RdS.cells (OS.rd ho7_6), RdS.len (OS.rd hog8_2) sl23, RdS.idx (OS.rd hog8_2) sl23, RdS.cellN (OS.rd hog8_2), RdS.cells (OS.rd hog8_2), BoxAt.cell hb0_2, BoxAt.cell hb7_8, wrap_id, bC0]
              refine hK _ _ ?_
              clear hK K
              refine den_ret ?_
              simp -implicitDefEqProofs (disch := first | decide | assumption | omega) only [go_sem, RdS.len hdX sl22, RdS.idx hdX sl22, R1.intB hdX (Ext.pres eB), RdS.cells hdX, RdS.len hmX sl23, RdS.idx hmX sl23, RdS.cellB hmX (Ext.pres eB), RdS.cells hmX, RdS.len (OS.rd ho7_6) sl22, RdS.idx (OS.rd ho7_6) sl22, R1.intN (OS.rd ho7_6), RdS.cells (OS.rd ho7_6), RdS.len (OS.rd hog8_2) sl23, RdS.idx (OS.rd hog8_2) sl23, RdS.cellN (OS.rd hog8_2), RdS.cells (OS.rd hog8_2), BoxAt.cell hb0_2, BoxAt.cell hb7_8, wrap_id, bC0, resP_ct, ld30]
              have hz : shP X k = (⟨X.p, shD X k, shM X k⟩, 0) := by rw [shP, if_pos c0, if_pos c1, if_pos (by omega)]
              rw [hz]
              have hM2 := hog8_2
              change OS _ _ _ _ (applyU X.p (zblk (shD X k) ((shD X k).length - 1)) (uK (shU k) X.maps X.maps.length)) _ at hM2
              rw [sh_eq hC hk5.1] at hM2
              exact ⟨_, _, _, _, rfl, ho7_6, hM2, Fresh.two hfho7_6 hfw7_7 (apart_lt hlho7_6 hfw7_7 (by omega)) (by omega) (by omega), eB⟩
          · simp -implicitDefEqProofs (disch := first | decide | assumption | omega) only [go_sem, RdS.len hdX sl22, RdS.idx hdX sl22, R1.intB hdX (Ext.pres eB), RdS.cells hdX, RdS.len hmX sl23, RdS.idx hmX sl23, RdS.cellB hmX (Ext.pres eB), RdS.cells hmX, RdS.len (OS.rd ho7_3) sl22, RdS.idx (OS.rd ho7_3) sl22, R1.intN (OS.rd ho7_3), RdS.cells (OS.rd ho7_3), BoxAt.cell hb0_0, BoxAt.cell hb0_1, BoxAt.cell hb0_2, wrap_id, bC0]
            refine op_alloc (cs := #[.int .i64 0, .slice none 0 0, .slice none 0 0]) (by kernel_rfl) ?_
            intro h7_8 e7_8 hb7_8 z7_8
            replace ho7_3 := OS.ext ho7_3 e7_8
            replace hb0_0 := BoxAt.ext hb0_0 e7_8
            replace hb0_1 := BoxAt.ext hb0_1 e7_8
            replace hb0_2 := BoxAt.ext hb0_2 e7_8
            have := Ext.size e7_8
            replace eB := Ext.trans eB e7_8
            have hfhb7_8 : Fresh h7_3.size [h7_3.size] := Fresh.one _
            have hlhb7_8 := one_lt (show h7_3.size < h7_8.size by omega)
            try simp (disch := decide) only [outv_some, outv_none, put_puts]
            refine plK_pres (Ext.pres e7_8) ?_
            try simp -implicitDefEqProofs (disch := first | decide | assumption | omega) only [go_sem, RdS.len hdX sl22, RdS.idx hdX sl22, R1.intB hdX (Ext.pres eB), RdS.cells hdX, RdS.len hmX sl23, RdS.idx hmX sl23, RdS.cellB hmX (Ext.pres eB), RdS.cells hmX, RdS.len (OS.rd ho7_3) sl22, RdS.idx (OS.rd ho7_3) sl22, R1.intN (OS.rd ho7_3), RdS.cells (OS.rd ho7_3), BoxAt.cell hb0_0, BoxAt.cell hb0_1, BoxAt.cell hb0_2, BoxAt.cell hb7_8, wrap_id, bC0]
            refine op_appendRF hcpv7_3 ho7_3 (RdS.pres hdX (Ext.pres eB)) (by first | omega | (simp; omega)) rfl ?_
            intro v7_6 h7_6 fp7_6 ho7_6 hn7_6 hs7_6 c7_6
            have hsz7_6 := c7_6.size
            have hfho7_6 : Fresh h5_1.size fp7_6 := Fresh.appd hfho7_3 (Fresh.nil h7_8.size) (by omega) (by omega) hn7_6 hs7_6
            replace hb0_0 := BoxAt.chgA hb0_0 c7_6 (apart_lt hlhb0_0 hfho7_3 (by omega))
            replace hb0_1 := BoxAt.chgA hb0_1 c7_6 (apart_lt hlhb0_1 hfho7_3 (by omega))
            replace hb0_2 := BoxAt.chgA hb0_2 c7_6 (apart_lt hlhb0_2 hfho7_3 (by omega))
            replace hb7_8 := BoxAt.chgA hb7_8 c7_6 (apart_gt hfhb7_8 hlho7_3 (by omega))
            have := c7_6.size
            replace eB := Ext.then eB c7_6 (ge_of hfho7_3 (by omega))
            have ap1 : Apart [h7_3.size] fp7_6 := Apart.grow hlhb7_8 (by omega) (apart_gt hfhb7_8 hlho7_3 (by omega)) (Apart.nil _) hs7_6
            have hlho7_6 := OS.lt ho7_6
            intro e7_6
            try simp (disch := decide) only [outv_some, outv_none, put_puts]
            refine plK_pres (Ext.pres e7_6) ?_
            try simp -implicitDefEqProofs (disch := first | decide | assumption | omega) only [go_sem, RdS.len hdX sl22, RdS.idx hdX sl22, R1.intB hdX (Ext.pres eB), RdS.cells hdX, RdS.len hmX sl23, RdS.idx hmX sl23, RdS.cellB hmX (Ext.pres eB), RdS.cells hmX, RdS.len (OS.rd ho7_6) sl22, RdS.idx (OS.rd ho7_6) sl22, R1.intN (OS.rd ho7_6), RdS.cells (OS.rd ho7_6), BoxAt.cell hb0_0, BoxAt.cell hb0_1, BoxAt.cell hb0_2, BoxAt.cell hb7_8, wrap_id, bC0]
            try simp -implicitDefEqProofs (disch := first | decide | assumption | omega) only [go_sem, RdS.len hdX sl22, RdS.idx hdX sl22, R1.intB hdX (Ext.pres eB), RdS.cells hdX, RdS.len hmX sl23, RdS.idx hmX sl23, RdS.cellB hmX (Ext.pres eB), RdS.cells hmX, RdS.len (OS.rd ho7_6) sl22, RdS.idx (OS.rd ho7_6) sl22, R1.intN (OS.rd ho7_6), RdS.cells (OS.rd ho7_6), BoxAt.cell hb0_0, BoxAt.cell hb0_1, BoxAt.cell hb0_2, BoxAt.cell hb7_8, wrap_id, bC0]
            refine CallA.mono (blank_ok _ _ (List.replicate (k).toNat 0 ++ X.dims) _ (OS.rd ho7_6) hbD hbL) ?_
            intro v_ h7_7
            rintro ⟨vw7_7, fw7_7, rfl, how7_7, hfw7_7, e7_7⟩
            replace ho7_6 := OS.ext ho7_6 e7_7
            replace hb0_0 := BoxAt.ext hb0_0 e7_7
            replace hb0_1 := BoxAt.ext hb0_1 e7_7
            replace hb0_2 := BoxAt.ext hb0_2 e7_7
            replace hb7_8 := BoxAt.ext hb7_8 e7_7
            have := Ext.size e7_7
            replace eB := Ext.trans eB e7_7
            have hlhow7_7 := OS.lt how7_7
            try simp (disch := decide) only [outv_some, outv_none, put_puts]
            refine plK_pres (Ext.pres e7_7) ?_
            try simp -implicitDefEqProofs (disch := first | decide | assumption | omega) only [go_sem, RdS.len hdX sl22, RdS.idx hdX sl22, R1.intB hdX (Ext.pres eB), RdS.cells hdX, RdS.len hmX sl23, RdS.idx hmX sl23, RdS.cellB hmX (Ext.pres eB), RdS.cells hmX, RdS.len (OS.rd ho7_6) sl22, RdS.idx (OS.rd ho7_6) sl22, R1.intN (OS.rd ho7_6), RdS.cells (OS.rd ho7_6), RdS.len (OS.rd how7_7) sl23, RdS.idx (OS.rd how7_7) sl23, RdS.cellN (OS.rd how7_7), RdS.cells (OS.rd how7_7), BoxAt.cell hb0_0, BoxAt.cell hb0_1, BoxAt.cell hb0_2, BoxAt.cell hb7_8, wrap_id, bC0]
            refine op_storeB (cs' := #[.int .i64 (X.p), v7_6, vw7_7]) st30 hb7_8 rfl rfl rfl (by simp) (allOne_mem (l := [.int .i64 (X.p), v7_6, vw7_7]) ⟨rfl, (OS.one ho7_6).1, (OS.one how7_7).1, trivial⟩) rfl ?_
            intro h7_9 hb7_8 c7_9
            replace ho7_6 := OS.chg ho7_6 c7_9 (Apart.symm ap1)
            replace how7_7 := OS.chg how7_7 c7_9 (apart_gt hfw7_7 hlhb7_8 (by omega))
            replace hb0_0 := BoxAt.chgA hb0_0 c7_9 (apart_lt hlhb0_0 hfhb7_8 (by omega))
            replace hb0_1 := BoxAt.chgA hb0_1 c7_9 (apart_lt hlhb0_1 hfhb7_8 (by omega))
            replace hb0_2 := BoxAt.chgA hb0_2 c7_9 (apart_lt hlhb0_2 hfhb7_8 (by omega))
            have := c7_9.size
            replace eB := Ext.then eB c7_9 (ge_of hfhb7_8 (by omega))
            try simp (disch := decide) only [outv_some, outv_none, put_puts]
            refine plK_last (by decide) ?_
            try simp -implicitDefEqProofs (disch := first | decide | assumption | omega) only [go_sem, RdS.len hdX sl22, RdS.idx hdX sl22, R1.intB hdX (Ext.pres eB), RdS.cells hdX, RdS.len hmX sl23, RdS.idx hmX sl23, RdS.cellB hmX (Ext.pres eB), RdS.cells hmX, RdS.len (OS.rd ho7_6) sl22, RdS.idx (OS.rd ho7_6) sl22, R1.intN (OS.rd ho7_6), RdS.cells (OS.rd ho7_6), RdS.len (OS.rd how7_7) sl23, RdS.idx (OS.rd how7_7) sl23, RdS.cellN (OS.rd how7_7), RdS.cells (OS.rd how7_7), BoxAt.cell hb0_0, BoxAt.cell hb0_1, BoxAt.cell hb0_2, BoxAt.cell hb7_8, wrap_id, bC0]
            refine hK _ _ ?_
            clear hK K
            refine den_seq ?_
            have hl_ : (shD X k).length - 1 = X.dims.length + k.toNat - 1 := by simp [shD]; omega
            have hzs : Sh (X.dims.length + k.toNat - 1) (shA X k) (shB X k) (zblk (shD X k) ((shD X k).length - 1)) := by rw [hl_]; exact zblk_sh _ _
            have hzi : In3 X.p (X.dims.length + k.toNat - 1) (shA X k) (shB X k) (zblk (shD X k) ((shD X k).length - 1)) := fun k r c h1 h2 h3 => by rw [hl_, zblk_get _ _ h1 h2 h3]; omega
            refine den_region TTok ?_
            intro K hK
            simp -implicitDefEqProofs (disch := first | decide | assumption | omega) only [go_sem, ld30, RdS.len hdX sl22, RdS.idx hdX sl22, R1.intB hdX (Ext.pres eB), RdS.cells hdX, RdS.len hmX sl23, RdS.idx hmX sl23, RdS.cellB hmX (Ext.pres eB), RdS.cells hmX, RdS.len (OS.rd ho7_6) sl22, RdS.idx (OS.rd ho7_6) sl22, R1.intN (OS.rd ho7_6), RdS.cells (OS.rd ho7_6), RdS.len (OS.rd how7_7) sl23, RdS.idx (OS.rd how7_7) sl23, RdS.cellN (OS.rd how7_7), RdS.cells (OS.rd how7_7), BoxAt.cell hb0_0, BoxAt.cell hb0_1, BoxAt.cell hb0_2, BoxAt.cell hb7_8, wrap_id, bC0]
            try simp -implicitDefEqProofs (disch := first | decide | assumption | omega) only [go_sem, RdS.len hdX sl22, RdS.idx hdX sl22, R1.intB hdX (Ext.pres eB), RdS.cells hdX, RdS.len hmX sl23, RdS.idx hmX sl23, RdS.cellB hmX (Ext.pres eB), RdS.cells hmX, RdS.len (OS.rd ho7_6) sl22, RdS.idx (OS.rd ho7_6) sl22, R1.intN (OS.rd ho7_6), RdS.cells (OS.rd ho7_6), RdS.len (OS.rd how7_7) sl23, RdS.idx (OS.rd how7_7) sl23, RdS.cellN (OS.rd how7_7), RdS.cells (OS.rd how7_7), BoxAt.cell hb0_0, BoxAt.cell hb0_1, BoxAt.cell hb0_2, BoxAt.cell hb7_8, wrap_id, bC0]
            refine CallA.mono (each_upd (p := X.p) (L := X.dims.length + k.toNat - 1) (A := shA X k) (B := shB X k) (U := shU k) (Ot := (fun H => BoxAt H (h7_3.size) #[.int .i64 X.p, v7_6, vw7_7] 30 ∧ BoxAt H (h0_0.size) #[.int .i64 k] 2 ∧ O1 H v7_6 (shD X k) fp7_6)) hpb.1 hdX hmX ⟨how7_7, hzs, hzi, eB, hb7_8, hb0_1, ho7_6⟩ (fun H H' c o => ⟨BoxAt.chgA o.1 c (apart_lt hlhb7_8 hfw7_7 (by omega)), BoxAt.chgA o.2.1 c (apart_lt hlhb0_1 hfw7_7 (by omega)), OS.chg o.2.2 c (apart_lt hlho7_6 hfw7_7 (by omega))⟩) (ge_of hfw7_7 (by omega)) (fun a i j ha hi hj u hu => by
    rw [shU, List.mem_singleton] at hu
    subst hu
    exact sh_in hC hk5.1 ha hi hj) (fun s H a i j ha hi hj r => by
    simp only [List.append_toArray, List.cons_append, List.nil_append]
    have hin := sh_in hC hk5.1 ha hi hj
    have hnm := hC.num ha hi hj
    have ek : (((a : Int) + 1) + k - 1).toNat = a + k.toNat := by omega
    have hi3 := r.i3 _ _ _ hin.1 hin.2.1 hin.2.2
    have hr1 := r.sh.rows _ hin.1
    have hr2 := r.sh.cols _ _ hin.1 hin.2.1
    have hsl := r.sh.len
    refine (shift1_ok X.p _ _ (shD X k) s _ k _ _ _ _ _ _ H (OS.rd r.ot.2.2) r.o r.ot.1 r.ot.2.1 hfw7_7.nodup hpb hk5 (by omega) (by omega) (by rw [ek, hr1]; omega) (by rw [ek]; simp only [Int.toNat_natCast]; rw [hr2]; omega) (by rw [ek]; exact hi3) hnm).mono (fun u H' q => ⟨?_, q.2.2⟩)
    have q2 := q.2.1
    rw [ek] at q2
    exact q2)) ?_
            intro v_ h8_2
            rintro ⟨rfl, hog8_2, cg8_2⟩
            replace ho7_6 := OS.chg ho7_6 cg8_2 (apart_lt hlho7_6 hfw7_7 (by omega))
            replace hb0_0 := BoxAt.chgA hb0_0 cg8_2 (apart_lt hlhb0_0 hfw7_7 (by omega))
            replace hb0_1 := BoxAt.chgA hb0_1 cg8_2 (apart_lt hlhb0_1 hfw7_7 (by omega))
            replace hb0_2 := BoxAt.chgA hb0_2 cg8_2 (apart_lt hlhb0_2 hfw7_7 (by omega))
            replace hb7_8 := BoxAt.chgA hb7_8 cg8_2 (apart_lt hlhb7_8 hfw7_7 (by omega))
            have := cg8_2.size
            replace eB := Ext.then eB cg8_2 (ge_of hfw7_7 (by omega))
            have hlhog8_2 := hlhow7_7
            try simp -implicitDefEqProofs (disch := first | decide | assumption | omega) only [go_sem, RdS.len hdX sl22, RdS.idx hdX sl22, R1.intB hdX (Ext.pres eB), RdS.cells hdX, RdS.len hmX sl23, RdS.idx hmX sl23, RdS.cellB hmX (Ext.pres eB), RdS.cells hmX, RdS.len (OS.rd ho7_6) sl22, RdS.idx (OS.rd ho7_6) sl22, R1.intN (OS.rd ho7_6), RdS.cells (OS.rd ho7_6), RdS.len (OS.rd hog8_2) sl23, RdS.idx (OS.rd hog8_2) sl23, RdS.cellN (OS.rd hog8_2), RdS.cells (OS.rd hog8_2), BoxAt.cell hb0_0, BoxAt.cell hb0_1, BoxAt.cell hb0_2, BoxAt.cell hb7_8, wrap_id, bC0]
            refine hK _ _ ?_
            clear hK K
            refine den_seq ?_
            refine den_region TTok ?_
            intro K hK
            simp -implicitDefEqProofs (disch := first | decide | assumption | omega) only [go_sem, ld30, RdS.len hdX sl22, RdS.idx hdX sl22, R1.intB hdX (Ext.pres eB), RdS.cells hdX, RdS.len hmX sl23, RdS.idx hmX sl23, RdS.cellB hmX (Ext.pres eB), RdS.cells hmX, RdS.len (OS.rd ho7_6) sl22, RdS.idx (OS.rd ho7_6) sl22, R1.intN (OS.rd ho7_6), RdS.cells (OS.rd ho7_6), RdS.len (OS.rd hog8_2) sl23, RdS.idx (OS.rd hog8_2) sl23, RdS.cellN (OS.rd hog8_2), RdS.cells (OS.rd hog8_2), BoxAt.cell hb0_2, BoxAt.cell hb7_8, wrap_id, bC0]
            refine op_storeB (cs' := #[.int .i64 (X.p), v7_6, vw7_7]) st30 hb0_2 rfl rfl rfl (by simp) (allOne_mem (l := [.int .i64 (X.p), v7_6, vw7_7]) ⟨rfl, (OS.one ho7_6).1, (OS.one hog8_2).1, trivial⟩) rfl ?_
            intro h9_1 hb0_2 c9_1
            replace ho7_6 := OS.chg ho7_6 c9_1 (apart_gt hfho7_6 hlhb0_2 (by omega))
            replace hog8_2 := OS.chg hog8_2 c9_1 (apart_gt hfw7_7 hlhb0_2 (by omega))
            replace hb7_8 := BoxAt.chgA hb7_8 c9_1 (apart_gt hfhb7_8 hlhb0_2 (by omega))
            have := c9_1.size
            replace eB := Ext.then eB c9_1 (ge_of hfhb0_2 (by omega))
            try simp -implicitDefEqProofs (disch := first | decide | assumption | omega) only [go_sem, RdS.len hdX sl22, RdS.idx hdX sl22, R1.intB hdX (Ext.pres eB), RdS.cells hdX, RdS.len hmX sl23, RdS.idx hmX sl23, RdS.cellB hmX (Ext.pres eB), RdS.cells hmX, RdS.len (OS.rd ho7_6) sl22, RdS.idx (OS.rd ho7_6) sl22, R1.intN (OS.rd ho7_6), RdS.cells (OS.rd ho7_6), RdS.len (OS.rd hog8_2) sl23, RdS.idx (OS.rd hog8_2) sl23, RdS.cellN (OS.rd hog8_2), RdS.cells (OS.rd hog8_2), BoxAt.cell hb0_2, BoxAt.cell hb7_8, wrap_id, bC0]
            refine hK _ _ ?_
            clear hK K
            refine den_ret ?_
            simp -implicitDefEqProofs (disch := first | decide | assumption | omega) only [go_sem, RdS.len hdX sl22, RdS.idx hdX sl22, R1.intB hdX (Ext.pres eB), RdS.cells hdX, RdS.len hmX sl23, RdS.idx hmX sl23, RdS.cellB hmX (Ext.pres eB), RdS.cells hmX, RdS.len (OS.rd ho7_6) sl22, RdS.idx (OS.rd ho7_6) sl22, R1.intN (OS.rd ho7_6), RdS.cells (OS.rd ho7_6), RdS.len (OS.rd hog8_2) sl23, RdS.idx (OS.rd hog8_2) sl23, RdS.cellN (OS.rd hog8_2), RdS.cells (OS.rd hog8_2), BoxAt.cell hb0_2, BoxAt.cell hb7_8, wrap_id, bC0, resP_ct, ld30]
            have hz : shP X k = (⟨X.p, shD X k, shM X k⟩, 0) := by rw [shP, if_pos c0, if_pos c1, if_pos (by omega)]
            rw [hz]
            have hM2 := hog8_2
            change OS _ _ _ _ (applyU X.p (zblk (shD X k) ((shD X k).length - 1)) (uK (shU k) X.maps X.maps.length)) _ at hM2
            rw [sh_eq hC hk5.1] at hM2
            exact ⟨_, _, _, _, rfl, ho7_6, hM2, Fresh.two hfho7_6 hfw7_7 (apart_lt hlho7_6 hfw7_7 (by omega)) (by omega) (by omega), eB⟩
        · simp -implicitDefEqProofs (disch := first | decide | assumption | omega) only [go_sem, RdS.len hdX sl22, RdS.idx hdX sl22, R1.intB hdX (Ext.pres eB), RdS.cells hdX, RdS.len hmX sl23, RdS.idx hmX sl23, RdS.cellB hmX (Ext.pres eB), RdS.cells hmX, BoxAt.cell hb0_0, BoxAt.cell hb0_1, BoxAt.cell hb0_2, wrap_id, bC0]
          refine op_alloc (cs := #[.int .i64 0, .slice none 0 0, .slice none 0 0]) (by kernel_rfl) ?_
          intro h7_8 e7_8 hb7_8 z7_8
          replace hb0_0 := BoxAt.ext hb0_0 e7_8
          replace hb0_1 := BoxAt.ext hb0_1 e7_8
          replace hb0_2 := BoxAt.ext hb0_2 e7_8
          have := Ext.size e7_8
          replace eB := Ext.trans eB e7_8
          have hfhb7_8 : Fresh h5_1.size [h5_1.size] := Fresh.one _
          have hlhb7_8 := one_lt (show h5_1.size < h7_8.size by omega)
          try simp (disch := decide) only [outv_some, outv_none, put_puts]
          refine plK_pres (Ext.pres e7_8) ?_
          try simp -implicitDefEqProofs (disch := first | decide | assumption | omega) only [go_sem, RdS.len hdX sl22, RdS.idx hdX sl22, R1.intB hdX (Ext.pres eB), RdS.cells hdX, RdS.len hmX sl23, RdS.idx hmX sl23, RdS.cellB hmX (Ext.pres eB), RdS.cells hmX, BoxAt.cell hb0_0, BoxAt.cell hb0_1, BoxAt.cell hb0_2, BoxAt.cell hb7_8, wrap_id, bC0]
          refine op_makeC sz22 rfl rfl (by omega) (by omega) OI 0 (fun _ => ⟨rfl, rfl⟩) ?_
          intro v7_3 h7_3 ho7_3 e7_3 hcpv7_3
          replace hb0_0 := BoxAt.ext hb0_0 e7_3
          replace hb0_1 := BoxAt.ext hb0_1 e7_3
          replace hb0_2 := BoxAt.ext hb0_2 e7_3
          replace hb7_8 := BoxAt.ext hb7_8 e7_3
          have := Ext.size e7_3
          replace eB := Ext.trans eB e7_3
          have hfho7_3 : Fresh h7_8.size [h7_8.size] := Fresh.one _
          have hlenho7_3 : (List.replicate (k).toNat (0 : Int)).length = (k).toNat := List.length_replicate
          have hlho7_3 := OS.lt ho7_3
          try simp (disch := decide) only [outv_some, outv_none, put_puts]
          refine plK_pres (Ext.pres e7_3) ?_
          try simp -implicitDefEqProofs (disch := first | decide | assumption | omega) only [go_sem, RdS.len hdX sl22, RdS.idx hdX sl22, R1.intB hdX (Ext.pres eB), RdS.cells hdX, RdS.len hmX sl23, RdS.idx hmX sl23, RdS.cellB hmX (Ext.pres eB), RdS.cells hmX, RdS.len (OS.rd ho7_3) sl22, RdS.idx (OS.rd ho7_3) sl22, R1.intN (OS.rd ho7_3), RdS.cells (OS.rd ho7_3), BoxAt.cell hb0_0, BoxAt.cell hb0_1, BoxAt.cell hb0_2, BoxAt.cell hb7_8, wrap_id, bC0]
          refine op_appendRF hcpv7_3 ho7_3 (RdS.pres hdX (Ext.pres eB)) (by first | omega | (simp; omega)) rfl ?_
          intro v7_6 h7_6 fp7_6 ho7_6 hn7_6 hs7_6 c7_6
          have hsz7_6 := c7_6.size
          have hfho7_6 : Fresh h7_8.size fp7_6 := Fresh.appd hfho7_3 (Fresh.nil h7_3.size) (by omega) (by omega) hn7_6 hs7_6
          replace hb0_0 := BoxAt.chgA hb0_0 c7_6 (apart_lt hlhb0_0 hfho7_3 (by omega))
          replace hb0_1 := BoxAt.chgA hb0_1 c7_6 (apart_lt hlhb0_1 hfho7_3 (by omega))
          replace hb0_2 := BoxAt.chgA hb0_2 c7_6 (apart_lt hlhb0_2 hfho7_3 (by omega))
          replace hb7_8 := BoxAt.chgA hb7_8 c7_6 (apart_lt hlhb7_8 hfho7_3 (by omega))
          have := c7_6.size
          replace eB := Ext.then eB c7_6 (ge_of hfho7_3 (by omega))
          have hlho7_6 := OS.lt ho7_6
          intro e7_6
          try simp (disch := decide) only [outv_some, outv_none, put_puts]
          refine plK_pres (Ext.pres e7_6) ?_
          try simp -implicitDefEqProofs (disch := first | decide | assumption | omega) only [go_sem, RdS.len hdX sl22, RdS.idx hdX sl22, R1.intB hdX (Ext.pres eB), RdS.cells hdX, RdS.len hmX sl23, RdS.idx hmX sl23, RdS.cellB hmX (Ext.pres eB), RdS.cells hmX, RdS.len (OS.rd ho7_6) sl22, RdS.idx (OS.rd ho7_6) sl22, R1.intN (OS.rd ho7_6), RdS.cells (OS.rd ho7_6), BoxAt.cell hb0_0, BoxAt.cell hb0_1, BoxAt.cell hb0_2, BoxAt.cell hb7_8, wrap_id, bC0]
          try simp -implicitDefEqProofs (disch := first | decide | assumption | omega) only [go_sem, RdS.len hdX sl22, RdS.idx hdX sl22, R1.intB hdX (Ext.pres eB), RdS.cells hdX, RdS.len hmX sl23, RdS.idx hmX sl23, RdS.cellB hmX (Ext.pres eB), RdS.cells hmX, RdS.len (OS.rd ho7_6) sl22, RdS.idx (OS.rd ho7_6) sl22, R1.intN (OS.rd ho7_6), RdS.cells (OS.rd ho7_6), BoxAt.cell hb0_0, BoxAt.cell hb0_1, BoxAt.cell hb0_2, BoxAt.cell hb7_8, wrap_id, bC0]
          refine CallA.mono (blank_ok _ _ (List.replicate (k).toNat 0 ++ X.dims) _ (OS.rd ho7_6) hbD hbL) ?_
          intro v_ h7_7
          rintro ⟨vw7_7, fw7_7, rfl, how7_7, hfw7_7, e7_7⟩
          replace ho7_6 := OS.ext ho7_6 e7_7
          replace hb0_0 := BoxAt.ext hb0_0 e7_7
          replace hb0_1 := BoxAt.ext hb0_1 e7_7
          replace hb0_2 := BoxAt.ext hb0_2 e7_7
          replace hb7_8 := BoxAt.ext hb7_8 e7_7
          have := Ext.size e7_7
          replace eB := Ext.trans eB e7_7
          have hlhow7_7 := OS.lt how7_7
          try simp (disch := decide) only [outv_some, outv_none, put_puts]
          refine plK_pres (Ext.pres e7_7) ?_
          try simp -implicitDefEqProofs (disch := first | decide | assumption | omega) only [go_sem, RdS.len hdX sl22, RdS.idx hdX sl22, R1.intB hdX (Ext.pres eB), RdS.cells hdX, RdS.len hmX sl23, RdS.idx hmX sl23, RdS.cellB hmX (Ext.pres eB), RdS.cells hmX, RdS.len (OS.rd ho7_6) sl22, RdS.idx (OS.rd ho7_6) sl22, R1.intN (OS.rd ho7_6), RdS.cells (OS.rd ho7_6), RdS.len (OS.rd how7_7) sl23, RdS.idx (OS.rd how7_7) sl23, RdS.cellN (OS.rd how7_7), RdS.cells (OS.rd how7_7), BoxAt.cell hb0_0, BoxAt.cell hb0_1, BoxAt.cell hb0_2, BoxAt.cell hb7_8, wrap_id, bC0]
          refine op_storeB (cs' := #[.int .i64 (X.p), v7_6, vw7_7]) st30 hb7_8 rfl rfl rfl (by simp) (allOne_mem (l := [.int .i64 (X.p), v7_6, vw7_7]) ⟨rfl, (OS.one ho7_6).1, (OS.one how7_7).1, trivial⟩) rfl ?_
          intro h7_9 hb7_8 c7_9
          replace ho7_6 := OS.chg ho7_6 c7_9 (apart_gt hfho7_6 hlhb7_8 (by omega))
          replace how7_7 := OS.chg how7_7 c7_9 (apart_gt hfw7_7 hlhb7_8 (by omega))
          replace hb0_0 := BoxAt.chgA hb0_0 c7_9 (apart_lt hlhb0_0 hfhb7_8 (by omega))
          replace hb0_1 := BoxAt.chgA hb0_1 c7_9 (apart_lt hlhb0_1 hfhb7_8 (by omega))
          replace hb0_2 := BoxAt.chgA hb0_2 c7_9 (apart_lt hlhb0_2 hfhb7_8 (by omega))
          have := c7_9.size
          replace eB := Ext.then eB c7_9 (ge_of hfhb7_8 (by omega))
          try simp (disch := decide) only [outv_some, outv_none, put_puts]
          refine plK_last (by decide) ?_
          try simp -implicitDefEqProofs (disch := first | decide | assumption | omega) only [go_sem, RdS.len hdX sl22, RdS.idx hdX sl22, R1.intB hdX (Ext.pres eB), RdS.cells hdX, RdS.len hmX sl23, RdS.idx hmX sl23, RdS.cellB hmX (Ext.pres eB), RdS.cells hmX, RdS.len (OS.rd ho7_6) sl22, RdS.idx (OS.rd ho7_6) sl22, R1.intN (OS.rd ho7_6), RdS.cells (OS.rd ho7_6), RdS.len (OS.rd how7_7) sl23, RdS.idx (OS.rd how7_7) sl23, RdS.cellN (OS.rd how7_7), RdS.cells (OS.rd how7_7), BoxAt.cell hb0_0, BoxAt.cell hb0_1, BoxAt.cell hb0_2, BoxAt.cell hb7_8, wrap_id, bC0]
          refine hK _ _ ?_
          clear hK K
          refine den_seq ?_
          have hl_ : (shD X k).length - 1 = X.dims.length + k.toNat - 1 := by simp [shD]; omega
          have hzs : Sh (X.dims.length + k.toNat - 1) (shA X k) (shB X k) (zblk (shD X k) ((shD X k).length - 1)) := by rw [hl_]; exact zblk_sh _ _
          have hzi : In3 X.p (X.dims.length + k.toNat - 1) (shA X k) (shB X k) (zblk (shD X k) ((shD X k).length - 1)) := fun k r c h1 h2 h3 => by rw [hl_, zblk_get _ _ h1 h2 h3]; omega
          refine den_region TTok ?_
          intro K hK
          simp -implicitDefEqProofs (disch := first | decide | assumption | omega) only [go_sem, ld30, RdS.len hdX sl22, RdS.idx hdX sl22, R1.intB hdX (Ext.pres eB), RdS.cells hdX, RdS.len hmX sl23, RdS.idx hmX sl23, RdS.cellB hmX (Ext.pres eB), RdS.cells hmX, RdS.len (OS.rd ho7_6) sl22, RdS.idx (OS.rd ho7_6) sl22, R1.intN (OS.rd ho7_6), RdS.cells (OS.rd ho7_6), RdS.len (OS.rd how7_7) sl23, RdS.idx (OS.rd how7_7) sl23, RdS.cellN (OS.rd how7_7), RdS.cells (OS.rd how7_7), BoxAt.cell hb0_0, BoxAt.cell hb0_1, BoxAt.cell hb0_2, BoxAt.cell hb7_8, wrap_id, bC0]
          try simp -implicitDefEqProofs (disch := first | decide | assumption | omega) only [go_sem, RdS.len hdX sl22, RdS.idx hdX sl22, R1.intB hdX (Ext.pres eB), RdS.cells hdX, RdS.len hmX sl23, RdS.idx hmX sl23, RdS.cellB hmX (Ext.pres eB), RdS.cells hmX, RdS.len (OS.rd ho7_6) sl22, RdS.idx (OS.rd ho7_6) sl22, R1.intN (OS.rd ho7_6), RdS.cells (OS.rd ho7_6), RdS.len (OS.rd how7_7) sl23, RdS.idx (OS.rd how7_7) sl23, RdS.cellN (OS.rd how7_7), RdS.cells (OS.rd how7_7), BoxAt.cell hb0_0, BoxAt.cell hb0_1, BoxAt.cell hb0_2, BoxAt.cell hb7_8, wrap_id, bC0]
          refine CallA.mono (each_upd (p := X.p) (L := X.dims.length + k.toNat - 1) (A := shA X k) (B := shB X k) (U := shU k) (Ot := (fun H => BoxAt H (h5_1.size) #[.int .i64 X.p, v7_6, vw7_7] 30 ∧ BoxAt H (h0_0.size) #[.int .i64 k] 2 ∧ O1 H v7_6 (shD X k) fp7_6)) hpb.1 hdX hmX ⟨how7_7, hzs, hzi, eB, hb7_8, hb0_1, ho7_6⟩ (fun H H' c o => ⟨BoxAt.chgA o.1 c (apart_lt hlhb7_8 hfw7_7 (by omega)), BoxAt.chgA o.2.1 c (apart_lt hlhb0_1 hfw7_7 (by omega)), OS.chg o.2.2 c (apart_lt hlho7_6 hfw7_7 (by omega))⟩) (ge_of hfw7_7 (by omega)) (fun a i j ha hi hj u hu => by
    rw [shU, List.mem_singleton] at hu
    subst hu
    exact sh_in hC hk5.1 ha hi hj) (fun s H a i j ha hi hj r => by
    simp only [List.append_toArray, List.cons_append, List.nil_append]
    have hin := sh_in hC hk5.1 ha hi hj
    have hnm := hC.num ha hi hj
    have ek : (((a : Int) + 1) + k - 1).toNat = a + k.toNat := by omega
    have hi3 := r.i3 _ _ _ hin.1 hin.2.1 hin.2.2
    have hr1 := r.sh.rows _ hin.1
    have hr2 := r.sh.cols _ _ hin.1 hin.2.1
    have hsl := r.sh.len
    refine (shift1_ok X.p _ _ (shD X k) s _ k _ _ _ _ _ _ H (OS.rd r.ot.2.2) r.o r.ot.1 r.ot.2.1 hfw7_7.nodup hpb hk5 (by omega) (by omega) (by rw [ek, hr1]; omega) (by rw [ek]; simp only [Int.toNat_natCast]; rw [hr2]; omega) (by rw [ek]; exact hi3) hnm).mono (fun u H' q => ⟨?_, q.2.2⟩)
    have q2 := q.2.1
    rw [ek] at q2
    exact q2)) ?_
          intro v_ h8_2
          rintro ⟨rfl, hog8_2, cg8_2⟩
          replace ho7_6 := OS.chg ho7_6 cg8_2 (apart_lt hlho7_6 hfw7_7 (by omega))
          replace hb0_0 := BoxAt.chgA hb0_0 cg8_2 (apart_lt hlhb0_0 hfw7_7 (by omega))
          replace hb0_1 := BoxAt.chgA hb0_1 cg8_2 (apart_lt hlhb0_1 hfw7_7 (by omega))
          replace hb0_2 := BoxAt.chgA hb0_2 cg8_2 (apart_lt hlhb0_2 hfw7_7 (by omega))
          replace hb7_8 := BoxAt.chgA hb7_8 cg8_2 (apart_lt hlhb7_8 hfw7_7 (by omega))
          have := cg8_2.size
          replace eB := Ext.then eB cg8_2 (ge_of hfw7_7 (by omega))
          have hlhog8_2 := hlhow7_7
          try simp -implicitDefEqProofs (disch := first | decide | assumption | omega) only [go_sem, RdS.len hdX sl22, RdS.idx hdX sl22, R1.intB hdX (Ext.pres eB), RdS.cells hdX, RdS.len hmX sl23, RdS.idx hmX sl23, RdS.cellB hmX (Ext.pres eB), RdS.cells hmX, RdS.len (OS.rd ho7_6) sl22, RdS.idx (OS.rd ho7_6) sl22, R1.intN (OS.rd ho7_6), RdS.cells (OS.rd ho7_6), RdS.len (OS.rd hog8_2) sl23, RdS.idx (OS.rd hog8_2) sl23, RdS.cellN (OS.rd hog8_2), RdS.cells (OS.rd hog8_2), BoxAt.cell hb0_0, BoxAt.cell hb0_1, BoxAt.cell hb0_2, BoxAt.cell hb7_8, wrap_id, bC0]
          refine hK _ _ ?_
          clear hK K
          refine den_seq ?_
          refine den_region TTok ?_
          intro K hK
          simp -implicitDefEqProofs (disch := first | decide | assumption | omega) only [go_sem, ld30, RdS.len hdX sl22, RdS.idx hdX sl22, R1.intB hdX (Ext.pres eB), RdS.cells hdX, RdS.len hmX sl23, RdS.idx hmX sl23, RdS.cellB hmX (Ext.pres eB), RdS.cells hmX, RdS.len (OS.rd ho7_6) sl22, RdS.idx (OS.rd ho7_6) sl22, R1.intN (OS.rd ho7_6), RdS.cells (OS.rd ho7_6), RdS.len (OS.rd hog8_2) sl23, RdS.idx (OS.rd hog8_2) sl23, RdS.cellN (OS.rd hog8_2), RdS.cells (OS.rd hog8_2), BoxAt.cell hb0_2, BoxAt.cell hb7_8, wrap_id, bC0]
          refine op_storeB (cs' := #[.int .i64 (X.p), v7_6, vw7_7]) st30 hb0_2 rfl rfl rfl (by simp) (allOne_mem (l := [.int .i64 (X.p), v7_6, vw7_7]) ⟨rfl, (OS.one ho7_6).1, (OS.one hog8_2).1, trivial⟩) rfl ?_
          intro h9_1 hb0_2 c9_1
          replace ho7_6 := OS.chg ho7_6 c9_1 (apart_gt hfho7_6 hlhb0_2 (by omega))
          replace hog8_2 := OS.chg hog8_2 c9_1 (apart_gt hfw7_7 hlhb0_2 (by omega))
          replace hb7_8 := BoxAt.chgA hb7_8 c9_1 (apart_gt hfhb7_8 hlhb0_2 (by omega))
          have := c9_1.size
          replace eB := Ext.then eB c9_1 (ge_of hfhb0_2 (by omega))
          try simp -implicitDefEqProofs (disch := first | decide | assumption | omega) only [go_sem, RdS.len hdX sl22, RdS.idx hdX sl22, R1.intB hdX (Ext.pres eB), RdS.cells hdX, RdS.len hmX sl23, RdS.idx hmX sl23, RdS.cellB hmX (Ext.pres eB), RdS.cells hmX, RdS.len (OS.rd ho7_6) sl22, RdS.idx (OS.rd ho7_6) sl22, R1.intN (OS.rd ho7_6), RdS.cells (OS.rd ho7_6), RdS.len (OS.rd hog8_2) sl23, RdS.idx (OS.rd hog8_2) sl23, RdS.cellN (OS.rd hog8_2), RdS.cells (OS.rd hog8_2), BoxAt.cell hb0_2, BoxAt.cell hb7_8, wrap_id, bC0]
          refine hK _ _ ?_
          clear hK K
          refine den_ret ?_
          simp -implicitDefEqProofs (disch := first | decide | assumption | omega) only [go_sem, RdS.len hdX sl22, RdS.idx hdX sl22, R1.intB hdX (Ext.pres eB), RdS.cells hdX, RdS.len hmX sl23, RdS.idx hmX sl23, RdS.cellB hmX (Ext.pres eB), RdS.cells hmX, RdS.len (OS.rd ho7_6) sl22, RdS.idx (OS.rd ho7_6) sl22, R1.intN (OS.rd ho7_6), RdS.cells (OS.rd ho7_6), RdS.len (OS.rd hog8_2) sl23, RdS.idx (OS.rd hog8_2) sl23, RdS.cellN (OS.rd hog8_2), RdS.cells (OS.rd hog8_2), BoxAt.cell hb0_2, BoxAt.cell hb7_8, wrap_id, bC0, resP_ct, ld30]
          have hz : shP X k = (⟨X.p, shD X k, shM X k⟩, 0) := by rw [shP, if_pos c0, if_pos c1, if_pos (by omega)]
          rw [hz]
          have hM2 := hog8_2
          change OS _ _ _ _ (applyU X.p (zblk (shD X k) ((shD X k).length - 1)) (uK (shU k) X.maps X.maps.length)) _ at hM2
          rw [sh_eq hC hk5.1] at hM2
          exact ⟨_, _, _, _, rfl, ho7_6, hM2, Fresh.two hfho7_6 hfw7_7 (apart_lt hlho7_6 hfw7_7 (by omega)) (by omega) (by omega), eB⟩

end Go.Proofs.Ytffggocjkhcgeaa
