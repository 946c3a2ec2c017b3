/-
  Walks: homology numbers.
  Conditions: each theorem's own.
-/
import Derived.Test.YtbplnadngahgaaaD7
import Derived.Test.YtbplnadngahgaaaG18
set_option linter.unusedVariables false
set_option linter.unusedSimpArgs false
namespace Go.Proofs.Ytbplnadngahgaaa
open Go
noncomputable def degC (X : Cx) (n : Int) : Int := if isC X = true then (if in3 n 0 ((X.dims.length : Int) - 1) = true then 0 else 2) else 1
theorem degC_0 {X : Cx} {n : Int} (h : degC X n = 0) : IsC X ∧ 0 ≤ n ∧ n ≤ (X.dims.length : Int) - 1 := by
  unfold degC at h
  split at h
  · rename_i hc
    split at h
    · rename_i hn; exact ⟨isC_t.1 hc, in3_iff.1 hn⟩
    · cases h
  · cases h
theorem degC_ne {X : Cx} {n : Int} (h : degC X n ≠ 0) : ∃ m : Int, degC X n = m ∧ (m = 1 ∨ m = 2) := by
  unfold degC at h ⊢
  split
  · rename_i hc
    split
    · rename_i hn; rw [if_pos hc, if_pos hn] at h; exact absurd rfl h
    · exact ⟨2, rfl, .inr rfl⟩
  · exact ⟨1, rfl, .inl rfl⟩
theorem cnt_rr {p : Int} {w : Nat} {L : List (List Int)} {l : Nat → Nat} (r : Rr p w L l) (hw : w ≤ 8) : 0 ≤ cntL cnt1 L ∧ cntL cnt1 L ≤ 64 := by
  have := cntL_bnd (ct := cnt1) (c := 8) (by omega) (xs := L) (m := 8) (fun x hx => by
    have := (r.tbl x hx).1
    simp only [cnt1]; omega) (by have := r.le_w; omega)
  exact ⟨this.1, by have := this.2; omega⟩
noncomputable def homP (X : Cx) (n : Int) : Int := ((cycP X n).length : Int) - ((bndP X n).length : Int)
theorem cyc_len {X : Cx} (hC : IsC X) (n : Int) : (cycP X n).length ≤ 8 := by
  obtain ⟨l, r⟩ := cyc_rr hC n
  have := r.le_w
  have := dimP_bnd hC n
  omega
theorem bnd_len {X : Cx} (hC : IsC X) {n : Int} (h : 0 ≤ n) : (bndP X n).length ≤ 8 := by
  obtain ⟨l, r⟩ := bnd_rr hC h
  have := r.le_w
  have := dimP_bnd hC n
  omega
theorem homP_bnd {X : Cx} (hC : IsC X) {n : Int} (h : 0 ≤ n) : -8 ≤ homP X n ∧ homP X n ≤ 8 := by
  have := cyc_len hC n
  have := bnd_len hC h
  unfold homP; omega

set_option maxRecDepth 100000 in
theorem iDeg_ok (vX : Value) (X : Cx) (n : Int) (h : Heap) (rX : RC h vX X)  : CallA Try.prog 70 #[vX, .int .i64 n] h fun v' h' => v' = .int .i64 (degC X n) ∧ Ext h h' := by
  obtain ⟨vdX, vmX, rfl, hdX, hmX⟩ := rX
  have hledX := RdS.le hdX
  have hlemX := RdS.le hmX
  refine callA_intro TTok (args := [_, _]) Try.func70 (by kernel_rfl) rfl 15 rfl (by simp) [.tmp 4] rfl ?_
  simp only [idxs, Nat.reduceAdd]
  refine den_seq ?_
  refine den_region TTok ?_
  intro K hK
  simp -implicitDefEqProofs (disch := first | decide | assumption | omega) only [go_sem, RdS.len hdX sl22, RdS.idx hdX sl22, R1.intB hdX (HPres.refl _), RdS.cells hdX, RdS.len hmX sl23, RdS.idx hmX sl23, RdS.cellB hmX (HPres.refl _), RdS.cells hmX, wrap_id]
  refine op_box (cs := #[.int .i64 (X.p), vdX, vmX]) rfl ?_
  intro h0_0 e0_0 hb0_0 z0_0
  have := Ext.size e0_0
  have eB := e0_0
  have hfhb0_0 : Fresh h.size [h.size] := Fresh.one _
  have hlhb0_0 := one_lt (show h.size < h0_0.size by omega)
  try simp -implicitDefEqProofs (disch := first | decide | assumption | omega) only [go_sem, RdS.len hdX sl22, RdS.idx hdX sl22, R1.intB hdX (Ext.pres eB), RdS.cells hdX, RdS.len hmX sl23, RdS.idx hmX sl23, RdS.cellB hmX (Ext.pres eB), RdS.cells hmX, BoxAt.cell hb0_0, wrap_id]
  refine hK _ _ ?_
  clear hK K
  refine den_seq ?_
  refine den_block ?_
  refine den_seq ?_
  refine den_region TTok ?_
  intro K hK
  simp -implicitDefEqProofs (disch := first | decide | assumption | omega) only [go_sem, ld30, RdS.len hdX sl22, RdS.idx hdX sl22, R1.intB hdX (Ext.pres eB), RdS.cells hdX, RdS.len hmX sl23, RdS.idx hmX sl23, RdS.cellB hmX (Ext.pres eB), RdS.cells hmX, BoxAt.cell hb0_0, wrap_id]
  try simp -implicitDefEqProofs (disch := first | decide | assumption | omega) only [go_sem, RdS.len hdX sl22, RdS.idx hdX sl22, R1.intB hdX (Ext.pres eB), RdS.cells hdX, RdS.len hmX sl23, RdS.idx hmX sl23, RdS.cellB hmX (Ext.pres eB), RdS.cells hmX, BoxAt.cell hb0_0, wrap_id]
  refine CallA.mono (iIs_ok _ X _ ⟨_, _, rfl, (RdS.pres hdX (Ext.pres eB)), (RdS.pres hmX (Ext.pres eB))⟩) ?_
  intro v_ h1_1
  rintro ⟨rfl, e1_1⟩
  replace hb0_0 := BoxAt.ext hb0_0 e1_1
  have := Ext.size e1_1
  replace eB := Ext.trans eB e1_1
  try simp -implicitDefEqProofs (disch := first | decide | assumption | omega) only [go_sem, RdS.len hdX sl22, RdS.idx hdX sl22, R1.intB hdX (Ext.pres eB), RdS.cells hdX, RdS.len hmX sl23, RdS.idx hmX sl23, RdS.cellB hmX (Ext.pres eB), RdS.cells hmX, BoxAt.cell hb0_0, wrap_id]
  refine hK _ _ ?_
  clear hK K
  refine den_cond rfl (fun c0 => ?_) (fun c0 => ?_)
  · try simp only [decide_eq_true_eq, decide_eq_false_iff_not, beq_iff_eq, beq_eq_false_iff_ne, bne_iff_ne, ne_eq, Bool.not_eq_true', Bool.not_eq_false', Bool.and_eq_true, Bool.or_eq_true, bne_eq_false_iff_eq, Bool.not_eq_true] at c0
    refine den_seq ?_
    refine den_region TTok ?_
    intro K hK
    simp -implicitDefEqProofs (disch := first | decide | assumption | omega) only [go_sem, RdS.len hdX sl22, RdS.idx hdX sl22, R1.intB hdX (Ext.pres eB), RdS.cells hdX, RdS.len hmX sl23, RdS.idx hmX sl23, RdS.cellB hmX (Ext.pres eB), RdS.cells hmX, wrap_id]
    refine hK _ _ ?_
    clear hK K
    refine den_ret ?_
    simp (disch := decide) only [resP_1, puts_same, puts_ne]
    exact ⟨vint (by rw [degC, if_neg (by rw [c0]; decide)]), eB⟩
  · try simp only [decide_eq_true_eq, decide_eq_false_iff_not, beq_iff_eq, beq_eq_false_iff_ne, bne_iff_ne, ne_eq, Bool.not_eq_true', Bool.not_eq_false', Bool.and_eq_true, Bool.or_eq_true, bne_eq_false_iff_eq, Bool.not_eq_true] at c0
    refine den_seq ?_
    refine den_region TTok ?_
    intro K hK
    simp -implicitDefEqProofs (disch := first | decide | assumption | omega) only [go_sem, ld30, RdS.len hdX sl22, RdS.idx hdX sl22, R1.intB hdX (Ext.pres eB), RdS.cells hdX, RdS.len hmX sl23, RdS.idx hmX sl23, RdS.cellB hmX (Ext.pres eB), RdS.cells hmX, BoxAt.cell hb0_0, wrap_id]
    try simp -implicitDefEqProofs (disch := first | decide | assumption | omega) only [go_sem, RdS.len hdX sl22, RdS.idx hdX sl22, R1.intB hdX (Ext.pres eB), RdS.cells hdX, RdS.len hmX sl23, RdS.idx hmX sl23, RdS.cellB hmX (Ext.pres eB), RdS.cells hmX, BoxAt.cell hb0_0, wrap_id]
    refine CallA.mono (top_ok _ X _ ⟨_, _, rfl, (RdS.pres hdX (Ext.pres eB)), (RdS.pres hmX (Ext.pres eB))⟩) ?_
    intro v_ h3_2
    rintro ⟨rfl, e3_2⟩
    replace hb0_0 := BoxAt.ext hb0_0 e3_2
    have := Ext.size e3_2
    replace eB := Ext.trans eB e3_2
    try simp -implicitDefEqProofs (disch := first | decide | assumption | omega) only [go_sem, RdS.len hdX sl22, RdS.idx hdX sl22, R1.intB hdX (Ext.pres eB), RdS.cells hdX, RdS.len hmX sl23, RdS.idx hmX sl23, RdS.cellB hmX (Ext.pres eB), RdS.cells hmX, BoxAt.cell hb0_0, wrap_id]
    try simp -implicitDefEqProofs (disch := first | decide | assumption | omega) only [go_sem, RdS.len hdX sl22, RdS.idx hdX sl22, R1.intB hdX (Ext.pres eB), RdS.cells hdX, RdS.len hmX sl23, RdS.idx hmX sl23, RdS.cellB hmX (Ext.pres eB), RdS.cells hmX, BoxAt.cell hb0_0, wrap_id]
    refine CallA.pure (iIn_ok _ _ _ _) ?_
    try simp -implicitDefEqProofs (disch := first | decide | assumption | omega) only [go_sem, RdS.len hdX sl22, RdS.idx hdX sl22, R1.intB hdX (Ext.pres eB), RdS.cells hdX, RdS.len hmX sl23, RdS.idx hmX sl23, RdS.cellB hmX (Ext.pres eB), RdS.cells hmX, BoxAt.cell hb0_0, wrap_id]
    refine hK _ _ ?_
    clear hK K
    refine den_cond rfl (fun c1 => ?_) (fun c1 => ?_)
    · try simp only [decide_eq_true_eq, decide_eq_false_iff_not, beq_iff_eq, beq_eq_false_iff_ne, bne_iff_ne, ne_eq, Bool.not_eq_true', Bool.not_eq_false', Bool.and_eq_true, Bool.or_eq_true, bne_eq_false_iff_eq, Bool.not_eq_true] at c1
      refine den_seq ?_
      refine den_region TTok ?_
      intro K hK
      simp -implicitDefEqProofs (disch := first | decide | assumption | omega) only [go_sem, RdS.len hdX sl22, RdS.idx hdX sl22, R1.intB hdX (Ext.pres eB), RdS.cells hdX, RdS.len hmX sl23, RdS.idx hmX sl23, RdS.cellB hmX (Ext.pres eB), RdS.cells hmX, wrap_id]
      refine hK _ _ ?_
      clear hK K
      refine den_ret ?_
      simp (disch := decide) only [resP_1, puts_same, puts_ne]
      exact ⟨vint (by rw [degC, if_pos c0, if_neg (by rw [c1]; decide)]), eB⟩
    · try simp only [decide_eq_true_eq, decide_eq_false_iff_not, beq_iff_eq, beq_eq_false_iff_ne, bne_iff_ne, ne_eq, Bool.not_eq_true', Bool.not_eq_false', Bool.and_eq_true, Bool.or_eq_true, bne_eq_false_iff_eq, Bool.not_eq_true] at c1
      refine den_skip ?_
      refine den_blk ?_
      refine den_seq ?_
      refine den_region TTok ?_
      intro K hK
      simp -implicitDefEqProofs (disch := first | decide | assumption | omega) only [go_sem, RdS.len hdX sl22, RdS.idx hdX sl22, R1.intB hdX (Ext.pres eB), RdS.cells hdX, RdS.len hmX sl23, RdS.idx hmX sl23, RdS.cellB hmX (Ext.pres eB), RdS.cells hmX, wrap_id]
      refine hK _ _ ?_
      clear hK K
      refine den_ret ?_
      simp (disch := decide) only [resP_1, puts_same, puts_ne]
      exact ⟨vint (by rw [degC, if_pos c0, if_pos c1]), eB⟩

set_option maxRecDepth 100000 in
theorem sDeg_ok (vX : Value) (X : Cx) (n : Int) (h : Heap) (rX : RC h vX X)  : CallA Try.prog 68 #[vX, .int .i64 n] h fun v' h' => v' = .int .i64 (degC X n) ∧ Ext h h' := by
  obtain ⟨vdX, vmX, rfl, hdX, hmX⟩ := rX
  have hledX := RdS.le hdX
  have hlemX := RdS.le hmX
  refine callA_intro TTok (args := [_, _]) Try.func68 (by kernel_rfl) rfl 17 rfl (by simp) [.tmp 4] rfl ?_
  simp only [idxs, Nat.reduceAdd]
  refine den_seq ?_
  refine den_region TTok ?_
  intro K hK
  simp -implicitDefEqProofs (disch := first | decide | assumption | omega) only [go_sem, RdS.len hdX sl22, RdS.idx hdX sl22, R1.intB hdX (HPres.refl _), RdS.cells hdX, RdS.len hmX sl23, RdS.idx hmX sl23, RdS.cellB hmX (HPres.refl _), RdS.cells hmX, wrap_id]
  refine op_box (cs := #[.int .i64 (X.p), vdX, vmX]) rfl ?_
  intro h0_0 e0_0 hb0_0 z0_0
  have := Ext.size e0_0
  have eB := e0_0
  have hfhb0_0 : Fresh h.size [h.size] := Fresh.one _
  have hlhb0_0 := one_lt (show h.size < h0_0.size by omega)
  try simp -implicitDefEqProofs (disch := first | decide | assumption | omega) only [go_sem, RdS.len hdX sl22, RdS.idx hdX sl22, R1.intB hdX (Ext.pres eB), RdS.cells hdX, RdS.len hmX sl23, RdS.idx hmX sl23, RdS.cellB hmX (Ext.pres eB), RdS.cells hmX, BoxAt.cell hb0_0, wrap_id]
  refine hK _ _ ?_
  clear hK K
  refine den_seq ?_
  refine den_block ?_
  refine den_seq ?_
  refine den_region TTok ?_
  intro K hK
  simp -implicitDefEqProofs (disch := first | decide | assumption | omega) only [go_sem, ld30, RdS.len hdX sl22, RdS.idx hdX sl22, R1.intB hdX (Ext.pres eB), RdS.cells hdX, RdS.len hmX sl23, RdS.idx hmX sl23, RdS.cellB hmX (Ext.pres eB), RdS.cells hmX, BoxAt.cell hb0_0, wrap_id]
  try simp -implicitDefEqProofs (disch := first | decide | assumption | omega) only [go_sem, RdS.len hdX sl22, RdS.idx hdX sl22, R1.intB hdX (Ext.pres eB), RdS.cells hdX, RdS.len hmX sl23, RdS.idx hmX sl23, RdS.cellB hmX (Ext.pres eB), RdS.cells hmX, BoxAt.cell hb0_0, wrap_id]
  refine CallA.mono (sIs_ok _ X _ ⟨_, _, rfl, (RdS.pres hdX (Ext.pres eB)), (RdS.pres hmX (Ext.pres eB))⟩) ?_
  intro v_ h1_1
  rintro ⟨rfl, e1_1⟩
  replace hb0_0 := BoxAt.ext hb0_0 e1_1
  have := Ext.size e1_1
  replace eB := Ext.trans eB e1_1
  try simp -implicitDefEqProofs (disch := first | decide | assumption | omega) only [go_sem, RdS.len hdX sl22, RdS.idx hdX sl22, R1.intB hdX (Ext.pres eB), RdS.cells hdX, RdS.len hmX sl23, RdS.idx hmX sl23, RdS.cellB hmX (Ext.pres eB), RdS.cells hmX, BoxAt.cell hb0_0, wrap_id]
  refine hK _ _ ?_
  clear hK K
  refine den_cond rfl (fun c0 => ?_) (fun c0 => ?_)
  · try simp only [decide_eq_true_eq, decide_eq_false_iff_not, beq_iff_eq, beq_eq_false_iff_ne, bne_iff_ne, ne_eq, Bool.not_eq_true', Bool.not_eq_false', Bool.and_eq_true, Bool.or_eq_true, bne_eq_false_iff_eq, Bool.not_eq_true] at c0
    refine den_seq ?_
    refine den_region TTok ?_
    intro K hK
    simp -implicitDefEqProofs (disch := first | decide | assumption | omega) only [go_sem, RdS.len hdX sl22, RdS.idx hdX sl22, R1.intB hdX (Ext.pres eB), RdS.cells hdX, RdS.len hmX sl23, RdS.idx hmX sl23, RdS.cellB hmX (Ext.pres eB), RdS.cells hmX, wrap_id]
    refine hK _ _ ?_
    clear hK K
    refine den_ret ?_
    simp (disch := decide) only [resP_1, puts_same, puts_ne]
    exact ⟨vint (by rw [degC, if_neg (by rw [c0]; decide)]), eB⟩
  · try simp only [decide_eq_true_eq, decide_eq_false_iff_not, beq_iff_eq, beq_eq_false_iff_ne, bne_iff_ne, ne_eq, Bool.not_eq_true', Bool.not_eq_false', Bool.and_eq_true, Bool.or_eq_true, bne_eq_false_iff_eq, Bool.not_eq_true] at c0
    refine den_seq ?_
    refine den_region TTok ?_
    intro K hK
    simp -implicitDefEqProofs (disch := first | decide | assumption | omega) only [go_sem, fa30_1, ld22, RdS.len hdX sl22, RdS.idx hdX sl22, R1.intB hdX (Ext.pres eB), RdS.cells hdX, RdS.len hmX sl23, RdS.idx hmX sl23, RdS.cellB hmX (Ext.pres eB), RdS.cells hmX, BoxAt.cell hb0_0, wrap_id]
    try simp -implicitDefEqProofs (disch := first | decide | assumption | omega) only [go_sem, RdS.len hdX sl22, RdS.idx hdX sl22, R1.intB hdX (Ext.pres eB), RdS.cells hdX, RdS.len hmX sl23, RdS.idx hmX sl23, RdS.cellB hmX (Ext.pres eB), RdS.cells hmX, BoxAt.cell hb0_0, wrap_id]
    refine CallA.pure (sIn_ok _ _ _ _) ?_
    try simp -implicitDefEqProofs (disch := first | decide | assumption | omega) only [go_sem, RdS.len hdX sl22, RdS.idx hdX sl22, R1.intB hdX (Ext.pres eB), RdS.cells hdX, RdS.len hmX sl23, RdS.idx hmX sl23, RdS.cellB hmX (Ext.pres eB), RdS.cells hmX, BoxAt.cell hb0_0, wrap_id]
    refine hK _ _ ?_
    clear hK K
    refine den_cond rfl (fun c1 => ?_) (fun c1 => ?_)
    · try simp only [decide_eq_true_eq, decide_eq_false_iff_not, beq_iff_eq, beq_eq_false_iff_ne, bne_iff_ne, ne_eq, Bool.not_eq_true', Bool.not_eq_false', Bool.and_eq_true, Bool.or_eq_true, bne_eq_false_iff_eq, Bool.not_eq_true] at c1
      refine den_seq ?_
      refine den_region TTok ?_
      intro K hK
      simp -implicitDefEqProofs (disch := first | decide | assumption | omega) only [go_sem, RdS.len hdX sl22, RdS.idx hdX sl22, R1.intB hdX (Ext.pres eB), RdS.cells hdX, RdS.len hmX sl23, RdS.idx hmX sl23, RdS.cellB hmX (Ext.pres eB), RdS.cells hmX, wrap_id]
      refine hK _ _ ?_
      clear hK K
      refine den_ret ?_
      simp (disch := decide) only [resP_1, puts_same, puts_ne]
      exact ⟨vint (by rw [degC, if_pos c0, if_neg (by rw [c1]; decide)]), eB⟩
    · try simp only [decide_eq_true_eq, decide_eq_false_iff_not, beq_iff_eq, beq_eq_false_iff_ne, bne_iff_ne, ne_eq, Bool.not_eq_true', Bool.not_eq_false', Bool.and_eq_true, Bool.or_eq_true, bne_eq_false_iff_eq, Bool.not_eq_true] at c1
      refine den_skip ?_
      refine den_blk ?_
      refine den_seq ?_
      refine den_region TTok ?_
      intro K hK
      simp -implicitDefEqProofs (disch := first | decide | assumption | omega) only [go_sem, RdS.len hdX sl22, RdS.idx hdX sl22, R1.intB hdX (Ext.pres eB), RdS.cells hdX, RdS.len hmX sl23, RdS.idx hmX sl23, RdS.cellB hmX (Ext.pres eB), RdS.cells hmX, wrap_id]
      refine hK _ _ ?_
      clear hK K
      refine den_ret ?_
      simp (disch := decide) only [resP_1, puts_same, puts_ne]
      exact ⟨vint (by rw [degC, if_pos c0, if_pos c1]), eB⟩

set_option maxRecDepth 100000 in
theorem sDeg8_ok (vX : Value) (X : Cx) (n : Int) (h : Heap) (rX : RC h vX X)  : CallA Try.prog 85 #[vX, .int .i64 n] h fun v' h' => v' = .int .i64 (degC X n) ∧ Ext h h' := by
  obtain ⟨vdX, vmX, rfl, hdX, hmX⟩ := rX
  have hledX := RdS.le hdX
  have hlemX := RdS.le hmX
  refine callA_intro TTok (args := [_, _]) Try.func85 (by kernel_rfl) rfl 17 rfl (by simp) [.tmp 4] rfl ?_
  simp only [idxs, Nat.reduceAdd]
  refine den_seq ?_
  refine den_region TTok ?_
  intro K hK
  simp -implicitDefEqProofs (disch := first | decide | assumption | omega) only [go_sem, RdS.len hdX sl22, RdS.idx hdX sl22, R1.intB hdX (HPres.refl _), RdS.cells hdX, RdS.len hmX sl23, RdS.idx hmX sl23, RdS.cellB hmX (HPres.refl _), RdS.cells hmX, wrap_id]
  refine op_box (cs := #[.int .i64 (X.p), vdX, vmX]) rfl ?_
  intro h0_0 e0_0 hb0_0 z0_0
  have := Ext.size e0_0
  have eB := e0_0
  have hfhb0_0 : Fresh h.size [h.size] := Fresh.one _
  have hlhb0_0 := one_lt (show h.size < h0_0.size by omega)
  try simp -implicitDefEqProofs (disch := first | decide | assumption | omega) only [go_sem, RdS.len hdX sl22, RdS.idx hdX sl22, R1.intB hdX (Ext.pres eB), RdS.cells hdX, RdS.len hmX sl23, RdS.idx hmX sl23, RdS.cellB hmX (Ext.pres eB), RdS.cells hmX, BoxAt.cell hb0_0, wrap_id]
  refine hK _ _ ?_
  clear hK K
  refine den_seq ?_
  refine den_block ?_
  refine den_seq ?_
  refine den_region TTok ?_
  intro K hK
  simp -implicitDefEqProofs (disch := first | decide | assumption | omega) only [go_sem, ld30, RdS.len hdX sl22, RdS.idx hdX sl22, R1.intB hdX (Ext.pres eB), RdS.cells hdX, RdS.len hmX sl23, RdS.idx hmX sl23, RdS.cellB hmX (Ext.pres eB), RdS.cells hmX, BoxAt.cell hb0_0, wrap_id]
  try simp -implicitDefEqProofs (disch := first | decide | assumption | omega) only [go_sem, RdS.len hdX sl22, RdS.idx hdX sl22, R1.intB hdX (Ext.pres eB), RdS.cells hdX, RdS.len hmX sl23, RdS.idx hmX sl23, RdS.cellB hmX (Ext.pres eB), RdS.cells hmX, BoxAt.cell hb0_0, wrap_id]
  refine CallA.mono (sIs_ok _ X _ ⟨_, _, rfl, (RdS.pres hdX (Ext.pres eB)), (RdS.pres hmX (Ext.pres eB))⟩) ?_
  intro v_ h1_1
  rintro ⟨rfl, e1_1⟩
  replace hb0_0 := BoxAt.ext hb0_0 e1_1
  have := Ext.size e1_1
  replace eB := Ext.trans eB e1_1
  try simp -implicitDefEqProofs (disch := first | decide | assumption | omega) only [go_sem, RdS.len hdX sl22, RdS.idx hdX sl22, R1.intB hdX (Ext.pres eB), RdS.cells hdX, RdS.len hmX sl23, RdS.idx hmX sl23, RdS.cellB hmX (Ext.pres eB), RdS.cells hmX, BoxAt.cell hb0_0, wrap_id]
  refine hK _ _ ?_
  clear hK K
  refine den_cond rfl (fun c0 => ?_) (fun c0 => ?_)
  · try simp only [decide_eq_true_eq, decide_eq_false_iff_not, beq_iff_eq, beq_eq_false_iff_ne, bne_iff_ne, ne_eq, Bool.not_eq_true', Bool.not_eq_false', Bool.and_eq_true, Bool.or_eq_true, bne_eq_false_iff_eq, Bool.not_eq_true] at c0
    refine den_seq ?_
    refine den_region TTok ?_
    intro K hK
    simp -implicitDefEqProofs (disch := first | decide | assumption | omega) only [go_sem, RdS.len hdX sl22, RdS.idx hdX sl22, R1.intB hdX (Ext.pres eB), RdS.cells hdX, RdS.len hmX sl23, RdS.idx hmX sl23, RdS.cellB hmX (Ext.pres eB), RdS.cells hmX, wrap_id]
    refine hK _ _ ?_
    clear hK K
    refine den_ret ?_
    simp (disch := decide) only [resP_1, puts_same, puts_ne]
    exact ⟨vint (by rw [degC, if_neg (by rw [c0]; decide)]), eB⟩
  · try simp only [decide_eq_true_eq, decide_eq_false_iff_not, beq_iff_eq, beq_eq_false_iff_ne, bne_iff_ne, ne_eq, Bool.not_eq_true', Bool.not_eq_false', Bool.and_eq_true, Bool.or_eq_true, bne_eq_false_iff_eq, Bool.not_eq_true] at c0
    refine den_seq ?_
    refine den_region TTok ?_
    intro K hK
    simp -implicitDefEqProofs (disch := first | decide | assumption | omega) only [go_sem, fa30_1, ld22, RdS.len hdX sl22, RdS.idx hdX sl22, R1.intB hdX (Ext.pres eB), RdS.cells hdX, RdS.len hmX sl23, RdS.idx hmX sl23, RdS.cellB hmX (Ext.pres eB), RdS.cells hmX, BoxAt.cell hb0_0, wrap_id]
    try simp -implicitDefEqProofs (disch := first | decide | assumption | omega) only [go_sem, RdS.len hdX sl22, RdS.idx hdX sl22, R1.intB hdX (Ext.pres eB), RdS.cells hdX, RdS.len hmX sl23, RdS.idx hmX sl23, RdS.cellB hmX (Ext.pres eB), RdS.cells hmX, BoxAt.cell hb0_0, wrap_id]
    refine CallA.pure (sIn_ok _ _ _ _) ?_
    try simp -implicitDefEqProofs (disch := first | decide | assumption | omega) only [go_sem, RdS.len hdX sl22, RdS.idx hdX sl22, R1.intB hdX (Ext.pres eB), RdS.cells hdX, RdS.len hmX sl23, RdS.idx hmX sl23, RdS.cellB hmX (Ext.pres eB), RdS.cells hmX, BoxAt.cell hb0_0, wrap_id]
    refine hK _ _ ?_
    clear hK K
    refine den_cond rfl (fun c1 => ?_) (fun c1 => ?_)
    · try simp only [decide_eq_true_eq, decide_eq_false_iff_not, beq_iff_eq, beq_eq_false_iff_ne, bne_iff_ne, ne_eq, Bool.not_eq_true', Bool.not_eq_false', Bool.and_eq_true, Bool.or_eq_true, bne_eq_false_iff_eq, Bool.not_eq_true] at c1
      refine den_seq ?_
      refine den_region TTok ?_
      intro K hK
      simp -implicitDefEqProofs (disch := first | decide | assumption | omega) only [go_sem, RdS.len hdX sl22, RdS.idx hdX sl22, R1.intB hdX (Ext.pres eB), RdS.cells hdX, RdS.len hmX sl23, RdS.idx hmX sl23, RdS.cellB hmX (Ext.pres eB), RdS.cells hmX, wrap_id]
      refine hK _ _ ?_
      clear hK K
      refine den_ret ?_
      simp (disch := decide) only [resP_1, puts_same, puts_ne]
      exact ⟨vint (by rw [degC, if_pos c0, if_neg (by rw [c1]; decide)]), eB⟩
    · try simp only [decide_eq_true_eq, decide_eq_false_iff_not, beq_iff_eq, beq_eq_false_iff_ne, bne_iff_ne, ne_eq, Bool.not_eq_true', Bool.not_eq_false', Bool.and_eq_true, Bool.or_eq_true, bne_eq_false_iff_eq, Bool.not_eq_true] at c1
      refine den_skip ?_
      refine den_blk ?_
      refine den_seq ?_
      refine den_region TTok ?_
      intro K hK
      simp -implicitDefEqProofs (disch := first | decide | assumption | omega) only [go_sem, RdS.len hdX sl22, RdS.idx hdX sl22, R1.intB hdX (Ext.pres eB), RdS.cells hdX, RdS.len hmX sl23, RdS.idx hmX sl23, RdS.cellB hmX (Ext.pres eB), RdS.cells hmX, wrap_id]
      refine hK _ _ ?_
      clear hK K
      refine den_ret ?_
      simp (disch := decide) only [resP_1, puts_same, puts_ne]
      exact ⟨vint (by rw [degC, if_pos c0, if_pos c1]), eB⟩

set_option maxRecDepth 100000 in
theorem iHom_ok (vX : Value) (X : Cx) (n : Int) (h : Heap) (rX : RC h vX X) (hC : IsC X) (hn : 0 ≤ n ∧ n ≤ 1000) : CallA Try.prog 73 #[vX, .int .i64 n] h fun v' h' => v' = .int .i64 (homP X n) ∧ Ext h h' := by
  obtain ⟨vdX, vmX, rfl, hdX, hmX⟩ := rX
  have hledX := RdS.le hdX
  have hlemX := RdS.le hmX
  have hCx := hC
  have hcl_ := cyc_len hC n
  have hbl_ := bnd_len hC hn.1
  refine callA_intro TTok (args := [_, _]) Try.func73 (by kernel_rfl) rfl 14 rfl (by simp) [.tmp 4] rfl ?_
  simp only [idxs, Nat.reduceAdd]
  refine den_seq ?_
  refine den_region TTok ?_
  intro K hK
  simp -implicitDefEqProofs (disch := first | decide | assumption | omega) only [go_sem, RdS.len hdX sl22, RdS.idx hdX sl22, R1.intB hdX (HPres.refl _), RdS.cells hdX, RdS.len hmX sl23, RdS.idx hmX sl23, RdS.cellB hmX (HPres.refl _), RdS.cells hmX, wrap_id]
  refine op_box (cs := #[.int .i64 (X.p), vdX, vmX]) rfl ?_
  intro h0_0 e0_0 hb0_0 z0_0
  have := Ext.size e0_0
  have eB := e0_0
  have hfhb0_0 : Fresh h.size [h.size] := Fresh.one _
  have hlhb0_0 := one_lt (show h.size < h0_0.size by omega)
  try simp -implicitDefEqProofs (disch := first | decide | assumption | omega) only [go_sem, RdS.len hdX sl22, RdS.idx hdX sl22, R1.intB hdX (Ext.pres eB), RdS.cells hdX, RdS.len hmX sl23, RdS.idx hmX sl23, RdS.cellB hmX (Ext.pres eB), RdS.cells hmX, BoxAt.cell hb0_0, wrap_id]
  refine hK _ _ ?_
  clear hK K
  refine den_seq ?_
  refine den_draw TTok mixed [] [(0, true), (1, true), (4, true), (5, true), (2, false), (3, false), (6, false), (7, false), (8, true), (9, true)] (by kernel_rfl) ?_
  intro K hK
  simp -implicitDefEqProofs (disch := first | decide | assumption | omega) only [go_sem, ld30, RdS.len hdX sl22, RdS.idx hdX sl22, R1.intB hdX (Ext.pres eB), RdS.cells hdX, RdS.len hmX sl23, RdS.idx hmX sl23, RdS.cellB hmX (Ext.pres eB), RdS.cells hmX, BoxAt.cell hb0_0, wrap_id]
  try simp -implicitDefEqProofs (disch := first | decide | assumption | omega) only [go_sem, RdS.len hdX sl22, RdS.idx hdX sl22, R1.intB hdX (Ext.pres eB), RdS.cells hdX, RdS.len hmX sl23, RdS.idx hmX sl23, RdS.cellB hmX (Ext.pres eB), RdS.cells hmX, BoxAt.cell hb0_0, wrap_id]
  refine CallA.mono (iCyc_ok _ X n _ ⟨_, _, rfl, (RdS.pres hdX (Ext.pres eB)), (RdS.pres hmX (Ext.pres eB))⟩ hCx (by omega)) ?_
  intro vw1_2_0 h1_2
  rintro ⟨zvw1_2_0, fw1_2_0, rfl, how1_2_0, hfw1_2_0, e1_2⟩
  replace hb0_0 := BoxAt.ext hb0_0 e1_2
  have := Ext.size e1_2
  replace eB := Ext.trans eB e1_2
  have hlhow1_2_0 := OS.lt how1_2_0
  try simp (disch := decide) only [outv_some, outv_none, put_puts]
  refine plK_pres (Ext.pres e1_2) ?_
  try simp -implicitDefEqProofs (disch := first | decide | assumption | omega) only [go_sem, RdS.len hdX sl22, RdS.idx hdX sl22, R1.intB hdX (Ext.pres eB), RdS.cells hdX, RdS.len hmX sl23, RdS.idx hmX sl23, RdS.cellB hmX (Ext.pres eB), RdS.cells hmX, RdS.len (OS.rd how1_2_0) sl36, RdS.idx (OS.rd how1_2_0) sl36, RdS.cellN (OS.rd how1_2_0), RdS.cells (OS.rd how1_2_0), BoxAt.cell hb0_0, wrap_id]
  try simp -implicitDefEqProofs (disch := first | decide | assumption | omega) only [go_sem, RdS.len hdX sl22, RdS.idx hdX sl22, R1.intB hdX (Ext.pres eB), RdS.cells hdX, RdS.len hmX sl23, RdS.idx hmX sl23, RdS.cellB hmX (Ext.pres eB), RdS.cells hmX, RdS.len (OS.rd how1_2_0) sl36, RdS.idx (OS.rd how1_2_0) sl36, RdS.cellN (OS.rd how1_2_0), RdS.cells (OS.rd how1_2_0), BoxAt.cell hb0_0, wrap_id]
  refine CallA.pure (size2_ok _ _ _ (OS.rd how1_2_0)) ?_
  try simp -implicitDefEqProofs (disch := first | decide | assumption | omega) only [go_sem, RdS.len hdX sl22, RdS.idx hdX sl22, R1.intB hdX (Ext.pres eB), RdS.cells hdX, RdS.len hmX sl23, RdS.idx hmX sl23, RdS.cellB hmX (Ext.pres eB), RdS.cells hmX, RdS.len (OS.rd how1_2_0) sl36, RdS.idx (OS.rd how1_2_0) sl36, RdS.cellN (OS.rd how1_2_0), RdS.cells (OS.rd how1_2_0), BoxAt.cell hb0_0, wrap_id]
  try simp -implicitDefEqProofs (disch := first | decide | assumption | omega) only [go_sem, RdS.len hdX sl22, RdS.idx hdX sl22, R1.intB hdX (Ext.pres eB), RdS.cells hdX, RdS.len hmX sl23, RdS.idx hmX sl23, RdS.cellB hmX (Ext.pres eB), RdS.cells hmX, RdS.len (OS.rd how1_2_0) sl36, RdS.idx (OS.rd how1_2_0) sl36, RdS.cellN (OS.rd how1_2_0), RdS.cells (OS.rd how1_2_0), BoxAt.cell hb0_0, wrap_id]
  refine CallA.mono (iBnd_ok _ X n _ ⟨_, _, rfl, (RdS.pres hdX (Ext.pres eB)), (RdS.pres hmX (Ext.pres eB))⟩ hCx (by omega)) ?_
  intro vw1_6_0 h1_6
  rintro ⟨zvw1_6_0, fw1_6_0, rfl, how1_6_0, hfw1_6_0, e1_6⟩
  replace how1_2_0 := OS.ext how1_2_0 e1_6
  replace hb0_0 := BoxAt.ext hb0_0 e1_6
  have := Ext.size e1_6
  replace eB := Ext.trans eB e1_6
  have hlhow1_6_0 := OS.lt how1_6_0
  try simp (disch := decide) only [outv_some, outv_none, put_puts]
  refine plK_pres (Ext.pres e1_6) ?_
  try simp -implicitDefEqProofs (disch := first | decide | assumption | omega) only [go_sem, RdS.len hdX sl22, RdS.idx hdX sl22, R1.intB hdX (Ext.pres eB), RdS.cells hdX, RdS.len hmX sl23, RdS.idx hmX sl23, RdS.cellB hmX (Ext.pres eB), RdS.cells hmX, RdS.len (OS.rd how1_2_0) sl36, RdS.idx (OS.rd how1_2_0) sl36, RdS.cellN (OS.rd how1_2_0), RdS.cells (OS.rd how1_2_0), RdS.len (OS.rd how1_6_0) sl36, RdS.idx (OS.rd how1_6_0) sl36, RdS.cellN (OS.rd how1_6_0), RdS.cells (OS.rd how1_6_0), BoxAt.cell hb0_0, wrap_id]
  try simp -implicitDefEqProofs (disch := first | decide | assumption | omega) only [go_sem, RdS.len hdX sl22, RdS.idx hdX sl22, R1.intB hdX (Ext.pres eB), RdS.cells hdX, RdS.len hmX sl23, RdS.idx hmX sl23, RdS.cellB hmX (Ext.pres eB), RdS.cells hmX, RdS.len (OS.rd how1_2_0) sl36, RdS.idx (OS.rd how1_2_0) sl36, RdS.cellN (OS.rd how1_2_0), RdS.cells (OS.rd how1_2_0), RdS.len (OS.rd how1_6_0) sl36, RdS.idx (OS.rd how1_6_0) sl36, RdS.cellN (OS.rd how1_6_0), RdS.cells (OS.rd how1_6_0), BoxAt.cell hb0_0, wrap_id]
  refine CallA.pure (size2_ok _ _ _ (OS.rd how1_6_0)) ?_
  try simp -implicitDefEqProofs (disch := first | decide | assumption | omega) only [go_sem, RdS.len hdX sl22, RdS.idx hdX sl22, R1.intB hdX (Ext.pres eB), RdS.cells hdX, RdS.len hmX sl23, RdS.idx hmX sl23, RdS.cellB hmX (Ext.pres eB), RdS.cells hmX, RdS.len (OS.rd how1_2_0) sl36, RdS.idx (OS.rd how1_2_0) sl36, RdS.cellN (OS.rd how1_2_0), RdS.cells (OS.rd how1_2_0), RdS.len (OS.rd how1_6_0) sl36, RdS.idx (OS.rd how1_6_0) sl36, RdS.cellN (OS.rd how1_6_0), RdS.cells (OS.rd how1_6_0), BoxAt.cell hb0_0, wrap_id]
  refine hK _ _ ?_
  clear hK K
  refine den_ret ?_
  simp (disch := decide) only [resP_1, puts_same, puts_ne]
  exact ⟨by first | rfl | trivial, eB⟩

set_option maxRecDepth 100000 in
theorem sHom_ok (vX : Value) (X : Cx) (n : Int) (h : Heap) (rX : RC h vX X) (hC : IsC X) (hn : 0 ≤ n ∧ n ≤ 1000) : CallA Try.prog 72 #[vX, .int .i64 n] h fun v' h' => v' = .int .i64 (homP X n) ∧ Ext h h' := by
  obtain ⟨vdX, vmX, rfl, hdX, hmX⟩ := rX
  have hledX := RdS.le hdX
  have hlemX := RdS.le hmX
  have hCx := hC
  have hcl_ := cyc_len hC n
  have hbl_ := bnd_len hC hn.1
  refine callA_intro TTok (args := [_, _]) Try.func72 (by kernel_rfl) rfl 14 rfl (by simp) [.tmp 4] rfl ?_
  simp only [idxs, Nat.reduceAdd]
  refine den_seq ?_
  refine den_region TTok ?_
  intro K hK
  simp -implicitDefEqProofs (disch := first | decide | assumption | omega) only [go_sem, RdS.len hdX sl22, RdS.idx hdX sl22, R1.intB hdX (HPres.refl _), RdS.cells hdX, RdS.len hmX sl23, RdS.idx hmX sl23, RdS.cellB hmX (HPres.refl _), RdS.cells hmX, wrap_id]
  refine op_box (cs := #[.int .i64 (X.p), vdX, vmX]) rfl ?_
  intro h0_0 e0_0 hb0_0 z0_0
  have := Ext.size e0_0
  have eB := e0_0
  have hfhb0_0 : Fresh h.size [h.size] := Fresh.one _
  have hlhb0_0 := one_lt (show h.size < h0_0.size by omega)
  try simp -implicitDefEqProofs (disch := first | decide | assumption | omega) only [go_sem, RdS.len hdX sl22, RdS.idx hdX sl22, R1.intB hdX (Ext.pres eB), RdS.cells hdX, RdS.len hmX sl23, RdS.idx hmX sl23, RdS.cellB hmX (Ext.pres eB), RdS.cells hmX, BoxAt.cell hb0_0, wrap_id]
  refine hK _ _ ?_
  clear hK K
  refine den_seq ?_
  refine den_draw TTok mixed [] [(0, true), (1, true), (4, true), (5, true), (2, false), (3, true), (6, false), (7, true), (8, true), (9, true)] (by kernel_rfl) ?_
  intro K hK
  simp -implicitDefEqProofs (disch := first | decide | assumption | omega) only [go_sem, ld30, RdS.len hdX sl22, RdS.idx hdX sl22, R1.intB hdX (Ext.pres eB), RdS.cells hdX, RdS.len hmX sl23, RdS.idx hmX sl23, RdS.cellB hmX (Ext.pres eB), RdS.cells hmX, BoxAt.cell hb0_0, wrap_id]
  try simp -implicitDefEqProofs (disch := first | decide | assumption | omega) only [go_sem, RdS.len hdX sl22, RdS.idx hdX sl22, R1.intB hdX (Ext.pres eB), RdS.cells hdX, RdS.len hmX sl23, RdS.idx hmX sl23, RdS.cellB hmX (Ext.pres eB), RdS.cells hmX, BoxAt.cell hb0_0, wrap_id]
  refine CallA.mono (sCyc_ok _ X n _ ⟨_, _, rfl, (RdS.pres hdX (Ext.pres eB)), (RdS.pres hmX (Ext.pres eB))⟩ hCx (by omega)) ?_
  intro vw1_2_0 h1_2
  rintro ⟨zvw1_2_0, fw1_2_0, rfl, how1_2_0, hfw1_2_0, e1_2⟩
  replace hb0_0 := BoxAt.ext hb0_0 e1_2
  have := Ext.size e1_2
  replace eB := Ext.trans eB e1_2
  have hlhow1_2_0 := OS.lt how1_2_0
  try simp (disch := decide) only [outv_some, outv_none, put_puts]
  refine plK_pres (Ext.pres e1_2) ?_
  try simp -implicitDefEqProofs (disch := first | decide | assumption | omega) only [go_sem, RdS.len hdX sl22, RdS.idx hdX sl22, R1.intB hdX (Ext.pres eB), RdS.cells hdX, RdS.len hmX sl23, RdS.idx hmX sl23, RdS.cellB hmX (Ext.pres eB), RdS.cells hmX, RdS.len (OS.rd how1_2_0) sl36, RdS.idx (OS.rd how1_2_0) sl36, RdS.cellN (OS.rd how1_2_0), RdS.cells (OS.rd how1_2_0), BoxAt.cell hb0_0, wrap_id]
  try simp -implicitDefEqProofs (disch := first | decide | assumption | omega) only [go_sem, RdS.len hdX sl22, RdS.idx hdX sl22, R1.intB hdX (Ext.pres eB), RdS.cells hdX, RdS.len hmX sl23, RdS.idx hmX sl23, RdS.cellB hmX (Ext.pres eB), RdS.cells hmX, RdS.len (OS.rd how1_2_0) sl36, RdS.idx (OS.rd how1_2_0) sl36, RdS.cellN (OS.rd how1_2_0), RdS.cells (OS.rd how1_2_0), BoxAt.cell hb0_0, wrap_id]
  refine CallA.mono (sBnd_ok _ X n _ ⟨_, _, rfl, (RdS.pres hdX (Ext.pres eB)), (RdS.pres hmX (Ext.pres eB))⟩ hCx (by omega)) ?_
  intro vw1_6_0 h1_6
  rintro ⟨zvw1_6_0, fw1_6_0, rfl, how1_6_0, hfw1_6_0, e1_6⟩
  replace how1_2_0 := OS.ext how1_2_0 e1_6
  replace hb0_0 := BoxAt.ext hb0_0 e1_6
  have := Ext.size e1_6
  replace eB := Ext.trans eB e1_6
  have hlhow1_6_0 := OS.lt how1_6_0
  try simp (disch := decide) only [outv_some, outv_none, put_puts]
  refine plK_pres (Ext.pres e1_6) ?_
  try simp -implicitDefEqProofs (disch := first | decide | assumption | omega) only [go_sem, RdS.len hdX sl22, RdS.idx hdX sl22, R1.intB hdX (Ext.pres eB), RdS.cells hdX, RdS.len hmX sl23, RdS.idx hmX sl23, RdS.cellB hmX (Ext.pres eB), RdS.cells hmX, RdS.len (OS.rd how1_2_0) sl36, RdS.idx (OS.rd how1_2_0) sl36, RdS.cellN (OS.rd how1_2_0), RdS.cells (OS.rd how1_2_0), RdS.len (OS.rd how1_6_0) sl36, RdS.idx (OS.rd how1_6_0) sl36, RdS.cellN (OS.rd how1_6_0), RdS.cells (OS.rd how1_6_0), BoxAt.cell hb0_0, wrap_id]
  refine hK _ _ ?_
  clear hK K
  refine den_ret ?_
  simp (disch := decide) only [resP_1, puts_same, puts_ne]
  exact ⟨by first | rfl | trivial, eB⟩

noncomputable def cycR (X : Cx) (n : Int) : List (List Int) × Int := if degC X n = 0 then (cycP X n, 0) else ([], degC X n)
theorem cycR_n {X : Cx} {n : Int} (h : degC X n ≠ 0) : cycR X n = ([], degC X n) := by rw [cycR, if_neg h]
theorem cycR_y {X : Cx} {n : Int} (h : degC X n = 0) : cycR X n = (cycP X n, 0) := by rw [cycR, if_pos h]
noncomputable def bndR (X : Cx) (n : Int) : List (List Int) × Int := if degC X n = 0 then (bndP X n, 0) else ([], degC X n)
theorem bndR_n {X : Cx} {n : Int} (h : degC X n ≠ 0) : bndR X n = ([], degC X n) := by rw [bndR, if_neg h]
theorem bndR_y {X : Cx} {n : Int} (h : degC X n = 0) : bndR X n = (bndP X n, 0) := by rw [bndR, if_pos h]
theorem cnt_cyc (X : Cx) (n : Int) : 0 ≤ cntL cnt1 (cycR X n).1 ∧ cntL cnt1 (cycR X n).1 ≤ 64 := by
  by_cases h : degC X n = 0
  · obtain ⟨hC, h0, h1⟩ := degC_0 h
    obtain ⟨l, r⟩ := cyc_rr hC n
    rw [cycR_y h]; exact cnt_rr r (by have := dimP_bnd hC n; omega)
  · rw [cycR_n h]; exact ⟨Int.le_refl _, by show (0 : Int) ≤ _; decide⟩
theorem cnt_bnd (X : Cx) (n : Int) : 0 ≤ cntL cnt1 (bndR X n).1 ∧ cntL cnt1 (bndR X n).1 ≤ 64 := by
  by_cases h : degC X n = 0
  · obtain ⟨hC, h0, h1⟩ := degC_0 h
    obtain ⟨l, r⟩ := bnd_rr hC h0
    rw [bndR_y h]; exact cnt_rr r (by have := dimP_bnd hC n; omega)
  · rw [bndR_n h]; exact ⟨Int.le_refl _, by show (0 : Int) ≤ _; decide⟩

set_option maxRecDepth 100000 in
theorem iCO_ok (vX : Value) (X : Cx) (n : Int) (h : Heap) (rX : RC h vX X)  : CallA Try.prog 39 #[vX, .int .i64 n] h fun v' h' => ∃ w0 f0, v' = .tuple #[w0, .int .i64 ((cycR X n).2)] ∧ O2 h' w0 ((cycR X n).1) f0 ∧ Fresh h.size f0 ∧ Ext h h' := by
  obtain ⟨vdX, vmX, rfl, hdX, hmX⟩ := rX
  have hledX := RdS.le hdX
  have hlemX := RdS.le hmX
  refine callA_intro TTok (args := [_, _]) Try.func39 (by kernel_rfl) rfl 16 rfl (by simp) [.tmp 4, .tmp 5] rfl ?_
  simp only [idxs, Nat.reduceAdd]
  refine den_seq ?_
  refine den_region TTok ?_
  intro K hK
  simp -implicitDefEqProofs (disch := first | decide | assumption | omega) only [go_sem, RdS.len hdX sl22, RdS.idx hdX sl22, R1.intB hdX (HPres.refl _), RdS.cells hdX, RdS.len hmX sl23, RdS.idx hmX sl23, RdS.cellB hmX (HPres.refl _), RdS.cells hmX, wrap_id]
  refine op_box (cs := #[.int .i64 (X.p), vdX, vmX]) rfl ?_
  intro h0_0 e0_0 hb0_0 z0_0
  have := Ext.size e0_0
  have eB := e0_0
  have hfhb0_0 : Fresh h.size [h.size] := Fresh.one _
  have hlhb0_0 := one_lt (show h.size < h0_0.size by omega)
  try simp -implicitDefEqProofs (disch := first | decide | assumption | omega) only [go_sem, RdS.len hdX sl22, RdS.idx hdX sl22, R1.intB hdX (Ext.pres eB), RdS.cells hdX, RdS.len hmX sl23, RdS.idx hmX sl23, RdS.cellB hmX (Ext.pres eB), RdS.cells hmX, BoxAt.cell hb0_0, wrap_id]
  refine hK _ _ ?_
  clear hK K
  refine den_seq ?_
  refine den_seq ?_
  refine den_region TTok ?_
  intro K hK
  simp -implicitDefEqProofs (disch := first | decide | assumption | omega) only [go_sem, ld30, RdS.len hdX sl22, RdS.idx hdX sl22, R1.intB hdX (Ext.pres eB), RdS.cells hdX, RdS.len hmX sl23, RdS.idx hmX sl23, RdS.cellB hmX (Ext.pres eB), RdS.cells hmX, BoxAt.cell hb0_0, wrap_id]
  try simp -implicitDefEqProofs (disch := first | decide | assumption | omega) only [go_sem, RdS.len hdX sl22, RdS.idx hdX sl22, R1.intB hdX (Ext.pres eB), RdS.cells hdX, RdS.len hmX sl23, RdS.idx hmX sl23, RdS.cellB hmX (Ext.pres eB), RdS.cells hmX, BoxAt.cell hb0_0, wrap_id]
  refine CallA.mono (iDeg_ok _ X n _ ⟨_, _, rfl, (RdS.pres hdX (Ext.pres eB)), (RdS.pres hmX (Ext.pres eB))⟩ ) ?_
  intro v_ h1_2
  rintro ⟨rfl, e1_2⟩
  replace hb0_0 := BoxAt.ext hb0_0 e1_2
  have := Ext.size e1_2
  replace eB := Ext.trans eB e1_2
  try simp -implicitDefEqProofs (disch := first | decide | assumption | omega) only [go_sem, RdS.len hdX sl22, RdS.idx hdX sl22, R1.intB hdX (Ext.pres eB), RdS.cells hdX, RdS.len hmX sl23, RdS.idx hmX sl23, RdS.cellB hmX (Ext.pres eB), RdS.cells hmX, BoxAt.cell hb0_0, wrap_id]
  refine hK _ _ ?_
  clear hK K
  refine den_seq ?_
  refine den_region TTok ?_
  intro K hK
  simp -implicitDefEqProofs (disch := first | decide | assumption | omega) only [go_sem, RdS.len hdX sl22, RdS.idx hdX sl22, R1.intB hdX (Ext.pres eB), RdS.cells hdX, RdS.len hmX sl23, RdS.idx hmX sl23, RdS.cellB hmX (Ext.pres eB), RdS.cells hmX, BoxAt.cell hb0_0, wrap_id]
  refine hK _ _ ?_
  clear hK K
  refine den_cond rfl (fun c0 => ?_) (fun c0 => ?_)
  · try simp only [decide_eq_true_eq, decide_eq_false_iff_not, beq_iff_eq, beq_eq_false_iff_ne, bne_iff_ne, ne_eq, Bool.not_eq_true', Bool.not_eq_false', Bool.and_eq_true, Bool.or_eq_true, bne_eq_false_iff_eq] at c0
    refine den_seq ?_
    refine den_region TTok ?_
    intro K hK
    simp -implicitDefEqProofs (disch := first | decide | assumption | omega) only [go_sem, RdS.len hdX sl22, RdS.idx hdX sl22, R1.intB hdX (Ext.pres eB), RdS.cells hdX, RdS.len hmX sl23, RdS.idx hmX sl23, RdS.cellB hmX (Ext.pres eB), RdS.cells hmX, wrap_id]
    refine hK _ _ ?_
    clear hK K
    refine den_ret ?_
    simp (disch := decide) only [resP_2, puts_same, puts_ne]
    rw [cycR_n c0]
    exact ⟨.slice none 0 0, [], rfl, OS.nil, Fresh.nil _, eB⟩
  · try simp only [decide_eq_true_eq, decide_eq_false_iff_not, beq_iff_eq, beq_eq_false_iff_ne, bne_iff_ne, ne_eq, Bool.not_eq_true', Bool.not_eq_false', Bool.and_eq_true, Bool.or_eq_true, bne_eq_false_iff_eq] at c0
    obtain ⟨hCx, hn0, hn1⟩ := degC_0 c0
    have hlX := hCx.len
    refine den_skip ?_
    refine den_seq ?_
    refine den_region TTok ?_
    intro K hK
    simp -implicitDefEqProofs (disch := first | decide | assumption | omega) only [go_sem, ld30, RdS.len hdX sl22, RdS.idx hdX sl22, R1.intB hdX (Ext.pres eB), RdS.cells hdX, RdS.len hmX sl23, RdS.idx hmX sl23, RdS.cellB hmX (Ext.pres eB), RdS.cells hmX, BoxAt.cell hb0_0, wrap_id]
    try simp -implicitDefEqProofs (disch := first | decide | assumption | omega) only [go_sem, RdS.len hdX sl22, RdS.idx hdX sl22, R1.intB hdX (Ext.pres eB), RdS.cells hdX, RdS.len hmX sl23, RdS.idx hmX sl23, RdS.cellB hmX (Ext.pres eB), RdS.cells hmX, BoxAt.cell hb0_0, wrap_id]
    refine CallA.mono (iCyc_ok _ X n _ ⟨_, _, rfl, (RdS.pres hdX (Ext.pres eB)), (RdS.pres hmX (Ext.pres eB))⟩ hCx (by omega)) ?_
    intro vw4_2_0 h4_2
    rintro ⟨zvw4_2_0, fw4_2_0, rfl, how4_2_0, hfw4_2_0, e4_2⟩
    replace hb0_0 := BoxAt.ext hb0_0 e4_2
    have := Ext.size e4_2
    replace eB := Ext.trans eB e4_2
    have hlhow4_2_0 := OS.lt how4_2_0
    try simp -implicitDefEqProofs (disch := first | decide | assumption | omega) only [go_sem, RdS.len hdX sl22, RdS.idx hdX sl22, R1.intB hdX (Ext.pres eB), RdS.cells hdX, RdS.len hmX sl23, RdS.idx hmX sl23, RdS.cellB hmX (Ext.pres eB), RdS.cells hmX, RdS.len (OS.rd how4_2_0) sl36, RdS.idx (OS.rd how4_2_0) sl36, RdS.cellN (OS.rd how4_2_0), RdS.cells (OS.rd how4_2_0), BoxAt.cell hb0_0, wrap_id]
    refine hK _ _ ?_
    clear hK K
    refine den_ret ?_
    simp (disch := decide) only [resP_2, puts_same, puts_ne]
    rw [cycR_y c0]
    exact ⟨_, _, rfl, how4_2_0, hfw4_2_0.mono (by omega), eB⟩

set_option maxRecDepth 100000 in
theorem sCO_ok (vX : Value) (X : Cx) (n : Int) (h : Heap) (rX : RC h vX X)  : CallA Try.prog 38 #[vX, .int .i64 n] h fun v' h' => ∃ w0 f0, v' = .tuple #[w0, .int .i64 ((cycR X n).2)] ∧ O2 h' w0 ((cycR X n).1) f0 ∧ Fresh h.size f0 ∧ Ext h h' := by
  obtain ⟨vdX, vmX, rfl, hdX, hmX⟩ := rX
  have hledX := RdS.le hdX
  have hlemX := RdS.le hmX
  refine callA_intro TTok (args := [_, _]) Try.func38 (by kernel_rfl) rfl 16 rfl (by simp) [.tmp 4, .tmp 5] rfl ?_
  simp only [idxs, Nat.reduceAdd]
  refine den_seq ?_
  refine den_region TTok ?_
  intro K hK
  simp -implicitDefEqProofs (disch := first | decide | assumption | omega) only [go_sem, RdS.len hdX sl22, RdS.idx hdX sl22, R1.intB hdX (HPres.refl _), RdS.cells hdX, RdS.len hmX sl23, RdS.idx hmX sl23, RdS.cellB hmX (HPres.refl _), RdS.cells hmX, wrap_id]
  refine op_box (cs := #[.int .i64 (X.p), vdX, vmX]) rfl ?_
  intro h0_0 e0_0 hb0_0 z0_0
  have := Ext.size e0_0
  have eB := e0_0
  have hfhb0_0 : Fresh h.size [h.size] := Fresh.one _
  have hlhb0_0 := one_lt (show h.size < h0_0.size by omega)
  try simp -implicitDefEqProofs (disch := first | decide | assumption | omega) only [go_sem, RdS.len hdX sl22, RdS.idx hdX sl22, R1.intB hdX (Ext.pres eB), RdS.cells hdX, RdS.len hmX sl23, RdS.idx hmX sl23, RdS.cellB hmX (Ext.pres eB), RdS.cells hmX, BoxAt.cell hb0_0, wrap_id]
  refine hK _ _ ?_
  clear hK K
  refine den_seq ?_
  refine den_seq ?_
  refine den_region TTok ?_
  intro K hK
  simp -implicitDefEqProofs (disch := first | decide | assumption | omega) only [go_sem, ld30, RdS.len hdX sl22, RdS.idx hdX sl22, R1.intB hdX (Ext.pres eB), RdS.cells hdX, RdS.len hmX sl23, RdS.idx hmX sl23, RdS.cellB hmX (Ext.pres eB), RdS.cells hmX, BoxAt.cell hb0_0, wrap_id]
  try simp -implicitDefEqProofs (disch := first | decide | assumption | omega) only [go_sem, RdS.len hdX sl22, RdS.idx hdX sl22, R1.intB hdX (Ext.pres eB), RdS.cells hdX, RdS.len hmX sl23, RdS.idx hmX sl23, RdS.cellB hmX (Ext.pres eB), RdS.cells hmX, BoxAt.cell hb0_0, wrap_id]
  refine CallA.mono (sDeg_ok _ X n _ ⟨_, _, rfl, (RdS.pres hdX (Ext.pres eB)), (RdS.pres hmX (Ext.pres eB))⟩ ) ?_
  intro v_ h1_2
  rintro ⟨rfl, e1_2⟩
  replace hb0_0 := BoxAt.ext hb0_0 e1_2
  have := Ext.size e1_2
  replace eB := Ext.trans eB e1_2
  try simp -implicitDefEqProofs (disch := first | decide | assumption | omega) only [go_sem, RdS.len hdX sl22, RdS.idx hdX sl22, R1.intB hdX (Ext.pres eB), RdS.cells hdX, RdS.len hmX sl23, RdS.idx hmX sl23, RdS.cellB hmX (Ext.pres eB), RdS.cells hmX, BoxAt.cell hb0_0, wrap_id]
  refine hK _ _ ?_
  clear hK K
  refine den_seq ?_
  refine den_region TTok ?_
  intro K hK
  simp -implicitDefEqProofs (disch := first | decide | assumption | omega) only [go_sem, RdS.len hdX sl22, RdS.idx hdX sl22, R1.intB hdX (Ext.pres eB), RdS.cells hdX, RdS.len hmX sl23, RdS.idx hmX sl23, RdS.cellB hmX (Ext.pres eB), RdS.cells hmX, BoxAt.cell hb0_0, wrap_id]
  refine hK _ _ ?_
  clear hK K
  refine den_cond rfl (fun c0 => ?_) (fun c0 => ?_)
  · try simp only [decide_eq_true_eq, decide_eq_false_iff_not, beq_iff_eq, beq_eq_false_iff_ne, bne_iff_ne, ne_eq, Bool.not_eq_true', Bool.not_eq_false', Bool.and_eq_true, Bool.or_eq_true, bne_eq_false_iff_eq] at c0
    refine den_seq ?_
    refine den_region TTok ?_
    intro K hK
    simp -implicitDefEqProofs (disch := first | decide | assumption | omega) only [go_sem, RdS.len hdX sl22, RdS.idx hdX sl22, R1.intB hdX (Ext.pres eB), RdS.cells hdX, RdS.len hmX sl23, RdS.idx hmX sl23, RdS.cellB hmX (Ext.pres eB), RdS.cells hmX, wrap_id]
    refine hK _ _ ?_
    clear hK K
    refine den_ret ?_
    simp (disch := decide) only [resP_2, puts_same, puts_ne]
    rw [cycR_n c0]
    exact ⟨.slice none 0 0, [], rfl, OS.nil, Fresh.nil _, eB⟩
  · try simp only [decide_eq_true_eq, decide_eq_false_iff_not, beq_iff_eq, beq_eq_false_iff_ne, bne_iff_ne, ne_eq, Bool.not_eq_true', Bool.not_eq_false', Bool.and_eq_true, Bool.or_eq_true, bne_eq_false_iff_eq] at c0
    obtain ⟨hCx, hn0, hn1⟩ := degC_0 c0
    have hlX := hCx.len
    refine den_skip ?_
    refine den_seq ?_
    refine den_region TTok ?_
    intro K hK
    simp -implicitDefEqProofs (disch := first | decide | assumption | omega) only [go_sem, ld30, RdS.len hdX sl22, RdS.idx hdX sl22, R1.intB hdX (Ext.pres eB), RdS.cells hdX, RdS.len hmX sl23, RdS.idx hmX sl23, RdS.cellB hmX (Ext.pres eB), RdS.cells hmX, BoxAt.cell hb0_0, wrap_id]
    try simp -implicitDefEqProofs (disch := first | decide | assumption | omega) only [go_sem, RdS.len hdX sl22, RdS.idx hdX sl22, R1.intB hdX (Ext.pres eB), RdS.cells hdX, RdS.len hmX sl23, RdS.idx hmX sl23, RdS.cellB hmX (Ext.pres eB), RdS.cells hmX, BoxAt.cell hb0_0, wrap_id]
    refine CallA.mono (sCyc_ok _ X n _ ⟨_, _, rfl, (RdS.pres hdX (Ext.pres eB)), (RdS.pres hmX (Ext.pres eB))⟩ hCx (by omega)) ?_
    intro vw4_2_0 h4_2
    rintro ⟨zvw4_2_0, fw4_2_0, rfl, how4_2_0, hfw4_2_0, e4_2⟩
    replace hb0_0 := BoxAt.ext hb0_0 e4_2
    have := Ext.size e4_2
    replace eB := Ext.trans eB e4_2
    have hlhow4_2_0 := OS.lt how4_2_0
    try simp -implicitDefEqProofs (disch := first | decide | assumption | omega) only [go_sem, RdS.len hdX sl22, RdS.idx hdX sl22, R1.intB hdX (Ext.pres eB), RdS.cells hdX, RdS.len hmX sl23, RdS.idx hmX sl23, RdS.cellB hmX (Ext.pres eB), RdS.cells hmX, RdS.len (OS.rd how4_2_0) sl36, RdS.idx (OS.rd how4_2_0) sl36, RdS.cellN (OS.rd how4_2_0), RdS.cells (OS.rd how4_2_0), BoxAt.cell hb0_0, wrap_id]
    refine hK _ _ ?_
    clear hK K
    refine den_ret ?_
    simp (disch := decide) only [resP_2, puts_same, puts_ne]
    rw [cycR_y c0]
    exact ⟨_, _, rfl, how4_2_0, hfw4_2_0.mono (by omega), eB⟩

set_option maxRecDepth 100000 in
theorem iBO_ok (vX : Value) (X : Cx) (n : Int) (h : Heap) (rX : RC h vX X)  : CallA Try.prog 24 #[vX, .int .i64 n] h fun v' h' => ∃ w0 f0, v' = .tuple #[w0, .int .i64 ((bndR X n).2)] ∧ O2 h' w0 ((bndR X n).1) f0 ∧ Fresh h.size f0 ∧ Ext h h' := by
  obtain ⟨vdX, vmX, rfl, hdX, hmX⟩ := rX
  have hledX := RdS.le hdX
  have hlemX := RdS.le hmX
  refine callA_intro TTok (args := [_, _]) Try.func24 (by kernel_rfl) rfl 16 rfl (by simp) [.tmp 4, .tmp 5] rfl ?_
  simp only [idxs, Nat.reduceAdd]
  refine den_seq ?_
  refine den_region TTok ?_
  intro K hK
  simp -implicitDefEqProofs (disch := first | decide | assumption | omega) only [go_sem, RdS.len hdX sl22, RdS.idx hdX sl22, R1.intB hdX (HPres.refl _), RdS.cells hdX, RdS.len hmX sl23, RdS.idx hmX sl23, RdS.cellB hmX (HPres.refl _), RdS.cells hmX, wrap_id]
  refine op_box (cs := #[.int .i64 (X.p), vdX, vmX]) rfl ?_
  intro h0_0 e0_0 hb0_0 z0_0
  have := Ext.size e0_0
  have eB := e0_0
  have hfhb0_0 : Fresh h.size [h.size] := Fresh.one _
  have hlhb0_0 := one_lt (show h.size < h0_0.size by omega)
  try simp -implicitDefEqProofs (disch := first | decide | assumption | omega) only [go_sem, RdS.len hdX sl22, RdS.idx hdX sl22, R1.intB hdX (Ext.pres eB), RdS.cells hdX, RdS.len hmX sl23, RdS.idx hmX sl23, RdS.cellB hmX (Ext.pres eB), RdS.cells hmX, BoxAt.cell hb0_0, wrap_id]
  refine hK _ _ ?_
  clear hK K
  refine den_seq ?_
  refine den_seq ?_
  refine den_region TTok ?_
  intro K hK
  simp -implicitDefEqProofs (disch := first | decide | assumption | omega) only [go_sem, ld30, RdS.len hdX sl22, RdS.idx hdX sl22, R1.intB hdX (Ext.pres eB), RdS.cells hdX, RdS.len hmX sl23, RdS.idx hmX sl23, RdS.cellB hmX (Ext.pres eB), RdS.cells hmX, BoxAt.cell hb0_0, wrap_id]
  try simp -implicitDefEqProofs (disch := first | decide | assumption | omega) only [go_sem, RdS.len hdX sl22, RdS.idx hdX sl22, R1.intB hdX (Ext.pres eB), RdS.cells hdX, RdS.len hmX sl23, RdS.idx hmX sl23, RdS.cellB hmX (Ext.pres eB), RdS.cells hmX, BoxAt.cell hb0_0, wrap_id]
  refine CallA.mono (iDeg_ok _ X n _ ⟨_, _, rfl, (RdS.pres hdX (Ext.pres eB)), (RdS.pres hmX (Ext.pres eB))⟩ ) ?_
  intro v_ h1_2
  rintro ⟨rfl, e1_2⟩
  replace hb0_0 := BoxAt.ext hb0_0 e1_2
  have := Ext.size e1_2
  replace eB := Ext.trans eB e1_2
  try simp -implicitDefEqProofs (disch := first | decide | assumption | omega) only [go_sem, RdS.len hdX sl22, RdS.idx hdX sl22, R1.intB hdX (Ext.pres eB), RdS.cells hdX, RdS.len hmX sl23, RdS.idx hmX sl23, RdS.cellB hmX (Ext.pres eB), RdS.cells hmX, BoxAt.cell hb0_0, wrap_id]
  refine hK _ _ ?_
  clear hK K
  refine den_seq ?_
  refine den_region TTok ?_
  intro K hK
  simp -implicitDefEqProofs (disch := first | decide | assumption | omega) only [go_sem, RdS.len hdX sl22, RdS.idx hdX sl22, R1.intB hdX (Ext.pres eB), RdS.cells hdX, RdS.len hmX sl23, RdS.idx hmX sl23, RdS.cellB hmX (Ext.pres eB), RdS.cells hmX, BoxAt.cell hb0_0, wrap_id]
  refine hK _ _ ?_
  clear hK K
  refine den_cond rfl (fun c0 => ?_) (fun c0 => ?_)
  · try simp only [decide_eq_true_eq, decide_eq_false_iff_not, beq_iff_eq, beq_eq_false_iff_ne, bne_iff_ne, ne_eq, Bool.not_eq_true', Bool.not_eq_false', Bool.and_eq_true, Bool.or_eq_true, bne_eq_false_iff_eq] at c0
    refine den_seq ?_
    refine den_region TTok ?_
    intro K hK
    simp -implicitDefEqProofs (disch := first | decide | assumption | omega) only [go_sem, RdS.len hdX sl22, RdS.idx hdX sl22, R1.intB hdX (Ext.pres eB), RdS.cells hdX, RdS.len hmX sl23, RdS.idx hmX sl23, RdS.cellB hmX (Ext.pres eB), RdS.cells hmX, wrap_id]
    refine hK _ _ ?_
    clear hK K
    refine den_ret ?_
    simp (disch := decide) only [resP_2, puts_same, puts_ne]
    rw [bndR_n c0]
    exact ⟨.slice none 0 0, [], rfl, OS.nil, Fresh.nil _, eB⟩
  · try simp only [decide_eq_true_eq, decide_eq_false_iff_not, beq_iff_eq, beq_eq_false_iff_ne, bne_iff_ne, ne_eq, Bool.not_eq_true', Bool.not_eq_false', Bool.and_eq_true, Bool.or_eq_true, bne_eq_false_iff_eq] at c0
    obtain ⟨hCx, hn0, hn1⟩ := degC_0 c0
    have hlX := hCx.len
    refine den_skip ?_
    refine den_seq ?_
    refine den_region TTok ?_
    intro K hK
    simp -implicitDefEqProofs (disch := first | decide | assumption | omega) only [go_sem, ld30, RdS.len hdX sl22, RdS.idx hdX sl22, R1.intB hdX (Ext.pres eB), RdS.cells hdX, RdS.len hmX sl23, RdS.idx hmX sl23, RdS.cellB hmX (Ext.pres eB), RdS.cells hmX, BoxAt.cell hb0_0, wrap_id]
    try simp -implicitDefEqProofs (disch := first | decide | assumption | omega) only [go_sem, RdS.len hdX sl22, RdS.idx hdX sl22, R1.intB hdX (Ext.pres eB), RdS.cells hdX, RdS.len hmX sl23, RdS.idx hmX sl23, RdS.cellB hmX (Ext.pres eB), RdS.cells hmX, BoxAt.cell hb0_0, wrap_id]
    refine CallA.mono (iBnd_ok _ X n _ ⟨_, _, rfl, (RdS.pres hdX (Ext.pres eB)), (RdS.pres hmX (Ext.pres eB))⟩ hCx (by omega)) ?_
    intro vw4_2_0 h4_2
    rintro ⟨zvw4_2_0, fw4_2_0, rfl, how4_2_0, hfw4_2_0, e4_2⟩
    replace hb0_0 := BoxAt.ext hb0_0 e4_2
    have := Ext.size e4_2
    replace eB := Ext.trans eB e4_2
    have hlhow4_2_0 := OS.lt how4_2_0
    try simp -implicitDefEqProofs (disch := first | decide | assumption | omega) only [go_sem, RdS.len hdX sl22, RdS.idx hdX sl22, R1.intB hdX (Ext.pres eB), RdS.cells hdX, RdS.len hmX sl23, RdS.idx hmX sl23, RdS.cellB hmX (Ext.pres eB), RdS.cells hmX, RdS.len (OS.rd how4_2_0) sl36, RdS.idx (OS.rd how4_2_0) sl36, RdS.cellN (OS.rd how4_2_0), RdS.cells (OS.rd how4_2_0), BoxAt.cell hb0_0, wrap_id]
    refine hK _ _ ?_
    clear hK K
    refine den_ret ?_
    simp (disch := decide) only [resP_2, puts_same, puts_ne]
    rw [bndR_y c0]
    exact ⟨_, _, rfl, how4_2_0, hfw4_2_0.mono (by omega), eB⟩

set_option maxRecDepth 100000 in
theorem sBO_ok (vX : Value) (X : Cx) (n : Int) (h : Heap) (rX : RC h vX X)  : CallA Try.prog 23 #[vX, .int .i64 n] h fun v' h' => ∃ w0 f0, v' = .tuple #[w0, .int .i64 ((bndR X n).2)] ∧ O2 h' w0 ((bndR X n).1) f0 ∧ Fresh h.size f0 ∧ Ext h h' := by
  obtain ⟨vdX, vmX, rfl, hdX, hmX⟩ := rX
  have hledX := RdS.le hdX
  have hlemX := RdS.le hmX
  refine callA_intro TTok (args := [_, _]) Try.func23 (by kernel_rfl) rfl 16 rfl (by simp) [.tmp 4, .tmp 5] rfl ?_
  simp only [idxs, Nat.reduceAdd]
  refine den_seq ?_
  refine den_region TTok ?_
  intro K hK
  simp -implicitDefEqProofs (disch := first | decide | assumption | omega) only [go_sem, RdS.len hdX sl22, RdS.idx hdX sl22, R1.intB hdX (HPres.refl _), RdS.cells hdX, RdS.len hmX sl23, RdS.idx hmX sl23, RdS.cellB hmX (HPres.refl _), RdS.cells hmX, wrap_id]
  refine op_box (cs := #[.int .i64 (X.p), vdX, vmX]) rfl ?_
  intro h0_0 e0_0 hb0_0 z0_0
  have := Ext.size e0_0
  have eB := e0_0
  have hfhb0_0 : Fresh h.size [h.size] := Fresh.one _
  have hlhb0_0 := one_lt (show h.size < h0_0.size by omega)
  try simp -implicitDefEqProofs (disch := first | decide | assumption | omega) only [go_sem, RdS.len hdX sl22, RdS.idx hdX sl22, R1.intB hdX (Ext.pres eB), RdS.cells hdX, RdS.len hmX sl23, RdS.idx hmX sl23, RdS.cellB hmX (Ext.pres eB), RdS.cells hmX, BoxAt.cell hb0_0, wrap_id]
  refine hK _ _ ?_
  clear hK K
  refine den_seq ?_
  refine den_seq ?_
  refine den_region TTok ?_
  intro K hK
  simp -implicitDefEqProofs (disch := first | decide | assumption | omega) only [go_sem, ld30, RdS.len hdX sl22, RdS.idx hdX sl22, R1.intB hdX (Ext.pres eB), RdS.cells hdX, RdS.len hmX sl23, RdS.idx hmX sl23, RdS.cellB hmX (Ext.pres eB), RdS.cells hmX, BoxAt.cell hb0_0, wrap_id]
  try simp -implicitDefEqProofs (disch := first | decide | assumption | omega) only [go_sem, RdS.len hdX sl22, RdS.idx hdX sl22, R1.intB hdX (Ext.pres eB), RdS.cells hdX, RdS.len hmX sl23, RdS.idx hmX sl23, RdS.cellB hmX (Ext.pres eB), RdS.cells hmX, BoxAt.cell hb0_0, wrap_id]
  refine CallA.mono (sDeg_ok _ X n _ ⟨_, _, rfl, (RdS.pres hdX (Ext.pres eB)), (RdS.pres hmX (Ext.pres eB))⟩ ) ?_
  intro v_ h1_2
  rintro ⟨rfl, e1_2⟩
  replace hb0_0 := BoxAt.ext hb0_0 e1_2
  have := Ext.size e1_2
  replace eB := Ext.trans eB e1_2
  try simp -implicitDefEqProofs (disch := first | decide | assumption | omega) only [go_sem, RdS.len hdX sl22, RdS.idx hdX sl22, R1.intB hdX (Ext.pres eB), RdS.cells hdX, RdS.len hmX sl23, RdS.idx hmX sl23, RdS.cellB hmX (Ext.pres eB), RdS.cells hmX, BoxAt.cell hb0_0, wrap_id]
  refine hK _ _ ?_
  clear hK K
  refine den_seq ?_
  refine den_region TTok ?_
  intro K hK
  simp -implicitDefEqProofs (disch := first | decide | assumption | omega) only [go_sem, RdS.len hdX sl22, RdS.idx hdX sl22, R1.intB hdX (Ext.pres eB), RdS.cells hdX, RdS.len hmX sl23, RdS.idx hmX sl23, RdS.cellB hmX (Ext.pres eB), RdS.cells hmX, BoxAt.cell hb0_0, wrap_id]
  refine hK _ _ ?_
  clear hK K
  refine den_cond rfl (fun c0 => ?_) (fun c0 => ?_)
  · try simp only [decide_eq_true_eq, decide_eq_false_iff_not, beq_iff_eq, beq_eq_false_iff_ne, bne_iff_ne, ne_eq, Bool.not_eq_true', Bool.not_eq_false', Bool.and_eq_true, Bool.or_eq_true, bne_eq_false_iff_eq] at c0
    refine den_seq ?_
    refine den_region TTok ?_
    intro K hK
    simp -implicitDefEqProofs (disch := first | decide | assumption | omega) only [go_sem, RdS.len hdX sl22, RdS.idx hdX sl22, R1.intB hdX (Ext.pres eB), RdS.cells hdX, RdS.len hmX sl23, RdS.idx hmX sl23, RdS.cellB hmX (Ext.pres eB), RdS.cells hmX, wrap_id]
    refine hK _ _ ?_
    clear hK K
    refine den_ret ?_
    simp (disch := decide) only [resP_2, puts_same, puts_ne]
    rw [bndR_n c0]
    exact ⟨.slice none 0 0, [], rfl, OS.nil, Fresh.nil _, eB⟩
  · try simp only [decide_eq_true_eq, decide_eq_false_iff_not, beq_iff_eq, beq_eq_false_iff_ne, bne_iff_ne, ne_eq, Bool.not_eq_true', Bool.not_eq_false', Bool.and_eq_true, Bool.or_eq_true, bne_eq_false_iff_eq] at c0
    obtain ⟨hCx, hn0, hn1⟩ := degC_0 c0
    have hlX := hCx.len
    refine den_skip ?_
    refine den_seq ?_
    refine den_region TTok ?_
    intro K hK
    simp -implicitDefEqProofs (disch := first | decide | assumption | omega) only [go_sem, ld30, RdS.len hdX sl22, RdS.idx hdX sl22, R1.intB hdX (Ext.pres eB), RdS.cells hdX, RdS.len hmX sl23, RdS.idx hmX sl23, RdS.cellB hmX (Ext.pres eB), RdS.cells hmX, BoxAt.cell hb0_0, wrap_id]
    try simp -implicitDefEqProofs (disch := first | decide | assumption | omega) only [go_sem, RdS.len hdX sl22, RdS.idx hdX sl22, R1.intB hdX (Ext.pres eB), RdS.cells hdX, RdS.len hmX sl23, RdS.idx hmX sl23, RdS.cellB hmX (Ext.pres eB), RdS.cells hmX, BoxAt.cell hb0_0, wrap_id]
    refine CallA.mono (sBnd_ok _ X n _ ⟨_, _, rfl, (RdS.pres hdX (Ext.pres eB)), (RdS.pres hmX (Ext.pres eB))⟩ hCx (by omega)) ?_
    intro vw4_2_0 h4_2
    rintro ⟨zvw4_2_0, fw4_2_0, rfl, how4_2_0, hfw4_2_0, e4_2⟩
    replace hb0_0 := BoxAt.ext hb0_0 e4_2
    have := Ext.size e4_2
    replace eB := Ext.trans eB e4_2
    have hlhow4_2_0 := OS.lt how4_2_0
    try simp -implicitDefEqProofs (disch := first | decide | assumption | omega) only [go_sem, RdS.len hdX sl22, RdS.idx hdX sl22, R1.intB hdX (Ext.pres eB), RdS.cells hdX, RdS.len hmX sl23, RdS.idx hmX sl23, RdS.cellB hmX (Ext.pres eB), RdS.cells hmX, RdS.len (OS.rd how4_2_0) sl36, RdS.idx (OS.rd how4_2_0) sl36, RdS.cellN (OS.rd how4_2_0), RdS.cells (OS.rd how4_2_0), BoxAt.cell hb0_0, wrap_id]
    refine hK _ _ ?_
    clear hK K
    refine den_ret ?_
    simp (disch := decide) only [resP_2, puts_same, puts_ne]
    rw [bndR_y c0]
    exact ⟨_, _, rfl, how4_2_0, hfw4_2_0.mono (by omega), eB⟩

noncomputable def exaR (X : Cx) (n : Int) : Bool × Int := if degC X n = 0 then (homP X n == 0, 0) else (false, degC X n)
theorem vb2 {a b : Bool} {n m : Int} (h : (a, n) = (b, m)) : Value.tuple #[.bool a, .int .i64 n] = Value.tuple #[.bool b, .int .i64 m] := by injection h with h1 h2; rw [h1, h2]

set_option maxRecDepth 100000 in
theorem iEx_ok (vX : Value) (X : Cx) (n : Int) (h : Heap) (rX : RC h vX X)  : CallA Try.prog 30 #[vX, .int .i64 n] h fun v' h' => v' = .tuple #[.bool ((exaR X n).1), .int .i64 ((exaR X n).2)] ∧ Ext h h' := by
  obtain ⟨vdX, vmX, rfl, hdX, hmX⟩ := rX
  have hledX := RdS.le hdX
  have hlemX := RdS.le hmX
  refine callA_intro TTok (args := [_, _]) Try.func30 (by kernel_rfl) rfl 17 rfl (by simp) [.tmp 4, .tmp 5] rfl ?_
  simp only [idxs, Nat.reduceAdd]
  refine den_seq ?_
  refine den_region TTok ?_
  intro K hK
  simp -implicitDefEqProofs (disch := first | decide | assumption | omega) only [go_sem, RdS.len hdX sl22, RdS.idx hdX sl22, R1.intB hdX (HPres.refl _), RdS.cells hdX, RdS.len hmX sl23, RdS.idx hmX sl23, RdS.cellB hmX (HPres.refl _), RdS.cells hmX, wrap_id]
  refine op_box (cs := #[.int .i64 (X.p), vdX, vmX]) rfl ?_
  intro h0_0 e0_0 hb0_0 z0_0
  have := Ext.size e0_0
  have eB := e0_0
  have hfhb0_0 : Fresh h.size [h.size] := Fresh.one _
  have hlhb0_0 := one_lt (show h.size < h0_0.size by omega)
  try simp -implicitDefEqProofs (disch := first | decide | assumption | omega) only [go_sem, RdS.len hdX sl22, RdS.idx hdX sl22, R1.intB hdX (Ext.pres eB), RdS.cells hdX, RdS.len hmX sl23, RdS.idx hmX sl23, RdS.cellB hmX (Ext.pres eB), RdS.cells hmX, BoxAt.cell hb0_0, wrap_id]
  refine hK _ _ ?_
  clear hK K
  refine den_seq ?_
  refine den_seq ?_
  refine den_region TTok ?_
  intro K hK
  simp -implicitDefEqProofs (disch := first | decide | assumption | omega) only [go_sem, ld30, RdS.len hdX sl22, RdS.idx hdX sl22, R1.intB hdX (Ext.pres eB), RdS.cells hdX, RdS.len hmX sl23, RdS.idx hmX sl23, RdS.cellB hmX (Ext.pres eB), RdS.cells hmX, BoxAt.cell hb0_0, wrap_id]
  try simp -implicitDefEqProofs (disch := first | decide | assumption | omega) only [go_sem, RdS.len hdX sl22, RdS.idx hdX sl22, R1.intB hdX (Ext.pres eB), RdS.cells hdX, RdS.len hmX sl23, RdS.idx hmX sl23, RdS.cellB hmX (Ext.pres eB), RdS.cells hmX, BoxAt.cell hb0_0, wrap_id]
  refine CallA.mono (iDeg_ok _ X n _ ⟨_, _, rfl, (RdS.pres hdX (Ext.pres eB)), (RdS.pres hmX (Ext.pres eB))⟩ ) ?_
  intro v_ h1_2
  rintro ⟨rfl, e1_2⟩
  replace hb0_0 := BoxAt.ext hb0_0 e1_2
  have := Ext.size e1_2
  replace eB := Ext.trans eB e1_2
  try simp -implicitDefEqProofs (disch := first | decide | assumption | omega) only [go_sem, RdS.len hdX sl22, RdS.idx hdX sl22, R1.intB hdX (Ext.pres eB), RdS.cells hdX, RdS.len hmX sl23, RdS.idx hmX sl23, RdS.cellB hmX (Ext.pres eB), RdS.cells hmX, BoxAt.cell hb0_0, wrap_id]
  refine hK _ _ ?_
  clear hK K
  refine den_seq ?_
  refine den_region TTok ?_
  intro K hK
  simp -implicitDefEqProofs (disch := first | decide | assumption | omega) only [go_sem, RdS.len hdX sl22, RdS.idx hdX sl22, R1.intB hdX (Ext.pres eB), RdS.cells hdX, RdS.len hmX sl23, RdS.idx hmX sl23, RdS.cellB hmX (Ext.pres eB), RdS.cells hmX, BoxAt.cell hb0_0, wrap_id]
  refine hK _ _ ?_
  clear hK K
  refine den_cond rfl (fun c0 => ?_) (fun c0 => ?_)
  · try simp only [decide_eq_true_eq, decide_eq_false_iff_not, beq_iff_eq, beq_eq_false_iff_ne, bne_iff_ne, ne_eq, Bool.not_eq_true', Bool.not_eq_false', Bool.and_eq_true, Bool.or_eq_true, bne_eq_false_iff_eq] at c0
    refine den_seq ?_
    refine den_region TTok ?_
    intro K hK
    simp -implicitDefEqProofs (disch := first | decide | assumption | omega) only [go_sem, RdS.len hdX sl22, RdS.idx hdX sl22, R1.intB hdX (Ext.pres eB), RdS.cells hdX, RdS.len hmX sl23, RdS.idx hmX sl23, RdS.cellB hmX (Ext.pres eB), RdS.cells hmX, wrap_id]
    refine hK _ _ ?_
    clear hK K
    refine den_ret ?_
    simp (disch := decide) only [resP_2, puts_same, puts_ne]
    have hz : exaR X n = (false, degC X n) := by rw [exaR, if_neg c0]
    rw [hz]
    exact ⟨by first | rfl | trivial, eB⟩
  · try simp only [decide_eq_true_eq, decide_eq_false_iff_not, beq_iff_eq, beq_eq_false_iff_ne, bne_iff_ne, ne_eq, Bool.not_eq_true', Bool.not_eq_false', Bool.and_eq_true, Bool.or_eq_true, bne_eq_false_iff_eq] at c0
    obtain ⟨hCx, hn0, hn1⟩ := degC_0 c0
    have hlX := hCx.len
    refine den_skip ?_
    refine den_seq ?_
    refine den_region TTok ?_
    intro K hK
    simp -implicitDefEqProofs (disch := first | decide | assumption | omega) only [go_sem, ld30, RdS.len hdX sl22, RdS.idx hdX sl22, R1.intB hdX (Ext.pres eB), RdS.cells hdX, RdS.len hmX sl23, RdS.idx hmX sl23, RdS.cellB hmX (Ext.pres eB), RdS.cells hmX, BoxAt.cell hb0_0, wrap_id]
    try simp -implicitDefEqProofs (disch := first | decide | assumption | omega) only [go_sem, RdS.len hdX sl22, RdS.idx hdX sl22, R1.intB hdX (Ext.pres eB), RdS.cells hdX, RdS.len hmX sl23, RdS.idx hmX sl23, RdS.cellB hmX (Ext.pres eB), RdS.cells hmX, BoxAt.cell hb0_0, wrap_id]
    refine CallA.mono (iHom_ok _ X n _ ⟨_, _, rfl, (RdS.pres hdX (Ext.pres eB)), (RdS.pres hmX (Ext.pres eB))⟩ hCx (by omega)) ?_
    intro v_ h4_2
    rintro ⟨rfl, e4_2⟩
    replace hb0_0 := BoxAt.ext hb0_0 e4_2
    have := Ext.size e4_2
    replace eB := Ext.trans eB e4_2
    try simp -implicitDefEqProofs (disch := first | decide | assumption | omega) only [go_sem, RdS.len hdX sl22, RdS.idx hdX sl22, R1.intB hdX (Ext.pres eB), RdS.cells hdX, RdS.len hmX sl23, RdS.idx hmX sl23, RdS.cellB hmX (Ext.pres eB), RdS.cells hmX, BoxAt.cell hb0_0, wrap_id]
    refine hK _ _ ?_
    clear hK K
    refine den_ret ?_
    simp (disch := decide) only [resP_2, puts_same, puts_ne]
    have hz : exaR X n = (homP X n == 0, 0) := by rw [exaR, if_pos c0]
    rw [hz]
    exact ⟨by first | rfl | trivial, eB⟩

set_option maxRecDepth 100000 in
theorem sEx_ok (vX : Value) (X : Cx) (n : Int) (h : Heap) (rX : RC h vX X)  : CallA Try.prog 29 #[vX, .int .i64 n] h fun v' h' => v' = .tuple #[.bool ((exaR X n).1), .int .i64 ((exaR X n).2)] ∧ Ext h h' := by
  obtain ⟨vdX, vmX, rfl, hdX, hmX⟩ := rX
  have hledX := RdS.le hdX
  have hlemX := RdS.le hmX
  refine callA_intro TTok (args := [_, _]) Try.func29 (by kernel_rfl) rfl 17 rfl (by simp) [.tmp 4, .tmp 5] rfl ?_
  simp only [idxs, Nat.reduceAdd]
  refine den_seq ?_
  refine den_region TTok ?_
  intro K hK
  simp -implicitDefEqProofs (disch := first | decide | assumption | omega) only [go_sem, RdS.len hdX sl22, RdS.idx hdX sl22, R1.intB hdX (HPres.refl _), RdS.cells hdX, RdS.len hmX sl23, RdS.idx hmX sl23, RdS.cellB hmX (HPres.refl _), RdS.cells hmX, wrap_id]
  refine op_box (cs := #[.int .i64 (X.p), vdX, vmX]) rfl ?_
  intro h0_0 e0_0 hb0_0 z0_0
  have := Ext.size e0_0
  have eB := e0_0
  have hfhb0_0 : Fresh h.size [h.size] := Fresh.one _
  have hlhb0_0 := one_lt (show h.size < h0_0.size by omega)
  try simp -implicitDefEqProofs (disch := first | decide | assumption | omega) only [go_sem, RdS.len hdX sl22, RdS.idx hdX sl22, R1.intB hdX (Ext.pres eB), RdS.cells hdX, RdS.len hmX sl23, RdS.idx hmX sl23, RdS.cellB hmX (Ext.pres eB), RdS.cells hmX, BoxAt.cell hb0_0, wrap_id]
  refine hK _ _ ?_
  clear hK K
  refine den_seq ?_
  refine den_seq ?_
  refine den_region TTok ?_
  intro K hK
  simp -implicitDefEqProofs (disch := first | decide | assumption | omega) only [go_sem, ld30, RdS.len hdX sl22, RdS.idx hdX sl22, R1.intB hdX (Ext.pres eB), RdS.cells hdX, RdS.len hmX sl23, RdS.idx hmX sl23, RdS.cellB hmX (Ext.pres eB), RdS.cells hmX, BoxAt.cell hb0_0, wrap_id]
  try simp -implicitDefEqProofs (disch := first | decide | assumption | omega) only [go_sem, RdS.len hdX sl22, RdS.idx hdX sl22, R1.intB hdX (Ext.pres eB), RdS.cells hdX, RdS.len hmX sl23, RdS.idx hmX sl23, RdS.cellB hmX (Ext.pres eB), RdS.cells hmX, BoxAt.cell hb0_0, wrap_id]
  refine CallA.mono (sDeg_ok _ X n _ ⟨_, _, rfl, (RdS.pres hdX (Ext.pres eB)), (RdS.pres hmX (Ext.pres eB))⟩ ) ?_
  intro v_ h1_2
  rintro ⟨rfl, e1_2⟩
  replace hb0_0 := BoxAt.ext hb0_0 e1_2
  have := Ext.size e1_2
  replace eB := Ext.trans eB e1_2
  try simp -implicitDefEqProofs (disch := first | decide | assumption | omega) only [go_sem, RdS.len hdX sl22, RdS.idx hdX sl22, R1.intB hdX (Ext.pres eB), RdS.cells hdX, RdS.len hmX sl23, RdS.idx hmX sl23, RdS.cellB hmX (Ext.pres eB), RdS.cells hmX, BoxAt.cell hb0_0, wrap_id]
  refine hK _ _ ?_
  clear hK K
  refine den_seq ?_
  refine den_region TTok ?_
  intro K hK
  simp -implicitDefEqProofs (disch := first | decide | assumption | omega) only [go_sem, RdS.len hdX sl22, RdS.idx hdX sl22, R1.intB hdX (Ext.pres eB), RdS.cells hdX, RdS.len hmX sl23, RdS.idx hmX sl23, RdS.cellB hmX (Ext.pres eB), RdS.cells hmX, BoxAt.cell hb0_0, wrap_id]
  refine hK _ _ ?_
  clear hK K
  refine den_cond rfl (fun c0 => ?_) (fun c0 => ?_)
  · try simp only [decide_eq_true_eq, decide_eq_false_iff_not, beq_iff_eq, beq_eq_false_iff_ne, bne_iff_ne, ne_eq, Bool.not_eq_true', Bool.not_eq_false', Bool.and_eq_true, Bool.or_eq_true, bne_eq_false_iff_eq] at c0
    refine den_seq ?_
    refine den_region TTok ?_
    intro K hK
    simp -implicitDefEqProofs (disch := first | decide | assumption | omega) only [go_sem, RdS.len hdX sl22, RdS.idx hdX sl22, R1.intB hdX (Ext.pres eB), RdS.cells hdX, RdS.len hmX sl23, RdS.idx hmX sl23, RdS.cellB hmX (Ext.pres eB), RdS.cells hmX, wrap_id]
    refine hK _ _ ?_
    clear hK K
    refine den_ret ?_
    simp (disch := decide) only [resP_2, puts_same, puts_ne]
    have hz : exaR X n = (false, degC X n) := by rw [exaR, if_neg c0]
    rw [hz]
    exact ⟨by first | rfl | trivial, eB⟩
  · try simp only [decide_eq_true_eq, decide_eq_false_iff_not, beq_iff_eq, beq_eq_false_iff_ne, bne_iff_ne, ne_eq, Bool.not_eq_true', Bool.not_eq_false', Bool.and_eq_true, Bool.or_eq_true, bne_eq_false_iff_eq] at c0
    obtain ⟨hCx, hn0, hn1⟩ := degC_0 c0
    have hlX := hCx.len
    refine den_skip ?_
    refine den_seq ?_
    refine den_region TTok ?_
    intro K hK
    simp -implicitDefEqProofs (disch := first | decide | assumption | omega) only [go_sem, ld30, RdS.len hdX sl22, RdS.idx hdX sl22, R1.intB hdX (Ext.pres eB), RdS.cells hdX, RdS.len hmX sl23, RdS.idx hmX sl23, RdS.cellB hmX (Ext.pres eB), RdS.cells hmX, BoxAt.cell hb0_0, wrap_id]
    try simp -implicitDefEqProofs (disch := first | decide | assumption | omega) only [go_sem, RdS.len hdX sl22, RdS.idx hdX sl22, R1.intB hdX (Ext.pres eB), RdS.cells hdX, RdS.len hmX sl23, RdS.idx hmX sl23, RdS.cellB hmX (Ext.pres eB), RdS.cells hmX, BoxAt.cell hb0_0, wrap_id]
    refine CallA.mono (sHom_ok _ X n _ ⟨_, _, rfl, (RdS.pres hdX (Ext.pres eB)), (RdS.pres hmX (Ext.pres eB))⟩ hCx (by omega)) ?_
    intro v_ h4_2
    rintro ⟨rfl, e4_2⟩
    replace hb0_0 := BoxAt.ext hb0_0 e4_2
    have := Ext.size e4_2
    replace eB := Ext.trans eB e4_2
    try simp -implicitDefEqProofs (disch := first | decide | assumption | omega) only [go_sem, RdS.len hdX sl22, RdS.idx hdX sl22, R1.intB hdX (Ext.pres eB), RdS.cells hdX, RdS.len hmX sl23, RdS.idx hmX sl23, RdS.cellB hmX (Ext.pres eB), RdS.cells hmX, BoxAt.cell hb0_0, wrap_id]
    refine hK _ _ ?_
    clear hK K
    refine den_ret ?_
    simp (disch := decide) only [resP_2, puts_same, puts_ne]
    have hz : exaR X n = (homP X n == 0, 0) := by rw [exaR, if_pos c0]
    rw [hz]
    exact ⟨by first | rfl | trivial, eB⟩

noncomputable def homL (X : Cx) (n : Nat) : List Int := (List.range n).map fun q : Nat => homP X (q : Int)
noncomputable def homR (X : Cx) : List Int × Int := if isC X = true then (homL X X.dims.length, 0) else ([], 1)
theorem homL_len (X : Cx) (n : Nat) : (homL X n).length = n := by simp [homL]
theorem homL_step (X : Cx) (n : Nat) : homL X n ++ [homP X (n : Int)] = homL X (n + 1) := range_step (fun q : Nat => homP X (q : Int)) n
theorem cnt_hom (X : Cx) : 0 ≤ cnt1 (homR X).1 ∧ cnt1 (homR X).1 ≤ 6 := by
  unfold homR
  split
  · rename_i hc
    have := (isC_t.1 hc).len
    refine ⟨cnt1_nn _, ?_⟩
    show cnt1 (homL X X.dims.length) ≤ 6
    rw [cnt1, homL_len]; omega
  · exact ⟨cnt1_nn _, by show cnt1 [] ≤ 6; decide⟩

set_option maxRecDepth 100000 in
theorem iHN_ok (vX : Value) (X : Cx) (h : Heap) (rX : RC h vX X)  : CallA Try.prog 32 #[vX] h fun v' h' => ∃ w0 f0, v' = .tuple #[w0, .int .i64 ((homR X).2)] ∧ O1 h' w0 ((homR X).1) f0 ∧ Fresh h.size f0 ∧ Ext h h' := by
  obtain ⟨vdX, vmX, rfl, hdX, hmX⟩ := rX
  have hledX := RdS.le hdX
  have hlemX := RdS.le hmX
  refine callA_intro TTok (args := [_]) Try.func32 (by kernel_rfl) rfl 24 rfl (by simp) [.tmp 2, .tmp 3] rfl ?_
  simp only [idxs, Nat.reduceAdd]
  refine den_seq ?_
  refine den_region TTok ?_
  intro K hK
  simp -implicitDefEqProofs (disch := first | decide | assumption | omega) only [go_sem, RdS.len hdX sl22, RdS.idx hdX sl22, R1.intB hdX (HPres.refl _), RdS.cells hdX, RdS.len hmX sl23, RdS.idx hmX sl23, RdS.cellB hmX (HPres.refl _), RdS.cells hmX, wrap_id]
  refine op_box (cs := #[.int .i64 (X.p), vdX, vmX]) rfl ?_
  intro h0_0 e0_0 hb0_0 z0_0
  have := Ext.size e0_0
  have eB := e0_0
  have hfhb0_0 : Fresh h.size [h.size] := Fresh.one _
  have hlhb0_0 := one_lt (show h.size < h0_0.size by omega)
  try simp -implicitDefEqProofs (disch := first | decide | assumption | omega) only [go_sem, RdS.len hdX sl22, RdS.idx hdX sl22, R1.intB hdX (Ext.pres eB), RdS.cells hdX, RdS.len hmX sl23, RdS.idx hmX sl23, RdS.cellB hmX (Ext.pres eB), RdS.cells hmX, BoxAt.cell hb0_0, wrap_id]
  refine hK _ _ ?_
  clear hK K
  refine den_seq ?_
  refine den_seq ?_
  refine den_region TTok ?_
  intro K hK
  simp -implicitDefEqProofs (disch := first | decide | assumption | omega) only [go_sem, ld30, RdS.len hdX sl22, RdS.idx hdX sl22, R1.intB hdX (Ext.pres eB), RdS.cells hdX, RdS.len hmX sl23, RdS.idx hmX sl23, RdS.cellB hmX (Ext.pres eB), RdS.cells hmX, BoxAt.cell hb0_0, wrap_id]
  try simp -implicitDefEqProofs (disch := first | decide | assumption | omega) only [go_sem, RdS.len hdX sl22, RdS.idx hdX sl22, R1.intB hdX (Ext.pres eB), RdS.cells hdX, RdS.len hmX sl23, RdS.idx hmX sl23, RdS.cellB hmX (Ext.pres eB), RdS.cells hmX, BoxAt.cell hb0_0, wrap_id]
  refine CallA.mono (iIs_ok _ X _ ⟨_, _, rfl, (RdS.pres hdX (Ext.pres eB)), (RdS.pres hmX (Ext.pres eB))⟩) ?_
  intro v_ h1_1
  rintro ⟨rfl, e1_1⟩
  replace hb0_0 := BoxAt.ext hb0_0 e1_1
  have := Ext.size e1_1
  replace eB := Ext.trans eB e1_1
  try simp -implicitDefEqProofs (disch := first | decide | assumption | omega) only [go_sem, RdS.len hdX sl22, RdS.idx hdX sl22, R1.intB hdX (Ext.pres eB), RdS.cells hdX, RdS.len hmX sl23, RdS.idx hmX sl23, RdS.cellB hmX (Ext.pres eB), RdS.cells hmX, BoxAt.cell hb0_0, wrap_id]
  refine hK _ _ ?_
  clear hK K
  refine den_cond rfl (fun c0 => ?_) (fun c0 => ?_)
  · try simp only [decide_eq_true_eq, decide_eq_false_iff_not, beq_iff_eq, beq_eq_false_iff_ne, bne_iff_ne, ne_eq, Bool.not_eq_true', Bool.not_eq_false', Bool.and_eq_true, Bool.or_eq_true, bne_eq_false_iff_eq, Bool.not_eq_true] at c0
    refine den_seq ?_
    refine den_region TTok ?_
    intro K hK
    simp -implicitDefEqProofs (disch := first | decide | assumption | omega) only [go_sem, RdS.len hdX sl22, RdS.idx hdX sl22, R1.intB hdX (Ext.pres eB), RdS.cells hdX, RdS.len hmX sl23, RdS.idx hmX sl23, RdS.cellB hmX (Ext.pres eB), RdS.cells hmX, wrap_id]
    refine hK _ _ ?_
    clear hK K
    refine den_ret ?_
    simp (disch := decide) only [resP_2, puts_same, puts_ne]
    have hz : homR X = ([], 1) := by rw [homR, if_neg (by rw [c0]; decide)]
    rw [hz]
    exact ⟨.slice none 0 0, [], rfl, OS.nil, Fresh.nil _, eB⟩
  · try simp only [decide_eq_true_eq, decide_eq_false_iff_not, beq_iff_eq, beq_eq_false_iff_ne, bne_iff_ne, ne_eq, Bool.not_eq_true', Bool.not_eq_false', Bool.and_eq_true, Bool.or_eq_true, bne_eq_false_iff_eq, Bool.not_eq_true] at c0
    have hCx := isC_t.1 c0
    have hlX := hCx.len
    refine den_skip ?_
    refine den_seq ?_
    refine den_region TTok ?_
    intro K hK
    simp -implicitDefEqProofs (disch := first | decide | assumption | omega) only [go_sem, RdS.len hdX sl22, RdS.idx hdX sl22, R1.intB hdX (Ext.pres eB), RdS.cells hdX, RdS.len hmX sl23, RdS.idx hmX sl23, RdS.cellB hmX (Ext.pres eB), RdS.cells hmX, BoxAt.cell hb0_0, wrap_id]
    refine op_bs0 sz22 OI ?_
    intro v3_0 h3_0 ho3_0 e3_0
    replace hb0_0 := BoxAt.ext hb0_0 e3_0
    have := Ext.size e3_0
    replace eB := Ext.trans eB e3_0
    have hfho3_0 : Fresh h1_1.size [h1_1.size] := Fresh.one _
    have hlho3_0 := OS.lt ho3_0
    try simp -implicitDefEqProofs (disch := first | decide | assumption | omega) only [go_sem, RdS.len hdX sl22, RdS.idx hdX sl22, R1.intB hdX (Ext.pres eB), RdS.cells hdX, RdS.len hmX sl23, RdS.idx hmX sl23, RdS.cellB hmX (Ext.pres eB), RdS.cells hmX, RdS.len (OS.rd ho3_0) sl22, RdS.idx (OS.rd ho3_0) sl22, R1.intN (OS.rd ho3_0), RdS.cells (OS.rd ho3_0), BoxAt.cell hb0_0, wrap_id]
    refine hK _ _ ?_
    clear hK K
    refine den_seq ?_
    refine den_seq ?_
    refine den_region TTok ?_
    intro K hK
    simp -implicitDefEqProofs (disch := first | decide | assumption | omega) only [go_sem, fa30_1, ld22, RdS.len hdX sl22, RdS.idx hdX sl22, R1.intB hdX (Ext.pres eB), RdS.cells hdX, RdS.len hmX sl23, RdS.idx hmX sl23, RdS.cellB hmX (Ext.pres eB), RdS.cells hmX, RdS.len (OS.rd ho3_0) sl22, RdS.idx (OS.rd ho3_0) sl22, R1.intN (OS.rd ho3_0), RdS.cells (OS.rd ho3_0), BoxAt.cell hb0_0, wrap_id]
    try simp -implicitDefEqProofs (disch := first | decide | assumption | omega) only [go_sem, RdS.len hdX sl22, RdS.idx hdX sl22, R1.intB hdX (Ext.pres eB), RdS.cells hdX, RdS.len hmX sl23, RdS.idx hmX sl23, RdS.cellB hmX (Ext.pres eB), RdS.cells hmX, RdS.len (OS.rd ho3_0) sl22, RdS.idx (OS.rd ho3_0) sl22, R1.intN (OS.rd ho3_0), RdS.cells (OS.rd ho3_0), BoxAt.cell hb0_0, wrap_id]
    refine CallA.pure (size1_ok _ _ _ (RdS.pres hdX (Ext.pres eB))) ?_
    try simp -implicitDefEqProofs (disch := first | decide | assumption | omega) only [go_sem, RdS.len hdX sl22, RdS.idx hdX sl22, R1.intB hdX (Ext.pres eB), RdS.cells hdX, RdS.len hmX sl23, RdS.idx hmX sl23, RdS.cellB hmX (Ext.pres eB), RdS.cells hmX, RdS.len (OS.rd ho3_0) sl22, RdS.idx (OS.rd ho3_0) sl22, R1.intN (OS.rd ho3_0), RdS.cells (OS.rd ho3_0), BoxAt.cell hb0_0, wrap_id]
    refine hK _ _ ?_
    clear hK K
    refine den_block ?_
    refine den_sel [4, 13, 1, 12] ?_
    intro env_1
    simp only [go_sem]
    refine den_loopS (σ := Nat × Value × List Nat) (fun st_ => [(4, st_.2.1), (13, .int .i64 (st_.1 : Int))]) (fun st_ H => (st_.1 ≤ X.dims.length) ∧ (O1 H st_.2.1 (homL X st_.1) st_.2.2) ∧ (Fresh (h1_1.size) st_.2.2) ∧ (Sub [h1_1.size] h3_0.size st_.2.2) ∧ (Chg [h1_1.size] h3_0 H)) (fun st_ => X.dims.length - st_.1) (0, v3_0, [h1_1.size]) ?_ ?_
    · exact ⟨by first | (simp; done) | (dsimp only; omega) | (simp; omega), by exact ho3_0, hfho3_0, Sub.refl, Chg.refl _ _⟩
    · rintro ⟨k, vhO, fphO⟩ h4 ee3 ⟨hi0, hO, hfhO, sbhO, cL2⟩
      dsimp only at hi0 hO hfhO sbhO cL2
      replace hb0_0 := BoxAt.chgA hb0_0 cL2 (apart_lt hlhb0_0 hfho3_0 (by omega))
      have := cL2.size
      replace eB := Ext.then eB cL2 (ge_of hfho3_0 (by omega))
      have hlhO := OS.lt hO
      simp only [List.cons_append, List.nil_append]
      have hhl := homL_len X k
      refine den_seq ?_
      refine den_region TTok ?_
      intro K hK
      simp -implicitDefEqProofs (disch := first | decide | assumption | omega) only [go_sem, RdS.len hdX sl22, RdS.idx hdX sl22, R1.intB hdX (Ext.pres eB), RdS.cells hdX, RdS.len hmX sl23, RdS.idx hmX sl23, RdS.cellB hmX (Ext.pres eB), RdS.cells hmX, RdS.len (OS.rd hO) sl22, RdS.idx (OS.rd hO) sl22, R1.intN (OS.rd hO), RdS.cells (OS.rd hO), BoxAt.cell hb0_0, wrap_id]
      refine hK _ _ ?_
      clear hK K
      refine den_seq ?_
      refine den_cond rfl (fun c1 => ?_) (fun c1 => ?_)
      · try simp only [decide_eq_true_eq, decide_eq_false_iff_not, beq_iff_eq, beq_eq_false_iff_ne, bne_iff_ne, ne_eq, Bool.not_eq_true', Bool.not_eq_false', Bool.and_eq_true, Bool.or_eq_true, bne_eq_false_iff_eq, Bool.not_eq_true] at c1
        refine den_skip ?_
        refine den_seq ?_
        refine den_block ?_
        refine den_seq ?_
        refine den_region TTok ?_
        intro K hK
        simp -implicitDefEqProofs (disch := first | decide | assumption | omega) only [go_sem, RdS.len hdX sl22, RdS.idx hdX sl22, R1.intB hdX (Ext.pres eB), RdS.cells hdX, RdS.len hmX sl23, RdS.idx hmX sl23, RdS.cellB hmX (Ext.pres eB), RdS.cells hmX, RdS.len (OS.rd hO) sl22, RdS.idx (OS.rd hO) sl22, R1.intN (OS.rd hO), RdS.cells (OS.rd hO), BoxAt.cell hb0_0, wrap_id]
        refine hK _ _ ?_
        clear hK K
        refine den_region TTok ?_
        intro K hK
        simp -implicitDefEqProofs (disch := first | decide | assumption | omega) only [go_sem, ld30, RdS.len hdX sl22, RdS.idx hdX sl22, R1.intB hdX (Ext.pres eB), RdS.cells hdX, RdS.len hmX sl23, RdS.idx hmX sl23, RdS.cellB hmX (Ext.pres eB), RdS.cells hmX, RdS.len (OS.rd hO) sl22, RdS.idx (OS.rd hO) sl22, R1.intN (OS.rd hO), RdS.cells (OS.rd hO), BoxAt.cell hb0_0, wrap_id]
        try simp -implicitDefEqProofs (disch := first | decide | assumption | omega) only [go_sem, RdS.len hdX sl22, RdS.idx hdX sl22, R1.intB hdX (Ext.pres eB), RdS.cells hdX, RdS.len hmX sl23, RdS.idx hmX sl23, RdS.cellB hmX (Ext.pres eB), RdS.cells hmX, RdS.len (OS.rd hO) sl22, RdS.idx (OS.rd hO) sl22, R1.intN (OS.rd hO), RdS.cells (OS.rd hO), BoxAt.cell hb0_0, wrap_id]
        refine CallA.mono (iHom_ok _ X (k : Int) _ ⟨_, _, rfl, (RdS.pres hdX (Ext.pres eB)), (RdS.pres hmX (Ext.pres eB))⟩ hCx (by omega)) ?_
        intro v_ h7_3
        rintro ⟨rfl, e7_3⟩
        replace hO := OS.ext hO e7_3
        replace hb0_0 := BoxAt.ext hb0_0 e7_3
        have := Ext.size e7_3
        replace eB := Ext.trans eB e7_3
        replace cL2 := Chg.stepE cL2 e7_3
        try simp -implicitDefEqProofs (disch := first | decide | assumption | omega) only [go_sem, RdS.len hdX sl22, RdS.idx hdX sl22, R1.intB hdX (Ext.pres eB), RdS.cells hdX, RdS.len hmX sl23, RdS.idx hmX sl23, RdS.cellB hmX (Ext.pres eB), RdS.cells hmX, RdS.len (OS.rd hO) sl22, RdS.idx (OS.rd hO) sl22, R1.intN (OS.rd hO), RdS.cells (OS.rd hO), BoxAt.cell hb0_0, wrap_id]
        refine op_bs1 sz22 rfl rfl ?_
        try simp -implicitDefEqProofs (disch := first | decide | assumption | omega) only [go_sem, RdS.len hdX sl22, RdS.idx hdX sl22, R1.intB hdX (Ext.pres eB), RdS.cells hdX, RdS.len hmX sl23, RdS.idx hmX sl23, RdS.cellB hmX (Ext.pres eB), RdS.cells hmX, RdS.len (OS.rd hO) sl22, RdS.idx (OS.rd hO) sl22, R1.intN (OS.rd hO), RdS.cells (OS.rd hO), BoxAt.cell hb0_0, wrap_id]
        refine op_append1 sz22 hO hfhO.nodup ⟨rfl, rfl⟩ List.nodup_nil (Apart.nil _) (by first | omega | (simp; omega)) rfl rfl ?_
        intro v7_5 h7_5 fp7_5 ho7_5 hn7_5 hs7_5 c7_5
        have hsz7_5 := c7_5.size
        have hfho7_5 : Fresh h1_1.size fp7_5 := Fresh.appd hfhO (Fresh.nil h7_3.size) (by omega) (by omega) hn7_5 hs7_5
        have sb5 : Sub [h1_1.size] h3_0.size fp7_5 := Sub.grow sbhO Sub.nil (by omega) hs7_5
        replace hb0_0 := BoxAt.chgA hb0_0 c7_5 (apart_lt hlhb0_0 hfhO (by omega))
        have := c7_5.size
        replace eB := Ext.then eB c7_5 (ge_of hfhO (by omega))
        replace cL2 := Chg.step cL2 c7_5 sbhO
        have hlho7_5 := OS.lt ho7_5
        try simp -implicitDefEqProofs (disch := first | decide | assumption | omega) only [go_sem, RdS.len hdX sl22, RdS.idx hdX sl22, R1.intB hdX (Ext.pres eB), RdS.cells hdX, RdS.len hmX sl23, RdS.idx hmX sl23, RdS.cellB hmX (Ext.pres eB), RdS.cells hmX, RdS.len (OS.rd ho7_5) sl22, RdS.idx (OS.rd ho7_5) sl22, R1.intN (OS.rd ho7_5), RdS.cells (OS.rd ho7_5), BoxAt.cell hb0_0, wrap_id]
        refine hK _ _ ?_
        clear hK K
        refine den_blk ?_
        refine den_region TTok ?_
        intro K hK
        simp -implicitDefEqProofs (disch := first | decide | assumption | omega) only [go_sem, RdS.len hdX sl22, RdS.idx hdX sl22, R1.intB hdX (Ext.pres eB), RdS.cells hdX, RdS.len hmX sl23, RdS.idx hmX sl23, RdS.cellB hmX (Ext.pres eB), RdS.cells hmX, RdS.len (OS.rd ho7_5) sl22, RdS.idx (OS.rd ho7_5) sl22, R1.intN (OS.rd ho7_5), RdS.cells (OS.rd ho7_5), BoxAt.cell hb0_0, wrap_id]
        refine hK _ _ ?_
        clear hK K
        refine den_stop ?_
        rw [homL_step] at ho7_5
        exact ⟨(k + 1, v7_5, fp7_5), by simp [HasL, puts_at], ⟨by first | omega | (dsimp only; omega), ho7_5, hfho7_5, sb5, cL2⟩, by first | omega | (dsimp only; omega)⟩
      · try simp only [decide_eq_true_eq, decide_eq_false_iff_not, beq_iff_eq, beq_eq_false_iff_ne, bne_iff_ne, ne_eq, Bool.not_eq_true', Bool.not_eq_false', Bool.and_eq_true, Bool.or_eq_true, bne_eq_false_iff_eq, Bool.not_eq_true] at c1
        refine den_exit ?_
        refine denX_code ?_
        refine denX_stop ?_
        refine denX_hit ?_
        refine den_seq ?_
        refine den_region TTok ?_
        intro K hK
        simp -implicitDefEqProofs (disch := first | decide | assumption | omega) only [go_sem, RdS.len hdX sl22, RdS.idx hdX sl22, R1.intB hdX (Ext.pres eB), RdS.cells hdX, RdS.len hmX sl23, RdS.idx hmX sl23, RdS.cellB hmX (Ext.pres eB), RdS.cells hmX, RdS.len (OS.rd hO) sl22, RdS.idx (OS.rd hO) sl22, R1.intN (OS.rd hO), RdS.cells (OS.rd hO), wrap_id]
        refine hK _ _ ?_
        clear hK K
        refine den_ret ?_
        simp (disch := decide) only [resP_2, puts_same, puts_ne]
        have hz : homR X = (homL X X.dims.length, 0) := by rw [homR, if_pos c0]
        rw [hz, show X.dims.length = k by omega]
        exact ⟨_, _, rfl, hO, hfhO.mono (by omega), eB⟩

set_option maxRecDepth 100000 in
theorem sHN_ok (vX : Value) (X : Cx) (h : Heap) (rX : RC h vX X)  : CallA Try.prog 31 #[vX] h fun v' h' => ∃ w0 f0, v' = .tuple #[w0, .int .i64 ((homR X).2)] ∧ O1 h' w0 ((homR X).1) f0 ∧ Fresh h.size f0 ∧ Ext h h' := by
  obtain ⟨vdX, vmX, rfl, hdX, hmX⟩ := rX
  have hledX := RdS.le hdX
  have hlemX := RdS.le hmX
  refine callA_intro TTok (args := [_]) Try.func31 (by kernel_rfl) rfl 24 rfl (by simp) [.tmp 2, .tmp 3] rfl ?_
  simp only [idxs, Nat.reduceAdd]
  refine den_seq ?_
  refine den_region TTok ?_
  intro K hK
  simp -implicitDefEqProofs (disch := first | decide | assumption | omega) only [go_sem, RdS.len hdX sl22, RdS.idx hdX sl22, R1.intB hdX (HPres.refl _), RdS.cells hdX, RdS.len hmX sl23, RdS.idx hmX sl23, RdS.cellB hmX (HPres.refl _), RdS.cells hmX, wrap_id]
  refine op_box (cs := #[.int .i64 (X.p), vdX, vmX]) rfl ?_
  intro h0_0 e0_0 hb0_0 z0_0
  have := Ext.size e0_0
  have eB := e0_0
  have hfhb0_0 : Fresh h.size [h.size] := Fresh.one _
  have hlhb0_0 := one_lt (show h.size < h0_0.size by omega)
  try simp -implicitDefEqProofs (disch := first | decide | assumption | omega) only [go_sem, RdS.len hdX sl22, RdS.idx hdX sl22, R1.intB hdX (Ext.pres eB), RdS.cells hdX, RdS.len hmX sl23, RdS.idx hmX sl23, RdS.cellB hmX (Ext.pres eB), RdS.cells hmX, BoxAt.cell hb0_0, wrap_id]
  refine hK _ _ ?_
  clear hK K
  refine den_seq ?_
  refine den_seq ?_
  refine den_region TTok ?_
  intro K hK
  simp -implicitDefEqProofs (disch := first | decide | assumption | omega) only [go_sem, ld30, RdS.len hdX sl22, RdS.idx hdX sl22, R1.intB hdX (Ext.pres eB), RdS.cells hdX, RdS.len hmX sl23, RdS.idx hmX sl23, RdS.cellB hmX (Ext.pres eB), RdS.cells hmX, BoxAt.cell hb0_0, wrap_id]
  try simp -implicitDefEqProofs (disch := first | decide | assumption | omega) only [go_sem, RdS.len hdX sl22, RdS.idx hdX sl22, R1.intB hdX (Ext.pres eB), RdS.cells hdX, RdS.len hmX sl23, RdS.idx hmX sl23, RdS.cellB hmX (Ext.pres eB), RdS.cells hmX, BoxAt.cell hb0_0, wrap_id]
  refine CallA.mono (sIs_ok _ X _ ⟨_, _, rfl, (RdS.pres hdX (Ext.pres eB)), (RdS.pres hmX (Ext.pres eB))⟩) ?_
  intro v_ h1_1
  rintro ⟨rfl, e1_1⟩
  replace hb0_0 := BoxAt.ext hb0_0 e1_1
  have := Ext.size e1_1
  replace eB := Ext.trans eB e1_1
  try simp -implicitDefEqProofs (disch := first | decide | assumption | omega) only [go_sem, RdS.len hdX sl22, RdS.idx hdX sl22, R1.intB hdX (Ext.pres eB), RdS.cells hdX, RdS.len hmX sl23, RdS.idx hmX sl23, RdS.cellB hmX (Ext.pres eB), RdS.cells hmX, BoxAt.cell hb0_0, wrap_id]
  refine hK _ _ ?_
  clear hK K
  refine den_cond rfl (fun c0 => ?_) (fun c0 => ?_)
  · try simp only [decide_eq_true_eq, decide_eq_false_iff_not, beq_iff_eq, beq_eq_false_iff_ne, bne_iff_ne, ne_eq, Bool.not_eq_true', Bool.not_eq_false', Bool.and_eq_true, Bool.or_eq_true, bne_eq_false_iff_eq, Bool.not_eq_true] at c0
    refine den_seq ?_
    refine den_region TTok ?_
    intro K hK
    simp -implicitDefEqProofs (disch := first | decide | assumption | omega) only [go_sem, RdS.len hdX sl22, RdS.idx hdX sl22, R1.intB hdX (Ext.pres eB), RdS.cells hdX, RdS.len hmX sl23, RdS.idx hmX sl23, RdS.cellB hmX (Ext.pres eB), RdS.cells hmX, wrap_id]
    refine hK _ _ ?_
    clear hK K
    refine den_ret ?_
    simp (disch := decide) only [resP_2, puts_same, puts_ne]
    have hz : homR X = ([], 1) := by rw [homR, if_neg (by rw [c0]; decide)]
    rw [hz]
    exact ⟨.slice none 0 0, [], rfl, OS.nil, Fresh.nil _, eB⟩
  · try simp only [decide_eq_true_eq, decide_eq_false_iff_not, beq_iff_eq, beq_eq_false_iff_ne, bne_iff_ne, ne_eq, Bool.not_eq_true', Bool.not_eq_false', Bool.and_eq_true, Bool.or_eq_true, bne_eq_false_iff_eq, Bool.not_eq_true] at c0
    have hCx := isC_t.1 c0
    have hlX := hCx.len
    refine den_skip ?_
    refine den_seq ?_
    refine den_region TTok ?_
    intro K hK
    simp -implicitDefEqProofs (disch := first | decide | assumption | omega) only [go_sem, RdS.len hdX sl22, RdS.idx hdX sl22, R1.intB hdX (Ext.pres eB), RdS.cells hdX, RdS.len hmX sl23, RdS.idx hmX sl23, RdS.cellB hmX (Ext.pres eB), RdS.cells hmX, BoxAt.cell hb0_0, wrap_id]
    refine op_bs0 sz22 OI ?_
    intro v3_0 h3_0 ho3_0 e3_0
    replace hb0_0 := BoxAt.ext hb0_0 e3_0
    have := Ext.size e3_0
    replace eB := Ext.trans eB e3_0
    have hfho3_0 : Fresh h1_1.size [h1_1.size] := Fresh.one _
    have hlho3_0 := OS.lt ho3_0
    try simp -implicitDefEqProofs (disch := first | decide | assumption | omega) only [go_sem, RdS.len hdX sl22, RdS.idx hdX sl22, R1.intB hdX (Ext.pres eB), RdS.cells hdX, RdS.len hmX sl23, RdS.idx hmX sl23, RdS.cellB hmX (Ext.pres eB), RdS.cells hmX, RdS.len (OS.rd ho3_0) sl22, RdS.idx (OS.rd ho3_0) sl22, R1.intN (OS.rd ho3_0), RdS.cells (OS.rd ho3_0), BoxAt.cell hb0_0, wrap_id]
    refine hK _ _ ?_
    clear hK K
    refine den_seq ?_
    refine den_seq ?_
    refine den_region TTok ?_
    intro K hK
    simp -implicitDefEqProofs (disch := first | decide | assumption | omega) only [go_sem, RdS.len hdX sl22, RdS.idx hdX sl22, R1.intB hdX (Ext.pres eB), RdS.cells hdX, RdS.len hmX sl23, RdS.idx hmX sl23, RdS.cellB hmX (Ext.pres eB), RdS.cells hmX, RdS.len (OS.rd ho3_0) sl22, RdS.idx (OS.rd ho3_0) sl22, R1.intN (OS.rd ho3_0), RdS.cells (OS.rd ho3_0), BoxAt.cell hb0_0, wrap_id]
    refine hK _ _ ?_
    clear hK K
    refine den_block ?_
    refine den_sel [4, 5, 1] ?_
    intro env_1
    simp only [go_sem]
    refine den_loopS (σ := Nat × Value × List Nat) (fun st_ => [(4, st_.2.1), (5, .int .i64 (st_.1 : Int))]) (fun st_ H => (st_.1 ≤ X.dims.length) ∧ (O1 H st_.2.1 (homL X st_.1) st_.2.2) ∧ (Fresh (h1_1.size) st_.2.2) ∧ (Sub [h1_1.size] h3_0.size st_.2.2) ∧ (Chg [h1_1.size] h3_0 H)) (fun st_ => X.dims.length - st_.1) (0, v3_0, [h1_1.size]) ?_ ?_
    · exact ⟨by first | (simp; done) | (dsimp only; omega) | (simp; omega), by exact ho3_0, hfho3_0, Sub.refl, Chg.refl _ _⟩
    · rintro ⟨k, vhO, fphO⟩ h4 ee3 ⟨hi0, hO, hfhO, sbhO, cL2⟩
      dsimp only at hi0 hO hfhO sbhO cL2
      replace hb0_0 := BoxAt.chgA hb0_0 cL2 (apart_lt hlhb0_0 hfho3_0 (by omega))
      have := cL2.size
      replace eB := Ext.then eB cL2 (ge_of hfho3_0 (by omega))
      have hlhO := OS.lt hO
      simp only [List.cons_append, List.nil_append]
      have hhl := homL_len X k
      refine den_seq ?_
      refine den_seq ?_
      refine den_region TTok ?_
      intro K hK
      simp -implicitDefEqProofs (disch := first | decide | assumption | omega) only [go_sem, fa30_1, ld22, RdS.len hdX sl22, RdS.idx hdX sl22, R1.intB hdX (Ext.pres eB), RdS.cells hdX, RdS.len hmX sl23, RdS.idx hmX sl23, RdS.cellB hmX (Ext.pres eB), RdS.cells hmX, RdS.len (OS.rd hO) sl22, RdS.idx (OS.rd hO) sl22, R1.intN (OS.rd hO), RdS.cells (OS.rd hO), BoxAt.cell hb0_0, wrap_id]
      refine hK _ _ ?_
      clear hK K
      refine den_cond rfl (fun c1 => ?_) (fun c1 => ?_)
      · try simp only [decide_eq_true_eq, decide_eq_false_iff_not, beq_iff_eq, beq_eq_false_iff_ne, bne_iff_ne, ne_eq, Bool.not_eq_true', Bool.not_eq_false', Bool.and_eq_true, Bool.or_eq_true, bne_eq_false_iff_eq, Bool.not_eq_true] at c1
        refine den_skip ?_
        refine den_seq ?_
        refine den_block ?_
        refine den_region TTok ?_
        intro K hK
        simp -implicitDefEqProofs (disch := first | decide | assumption | omega) only [go_sem, ld30, RdS.len hdX sl22, RdS.idx hdX sl22, R1.intB hdX (Ext.pres eB), RdS.cells hdX, RdS.len hmX sl23, RdS.idx hmX sl23, RdS.cellB hmX (Ext.pres eB), RdS.cells hmX, RdS.len (OS.rd hO) sl22, RdS.idx (OS.rd hO) sl22, R1.intN (OS.rd hO), RdS.cells (OS.rd hO), BoxAt.cell hb0_0, wrap_id]
        try simp -implicitDefEqProofs (disch := first | decide | assumption | omega) only [go_sem, RdS.len hdX sl22, RdS.idx hdX sl22, R1.intB hdX (Ext.pres eB), RdS.cells hdX, RdS.len hmX sl23, RdS.idx hmX sl23, RdS.cellB hmX (Ext.pres eB), RdS.cells hmX, RdS.len (OS.rd hO) sl22, RdS.idx (OS.rd hO) sl22, R1.intN (OS.rd hO), RdS.cells (OS.rd hO), BoxAt.cell hb0_0, wrap_id]
        refine CallA.mono (sHom_ok _ X (k : Int) _ ⟨_, _, rfl, (RdS.pres hdX (Ext.pres eB)), (RdS.pres hmX (Ext.pres eB))⟩ hCx (by omega)) ?_
        intro v_ h7_3
        rintro ⟨rfl, e7_3⟩
        replace hO := OS.ext hO e7_3
        replace hb0_0 := BoxAt.ext hb0_0 e7_3
        have := Ext.size e7_3
        replace eB := Ext.trans eB e7_3
        replace cL2 := Chg.stepE cL2 e7_3
        try simp -implicitDefEqProofs (disch := first | decide | assumption | omega) only [go_sem, RdS.len hdX sl22, RdS.idx hdX sl22, R1.intB hdX (Ext.pres eB), RdS.cells hdX, RdS.len hmX sl23, RdS.idx hmX sl23, RdS.cellB hmX (Ext.pres eB), RdS.cells hmX, RdS.len (OS.rd hO) sl22, RdS.idx (OS.rd hO) sl22, R1.intN (OS.rd hO), RdS.cells (OS.rd hO), BoxAt.cell hb0_0, wrap_id]
        refine op_bs1 sz22 rfl rfl ?_
        try simp -implicitDefEqProofs (disch := first | decide | assumption | omega) only [go_sem, RdS.len hdX sl22, RdS.idx hdX sl22, R1.intB hdX (Ext.pres eB), RdS.cells hdX, RdS.len hmX sl23, RdS.idx hmX sl23, RdS.cellB hmX (Ext.pres eB), RdS.cells hmX, RdS.len (OS.rd hO) sl22, RdS.idx (OS.rd hO) sl22, R1.intN (OS.rd hO), RdS.cells (OS.rd hO), BoxAt.cell hb0_0, wrap_id]
        refine op_append1 sz22 hO hfhO.nodup ⟨rfl, rfl⟩ List.nodup_nil (Apart.nil _) (by first | omega | (simp; omega)) rfl rfl ?_
        intro v7_5 h7_5 fp7_5 ho7_5 hn7_5 hs7_5 c7_5
        have hsz7_5 := c7_5.size
        have hfho7_5 : Fresh h1_1.size fp7_5 := Fresh.appd hfhO (Fresh.nil h7_3.size) (by omega) (by omega) hn7_5 hs7_5
        have sb5 : Sub [h1_1.size] h3_0.size fp7_5 := Sub.grow sbhO Sub.nil (by omega) hs7_5
        replace hb0_0 := BoxAt.chgA hb0_0 c7_5 (apart_lt hlhb0_0 hfhO (by omega))
        have := c7_5.size
        replace eB := Ext.then eB c7_5 (ge_of hfhO (by omega))
        replace cL2 := Chg.step cL2 c7_5 sbhO
        have hlho7_5 := OS.lt ho7_5
        try simp -implicitDefEqProofs (disch := first | decide | assumption | omega) only [go_sem, RdS.len hdX sl22, RdS.idx hdX sl22, R1.intB hdX (Ext.pres eB), RdS.cells hdX, RdS.len hmX sl23, RdS.idx hmX sl23, RdS.cellB hmX (Ext.pres eB), RdS.cells hmX, RdS.len (OS.rd ho7_5) sl22, RdS.idx (OS.rd ho7_5) sl22, R1.intN (OS.rd ho7_5), RdS.cells (OS.rd ho7_5), BoxAt.cell hb0_0, wrap_id]
        refine hK _ _ ?_
        clear hK K
        refine den_blk ?_
        refine den_region TTok ?_
        intro K hK
        simp -implicitDefEqProofs (disch := first | decide | assumption | omega) only [go_sem, RdS.len hdX sl22, RdS.idx hdX sl22, R1.intB hdX (Ext.pres eB), RdS.cells hdX, RdS.len hmX sl23, RdS.idx hmX sl23, RdS.cellB hmX (Ext.pres eB), RdS.cells hmX, RdS.len (OS.rd ho7_5) sl22, RdS.idx (OS.rd ho7_5) sl22, R1.intN (OS.rd ho7_5), RdS.cells (OS.rd ho7_5), BoxAt.cell hb0_0, wrap_id]
        refine hK _ _ ?_
        clear hK K
        refine den_stop ?_
        rw [homL_step] at ho7_5
        exact ⟨(k + 1, v7_5, fp7_5), by simp [HasL, puts_at], ⟨by first | omega | (dsimp only; omega), ho7_5, hfho7_5, sb5, cL2⟩, by first | omega | (dsimp only; omega)⟩
      · try simp only [decide_eq_true_eq, decide_eq_false_iff_not, beq_iff_eq, beq_eq_false_iff_ne, bne_iff_ne, ne_eq, Bool.not_eq_true', Bool.not_eq_false', Bool.and_eq_true, Bool.or_eq_true, bne_eq_false_iff_eq, Bool.not_eq_true] at c1
        refine den_exit ?_
        refine denX_code ?_
        refine denX_stop ?_
        refine denX_hit ?_
        refine den_seq ?_
        refine den_region TTok ?_
        intro K hK
        simp -implicitDefEqProofs (disch := first | decide | assumption | omega) only [go_sem, RdS.len hdX sl22, RdS.idx hdX sl22, R1.intB hdX (Ext.pres eB), RdS.cells hdX, RdS.len hmX sl23, RdS.idx hmX sl23, RdS.cellB hmX (Ext.pres eB), RdS.cells hmX, RdS.len (OS.rd hO) sl22, RdS.idx (OS.rd hO) sl22, R1.intN (OS.rd hO), RdS.cells (OS.rd hO), wrap_id]
        refine hK _ _ ?_
        clear hK K
        refine den_ret ?_
        simp (disch := decide) only [resP_2, puts_same, puts_ne]
        have hz : homR X = (homL X X.dims.length, 0) := by rw [homR, if_pos c0]
        rw [hz, show X.dims.length = k by omega]
        exact ⟨_, _, rfl, hO, hfhO.mono (by omega), eB⟩

end Go.Proofs.Ytbplnadngahgaaa
