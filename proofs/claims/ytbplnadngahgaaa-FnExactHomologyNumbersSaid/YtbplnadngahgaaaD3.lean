/-
  Walks: what is left of a row.
  Conditions: each theorem's own.
-/
import Derived.Test.YtbplnadngahgaaaD2
set_option linter.unusedVariables false
set_option linter.unusedSimpArgs false
namespace Go.Proofs.Ytbplnadngahgaaa
open Go
set_option maxRecDepth 100000 in
theorem leads1_ok (x : Int) (h : Heap) : CallA Try.prog 143 #[.int .i64 x] h fun v h' => v = .bool (x != 0) ∧ h' = h := by
  refine callA_intro TTok (args := [_]) Try.func143 (by kernel_rfl) rfl 5 rfl (by simp) [.tmp 2] rfl ?_
  simp only [idxs, Nat.reduceAdd]
  refine den_seq ?_
  refine den_region TTok ?_
  intro K hK
  simp -implicitDefEqProofs (disch := first | decide | assumption | omega) only [go_sem]
  refine hK _ _ ?_
  clear hK K
  refine den_seq ?_
  refine den_region TTok ?_
  intro K hK
  simp -implicitDefEqProofs (disch := first | decide | assumption | omega) only [go_sem]
  refine hK _ _ ?_
  clear hK K
  refine den_ret ?_
  simp (disch := decide) only [resP_1, puts_same, puts_ne]
  exact ⟨by first | rfl | trivial, trivial⟩
theorem leadI_ok (v : Value) (xs : List Int) (h : Heap) (hv : R1 h v xs) : CallA Try.prog 142 #[v, .func (.func 143) #[] #[]] h fun v' h' => v' = .int .i64 (leadP xs) ∧ Ext h h' := by
  rw [leadP_idx]
  exact idx1_ok _ xs _ _ (fun x => x != 0) _ hv (fun j hj h' e => by
    simp only [List.append_toArray, List.cons_append, List.nil_append]
    exact CallA.mono (leads1_ok _ _) (fun _ _ ⟨e1, e2⟩ => ⟨e1, e2 ▸ Ext.refl _⟩))


set_option maxRecDepth 100000 in
theorem iLeads_ok (vR : Value) (R : List (List Int)) (h : Heap) (rR : R2 h vR R) (hR : R.length ≤ 100000) : CallA Try.prog 109 #[vR] h fun v' h' => ∃ w0 f0, v' = w0 ∧ O1i h' w0 (R.map leadP) f0 ∧ Fresh h.size f0 ∧ Ext h h' := by
  have hleR := RdS.le rR
  refine callA_intro TTok (args := [_]) Try.func109 (by kernel_rfl) rfl 20 rfl (by simp) [.tmp 2] rfl ?_
  simp only [idxs, Nat.reduceAdd]
  refine den_seq ?_
  refine den_region TTok ?_
  intro K hK
  simp -implicitDefEqProofs (disch := first | decide | assumption | omega) only [go_sem, RdS.len rR sl36, RdS.idx rR sl36, RdS.cellB rR (HPres.refl _), RdS.cells rR, wrap_id]
  refine hK _ _ ?_
  clear hK K
  refine den_seq ?_
  refine den_region TTok ?_
  intro K hK
  simp -implicitDefEqProofs (disch := first | decide | assumption | omega) only [go_sem, RdS.len rR sl36, RdS.idx rR sl36, RdS.cellB rR (HPres.refl _), RdS.cells rR, wrap_id]
  refine op_bs0 sz95 OI ?_
  intro v1_0 h1_0 ho1_0 e1_0
  have := Ext.size e1_0
  have eB := e1_0
  have hfho1_0 : Fresh h.size [h.size] := Fresh.one _
  have hlho1_0 := OS.lt ho1_0
  try simp -implicitDefEqProofs (disch := first | decide | assumption | omega) only [go_sem, RdS.len rR sl36, RdS.idx rR sl36, RdS.cellB rR (Ext.pres eB), RdS.cells rR, RdS.len (OS.rd ho1_0) sl95, RdS.idx (OS.rd ho1_0) sl95, R1.intN (OS.rd ho1_0), RdS.cells (OS.rd ho1_0), wrap_id]
  refine hK _ _ ?_
  clear hK K
  refine den_seq ?_
  refine den_seq ?_
  refine den_region TTok ?_
  intro K hK
  simp -implicitDefEqProofs (disch := first | decide | assumption | omega) only [go_sem, RdS.len rR sl36, RdS.idx rR sl36, RdS.cellB rR (Ext.pres eB), RdS.cells rR, RdS.len (OS.rd ho1_0) sl95, RdS.idx (OS.rd ho1_0) sl95, R1.intN (OS.rd ho1_0), RdS.cells (OS.rd ho1_0), wrap_id]
  refine hK _ _ ?_
  clear hK K
  refine den_block ?_
  refine den_sel [3, 9, 7, 8] ?_
  intro env_1
  simp only [go_sem]
  refine den_loopS (σ := Nat × Value × List Nat) (fun st_ => [(3, st_.2.1), (9, .int .i64 (st_.1 : Int))]) (fun st_ H => (st_.1 ≤ R.length) ∧ (O1i H st_.2.1 ((R.take st_.1).map leadP) st_.2.2) ∧ (Fresh (h.size) st_.2.2) ∧ (Sub [h.size] h1_0.size st_.2.2) ∧ (Chg [h.size] h1_0 H)) (fun st_ => R.length - st_.1) (0, v1_0, [h.size]) ?_ ?_
  · exact ⟨by first | (simp; done) | (dsimp only; omega) | (simp; omega), by simpa using ho1_0, hfho1_0, Sub.refl, Chg.refl _ _⟩
  · rintro ⟨k, vhO, fphO⟩ h4 ee3 ⟨hi0, hO, hfhO, sbhO, cL2⟩
    dsimp only at hi0 hO hfhO sbhO cL2
    have := cL2.size
    replace eB := Ext.then eB cL2 (ge_of hfho1_0 (by omega))
    have hlhO := OS.lt hO
    simp only [List.cons_append, List.nil_append]
    have hlt_ : ((R.take k).map leadP).length = k := by simp; omega
    refine den_seq ?_
    refine den_region TTok ?_
    intro K hK
    simp -implicitDefEqProofs (disch := first | decide | assumption | omega) only [go_sem, RdS.len rR sl36, RdS.idx rR sl36, RdS.cellB rR (Ext.pres eB), RdS.cells rR, RdS.len (OS.rd hO) sl95, RdS.idx (OS.rd hO) sl95, R1.intN (OS.rd hO), RdS.cells (OS.rd hO), wrap_id]
    refine hK _ _ ?_
    clear hK K
    refine den_seq ?_
    refine den_cond rfl (fun c0 => ?_) (fun c0 => ?_)
    · try simp only [decide_eq_true_eq, decide_eq_false_iff_not, beq_iff_eq, beq_eq_false_iff_ne, bne_iff_ne, ne_eq, Bool.not_eq_true', Bool.not_eq_false', Bool.and_eq_true, Bool.or_eq_true, bne_eq_false_iff_eq] at c0
      refine den_skip ?_
      refine den_seq ?_
      refine den_block ?_
      refine den_seq ?_
      refine den_region TTok ?_
      intro K hK
      have hr5 := RdS.rowN rR k (by omega)
      have hlhr5 := RdS.le hr5
      simp -implicitDefEqProofs (disch := first | decide | assumption | omega) only [go_sem, ld22, RdS.len rR sl36, RdS.idx rR sl36, RdS.cellB rR (Ext.pres eB), RdS.cells rR, RdS.len hr5 sl22, RdS.idx hr5 sl22, R1.intB hr5 (Ext.pres eB), RdS.cells hr5, RdS.len (OS.rd hO) sl95, RdS.idx (OS.rd hO) sl95, R1.intN (OS.rd hO), RdS.cells (OS.rd hO), wrap_id]
      refine hK _ _ ?_
      clear hK K
      refine den_region TTok ?_
      intro K hK
      simp -implicitDefEqProofs (disch := first | decide | assumption | omega) only [go_sem, RdS.len rR sl36, RdS.idx rR sl36, RdS.cellB rR (Ext.pres eB), RdS.cells rR, RdS.len hr5 sl22, RdS.idx hr5 sl22, R1.intB hr5 (Ext.pres eB), RdS.cells hr5, RdS.len (OS.rd hO) sl95, RdS.idx (OS.rd hO) sl95, R1.intN (OS.rd hO), RdS.cells (OS.rd hO), wrap_id]
      try simp -implicitDefEqProofs (disch := first | decide | assumption | omega) only [go_sem, RdS.len rR sl36, RdS.idx rR sl36, RdS.cellB rR (Ext.pres eB), RdS.cells rR, RdS.len hr5 sl22, RdS.idx hr5 sl22, R1.intB hr5 (Ext.pres eB), RdS.cells hr5, RdS.len (OS.rd hO) sl95, RdS.idx (OS.rd hO) sl95, R1.intN (OS.rd hO), RdS.cells (OS.rd hO), wrap_id]
      refine CallA.mono (leadI_ok _ _ _ (RdS.pres hr5 (Ext.pres eB))) ?_
      intro v_ h5_2
      rintro ⟨rfl, e5_2⟩
      replace hO := OS.ext hO e5_2
      have := Ext.size e5_2
      replace eB := Ext.trans eB e5_2
      replace cL2 := Chg.stepE cL2 e5_2
      try simp -implicitDefEqProofs (disch := first | decide | assumption | omega) only [go_sem, RdS.len rR sl36, RdS.idx rR sl36, RdS.cellB rR (Ext.pres eB), RdS.cells rR, RdS.len hr5 sl22, RdS.idx hr5 sl22, R1.intB hr5 (Ext.pres eB), RdS.cells hr5, RdS.len (OS.rd hO) sl95, RdS.idx (OS.rd hO) sl95, R1.intN (OS.rd hO), RdS.cells (OS.rd hO), wrap_id]
      refine op_bs1 sz95 rfl rfl ?_
      try simp -implicitDefEqProofs (disch := first | decide | assumption | omega) only [go_sem, RdS.len rR sl36, RdS.idx rR sl36, RdS.cellB rR (Ext.pres eB), RdS.cells rR, RdS.len hr5 sl22, RdS.idx hr5 sl22, R1.intB hr5 (Ext.pres eB), RdS.cells hr5, RdS.len (OS.rd hO) sl95, RdS.idx (OS.rd hO) sl95, R1.intN (OS.rd hO), RdS.cells (OS.rd hO), wrap_id]
      refine op_append1 sz95 hO hfhO.nodup ⟨rfl, rfl⟩ List.nodup_nil (Apart.nil _) (by first | omega | (simp; omega)) rfl rfl ?_
      intro v5_4 h5_4 fp5_4 ho5_4 hn5_4 hs5_4 c5_4
      have hsz5_4 := c5_4.size
      have hfho5_4 : Fresh h.size fp5_4 := Fresh.appd hfhO (Fresh.nil h5_2.size) (by omega) (by omega) hn5_4 hs5_4
      have sb6 : Sub [h.size] h1_0.size fp5_4 := Sub.grow sbhO Sub.nil (by omega) hs5_4
      have := c5_4.size
      replace eB := Ext.then eB c5_4 (ge_of hfhO (by omega))
      replace cL2 := Chg.step cL2 c5_4 sbhO
      have hlho5_4 := OS.lt ho5_4
      try simp -implicitDefEqProofs (disch := first | decide | assumption | omega) only [go_sem, RdS.len rR sl36, RdS.idx rR sl36, RdS.cellB rR (Ext.pres eB), RdS.cells rR, RdS.len hr5 sl22, RdS.idx hr5 sl22, R1.intB hr5 (Ext.pres eB), RdS.cells hr5, RdS.len (OS.rd ho5_4) sl95, RdS.idx (OS.rd ho5_4) sl95, R1.intN (OS.rd ho5_4), RdS.cells (OS.rd ho5_4), wrap_id]
      refine hK _ _ ?_
      clear hK K
      refine den_blk ?_
      refine den_region TTok ?_
      intro K hK
      simp -implicitDefEqProofs (disch := first | decide | assumption | omega) only [go_sem, RdS.len rR sl36, RdS.idx rR sl36, RdS.cellB rR (Ext.pres eB), RdS.cells rR, RdS.len hr5 sl22, RdS.idx hr5 sl22, R1.intB hr5 (Ext.pres eB), RdS.cells hr5, RdS.len (OS.rd ho5_4) sl95, RdS.idx (OS.rd ho5_4) sl95, R1.intN (OS.rd ho5_4), RdS.cells (OS.rd ho5_4), wrap_id]
      refine hK _ _ ?_
      clear hK K
      refine den_stop ?_
      rw [map_takeA (by omega)] at ho5_4
      exact ⟨(k + 1, v5_4, fp5_4), by simp [HasL, puts_at], ⟨by first | omega | (dsimp only; omega), ho5_4, hfho5_4, sb6, cL2⟩, by first | omega | (dsimp only; omega)⟩
    · try simp only [decide_eq_true_eq, decide_eq_false_iff_not, beq_iff_eq, beq_eq_false_iff_ne, bne_iff_ne, ne_eq, Bool.not_eq_true', Bool.not_eq_false', Bool.and_eq_true, Bool.or_eq_true, bne_eq_false_iff_eq] at c0
      refine den_exit ?_
      refine denX_code ?_
      refine denX_stop ?_
      refine denX_hit ?_
      refine den_seq ?_
      refine den_region TTok ?_
      intro K hK
      simp -implicitDefEqProofs (disch := first | decide | assumption | omega) only [go_sem, RdS.len rR sl36, RdS.idx rR sl36, RdS.cellB rR (Ext.pres eB), RdS.cells rR, RdS.len (OS.rd hO) sl95, RdS.idx (OS.rd hO) sl95, R1.intN (OS.rd hO), RdS.cells (OS.rd hO), wrap_id]
      refine hK _ _ ?_
      clear hK K
      refine den_ret ?_
      simp (disch := decide) only [resP_1, puts_same, puts_ne]
      rw [map_endA (by omega)] at hO
      exact ⟨_, _, rfl, hO, hfhO.mono (by omega), eB⟩

set_option maxRecDepth 100000 in
theorem iModulo_ok (vv vR : Value) (p : Int) (v : List Int) (R : List (List Int)) (h : Heap) (rv : R1 h vv v) (rR : R2 h vR R) {w_ : Nat} {l_ : Nat → Nat} (hP : isP p = true) (hr : Rr p w_ R l_) (hv : v.length = w_ ∧ w_ ≤ 1000) (hb : Bnd p v) : CallA Try.prog 66 #[.int .i64 p, vv, vR] h fun v' h' => ∃ w0 f0, v' = w0 ∧ O1 h' w0 (restP p R v) f0 ∧ Fresh h.size f0 ∧ Ext h h' := by
  have hlev := RdS.le rv
  have hleR := RdS.le rR
  have hp := isP_two hP
  have hRl := hr.le_w
  refine callA_intro TTok (args := [_, _, _]) Try.func66 (by kernel_rfl) rfl 33 rfl (by simp) [.tmp 6] rfl ?_
  simp only [idxs, Nat.reduceAdd]
  refine den_seq ?_
  refine den_region TTok ?_
  intro K hK
  simp -implicitDefEqProofs (disch := first | decide | assumption | omega) only [go_sem, RdS.len rv sl22, RdS.idx rv sl22, R1.intB rv (HPres.refl _), RdS.cells rv, RdS.len rR sl36, RdS.idx rR sl36, RdS.cellB rR (HPres.refl _), RdS.cells rR, wrap_id]
  refine hK _ _ ?_
  clear hK K
  refine den_seq ?_
  refine den_region TTok ?_
  intro K hK
  simp -implicitDefEqProofs (disch := first | decide | assumption | omega) only [go_sem, RdS.len rv sl22, RdS.idx rv sl22, R1.intB rv (HPres.refl _), RdS.cells rv, RdS.len rR sl36, RdS.idx rR sl36, RdS.cellB rR (HPres.refl _), RdS.cells rR, wrap_id]
  try simp -implicitDefEqProofs (disch := first | decide | assumption | omega) only [go_sem, RdS.len rv sl22, RdS.idx rv sl22, R1.intB rv (HPres.refl _), RdS.cells rv, RdS.len rR sl36, RdS.idx rR sl36, RdS.cellB rR (HPres.refl _), RdS.cells rR, wrap_id]
  refine CallA.mono (clone1_ok _ v _ rv (by omega)) ?_
  intro vw1_1_0 h1_1
  rintro ⟨zvw1_1_0, fw1_1_0, rfl, how1_1_0, hfw1_1_0, e1_1⟩
  have := Ext.size e1_1
  have eB := e1_1
  have hlhow1_1_0 := OS.lt how1_1_0
  try simp -implicitDefEqProofs (disch := first | decide | assumption | omega) only [go_sem, RdS.len rv sl22, RdS.idx rv sl22, R1.intB rv (Ext.pres eB), RdS.cells rv, RdS.len rR sl36, RdS.idx rR sl36, RdS.cellB rR (Ext.pres eB), RdS.cells rR, RdS.len (OS.rd how1_1_0) sl22, RdS.idx (OS.rd how1_1_0) sl22, R1.intN (OS.rd how1_1_0), RdS.cells (OS.rd how1_1_0), wrap_id]
  refine hK _ _ ?_
  clear hK K
  refine den_seq ?_
  refine den_seq ?_
  refine den_region TTok ?_
  intro K hK
  simp -implicitDefEqProofs (disch := first | decide | assumption | omega) only [go_sem, RdS.len rv sl22, RdS.idx rv sl22, R1.intB rv (Ext.pres eB), RdS.cells rv, RdS.len rR sl36, RdS.idx rR sl36, RdS.cellB rR (Ext.pres eB), RdS.cells rR, RdS.len (OS.rd how1_1_0) sl22, RdS.idx (OS.rd how1_1_0) sl22, R1.intN (OS.rd how1_1_0), RdS.cells (OS.rd how1_1_0), wrap_id]
  try simp -implicitDefEqProofs (disch := first | decide | assumption | omega) only [go_sem, RdS.len rv sl22, RdS.idx rv sl22, R1.intB rv (Ext.pres eB), RdS.cells rv, RdS.len rR sl36, RdS.idx rR sl36, RdS.cellB rR (Ext.pres eB), RdS.cells rR, RdS.len (OS.rd how1_1_0) sl22, RdS.idx (OS.rd how1_1_0) sl22, R1.intN (OS.rd how1_1_0), RdS.cells (OS.rd how1_1_0), wrap_id]
  refine CallA.mono (iLeads_ok _ R _ (RdS.pres rR (Ext.pres eB)) (by omega)) ?_
  intro vw2_1_0 h2_1
  rintro ⟨zvw2_1_0, fw2_1_0, rfl, how2_1_0, hfw2_1_0, e2_1⟩
  replace how1_1_0 := OS.ext how1_1_0 e2_1
  have := Ext.size e2_1
  replace eB := Ext.trans eB e2_1
  have hlhow2_1_0 := OS.lt how2_1_0
  try simp -implicitDefEqProofs (disch := first | decide | assumption | omega) only [go_sem, RdS.len rv sl22, RdS.idx rv sl22, R1.intB rv (Ext.pres eB), RdS.cells rv, RdS.len rR sl36, RdS.idx rR sl36, RdS.cellB rR (Ext.pres eB), RdS.cells rR, RdS.len (OS.rd how1_1_0) sl22, RdS.idx (OS.rd how1_1_0) sl22, R1.intN (OS.rd how1_1_0), RdS.cells (OS.rd how1_1_0), RdS.len (OS.rd how2_1_0) sl95, RdS.idx (OS.rd how2_1_0) sl95, R1.intN (OS.rd how2_1_0), RdS.cells (OS.rd how2_1_0), wrap_id]
  refine hK _ _ ?_
  clear hK K
  refine den_block ?_
  refine den_sel [15, 0, 2, 7, 13, 14] ?_
  intro env_1
  simp only [go_sem]
  refine den_loopS (σ := Nat) (fun st_ => [(15, .int .i64 (st_ : Int))]) (fun st_ H => (st_ ≤ R.length) ∧ (O1 H vw1_1_0 (restN p R v st_) fw1_1_0) ∧ (Chg fw1_1_0 h2_1 H)) (fun st_ => R.length - st_) 0 ?_ ?_
  · exact ⟨by first | (simp; done) | (dsimp only; omega) | (simp; omega), by exact how1_1_0, Chg.refl _ _⟩
  · rintro k h4 ee3 ⟨hi0, hO, cL2⟩
    replace how2_1_0 := OS.chg how2_1_0 cL2 (apart_gt hfw2_1_0 hlhow1_1_0 (by omega))
    have := cL2.size
    replace eB := Ext.then eB cL2 (ge_of hfw1_1_0 (by omega))
    have sbhO : Sub fw1_1_0 h2_1.size fw1_1_0 := Sub.refl
    have hfhO := hfw1_1_0
    have hlhO := hlhow1_1_0
    simp only [List.cons_append, List.nil_append]
    have hml_ : (R.map leadP).length = R.length := by simp
    have hrl := restN_len p R v k
    have hbn := restN_bnd (p := p) (L := R) (by omega) hb k
    refine den_seq ?_
    refine den_region TTok ?_
    intro K hK
    simp -implicitDefEqProofs (disch := first | decide | assumption | omega) only [go_sem, RdS.len rv sl22, RdS.idx rv sl22, R1.intB rv (Ext.pres eB), RdS.cells rv, RdS.len rR sl36, RdS.idx rR sl36, RdS.cellB rR (Ext.pres eB), RdS.cells rR, RdS.len (OS.rd how2_1_0) sl95, RdS.idx (OS.rd how2_1_0) sl95, R1.intN (OS.rd how2_1_0), RdS.cells (OS.rd how2_1_0), RdS.len (OS.rd hO) sl22, RdS.idx (OS.rd hO) sl22, R1.intN (OS.rd hO), RdS.cells (OS.rd hO), wrap_id]
    refine hK _ _ ?_
    clear hK K
    refine den_seq ?_
    refine den_cond rfl (fun c0 => ?_) (fun c0 => ?_)
    · try simp only [decide_eq_true_eq, decide_eq_false_iff_not, beq_iff_eq, beq_eq_false_iff_ne, bne_iff_ne, ne_eq, Bool.not_eq_true', Bool.not_eq_false', Bool.and_eq_true, Bool.or_eq_true, bne_eq_false_iff_eq] at c0
      refine den_skip ?_
      refine den_seq ?_
      refine den_block ?_
      refine den_seq ?_
      have hld := hr.lead (i := k) (by omega)
      have hlw := hr.lt k (by omega)
      have hrk := hr.len k (by omega)
      have hbk := hr.bnd k (by omega)
      have hge := getD_mapL (R := R) (k := k) (by omega)
      refine den_region TTok ?_
      intro K hK
      simp -implicitDefEqProofs (disch := first | decide | assumption | omega) only [go_sem, ld3, RdS.len rv sl22, RdS.idx rv sl22, R1.intB rv (Ext.pres eB), RdS.cells rv, RdS.len rR sl36, RdS.idx rR sl36, RdS.cellB rR (Ext.pres eB), RdS.cells rR, RdS.len (OS.rd how2_1_0) sl95, RdS.idx (OS.rd how2_1_0) sl95, R1.intN (OS.rd how2_1_0), RdS.cells (OS.rd how2_1_0), RdS.len (OS.rd hO) sl22, RdS.idx (OS.rd hO) sl22, R1.intN (OS.rd hO), RdS.cells (OS.rd hO), wrap_id]
      refine hK _ _ ?_
      clear hK K
      have hxk := hbn.at (k := ((R.map leadP).getD k 0).toNat) (by omega)
      have hcp : 0 < p ∧ p ≤ 7 := by omega
      have hcl : (R.getD k default).length = (restN p R v k).length := by omega
      have hca := hbn
      have hcb := hbk
      have hck := hxk
      refine den_draw TTok mixed [10] [(0, true), (1, true), (2, true), (3, true), (4, true), (5, true), (6, true), (7, true), (8, true), (9, true), (10, false)] (by kernel_rfl) ?_
      intro K hK
      have hr5 := RdS.rowN rR k (by omega)
      have hlhr5 := RdS.le hr5
      simp -implicitDefEqProofs (disch := first | decide | assumption | omega) only [go_sem, ld22, ld2, RdS.len rv sl22, RdS.idx rv sl22, R1.intB rv (Ext.pres eB), RdS.cells rv, RdS.len rR sl36, RdS.idx rR sl36, RdS.cellB rR (Ext.pres eB), RdS.cells rR, RdS.len hr5 sl22, RdS.idx hr5 sl22, R1.intB hr5 (Ext.pres eB), RdS.cells hr5, RdS.len (OS.rd how2_1_0) sl95, RdS.idx (OS.rd how2_1_0) sl95, R1.intN (OS.rd how2_1_0), RdS.cells (OS.rd how2_1_0), RdS.len (OS.rd hO) sl22, RdS.idx (OS.rd hO) sl22, R1.intN (OS.rd hO), RdS.cells (OS.rd hO), wrap_id]
      try simp -implicitDefEqProofs (disch := first | decide | assumption | omega) only [go_sem, RdS.len rv sl22, RdS.idx rv sl22, R1.intB rv (Ext.pres eB), RdS.cells rv, RdS.len rR sl36, RdS.idx rR sl36, RdS.cellB rR (Ext.pres eB), RdS.cells rR, RdS.len hr5 sl22, RdS.idx hr5 sl22, R1.intB hr5 (Ext.pres eB), RdS.cells hr5, RdS.len (OS.rd how2_1_0) sl95, RdS.idx (OS.rd how2_1_0) sl95, R1.intN (OS.rd how2_1_0), RdS.cells (OS.rd how2_1_0), RdS.len (OS.rd hO) sl22, RdS.idx (OS.rd hO) sl22, R1.intN (OS.rd hO), RdS.cells (OS.rd hO), wrap_id]
      refine CallA.mono (clear_ok _ ((restN p R v k).getD (((R.map leadP).getD k 0)).toNat 0) _ _ _ _ _ _ hO hfhO.nodup (RdS.pres hr5 (Ext.pres eB)) (fun h_ c_ => RdS.pres hr5 (Ext.pres (Ext.then eB c_ (ge_of hfhO (by omega))))) hcp hcl hca hcb hck) ?_
      intro v_ h5_10
      rintro ⟨rfl, hog5_10, cg5_10⟩
      replace how2_1_0 := OS.chg how2_1_0 cg5_10 (apart_gt hfw2_1_0 hlhO (by omega))
      have := cg5_10.size
      replace eB := Ext.then eB cg5_10 (ge_of hfhO (by omega))
      replace cL2 := Chg.step cL2 cg5_10 sbhO
      have ap6 : Apart fw2_1_0 fw1_1_0 := (apart_gt hfw2_1_0 hlhO (by omega))
      have hlhog5_10 := hlhO
      try simp (disch := decide) only [outv_some, outv_none, put_puts]
      refine plK_last (by decide) ?_
      try simp -implicitDefEqProofs (disch := first | decide | assumption | omega) only [go_sem, RdS.len rv sl22, RdS.idx rv sl22, R1.intB rv (Ext.pres eB), RdS.cells rv, RdS.len rR sl36, RdS.idx rR sl36, RdS.cellB rR (Ext.pres eB), RdS.cells rR, RdS.len hr5 sl22, RdS.idx hr5 sl22, R1.intB hr5 (Ext.pres eB), RdS.cells hr5, RdS.len (OS.rd how2_1_0) sl95, RdS.idx (OS.rd how2_1_0) sl95, R1.intN (OS.rd how2_1_0), RdS.cells (OS.rd how2_1_0), RdS.len (OS.rd hog5_10) sl22, RdS.idx (OS.rd hog5_10) sl22, R1.intN (OS.rd hog5_10), RdS.cells (OS.rd hog5_10), wrap_id]
      refine hK _ _ ?_
      clear hK K
      refine den_blk ?_
      refine den_region TTok ?_
      intro K hK
      simp -implicitDefEqProofs (disch := first | decide | assumption | omega) only [go_sem, RdS.len rv sl22, RdS.idx rv sl22, R1.intB rv (Ext.pres eB), RdS.cells rv, RdS.len rR sl36, RdS.idx rR sl36, RdS.cellB rR (Ext.pres eB), RdS.cells rR, RdS.len hr5 sl22, RdS.idx hr5 sl22, R1.intB hr5 (Ext.pres eB), RdS.cells hr5, RdS.len (OS.rd how2_1_0) sl95, RdS.idx (OS.rd how2_1_0) sl95, R1.intN (OS.rd how2_1_0), RdS.cells (OS.rd how2_1_0), RdS.len (OS.rd hog5_10) sl22, RdS.idx (OS.rd hog5_10) sl22, R1.intN (OS.rd hog5_10), RdS.cells (OS.rd hog5_10), wrap_id]
      refine hK _ _ ?_
      clear hK K
      refine den_stop ?_
      rw [hge] at hog5_10
      exact ⟨k + 1, by simp [HasL, puts_at], ⟨by first | omega | (dsimp only; omega), hog5_10, cL2⟩, by first | omega | (dsimp only; omega)⟩
    · try simp only [decide_eq_true_eq, decide_eq_false_iff_not, beq_iff_eq, beq_eq_false_iff_ne, bne_iff_ne, ne_eq, Bool.not_eq_true', Bool.not_eq_false', Bool.and_eq_true, Bool.or_eq_true, bne_eq_false_iff_eq] at c0
      refine den_exit ?_
      refine denX_code ?_
      refine denX_stop ?_
      refine denX_hit ?_
      refine den_seq ?_
      refine den_region TTok ?_
      intro K hK
      simp -implicitDefEqProofs (disch := first | decide | assumption | omega) only [go_sem, RdS.len rv sl22, RdS.idx rv sl22, R1.intB rv (Ext.pres eB), RdS.cells rv, RdS.len rR sl36, RdS.idx rR sl36, RdS.cellB rR (Ext.pres eB), RdS.cells rR, RdS.len (OS.rd hO) sl22, RdS.idx (OS.rd hO) sl22, R1.intN (OS.rd hO), RdS.cells (OS.rd hO), wrap_id]
      refine hK _ _ ?_
      clear hK K
      refine den_ret ?_
      simp (disch := decide) only [resP_1, puts_same, puts_ne]
      rw [show restN p R v k = restP p R v by rw [restP, show R.length = k by omega]] at hO
      exact ⟨_, _, rfl, hO, hfhO.mono (by omega), eB⟩

set_option maxRecDepth 100000 in
theorem sRest_ok (vR vv : Value) (p : Int) (R : List (List Int)) (v : List Int) (h : Heap) (rR : R2 h vR R) (rv : R1 h vv v) {w_ : Nat} {l_ : Nat → Nat} (hP : isP p = true) (hr : Rr p w_ R l_) (hv : v.length = w_ ∧ w_ ≤ 1000) (hb : Bnd p v) : CallA Try.prog 82 #[.int .i64 p, vR, vv] h fun v' h' => ∃ w0 f0, v' = w0 ∧ O1 h' w0 (restP p R v) f0 ∧ Fresh h.size f0 ∧ Ext h h' := by
  have hleR := RdS.le rR
  have hlev := RdS.le rv
  have hp := isP_two hP
  have hRl := hr.le_w
  refine callA_intro TTok (args := [_, _, _]) Try.func82 (by kernel_rfl) rfl 33 rfl (by simp) [.tmp 6] rfl ?_
  simp only [idxs, Nat.reduceAdd]
  refine den_seq ?_
  refine den_region TTok ?_
  intro K hK
  simp -implicitDefEqProofs (disch := first | decide | assumption | omega) only [go_sem, RdS.len rR sl36, RdS.idx rR sl36, RdS.cellB rR (HPres.refl _), RdS.cells rR, RdS.len rv sl22, RdS.idx rv sl22, R1.intB rv (HPres.refl _), RdS.cells rv, wrap_id]
  refine hK _ _ ?_
  clear hK K
  refine den_seq ?_
  refine den_region TTok ?_
  intro K hK
  simp -implicitDefEqProofs (disch := first | decide | assumption | omega) only [go_sem, RdS.len rR sl36, RdS.idx rR sl36, RdS.cellB rR (HPres.refl _), RdS.cells rR, RdS.len rv sl22, RdS.idx rv sl22, R1.intB rv (HPres.refl _), RdS.cells rv, wrap_id]
  try simp -implicitDefEqProofs (disch := first | decide | assumption | omega) only [go_sem, RdS.len rR sl36, RdS.idx rR sl36, RdS.cellB rR (HPres.refl _), RdS.cells rR, RdS.len rv sl22, RdS.idx rv sl22, R1.intB rv (HPres.refl _), RdS.cells rv, wrap_id]
  refine CallA.mono (sOwn_ok _ v _ rv (by omega)) ?_
  intro vw1_1_0 h1_1
  rintro ⟨zvw1_1_0, fw1_1_0, rfl, how1_1_0, hfw1_1_0, e1_1⟩
  have := Ext.size e1_1
  have eB := e1_1
  have hlhow1_1_0 := OS.lt how1_1_0
  try simp -implicitDefEqProofs (disch := first | decide | assumption | omega) only [go_sem, RdS.len rR sl36, RdS.idx rR sl36, RdS.cellB rR (Ext.pres eB), RdS.cells rR, RdS.len rv sl22, RdS.idx rv sl22, R1.intB rv (Ext.pres eB), RdS.cells rv, RdS.len (OS.rd how1_1_0) sl22, RdS.idx (OS.rd how1_1_0) sl22, R1.intN (OS.rd how1_1_0), RdS.cells (OS.rd how1_1_0), wrap_id]
  refine hK _ _ ?_
  clear hK K
  refine den_seq ?_
  refine den_seq ?_
  refine den_region TTok ?_
  intro K hK
  simp -implicitDefEqProofs (disch := first | decide | assumption | omega) only [go_sem, RdS.len rR sl36, RdS.idx rR sl36, RdS.cellB rR (Ext.pres eB), RdS.cells rR, RdS.len rv sl22, RdS.idx rv sl22, R1.intB rv (Ext.pres eB), RdS.cells rv, RdS.len (OS.rd how1_1_0) sl22, RdS.idx (OS.rd how1_1_0) sl22, R1.intN (OS.rd how1_1_0), RdS.cells (OS.rd how1_1_0), wrap_id]
  refine hK _ _ ?_
  clear hK K
  refine den_block ?_
  refine den_sel [7, 8, 0, 1] ?_
  intro env_1
  simp only [go_sem]
  refine den_loopS (σ := Nat × Value × List Nat) (fun st_ => [(7, st_.2.1), (8, .int .i64 (st_.1 : Int))]) (fun st_ H => (st_.1 ≤ R.length) ∧ (O1 H st_.2.1 (restN p R v st_.1) st_.2.2) ∧ (Fresh (h.size) st_.2.2) ∧ (Sub fw1_1_0 h1_1.size st_.2.2) ∧ (Chg fw1_1_0 h1_1 H)) (fun st_ => R.length - st_.1) (0, vw1_1_0, fw1_1_0) ?_ ?_
  · exact ⟨by first | (simp; done) | (dsimp only; omega) | (simp; omega), by exact how1_1_0, hfw1_1_0, Sub.refl, Chg.refl _ _⟩
  · rintro ⟨k, vhO, fphO⟩ h4 ee3 ⟨hi0, hO, hfhO, sbhO, cL2⟩
    dsimp only at hi0 hO hfhO sbhO cL2
    have := cL2.size
    replace eB := Ext.then eB cL2 (ge_of hfw1_1_0 (by omega))
    have hlhO := OS.lt hO
    simp only [List.cons_append, List.nil_append]
    have hrl := restN_len p R v k
    have hbn := restN_bnd (p := p) (L := R) (by omega) hb k
    refine den_seq ?_
    refine den_seq ?_
    refine den_region TTok ?_
    intro K hK
    simp -implicitDefEqProofs (disch := first | decide | assumption | omega) only [go_sem, RdS.len rR sl36, RdS.idx rR sl36, RdS.cellB rR (Ext.pres eB), RdS.cells rR, RdS.len rv sl22, RdS.idx rv sl22, R1.intB rv (Ext.pres eB), RdS.cells rv, RdS.len (OS.rd hO) sl22, RdS.idx (OS.rd hO) sl22, R1.intN (OS.rd hO), RdS.cells (OS.rd hO), wrap_id]
    refine hK _ _ ?_
    clear hK K
    refine den_cond rfl (fun c0 => ?_) (fun c0 => ?_)
    · try simp only [decide_eq_true_eq, decide_eq_false_iff_not, beq_iff_eq, beq_eq_false_iff_ne, bne_iff_ne, ne_eq, Bool.not_eq_true', Bool.not_eq_false', Bool.and_eq_true, Bool.or_eq_true, bne_eq_false_iff_eq] at c0
      refine den_skip ?_
      refine den_seq ?_
      refine den_block ?_
      have hld := hr.lead (i := k) (by omega)
      have hlw := hr.lt k (by omega)
      have hrk := hr.len k (by omega)
      have hbk := hr.bnd k (by omega)
      have hxk := hbn.at (k := (leadP (R.getD k default)).toNat) (by omega)
      have hls : ((restN p R v k).length ≤ (R.getD k default).length ∧ (restN p R v k).length ≤ 1000) ∧ Bnd p (restN p R v k) ∧ Bnd p (R.getD k default) := ⟨by omega, hbn, hbk⟩
      refine den_draw TTok mixed [] [(0, true), (1, true), (2, true), (3, true), (4, true), (5, true), (6, true), (7, true), (8, true), (9, true), (10, true), (11, false), (12, true), (13, true), (14, false), (15, true)] (by kernel_rfl) ?_
      intro K hK
      have hr5 := RdS.rowN rR k (by omega)
      have hlhr5 := RdS.le hr5
      have hr6 := RdS.rowN rR k (by omega)
      have hlhr6 := RdS.le hr6
      simp -implicitDefEqProofs (disch := first | decide | assumption | omega) only [go_sem, ld22, RdS.len rR sl36, RdS.idx rR sl36, RdS.cellB rR (Ext.pres eB), RdS.cells rR, RdS.len rv sl22, RdS.idx rv sl22, R1.intB rv (Ext.pres eB), RdS.cells rv, RdS.len hr5 sl22, RdS.idx hr5 sl22, R1.intB hr5 (Ext.pres eB), RdS.cells hr5, RdS.len hr6 sl22, RdS.idx hr6 sl22, R1.intB hr6 (Ext.pres eB), RdS.cells hr6, RdS.len (OS.rd hO) sl22, RdS.idx (OS.rd hO) sl22, R1.intN (OS.rd hO), RdS.cells (OS.rd hO), wrap_id]
      try simp -implicitDefEqProofs (disch := first | decide | assumption | omega) only [go_sem, RdS.len rR sl36, RdS.idx rR sl36, RdS.cellB rR (Ext.pres eB), RdS.cells rR, RdS.len rv sl22, RdS.idx rv sl22, R1.intB rv (Ext.pres eB), RdS.cells rv, RdS.len hr5 sl22, RdS.idx hr5 sl22, R1.intB hr5 (Ext.pres eB), RdS.cells hr5, RdS.len hr6 sl22, RdS.idx hr6 sl22, R1.intB hr6 (Ext.pres eB), RdS.cells hr6, RdS.len (OS.rd hO) sl22, RdS.idx (OS.rd hO) sl22, R1.intN (OS.rd hO), RdS.cells (OS.rd hO), wrap_id]
      refine CallA.pure (sLead_ok _ ((R).getD k default) _ (RdS.pres hr6 (Ext.pres eB))) ?_
      try simp -implicitDefEqProofs (disch := first | decide | assumption | omega) only [go_sem, ld2, RdS.len rR sl36, RdS.idx rR sl36, RdS.cellB rR (Ext.pres eB), RdS.cells rR, RdS.len rv sl22, RdS.idx rv sl22, R1.intB rv (Ext.pres eB), RdS.cells rv, RdS.len hr5 sl22, RdS.idx hr5 sl22, R1.intB hr5 (Ext.pres eB), RdS.cells hr5, RdS.len hr6 sl22, RdS.idx hr6 sl22, R1.intB hr6 (Ext.pres eB), RdS.cells hr6, RdS.len (OS.rd hO) sl22, RdS.idx (OS.rd hO) sl22, R1.intN (OS.rd hO), RdS.cells (OS.rd hO), wrap_id]
      try simp -implicitDefEqProofs (disch := first | decide | assumption | omega) only [go_sem, RdS.len rR sl36, RdS.idx rR sl36, RdS.cellB rR (Ext.pres eB), RdS.cells rR, RdS.len rv sl22, RdS.idx rv sl22, R1.intB rv (Ext.pres eB), RdS.cells rv, RdS.len hr5 sl22, RdS.idx hr5 sl22, R1.intB hr5 (Ext.pres eB), RdS.cells hr5, RdS.len hr6 sl22, RdS.idx hr6 sl22, R1.intB hr6 (Ext.pres eB), RdS.cells hr6, RdS.len (OS.rd hO) sl22, RdS.idx (OS.rd hO) sl22, R1.intN (OS.rd hO), RdS.cells (OS.rd hO), wrap_id]
      refine CallA.mono (sLess_ok _ _ p (restN p R v k) ((R).getD k default) ((restN p R v k).getD ((leadP ((R).getD k default))).toNat 0) _ (OS.rd hO) (RdS.pres hr5 (Ext.pres eB)) (by omega) hls.1 hls.2.1 hls.2.2 (by omega)) ?_
      intro vw5_14_0 h5_14
      rintro ⟨zvw5_14_0, fw5_14_0, rfl, how5_14_0, hfw5_14_0, e5_14⟩
      replace hO := OS.ext hO e5_14
      have := Ext.size e5_14
      replace eB := Ext.trans eB e5_14
      replace cL2 := Chg.stepE cL2 e5_14
      have hlhow5_14_0 := OS.lt how5_14_0
      try simp (disch := decide) only [outv_some, outv_none, put_puts]
      refine plK_pres (Ext.pres e5_14) ?_
      try simp -implicitDefEqProofs (disch := first | decide | assumption | omega) only [go_sem, RdS.len rR sl36, RdS.idx rR sl36, RdS.cellB rR (Ext.pres eB), RdS.cells rR, RdS.len rv sl22, RdS.idx rv sl22, R1.intB rv (Ext.pres eB), RdS.cells rv, RdS.len hr5 sl22, RdS.idx hr5 sl22, R1.intB hr5 (Ext.pres eB), RdS.cells hr5, RdS.len hr6 sl22, RdS.idx hr6 sl22, R1.intB hr6 (Ext.pres eB), RdS.cells hr6, RdS.len (OS.rd hO) sl22, RdS.idx (OS.rd hO) sl22, R1.intN (OS.rd hO), RdS.cells (OS.rd hO), RdS.len (OS.rd how5_14_0) sl22, RdS.idx (OS.rd how5_14_0) sl22, R1.intN (OS.rd how5_14_0), RdS.cells (OS.rd how5_14_0), wrap_id]
      refine hK _ _ ?_
      clear hK K
      refine den_blk ?_
      refine den_region TTok ?_
      intro K hK
      simp -implicitDefEqProofs (disch := first | decide | assumption | omega) only [go_sem, RdS.len rR sl36, RdS.idx rR sl36, RdS.cellB rR (Ext.pres eB), RdS.cells rR, RdS.len rv sl22, RdS.idx rv sl22, R1.intB rv (Ext.pres eB), RdS.cells rv, RdS.len hr5 sl22, RdS.idx hr5 sl22, R1.intB hr5 (Ext.pres eB), RdS.cells hr5, RdS.len hr6 sl22, RdS.idx hr6 sl22, R1.intB hr6 (Ext.pres eB), RdS.cells hr6, RdS.len (OS.rd how5_14_0) sl22, RdS.idx (OS.rd how5_14_0) sl22, R1.intN (OS.rd how5_14_0), RdS.cells (OS.rd how5_14_0), wrap_id]
      refine hK _ _ ?_
      clear hK K
      refine den_stop ?_
      exact ⟨(k + 1, vw5_14_0, fw5_14_0), by simp [HasL, puts_at], ⟨by first | omega | (dsimp only; omega), how5_14_0, (hfw5_14_0.mono (by omega)), (Sub.fresh hfw5_14_0 (by omega)), cL2⟩, by first | omega | (dsimp only; omega)⟩
    · try simp only [decide_eq_true_eq, decide_eq_false_iff_not, beq_iff_eq, beq_eq_false_iff_ne, bne_iff_ne, ne_eq, Bool.not_eq_true', Bool.not_eq_false', Bool.and_eq_true, Bool.or_eq_true, bne_eq_false_iff_eq] at c0
      refine den_exit ?_
      refine denX_code ?_
      refine denX_stop ?_
      refine denX_hit ?_
      refine den_seq ?_
      refine den_region TTok ?_
      intro K hK
      simp -implicitDefEqProofs (disch := first | decide | assumption | omega) only [go_sem, RdS.len rR sl36, RdS.idx rR sl36, RdS.cellB rR (Ext.pres eB), RdS.cells rR, RdS.len rv sl22, RdS.idx rv sl22, R1.intB rv (Ext.pres eB), RdS.cells rv, RdS.len (OS.rd hO) sl22, RdS.idx (OS.rd hO) sl22, R1.intN (OS.rd hO), RdS.cells (OS.rd hO), wrap_id]
      refine hK _ _ ?_
      clear hK K
      refine den_ret ?_
      simp (disch := decide) only [resP_1, puts_same, puts_ne]
      rw [show restN p R v k = restP p R v by rw [restP, show R.length = k by omega]] at hO
      exact ⟨_, _, rfl, hO, hfhO.mono (by omega), eB⟩

end Go.Proofs.Ytbplnadngahgaaa
