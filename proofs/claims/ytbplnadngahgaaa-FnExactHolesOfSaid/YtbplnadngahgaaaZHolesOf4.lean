/-
  What the statement FnExactHolesOf uses of the walks, part 4.
  Conditions: each theorem's own.
-/
import Derived.Test.YtbplnadngahgaaaG16
import Derived.Test.YtbplnadngahgaaaG17
import Derived.Test.YtbplnadngahgaaaG14
import Derived.Test.YtbplnadngahgaaaG13
import Derived.Test.YtbplnadngahgaaaG15
import Derived.Test.YtbplnadngahgaaaG18
import Derived.Test.YtbplnadngahgaaaZHolesOf1
import Derived.Test.YtbplnadngahgaaaZHolesOf2
import Derived.Test.YtbplnadngahgaaaZHolesOf3
set_option linter.unusedVariables false
set_option linter.unusedSimpArgs false
namespace Go.Proofs.Ytbplnadngahgaaa
open Go
def restL (p : Int) (R B : List (List Int)) : List (List Int) := R.map (restP p B)
noncomputable def hlP (X : Cx) (n : Int) : List (List Int) := ech X.p (restL X.p (cycP X n) (bndP X n))
theorem restL_tbl {p : Int} {w : Nat} (hp : 0 < p) {R B : List (List Int)} (h : ∀ r ∈ R, r.length = w ∧ Bnd p r) : ∀ r ∈ restL p R B, r.length = w ∧ Bnd p r := fun r hr => by
  obtain ⟨x, hx, rfl⟩ := List.mem_map.1 hr
  exact ⟨by rw [restP_len]; exact (h x hx).1, restP_bnd hp (h x hx).2⟩
theorem hl_rr {X : Cx} (hC : IsC X) {n : Int} (h0 : 0 ≤ n) : ∃ l, Rr X.p (dimP X n).toNat (hlP X n) l := by
  obtain ⟨l, r⟩ := cyc_rr hC n
  exact (ech_red hC.p (restL_tbl (isP_bnd hC.p).1 r.tbl)).1
noncomputable def hlR (X : Cx) (n : Int) : List (List Int) × Int := if degC X n = 0 then (hlP X n, 0) else ([], degC X n)
theorem hlR_n {X : Cx} {n : Int} (h : degC X n ≠ 0) : hlR X n = ([], degC X n) := by rw [hlR, if_neg h]
theorem hlR_y {X : Cx} {n : Int} (h : degC X n = 0) : hlR X n = (hlP X n, 0) := by rw [hlR, if_pos h]
theorem cnt_hl (X : Cx) (n : Int) : 0 ≤ cntL cnt1 (hlR X n).1 ∧ cntL cnt1 (hlR X n).1 ≤ 64 := by
  by_cases h : degC X n = 0
  · obtain ⟨hC, h0, h1⟩ := degC_0 h
    obtain ⟨l, r⟩ := hl_rr hC h0
    rw [hlR_y h]; exact cnt_rr r (by have := dimP_bnd hC n; omega)
  · rw [hlR_n h]; exact ⟨Int.le_refl _, by show (0 : Int) ≤ _; decide⟩

set_option maxRecDepth 100000 in
theorem iApart_ok (vR vB : Value) (p : Int) (R : List (List Int)) (B : List (List Int)) (h : Heap) (rR : R2 h vR R) (rB : R2 h vB B) {w_ : Nat} {l_ : Nat → Nat} (hP : isP p = true) (hr : Rr p w_ B l_) (hT : ∀ r ∈ R, r.length = w_ ∧ Bnd p r) (hw : w_ ≤ 1000 ∧ R.length ≤ 1000) : CallA Try.prog 128 #[.int .i64 p, vR, vB] h fun v' h' => ∃ w0 f0, v' = w0 ∧ O2 h' w0 (ech p (restL p R B)) f0 ∧ Fresh h.size f0 ∧ Ext h h' := by
  have hleR := RdS.le rR
  have hleB := RdS.le rB
  have hp := isP_two hP
  refine callA_intro TTok (args := [_, _, _]) Try.func128 (by kernel_rfl) rfl 28 rfl (by simp) [.tmp 6] rfl ?_
  simp only [idxs, Nat.reduceAdd]
  refine den_seq ?_
  refine den_region TTok ?_
  intro K hK
  simp -implicitDefEqProofs (disch := first | decide | assumption | omega) only [go_sem, RdS.len rR sl36, RdS.idx rR sl36, RdS.cellB rR (HPres.refl _), RdS.cells rR, RdS.len rB sl36, RdS.idx rB sl36, RdS.cellB rB (HPres.refl _), RdS.cells rB, wrap_id]
  refine hK _ _ ?_
  clear hK K
  refine den_seq ?_
  refine den_region TTok ?_
  intro K hK
  simp -implicitDefEqProofs (disch := first | decide | assumption | omega) only [go_sem, RdS.len rR sl36, RdS.idx rR sl36, RdS.cellB rR (HPres.refl _), RdS.cells rR, RdS.len rB sl36, RdS.idx rB sl36, RdS.cellB rB (HPres.refl _), RdS.cells rB, wrap_id]
  refine op_bs0 sz36 O1 ?_
  intro v1_0 h1_0 ho1_0 e1_0
  have := Ext.size e1_0
  have eB := e1_0
  have hfho1_0 : Fresh h.size [h.size] := Fresh.one _
  have hlho1_0 := OS.lt ho1_0
  try simp -implicitDefEqProofs (disch := first | decide | assumption | omega) only [go_sem, RdS.len rR sl36, RdS.idx rR sl36, RdS.cellB rR (Ext.pres eB), RdS.cells rR, RdS.len rB sl36, RdS.idx rB sl36, RdS.cellB rB (Ext.pres eB), RdS.cells rB, RdS.len (OS.rd ho1_0) sl36, RdS.idx (OS.rd ho1_0) sl36, RdS.cellN (OS.rd ho1_0), RdS.cells (OS.rd ho1_0), wrap_id]
  refine hK _ _ ?_
  clear hK K
  refine den_seq ?_
  refine den_seq ?_
  refine den_region TTok ?_
  intro K hK
  simp -implicitDefEqProofs (disch := first | decide | assumption | omega) only [go_sem, RdS.len rR sl36, RdS.idx rR sl36, RdS.cellB rR (Ext.pres eB), RdS.cells rR, RdS.len rB sl36, RdS.idx rB sl36, RdS.cellB rB (Ext.pres eB), RdS.cells rB, RdS.len (OS.rd ho1_0) sl36, RdS.idx (OS.rd ho1_0) sl36, RdS.cellN (OS.rd ho1_0), RdS.cells (OS.rd ho1_0), wrap_id]
  refine hK _ _ ?_
  clear hK K
  refine den_block ?_
  refine den_sel [7, 13, 0, 2, 11, 12] ?_
  intro env_1
  simp only [go_sem]
  refine den_loopS (σ := Nat × Value × List Nat) (fun st_ => [(7, st_.2.1), (13, .int .i64 (st_.1 : Int))]) (fun st_ H => (st_.1 ≤ R.length) ∧ (O2 H st_.2.1 ((R.take st_.1).map (restP p B)) st_.2.2) ∧ (Fresh (h.size) st_.2.2) ∧ (Sub [h.size] h1_0.size st_.2.2) ∧ (Chg [h.size] h1_0 H)) (fun st_ => R.length - st_.1) (0, v1_0, [h.size]) ?_ ?_
  · exact ⟨by first | (simp; done) | (dsimp only; omega) | (simp; omega), by simpa using ho1_0, hfho1_0, Sub.refl, Chg.refl _ _⟩
  · rintro ⟨k, vhO, fphO⟩ h4 ee3 ⟨hi0, hO, hfhO, sbhO, cL2⟩
    dsimp only at hi0 hO hfhO sbhO cL2
    have := cL2.size
    replace eB := Ext.then eB cL2 (ge_of hfho1_0 (by omega))
    have hlhO := OS.lt hO
    simp only [List.cons_append, List.nil_append]
    have hlt_ : ((R.take k).map (restP p B)).length = k := by simp; omega
    refine den_seq ?_
    refine den_region TTok ?_
    intro K hK
    simp -implicitDefEqProofs (disch := first | decide | assumption | omega) only [go_sem, RdS.len rR sl36, RdS.idx rR sl36, RdS.cellB rR (Ext.pres eB), RdS.cells rR, RdS.len rB sl36, RdS.idx rB sl36, RdS.cellB rB (Ext.pres eB), RdS.cells rB, RdS.len (OS.rd hO) sl36, RdS.idx (OS.rd hO) sl36, RdS.cellN (OS.rd hO), RdS.cells (OS.rd hO), wrap_id]
    refine hK _ _ ?_
    clear hK K
    refine den_seq ?_
    refine den_cond rfl (fun c0 => ?_) (fun c0 => ?_)
    · try simp only [decide_eq_true_eq, decide_eq_false_iff_not, beq_iff_eq, beq_eq_false_iff_ne, bne_iff_ne, ne_eq, Bool.not_eq_true', Bool.not_eq_false', Bool.and_eq_true, Bool.or_eq_true, bne_eq_false_iff_eq] at c0
      refine den_skip ?_
      refine den_seq ?_
      refine den_block ?_
      refine den_seq ?_
      refine den_region TTok ?_
      intro K hK
      have hr5 := RdS.rowN rR k (by omega)
      have hlhr5 := RdS.le hr5
      simp -implicitDefEqProofs (disch := first | decide | assumption | omega) only [go_sem, ld22, RdS.len rR sl36, RdS.idx rR sl36, RdS.cellB rR (Ext.pres eB), RdS.cells rR, RdS.len rB sl36, RdS.idx rB sl36, RdS.cellB rB (Ext.pres eB), RdS.cells rB, RdS.len hr5 sl22, RdS.idx hr5 sl22, R1.intB hr5 (Ext.pres eB), RdS.cells hr5, RdS.len (OS.rd hO) sl36, RdS.idx (OS.rd hO) sl36, RdS.cellN (OS.rd hO), RdS.cells (OS.rd hO), wrap_id]
      refine hK _ _ ?_
      clear hK K
      have hRk := hT _ (getD_mem (show k < R.length by omega))
      have hrr := hr
      have hrv : (R.getD k default).length = w_ ∧ w_ ≤ 1000 := ⟨hRk.1, hw.1⟩
      have hrb := hRk.2
      refine den_region TTok ?_
      intro K hK
      simp -implicitDefEqProofs (disch := first | decide | assumption | omega) only [go_sem, RdS.len rR sl36, RdS.idx rR sl36, RdS.cellB rR (Ext.pres eB), RdS.cells rR, RdS.len rB sl36, RdS.idx rB sl36, RdS.cellB rB (Ext.pres eB), RdS.cells rB, RdS.len hr5 sl22, RdS.idx hr5 sl22, R1.intB hr5 (Ext.pres eB), RdS.cells hr5, RdS.len (OS.rd hO) sl36, RdS.idx (OS.rd hO) sl36, RdS.cellN (OS.rd hO), RdS.cells (OS.rd hO), wrap_id]
      try simp -implicitDefEqProofs (disch := first | decide | assumption | omega) only [go_sem, RdS.len rR sl36, RdS.idx rR sl36, RdS.cellB rR (Ext.pres eB), RdS.cells rR, RdS.len rB sl36, RdS.idx rB sl36, RdS.cellB rB (Ext.pres eB), RdS.cells rB, RdS.len hr5 sl22, RdS.idx hr5 sl22, R1.intB hr5 (Ext.pres eB), RdS.cells hr5, RdS.len (OS.rd hO) sl36, RdS.idx (OS.rd hO) sl36, RdS.cellN (OS.rd hO), RdS.cells (OS.rd hO), wrap_id]
      refine CallA.mono (iModulo_ok _ _ p ((R).getD k default) B _ (RdS.pres hr5 (Ext.pres eB)) (RdS.pres rB (Ext.pres eB)) hP hrr hrv hrb) ?_
      intro vw5_4_0 h5_4
      rintro ⟨zvw5_4_0, fw5_4_0, rfl, how5_4_0, hfw5_4_0, e5_4⟩
      replace hO := OS.ext hO e5_4
      have := Ext.size e5_4
      replace eB := Ext.trans eB e5_4
      replace cL2 := Chg.stepE cL2 e5_4
      have hlhow5_4_0 := OS.lt how5_4_0
      try simp -implicitDefEqProofs (disch := first | decide | assumption | omega) only [go_sem, RdS.len rR sl36, RdS.idx rR sl36, RdS.cellB rR (Ext.pres eB), RdS.cells rR, RdS.len rB sl36, RdS.idx rB sl36, RdS.cellB rB (Ext.pres eB), RdS.cells rB, RdS.len hr5 sl22, RdS.idx hr5 sl22, R1.intB hr5 (Ext.pres eB), RdS.cells hr5, RdS.len (OS.rd hO) sl36, RdS.idx (OS.rd hO) sl36, RdS.cellN (OS.rd hO), RdS.cells (OS.rd hO), RdS.len (OS.rd how5_4_0) sl22, RdS.idx (OS.rd how5_4_0) sl22, R1.intN (OS.rd how5_4_0), RdS.cells (OS.rd how5_4_0), wrap_id]
      refine op_bs1 sz36 rfl (OS.one how5_4_0).2 ?_
      try simp -implicitDefEqProofs (disch := first | decide | assumption | omega) only [go_sem, RdS.len rR sl36, RdS.idx rR sl36, RdS.cellB rR (Ext.pres eB), RdS.cells rR, RdS.len rB sl36, RdS.idx rB sl36, RdS.cellB rB (Ext.pres eB), RdS.cells rB, RdS.len hr5 sl22, RdS.idx hr5 sl22, R1.intB hr5 (Ext.pres eB), RdS.cells hr5, RdS.len (OS.rd hO) sl36, RdS.idx (OS.rd hO) sl36, RdS.cellN (OS.rd hO), RdS.cells (OS.rd hO), RdS.len (OS.rd how5_4_0) sl22, RdS.idx (OS.rd how5_4_0) sl22, R1.intN (OS.rd how5_4_0), RdS.cells (OS.rd how5_4_0), wrap_id]
      refine op_append1 sz36 hO hfhO.nodup how5_4_0 hfw5_4_0.nodup (apart_lt hlhO hfw5_4_0 (by omega)) (by first | omega | (simp; omega)) rfl rfl ?_
      intro v5_6 h5_6 fp5_6 ho5_6 hn5_6 hs5_6 c5_6
      have hsz5_6 := c5_6.size
      have hfho5_6 : Fresh h.size fp5_6 := Fresh.appd hfhO hfw5_4_0 (by omega) (by omega) hn5_6 hs5_6
      have sb6 : Sub [h.size] h1_0.size fp5_6 := Sub.grow sbhO (Sub.fresh hfw5_4_0 (by omega)) (by omega) hs5_6
      have := c5_6.size
      replace eB := Ext.then eB c5_6 (ge_of hfhO (by omega))
      replace cL2 := Chg.step cL2 c5_6 sbhO
      have hlho5_6 := OS.lt ho5_6
      try simp -implicitDefEqProofs (disch := first | decide | assumption | omega) only [go_sem, RdS.len rR sl36, RdS.idx rR sl36, RdS.cellB rR (Ext.pres eB), RdS.cells rR, RdS.len rB sl36, RdS.idx rB sl36, RdS.cellB rB (Ext.pres eB), RdS.cells rB, RdS.len hr5 sl22, RdS.idx hr5 sl22, R1.intB hr5 (Ext.pres eB), RdS.cells hr5, RdS.len (OS.rd ho5_6) sl36, RdS.idx (OS.rd ho5_6) sl36, RdS.cellN (OS.rd ho5_6), RdS.cells (OS.rd ho5_6), wrap_id]
      refine hK _ _ ?_
      clear hK K
      refine den_blk ?_
      refine den_region TTok ?_
      intro K hK
      simp -implicitDefEqProofs (disch := first | decide | assumption | omega) only [go_sem, RdS.len rR sl36, RdS.idx rR sl36, RdS.cellB rR (Ext.pres eB), RdS.cells rR, RdS.len rB sl36, RdS.idx rB sl36, RdS.cellB rB (Ext.pres eB), RdS.cells rB, RdS.len hr5 sl22, RdS.idx hr5 sl22, R1.intB hr5 (Ext.pres eB), RdS.cells hr5, RdS.len (OS.rd ho5_6) sl36, RdS.idx (OS.rd ho5_6) sl36, RdS.cellN (OS.rd ho5_6), RdS.cells (OS.rd ho5_6), wrap_id]
      refine hK _ _ ?_
      clear hK K
      refine den_stop ?_
      rw [map_takeA (by omega)] at ho5_6
      exact ⟨(k + 1, v5_6, fp5_6), by simp [HasL, puts_at], ⟨by first | omega | (dsimp only; omega), ho5_6, hfho5_6, sb6, cL2⟩, by first | omega | (dsimp only; omega)⟩
    · try simp only [decide_eq_true_eq, decide_eq_false_iff_not, beq_iff_eq, beq_eq_false_iff_ne, bne_iff_ne, ne_eq, Bool.not_eq_true', Bool.not_eq_false', Bool.and_eq_true, Bool.or_eq_true, bne_eq_false_iff_eq] at c0
      refine den_exit ?_
      refine denX_code ?_
      refine denX_stop ?_
      refine denX_hit ?_
      refine den_seq ?_
      have hredT := restL_tbl (B := B) (show 0 < p by omega) hT
      have hll_ : (restL p R B).length = R.length := by simp [restL]
      rw [show (R.take k).map (restP p B) = restL p R B by rw [restL, List.take_of_length_le (by omega)]] at hO
      refine den_region TTok ?_
      intro K hK
      simp -implicitDefEqProofs (disch := first | decide | assumption | omega) only [go_sem, RdS.len rR sl36, RdS.idx rR sl36, RdS.cellB rR (Ext.pres eB), RdS.cells rR, RdS.len rB sl36, RdS.idx rB sl36, RdS.cellB rB (Ext.pres eB), RdS.cells rB, RdS.len (OS.rd hO) sl36, RdS.idx (OS.rd hO) sl36, RdS.cellN (OS.rd hO), RdS.cells (OS.rd hO), wrap_id]
      try simp -implicitDefEqProofs (disch := first | decide | assumption | omega) only [go_sem, RdS.len rR sl36, RdS.idx rR sl36, RdS.cellB rR (Ext.pres eB), RdS.cells rR, RdS.len rB sl36, RdS.idx rB sl36, RdS.cellB rB (Ext.pres eB), RdS.cells rB, RdS.len (OS.rd hO) sl36, RdS.idx (OS.rd hO) sl36, RdS.cellN (OS.rd hO), RdS.cells (OS.rd hO), wrap_id]
      refine CallA.mono (iReduce_ok _ p (restL p R B) _ (OS.rd hO) hP hredT (by omega) (by omega)) ?_
      intro vw7_2_0 h7_2
      rintro ⟨zvw7_2_0, fw7_2_0, rfl, how7_2_0, hfw7_2_0, e7_2⟩
      replace hO := OS.ext hO e7_2
      have := Ext.size e7_2
      replace eB := Ext.trans eB e7_2
      have hlhow7_2_0 := OS.lt how7_2_0
      try simp -implicitDefEqProofs (disch := first | decide | assumption | omega) only [go_sem, RdS.len rR sl36, RdS.idx rR sl36, RdS.cellB rR (Ext.pres eB), RdS.cells rR, RdS.len rB sl36, RdS.idx rB sl36, RdS.cellB rB (Ext.pres eB), RdS.cells rB, RdS.len (OS.rd hO) sl36, RdS.idx (OS.rd hO) sl36, RdS.cellN (OS.rd hO), RdS.cells (OS.rd hO), RdS.len (OS.rd how7_2_0) sl36, RdS.idx (OS.rd how7_2_0) sl36, RdS.cellN (OS.rd how7_2_0), RdS.cells (OS.rd how7_2_0), wrap_id]
      refine hK _ _ ?_
      clear hK K
      refine den_ret ?_
      simp (disch := decide) only [resP_1, puts_same, puts_ne]
      exact ⟨_, _, rfl, how7_2_0, hfw7_2_0.mono (by omega), eB⟩

set_option maxRecDepth 100000 in
theorem iHL_ok (vX : Value) (X : Cx) (n : Int) (h : Heap) (rX : RC h vX X) (hC : IsC X) (hn : 0 ≤ n ∧ n ≤ 1000) : CallA Try.prog 84 #[vX, .int .i64 n] h fun v' h' => ∃ w0 f0, v' = w0 ∧ O2 h' w0 (hlP X n) f0 ∧ Fresh h.size f0 ∧ Ext h h' := by
  obtain ⟨vdX, vmX, rfl, hdX, hmX⟩ := rX
  have hledX := RdS.le hdX
  have hlemX := RdS.le hmX
  have hCx := hC
  have hcl_ := cyc_len hC n
  have hbl_ := bnd_len hC hn.1
  obtain ⟨lc, hrc⟩ := cyc_rr hC n
  obtain ⟨lb, hrB⟩ := bnd_rr hC hn.1
  have hdb := dimP_bnd hC n
  have hP := hC.p
  have hapB := hrB
  have hapT := hrc.tbl
  have hapw : (dimP X n).toNat ≤ 1000 ∧ (cycP X n).length ≤ 1000 := ⟨by omega, by omega⟩
  refine callA_intro TTok (args := [_, _]) Try.func84 (by kernel_rfl) rfl 14 rfl (by simp) [.tmp 4] rfl ?_
  simp only [idxs, Nat.reduceAdd]
  refine den_seq ?_
  refine den_region TTok ?_
  intro K hK
  simp -implicitDefEqProofs (disch := first | decide | assumption | omega) only [go_sem, RdS.len hdX sl22, RdS.idx hdX sl22, R1.intB hdX (HPres.refl _), RdS.cells hdX, RdS.len hmX sl23, RdS.idx hmX sl23, RdS.cellB hmX (HPres.refl _), RdS.cells hmX, wrap_id]
  refine op_box (cs := #[.int .i64 (X.p), vdX, vmX]) rfl ?_
  intro h0_0 e0_0 hb0_0 z0_0
  have := Ext.size e0_0
  have eB := e0_0
  have hfhb0_0 : Fresh h.size [h.size] := Fresh.one _
  have hlhb0_0 := one_lt (show h.size < h0_0.size by omega)
  try simp -implicitDefEqProofs (disch := first | decide | assumption | omega) only [go_sem, RdS.len hdX sl22, RdS.idx hdX sl22, R1.intB hdX (Ext.pres eB), RdS.cells hdX, RdS.len hmX sl23, RdS.idx hmX sl23, RdS.cellB hmX (Ext.pres eB), RdS.cells hmX, BoxAt.cell hb0_0, wrap_id]
  refine hK _ _ ?_
  clear hK K
  refine den_seq ?_
  refine den_draw TTok mixed [] [(0, true), (1, true), (2, true), (3, true), (5, true), (6, true), (4, false), (7, false), (8, false), (9, true)] (by kernel_rfl) ?_
  intro K hK
  simp -implicitDefEqProofs (disch := first | decide | assumption | omega) only [go_sem, fa30_0, ld2, ld30, RdS.len hdX sl22, RdS.idx hdX sl22, R1.intB hdX (Ext.pres eB), RdS.cells hdX, RdS.len hmX sl23, RdS.idx hmX sl23, RdS.cellB hmX (Ext.pres eB), RdS.cells hmX, BoxAt.cell hb0_0, wrap_id]
  try simp -implicitDefEqProofs (disch := first | decide | assumption | omega) only [go_sem, RdS.len hdX sl22, RdS.idx hdX sl22, R1.intB hdX (Ext.pres eB), RdS.cells hdX, RdS.len hmX sl23, RdS.idx hmX sl23, RdS.cellB hmX (Ext.pres eB), RdS.cells hmX, BoxAt.cell hb0_0, wrap_id]
  refine CallA.mono (iCyc_ok _ X n _ ⟨_, _, rfl, (RdS.pres hdX (Ext.pres eB)), (RdS.pres hmX (Ext.pres eB))⟩ hCx (by omega)) ?_
  intro vw1_4_0 h1_4
  rintro ⟨zvw1_4_0, fw1_4_0, rfl, how1_4_0, hfw1_4_0, e1_4⟩
  replace hb0_0 := BoxAt.ext hb0_0 e1_4
  have := Ext.size e1_4
  replace eB := Ext.trans eB e1_4
  have hlhow1_4_0 := OS.lt how1_4_0
  try simp (disch := decide) only [outv_some, outv_none, put_puts]
  refine plK_pres (Ext.pres e1_4) ?_
  try simp -implicitDefEqProofs (disch := first | decide | assumption | omega) only [go_sem, RdS.len hdX sl22, RdS.idx hdX sl22, R1.intB hdX (Ext.pres eB), RdS.cells hdX, RdS.len hmX sl23, RdS.idx hmX sl23, RdS.cellB hmX (Ext.pres eB), RdS.cells hmX, RdS.len (OS.rd how1_4_0) sl36, RdS.idx (OS.rd how1_4_0) sl36, RdS.cellN (OS.rd how1_4_0), RdS.cells (OS.rd how1_4_0), BoxAt.cell hb0_0, wrap_id]
  try simp -implicitDefEqProofs (disch := first | decide | assumption | omega) only [go_sem, RdS.len hdX sl22, RdS.idx hdX sl22, R1.intB hdX (Ext.pres eB), RdS.cells hdX, RdS.len hmX sl23, RdS.idx hmX sl23, RdS.cellB hmX (Ext.pres eB), RdS.cells hmX, RdS.len (OS.rd how1_4_0) sl36, RdS.idx (OS.rd how1_4_0) sl36, RdS.cellN (OS.rd how1_4_0), RdS.cells (OS.rd how1_4_0), BoxAt.cell hb0_0, wrap_id]
  refine CallA.mono (iBnd_ok _ X n _ ⟨_, _, rfl, (RdS.pres hdX (Ext.pres eB)), (RdS.pres hmX (Ext.pres eB))⟩ hCx (by omega)) ?_
  intro vw1_7_0 h1_7
  rintro ⟨zvw1_7_0, fw1_7_0, rfl, how1_7_0, hfw1_7_0, e1_7⟩
  replace how1_4_0 := OS.ext how1_4_0 e1_7
  replace hb0_0 := BoxAt.ext hb0_0 e1_7
  have := Ext.size e1_7
  replace eB := Ext.trans eB e1_7
  have hlhow1_7_0 := OS.lt how1_7_0
  try simp (disch := decide) only [outv_some, outv_none, put_puts]
  refine plK_pres (Ext.pres e1_7) ?_
  try simp -implicitDefEqProofs (disch := first | decide | assumption | omega) only [go_sem, RdS.len hdX sl22, RdS.idx hdX sl22, R1.intB hdX (Ext.pres eB), RdS.cells hdX, RdS.len hmX sl23, RdS.idx hmX sl23, RdS.cellB hmX (Ext.pres eB), RdS.cells hmX, RdS.len (OS.rd how1_4_0) sl36, RdS.idx (OS.rd how1_4_0) sl36, RdS.cellN (OS.rd how1_4_0), RdS.cells (OS.rd how1_4_0), RdS.len (OS.rd how1_7_0) sl36, RdS.idx (OS.rd how1_7_0) sl36, RdS.cellN (OS.rd how1_7_0), RdS.cells (OS.rd how1_7_0), BoxAt.cell hb0_0, wrap_id]
  try simp -implicitDefEqProofs (disch := first | decide | assumption | omega) only [go_sem, RdS.len hdX sl22, RdS.idx hdX sl22, R1.intB hdX (Ext.pres eB), RdS.cells hdX, RdS.len hmX sl23, RdS.idx hmX sl23, RdS.cellB hmX (Ext.pres eB), RdS.cells hmX, RdS.len (OS.rd how1_4_0) sl36, RdS.idx (OS.rd how1_4_0) sl36, RdS.cellN (OS.rd how1_4_0), RdS.cells (OS.rd how1_4_0), RdS.len (OS.rd how1_7_0) sl36, RdS.idx (OS.rd how1_7_0) sl36, RdS.cellN (OS.rd how1_7_0), RdS.cells (OS.rd how1_7_0), BoxAt.cell hb0_0, wrap_id]
  refine CallA.mono (iApart_ok _ _ X.p (cycP X n) (bndP X n) _ (OS.rd how1_4_0) (OS.rd how1_7_0) hP hapB hapT hapw) ?_
  intro vw1_8_0 h1_8
  rintro ⟨zvw1_8_0, fw1_8_0, rfl, how1_8_0, hfw1_8_0, e1_8⟩
  replace how1_4_0 := OS.ext how1_4_0 e1_8
  replace how1_7_0 := OS.ext how1_7_0 e1_8
  replace hb0_0 := BoxAt.ext hb0_0 e1_8
  have := Ext.size e1_8
  replace eB := Ext.trans eB e1_8
  have hlhow1_8_0 := OS.lt how1_8_0
  try simp (disch := decide) only [outv_some, outv_none, put_puts]
  refine plK_pres (Ext.pres e1_8) ?_
  try simp -implicitDefEqProofs (disch := first | decide | assumption | omega) only [go_sem, RdS.len hdX sl22, RdS.idx hdX sl22, R1.intB hdX (Ext.pres eB), RdS.cells hdX, RdS.len hmX sl23, RdS.idx hmX sl23, RdS.cellB hmX (Ext.pres eB), RdS.cells hmX, RdS.len (OS.rd how1_4_0) sl36, RdS.idx (OS.rd how1_4_0) sl36, RdS.cellN (OS.rd how1_4_0), RdS.cells (OS.rd how1_4_0), RdS.len (OS.rd how1_7_0) sl36, RdS.idx (OS.rd how1_7_0) sl36, RdS.cellN (OS.rd how1_7_0), RdS.cells (OS.rd how1_7_0), RdS.len (OS.rd how1_8_0) sl36, RdS.idx (OS.rd how1_8_0) sl36, RdS.cellN (OS.rd how1_8_0), RdS.cells (OS.rd how1_8_0), BoxAt.cell hb0_0, wrap_id]
  refine hK _ _ ?_
  clear hK K
  refine den_ret ?_
  simp (disch := decide) only [resP_1, puts_same, puts_ne]
  exact ⟨_, _, rfl, how1_8_0, hfw1_8_0.mono (by omega), eB⟩

set_option maxRecDepth 100000 in
theorem sHoles_ok (vX : Value) (X : Cx) (n : Int) (h : Heap) (rX : RC h vX X) (hC : IsC X) (hn : 0 ≤ n ∧ n ≤ 1000) : CallA Try.prog 86 #[vX, .int .i64 n] h fun v' h' => ∃ w0 f0, v' = w0 ∧ O2 h' w0 (hlP X n) f0 ∧ Fresh h.size f0 ∧ Ext h h' := by
  obtain ⟨vdX, vmX, rfl, hdX, hmX⟩ := rX
  have hledX := RdS.le hdX
  have hlemX := RdS.le hmX
  have hCx := hC
  have hcl_ := cyc_len hC n
  have hbl_ := bnd_len hC hn.1
  obtain ⟨lc, hrc⟩ := cyc_rr hC n
  obtain ⟨lb, hrB⟩ := bnd_rr hC hn.1
  have hdb := dimP_bnd hC n
  have hP := hC.p
  
  refine callA_intro TTok (args := [_, _]) Try.func86 (by kernel_rfl) rfl 37 rfl (by simp) [.tmp 4] rfl ?_
  simp only [idxs, Nat.reduceAdd]
  refine den_seq ?_
  refine den_region TTok ?_
  intro K hK
  simp -implicitDefEqProofs (disch := first | decide | assumption | omega) only [go_sem, RdS.len hdX sl22, RdS.idx hdX sl22, R1.intB hdX (HPres.refl _), RdS.cells hdX, RdS.len hmX sl23, RdS.idx hmX sl23, RdS.cellB hmX (HPres.refl _), RdS.cells hmX, wrap_id]
  refine op_box (cs := #[.int .i64 (X.p), vdX, vmX]) rfl ?_
  intro h0_0 e0_0 hb0_0 z0_0
  have := Ext.size e0_0
  have eB := e0_0
  have hfhb0_0 : Fresh h.size [h.size] := Fresh.one _
  have hlhb0_0 := one_lt (show h.size < h0_0.size by omega)
  try simp -implicitDefEqProofs (disch := first | decide | assumption | omega) only [go_sem, RdS.len hdX sl22, RdS.idx hdX sl22, R1.intB hdX (Ext.pres eB), RdS.cells hdX, RdS.len hmX sl23, RdS.idx hmX sl23, RdS.cellB hmX (Ext.pres eB), RdS.cells hmX, BoxAt.cell hb0_0, wrap_id]
  refine hK _ _ ?_
  clear hK K
  refine den_seq ?_
  refine den_drawT TTok mixed [] [(0, true), (1, true), (3, true), (4, true)] (.fork 2 [] (.fork 5 [(7, true), (8, true), (6, false), (9, true)] .fin 6 [(5, false), (7, true), (8, true), (9, true)] .fin) 6 [(2, false), (5, false), (7, true), (8, true), (9, true)] .fin) (by kernel_rfl) ?_
  intro K hK
  simp -implicitDefEqProofs (disch := first | decide | assumption | omega) only [go_sem, ld30, RdS.len hdX sl22, RdS.idx hdX sl22, R1.intB hdX (Ext.pres eB), RdS.cells hdX, RdS.len hmX sl23, RdS.idx hmX sl23, RdS.cellB hmX (Ext.pres eB), RdS.cells hmX, BoxAt.cell hb0_0, wrap_id]
  refine And.intro ?_ ?_
  · simp -implicitDefEqProofs (disch := first | decide | assumption | omega) only [go_sem, RdS.len hdX sl22, RdS.idx hdX sl22, R1.intB hdX (Ext.pres eB), RdS.cells hdX, RdS.len hmX sl23, RdS.idx hmX sl23, RdS.cellB hmX (Ext.pres eB), RdS.cells hmX, BoxAt.cell hb0_0, wrap_id]
    try simp -implicitDefEqProofs (disch := first | decide | assumption | omega) only [go_sem, RdS.len hdX sl22, RdS.idx hdX sl22, R1.intB hdX (Ext.pres eB), RdS.cells hdX, RdS.len hmX sl23, RdS.idx hmX sl23, RdS.cellB hmX (Ext.pres eB), RdS.cells hmX, BoxAt.cell hb0_0, wrap_id]
    refine CallA.mono (sCyc_ok _ X n _ ⟨_, _, rfl, (RdS.pres hdX (Ext.pres eB)), (RdS.pres hmX (Ext.pres eB))⟩ hCx (by omega)) ?_
    intro vw1_2_0 h1_2
    rintro ⟨zvw1_2_0, fw1_2_0, rfl, how1_2_0, hfw1_2_0, e1_2⟩
    replace hb0_0 := BoxAt.ext hb0_0 e1_2
    have := Ext.size e1_2
    replace eB := Ext.trans eB e1_2
    have hlhow1_2_0 := OS.lt how1_2_0
    try simp (disch := decide) only [outv_some, outv_none, put_puts]
    refine plK_pres (Ext.pres e1_2) ?_
    try simp -implicitDefEqProofs (disch := first | decide | assumption | omega) only [go_sem, RdS.len hdX sl22, RdS.idx hdX sl22, R1.intB hdX (Ext.pres eB), RdS.cells hdX, RdS.len hmX sl23, RdS.idx hmX sl23, RdS.cellB hmX (Ext.pres eB), RdS.cells hmX, RdS.len (OS.rd how1_2_0) sl36, RdS.idx (OS.rd how1_2_0) sl36, RdS.cellN (OS.rd how1_2_0), RdS.cells (OS.rd how1_2_0), BoxAt.cell hb0_0, wrap_id]
    refine And.intro ?_ ?_
    · simp -implicitDefEqProofs (disch := first | decide | assumption | omega) only [go_sem, RdS.len hdX sl22, RdS.idx hdX sl22, R1.intB hdX (Ext.pres eB), RdS.cells hdX, RdS.len hmX sl23, RdS.idx hmX sl23, RdS.cellB hmX (Ext.pres eB), RdS.cells hmX, RdS.len (OS.rd how1_2_0) sl36, RdS.idx (OS.rd how1_2_0) sl36, RdS.cellN (OS.rd how1_2_0), RdS.cells (OS.rd how1_2_0), BoxAt.cell hb0_0, wrap_id]
      try simp -implicitDefEqProofs (disch := first | decide | assumption | omega) only [go_sem, RdS.len hdX sl22, RdS.idx hdX sl22, R1.intB hdX (Ext.pres eB), RdS.cells hdX, RdS.len hmX sl23, RdS.idx hmX sl23, RdS.cellB hmX (Ext.pres eB), RdS.cells hmX, RdS.len (OS.rd how1_2_0) sl36, RdS.idx (OS.rd how1_2_0) sl36, RdS.cellN (OS.rd how1_2_0), RdS.cells (OS.rd how1_2_0), BoxAt.cell hb0_0, wrap_id]
      refine CallA.mono (sBnd_ok _ X n _ ⟨_, _, rfl, (RdS.pres hdX (Ext.pres eB)), (RdS.pres hmX (Ext.pres eB))⟩ hCx (by omega)) ?_
      intro vw1_5_0 h1_5
      rintro ⟨zvw1_5_0, fw1_5_0, rfl, how1_5_0, hfw1_5_0, e1_5⟩
      replace how1_2_0 := OS.ext how1_2_0 e1_5
      replace hb0_0 := BoxAt.ext hb0_0 e1_5
      have := Ext.size e1_5
      replace eB := Ext.trans eB e1_5
      have hlhow1_5_0 := OS.lt how1_5_0
      try simp (disch := decide) only [outv_some, outv_none, put_puts]
      refine plK_pres (Ext.pres e1_5) ?_
      try simp -implicitDefEqProofs (disch := first | decide | assumption | omega) only [go_sem, RdS.len hdX sl22, RdS.idx hdX sl22, R1.intB hdX (Ext.pres eB), RdS.cells hdX, RdS.len hmX sl23, RdS.idx hmX sl23, RdS.cellB hmX (Ext.pres eB), RdS.cells hmX, RdS.len (OS.rd how1_2_0) sl36, RdS.idx (OS.rd how1_2_0) sl36, RdS.cellN (OS.rd how1_2_0), RdS.cells (OS.rd how1_2_0), RdS.len (OS.rd how1_5_0) sl36, RdS.idx (OS.rd how1_5_0) sl36, RdS.cellN (OS.rd how1_5_0), RdS.cells (OS.rd how1_5_0), BoxAt.cell hb0_0, wrap_id]
      refine op_bs0 sz36 O1 ?_
      intro v1_6 h1_6 ho1_6 e1_6
      replace how1_2_0 := OS.ext how1_2_0 e1_6
      replace how1_5_0 := OS.ext how1_5_0 e1_6
      replace hb0_0 := BoxAt.ext hb0_0 e1_6
      have := Ext.size e1_6
      replace eB := Ext.trans eB e1_6
      have hfho1_6 : Fresh h1_5.size [h1_5.size] := Fresh.one _
      have hlho1_6 := OS.lt ho1_6
      try simp (disch := decide) only [outv_some, outv_none, put_puts]
      refine plK_pres (Ext.pres e1_6) ?_
      try simp -implicitDefEqProofs (disch := first | decide | assumption | omega) only [go_sem, RdS.len hdX sl22, RdS.idx hdX sl22, R1.intB hdX (Ext.pres eB), RdS.cells hdX, RdS.len hmX sl23, RdS.idx hmX sl23, RdS.cellB hmX (Ext.pres eB), RdS.cells hmX, RdS.len (OS.rd how1_2_0) sl36, RdS.idx (OS.rd how1_2_0) sl36, RdS.cellN (OS.rd how1_2_0), RdS.cells (OS.rd how1_2_0), RdS.len (OS.rd how1_5_0) sl36, RdS.idx (OS.rd how1_5_0) sl36, RdS.cellN (OS.rd how1_5_0), RdS.cells (OS.rd how1_5_0), RdS.len (OS.rd ho1_6) sl36, RdS.idx (OS.rd ho1_6) sl36, RdS.cellN (OS.rd ho1_6), RdS.cells (OS.rd ho1_6), BoxAt.cell hb0_0, wrap_id]
      refine hK _ _ ?_
      clear hK K
      refine den_seq ?_
      refine den_seq ?_
      refine den_region TTok ?_
      intro K hK
      simp -implicitDefEqProofs (disch := first | decide | assumption | omega) only [go_sem, RdS.len hdX sl22, RdS.idx hdX sl22, R1.intB hdX (Ext.pres eB), RdS.cells hdX, RdS.len hmX sl23, RdS.idx hmX sl23, RdS.cellB hmX (Ext.pres eB), RdS.cells hmX, RdS.len (OS.rd how1_2_0) sl36, RdS.idx (OS.rd how1_2_0) sl36, RdS.cellN (OS.rd how1_2_0), RdS.cells (OS.rd how1_2_0), RdS.len (OS.rd how1_5_0) sl36, RdS.idx (OS.rd how1_5_0) sl36, RdS.cellN (OS.rd how1_5_0), RdS.cells (OS.rd how1_5_0), RdS.len (OS.rd ho1_6) sl36, RdS.idx (OS.rd ho1_6) sl36, RdS.cellN (OS.rd ho1_6), RdS.cells (OS.rd ho1_6), BoxAt.cell hb0_0, wrap_id]
      refine hK _ _ ?_
      clear hK K
      refine den_block ?_
      refine den_sel [7, 8, 2, 5, 6] ?_
      intro env_1
      simp only [go_sem]
      refine den_loopS (σ := Nat × Value × List Nat) (fun st_ => [(7, st_.2.1), (8, .int .i64 (st_.1 : Int))]) (fun st_ H => (st_.1 ≤ (cycP X n).length) ∧ (O2 H st_.2.1 (((cycP X n).take st_.1).map (restP X.p (bndP X n))) st_.2.2) ∧ (Fresh (h1_5.size) st_.2.2) ∧ (Sub [h1_5.size] h1_6.size st_.2.2) ∧ (Chg [h1_5.size] h1_6 H)) (fun st_ => (cycP X n).length - st_.1) (0, v1_6, [h1_5.size]) ?_ ?_
      · exact ⟨by first | (simp; done) | (dsimp only; omega) | (simp; omega), by simpa using ho1_6, hfho1_6, Sub.refl, Chg.refl _ _⟩
      · rintro ⟨k, vhO, fphO⟩ h4 ee3 ⟨hi0, hO, hfhO, sbhO, cL2⟩
        dsimp only at hi0 hO hfhO sbhO cL2
        replace how1_2_0 := OS.chg how1_2_0 cL2 (apart_lt hlhow1_2_0 hfho1_6 (by omega))
        replace how1_5_0 := OS.chg how1_5_0 cL2 (apart_lt hlhow1_5_0 hfho1_6 (by omega))
        replace hb0_0 := BoxAt.chgA hb0_0 cL2 (apart_lt hlhb0_0 hfho1_6 (by omega))
        have := cL2.size
        replace eB := Ext.then eB cL2 (ge_of hfho1_6 (by omega))
        have hlhO := OS.lt hO
        simp only [List.cons_append, List.nil_append]
        have hlt_ : (((cycP X n).take k).map (restP X.p (bndP X n))).length = k := by simp; omega
        refine den_seq ?_
        refine den_seq ?_
        refine den_region TTok ?_
        intro K hK
        simp -implicitDefEqProofs (disch := first | decide | assumption | omega) only [go_sem, RdS.len hdX sl22, RdS.idx hdX sl22, R1.intB hdX (Ext.pres eB), RdS.cells hdX, RdS.len hmX sl23, RdS.idx hmX sl23, RdS.cellB hmX (Ext.pres eB), RdS.cells hmX, RdS.len (OS.rd how1_2_0) sl36, RdS.idx (OS.rd how1_2_0) sl36, RdS.cellN (OS.rd how1_2_0), RdS.cells (OS.rd how1_2_0), RdS.len (OS.rd how1_5_0) sl36, RdS.idx (OS.rd how1_5_0) sl36, RdS.cellN (OS.rd how1_5_0), RdS.cells (OS.rd how1_5_0), RdS.len (OS.rd hO) sl36, RdS.idx (OS.rd hO) sl36, RdS.cellN (OS.rd hO), RdS.cells (OS.rd hO), BoxAt.cell hb0_0, wrap_id]
        refine hK _ _ ?_
        clear hK K
        refine den_cond rfl (fun c0 => ?_) (fun c0 => ?_)
        · try simp only [decide_eq_true_eq, decide_eq_false_iff_not, beq_iff_eq, beq_eq_false_iff_ne, bne_iff_ne, ne_eq, Bool.not_eq_true', Bool.not_eq_false', Bool.and_eq_true, Bool.or_eq_true, bne_eq_false_iff_eq] at c0
          refine den_skip ?_
          refine den_seq ?_
          refine den_block ?_
          have hRk := hrc.tbl _ (getD_mem (show k < (cycP X n).length by omega))
          have hrr := hrB
          have hrv : ((cycP X n).getD k default).length = (dimP X n).toNat ∧ (dimP X n).toNat ≤ 1000 := ⟨hRk.1, by omega⟩
          have hrb := hRk.2
          refine den_draw TTok mixed [10] [(0, true), (1, true), (2, true), (3, true), (4, true), (5, true), (6, true), (7, true), (8, false), (9, false), (10, false), (11, true)] (by kernel_rfl) ?_
          intro K hK
          have hr5 := RdS.rowN (OS.rd how1_2_0) k (by omega)
          have hlhr5 := RdS.le hr5
          have xr6 := Ext.refl h4
          simp -implicitDefEqProofs (disch := first | decide | assumption | omega) only [go_sem, fa30_0, ld22, ld2, RdS.len hdX sl22, RdS.idx hdX sl22, R1.intB hdX (Ext.pres eB), RdS.cells hdX, RdS.len hmX sl23, RdS.idx hmX sl23, RdS.cellB hmX (Ext.pres eB), RdS.cells hmX, RdS.len (OS.rd how1_2_0) sl36, RdS.idx (OS.rd how1_2_0) sl36, RdS.cellN (OS.rd how1_2_0), RdS.cells (OS.rd how1_2_0), RdS.len (OS.rd how1_5_0) sl36, RdS.idx (OS.rd how1_5_0) sl36, RdS.cellN (OS.rd how1_5_0), RdS.cells (OS.rd how1_5_0), RdS.len (OS.rd hO) sl36, RdS.idx (OS.rd hO) sl36, RdS.cellN (OS.rd hO), RdS.cells (OS.rd hO), BoxAt.cell hb0_0, RdS.len hr5 sl22, RdS.idx hr5 sl22, R1.intB hr5 (Ext.pres xr6), RdS.cells hr5, wrap_id]
          try simp -implicitDefEqProofs (disch := first | decide | assumption | omega) only [go_sem, RdS.len hdX sl22, RdS.idx hdX sl22, R1.intB hdX (Ext.pres eB), RdS.cells hdX, RdS.len hmX sl23, RdS.idx hmX sl23, RdS.cellB hmX (Ext.pres eB), RdS.cells hmX, RdS.len (OS.rd how1_2_0) sl36, RdS.idx (OS.rd how1_2_0) sl36, RdS.cellN (OS.rd how1_2_0), RdS.cells (OS.rd how1_2_0), RdS.len (OS.rd how1_5_0) sl36, RdS.idx (OS.rd how1_5_0) sl36, RdS.cellN (OS.rd how1_5_0), RdS.cells (OS.rd how1_5_0), RdS.len (OS.rd hO) sl36, RdS.idx (OS.rd hO) sl36, RdS.cellN (OS.rd hO), RdS.cells (OS.rd hO), BoxAt.cell hb0_0, RdS.len hr5 sl22, RdS.idx hr5 sl22, R1.intB hr5 (Ext.pres xr6), RdS.cells hr5, wrap_id]
          refine CallA.mono (sRest_ok _ _ X.p (bndP X n) ((cycP X n).getD k default) _ (OS.rd how1_5_0) (RdS.pres hr5 (Ext.pres xr6)) hP hrr hrv hrb) ?_
          intro vw5_8_0 h5_8
          rintro ⟨zvw5_8_0, fw5_8_0, rfl, how5_8_0, hfw5_8_0, e5_8⟩
          replace how1_2_0 := OS.ext how1_2_0 e5_8
          replace how1_5_0 := OS.ext how1_5_0 e5_8
          replace hO := OS.ext hO e5_8
          replace hb0_0 := BoxAt.ext hb0_0 e5_8
          have := Ext.size e5_8
          replace eB := Ext.trans eB e5_8
          replace xr6 := Ext.trans xr6 e5_8
          replace cL2 := Chg.stepE cL2 e5_8
          have hlhow5_8_0 := OS.lt how5_8_0
          try simp (disch := decide) only [outv_some, outv_none, put_puts]
          refine plK_pres (Ext.pres e5_8) ?_
          try simp -implicitDefEqProofs (disch := first | decide | assumption | omega) only [go_sem, RdS.len hdX sl22, RdS.idx hdX sl22, R1.intB hdX (Ext.pres eB), RdS.cells hdX, RdS.len hmX sl23, RdS.idx hmX sl23, RdS.cellB hmX (Ext.pres eB), RdS.cells hmX, RdS.len (OS.rd how1_2_0) sl36, RdS.idx (OS.rd how1_2_0) sl36, RdS.cellN (OS.rd how1_2_0), RdS.cells (OS.rd how1_2_0), RdS.len (OS.rd how1_5_0) sl36, RdS.idx (OS.rd how1_5_0) sl36, RdS.cellN (OS.rd how1_5_0), RdS.cells (OS.rd how1_5_0), RdS.len (OS.rd hO) sl36, RdS.idx (OS.rd hO) sl36, RdS.cellN (OS.rd hO), RdS.cells (OS.rd hO), RdS.len (OS.rd how5_8_0) sl22, RdS.idx (OS.rd how5_8_0) sl22, R1.intN (OS.rd how5_8_0), RdS.cells (OS.rd how5_8_0), BoxAt.cell hb0_0, RdS.len hr5 sl22, RdS.idx hr5 sl22, R1.intB hr5 (Ext.pres xr6), RdS.cells hr5, wrap_id]
          refine op_bs1 sz36 rfl (OS.one how5_8_0).2 ?_
          try simp (disch := decide) only [outv_some, outv_none, put_puts]
          refine plK_pres (Ext.pres (Ext.push _ _)) ?_
          try simp -implicitDefEqProofs (disch := first | decide | assumption | omega) only [go_sem, RdS.len hdX sl22, RdS.idx hdX sl22, R1.intB hdX (Ext.pres eB), RdS.cells hdX, RdS.len hmX sl23, RdS.idx hmX sl23, RdS.cellB hmX (Ext.pres eB), RdS.cells hmX, RdS.len (OS.rd how1_2_0) sl36, RdS.idx (OS.rd how1_2_0) sl36, RdS.cellN (OS.rd how1_2_0), RdS.cells (OS.rd how1_2_0), RdS.len (OS.rd how1_5_0) sl36, RdS.idx (OS.rd how1_5_0) sl36, RdS.cellN (OS.rd how1_5_0), RdS.cells (OS.rd how1_5_0), RdS.len (OS.rd hO) sl36, RdS.idx (OS.rd hO) sl36, RdS.cellN (OS.rd hO), RdS.cells (OS.rd hO), RdS.len (OS.rd how5_8_0) sl22, RdS.idx (OS.rd how5_8_0) sl22, R1.intN (OS.rd how5_8_0), RdS.cells (OS.rd how5_8_0), BoxAt.cell hb0_0, RdS.len hr5 sl22, RdS.idx hr5 sl22, R1.intB hr5 (Ext.pres xr6), RdS.cells hr5, wrap_id]
          refine op_append1 sz36 hO hfhO.nodup how5_8_0 hfw5_8_0.nodup (apart_lt hlhO hfw5_8_0 (by omega)) (by first | omega | (simp; omega)) rfl rfl ?_
          intro v5_10 h5_10 fp5_10 ho5_10 hn5_10 hs5_10 c5_10
          have hsz5_10 := c5_10.size
          have hfho5_10 : Fresh h1_5.size fp5_10 := Fresh.appd hfhO hfw5_8_0 (by omega) (by omega) hn5_10 hs5_10
          have sb7 : Sub [h1_5.size] h1_6.size fp5_10 := Sub.grow sbhO (Sub.fresh hfw5_8_0 (by omega)) (by omega) hs5_10
          replace how1_2_0 := OS.chg how1_2_0 c5_10 (apart_lt hlhow1_2_0 hfhO (by omega))
          replace how1_5_0 := OS.chg how1_5_0 c5_10 (apart_lt hlhow1_5_0 hfhO (by omega))
          replace hb0_0 := BoxAt.chgA hb0_0 c5_10 (apart_lt hlhb0_0 hfhO (by omega))
          have := c5_10.size
          replace eB := Ext.then eB c5_10 (ge_of hfhO (by omega))
          replace cL2 := Chg.step cL2 c5_10 sbhO
          have hlho5_10 := OS.lt ho5_10
          try simp (disch := decide) only [outv_some, outv_none, put_puts]
          refine plK_last (by decide) ?_
          try simp -implicitDefEqProofs (disch := first | decide | assumption | omega) only [go_sem, RdS.len hdX sl22, RdS.idx hdX sl22, R1.intB hdX (Ext.pres eB), RdS.cells hdX, RdS.len hmX sl23, RdS.idx hmX sl23, RdS.cellB hmX (Ext.pres eB), RdS.cells hmX, RdS.len (OS.rd how1_2_0) sl36, RdS.idx (OS.rd how1_2_0) sl36, RdS.cellN (OS.rd how1_2_0), RdS.cells (OS.rd how1_2_0), RdS.len (OS.rd how1_5_0) sl36, RdS.idx (OS.rd how1_5_0) sl36, RdS.cellN (OS.rd how1_5_0), RdS.cells (OS.rd how1_5_0), RdS.len (OS.rd ho5_10) sl36, RdS.idx (OS.rd ho5_10) sl36, RdS.cellN (OS.rd ho5_10), RdS.cells (OS.rd ho5_10), BoxAt.cell hb0_0, wrap_id]
          refine hK _ _ ?_
          clear hK K
          refine den_blk ?_
          refine den_region TTok ?_
          intro K hK
          simp -implicitDefEqProofs (disch := first | decide | assumption | omega) only [go_sem, RdS.len hdX sl22, RdS.idx hdX sl22, R1.intB hdX (Ext.pres eB), RdS.cells hdX, RdS.len hmX sl23, RdS.idx hmX sl23, RdS.cellB hmX (Ext.pres eB), RdS.cells hmX, RdS.len (OS.rd how1_2_0) sl36, RdS.idx (OS.rd how1_2_0) sl36, RdS.cellN (OS.rd how1_2_0), RdS.cells (OS.rd how1_2_0), RdS.len (OS.rd how1_5_0) sl36, RdS.idx (OS.rd how1_5_0) sl36, RdS.cellN (OS.rd how1_5_0), RdS.cells (OS.rd how1_5_0), RdS.len (OS.rd ho5_10) sl36, RdS.idx (OS.rd ho5_10) sl36, RdS.cellN (OS.rd ho5_10), RdS.cells (OS.rd ho5_10), BoxAt.cell hb0_0, wrap_id]
          refine hK _ _ ?_
          clear hK K
          refine den_stop ?_
          rw [map_takeA (by omega)] at ho5_10
          exact ⟨(k + 1, v5_10, fp5_10), by simp [HasL, puts_at], ⟨by first | omega | (dsimp only; omega), ho5_10, hfho5_10, sb7, cL2⟩, by first | omega | (dsimp only; omega)⟩
        · try simp only [decide_eq_true_eq, decide_eq_false_iff_not, beq_iff_eq, beq_eq_false_iff_ne, bne_iff_ne, ne_eq, Bool.not_eq_true', Bool.not_eq_false', Bool.and_eq_true, Bool.or_eq_true, bne_eq_false_iff_eq] at c0
          refine den_exit ?_
          refine denX_code ?_
          refine denX_stop ?_
          refine denX_hit ?_
          refine den_seq ?_
          have hredT := restL_tbl (B := bndP X n) (isP_bnd hP).1 hrc.tbl
          have hll_ : (restL X.p (cycP X n) (bndP X n)).length = (cycP X n).length := by simp [restL]
          rw [show ((cycP X n).take k).map (restP X.p (bndP X n)) = restL X.p (cycP X n) (bndP X n) by rw [restL, List.take_of_length_le (by omega)]] at hO
          refine den_region TTok ?_
          intro K hK
          simp -implicitDefEqProofs (disch := first | decide | assumption | omega) only [go_sem, fa30_0, ld2, RdS.len hdX sl22, RdS.idx hdX sl22, R1.intB hdX (Ext.pres eB), RdS.cells hdX, RdS.len hmX sl23, RdS.idx hmX sl23, RdS.cellB hmX (Ext.pres eB), RdS.cells hmX, RdS.len (OS.rd hO) sl36, RdS.idx (OS.rd hO) sl36, RdS.cellN (OS.rd hO), RdS.cells (OS.rd hO), BoxAt.cell hb0_0, wrap_id]
          try simp -implicitDefEqProofs (disch := first | decide | assumption | omega) only [go_sem, RdS.len hdX sl22, RdS.idx hdX sl22, R1.intB hdX (Ext.pres eB), RdS.cells hdX, RdS.len hmX sl23, RdS.idx hmX sl23, RdS.cellB hmX (Ext.pres eB), RdS.cells hmX, RdS.len (OS.rd hO) sl36, RdS.idx (OS.rd hO) sl36, RdS.cellN (OS.rd hO), RdS.cells (OS.rd hO), BoxAt.cell hb0_0, wrap_id]
          refine CallA.mono (sEch_ok _ X.p (restL X.p (cycP X n) (bndP X n)) _ (OS.rd hO) hP hredT (by omega) (by omega)) ?_
          intro vw6_3_0 h6_3
          rintro ⟨zvw6_3_0, fw6_3_0, rfl, how6_3_0, hfw6_3_0, e6_3⟩
          replace hO := OS.ext hO e6_3
          replace hb0_0 := BoxAt.ext hb0_0 e6_3
          have := Ext.size e6_3
          replace eB := Ext.trans eB e6_3
          have hlhow6_3_0 := OS.lt how6_3_0
          try simp -implicitDefEqProofs (disch := first | decide | assumption | omega) only [go_sem, RdS.len hdX sl22, RdS.idx hdX sl22, R1.intB hdX (Ext.pres eB), RdS.cells hdX, RdS.len hmX sl23, RdS.idx hmX sl23, RdS.cellB hmX (Ext.pres eB), RdS.cells hmX, RdS.len (OS.rd hO) sl36, RdS.idx (OS.rd hO) sl36, RdS.cellN (OS.rd hO), RdS.cells (OS.rd hO), RdS.len (OS.rd how6_3_0) sl36, RdS.idx (OS.rd how6_3_0) sl36, RdS.cellN (OS.rd how6_3_0), RdS.cells (OS.rd how6_3_0), BoxAt.cell hb0_0, wrap_id]
          refine hK _ _ ?_
          clear hK K
          refine den_ret ?_
          simp (disch := decide) only [resP_1, puts_same, puts_ne]
          exact ⟨_, _, rfl, how6_3_0, hfw6_3_0.mono (by omega), eB⟩
    · simp -implicitDefEqProofs (disch := first | decide | assumption | omega) only [go_sem, RdS.len hdX sl22, RdS.idx hdX sl22, R1.intB hdX (Ext.pres eB), RdS.cells hdX, RdS.len hmX sl23, RdS.idx hmX sl23, RdS.cellB hmX (Ext.pres eB), RdS.cells hmX, RdS.len (OS.rd how1_2_0) sl36, RdS.idx (OS.rd how1_2_0) sl36, RdS.cellN (OS.rd how1_2_0), RdS.cells (OS.rd how1_2_0), BoxAt.cell hb0_0, wrap_id]
      refine op_bs0 sz36 O1 ?_
      intro v1_6 h1_6 ho1_6 e1_6
      replace how1_2_0 := OS.ext how1_2_0 e1_6
      replace hb0_0 := BoxAt.ext hb0_0 e1_6
      have := Ext.size e1_6
      replace eB := Ext.trans eB e1_6
      have hfho1_6 : Fresh h1_2.size [h1_2.size] := Fresh.one _
      have hlho1_6 := OS.lt ho1_6
      try simp (disch := decide) only [outv_some, outv_none, put_puts]
      refine plK_pres (Ext.pres e1_6) ?_
      try simp -implicitDefEqProofs (disch := first | decide | assumption | omega) only [go_sem, RdS.len hdX sl22, RdS.idx hdX sl22, R1.intB hdX (Ext.pres eB), RdS.cells hdX, RdS.len hmX sl23, RdS.idx hmX sl23, RdS.cellB hmX (Ext.pres eB), RdS.cells hmX, RdS.len (OS.rd how1_2_0) sl36, RdS.idx (OS.rd how1_2_0) sl36, RdS.cellN (OS.rd how1_2_0), RdS.cells (OS.rd how1_2_0), RdS.len (OS.rd ho1_6) sl36, RdS.idx (OS.rd ho1_6) sl36, RdS.cellN (OS.rd ho1_6), RdS.cells (OS.rd ho1_6), BoxAt.cell hb0_0, wrap_id]
      try simp -implicitDefEqProofs (disch := first | decide | assumption | omega) only [go_sem, RdS.len hdX sl22, RdS.idx hdX sl22, R1.intB hdX (Ext.pres eB), RdS.cells hdX, RdS.len hmX sl23, RdS.idx hmX sl23, RdS.cellB hmX (Ext.pres eB), RdS.cells hmX, RdS.len (OS.rd how1_2_0) sl36, RdS.idx (OS.rd how1_2_0) sl36, RdS.cellN (OS.rd how1_2_0), RdS.cells (OS.rd how1_2_0), RdS.len (OS.rd ho1_6) sl36, RdS.idx (OS.rd ho1_6) sl36, RdS.cellN (OS.rd ho1_6), RdS.cells (OS.rd ho1_6), BoxAt.cell hb0_0, wrap_id]
      refine CallA.mono (sBnd_ok _ X n _ ⟨_, _, rfl, (RdS.pres hdX (Ext.pres eB)), (RdS.pres hmX (Ext.pres eB))⟩ hCx (by omega)) ?_
      intro vw1_5_0 h1_5
      rintro ⟨zvw1_5_0, fw1_5_0, rfl, how1_5_0, hfw1_5_0, e1_5⟩
      replace how1_2_0 := OS.ext how1_2_0 e1_5
      replace ho1_6 := OS.ext ho1_6 e1_5
      replace hb0_0 := BoxAt.ext hb0_0 e1_5
      have := Ext.size e1_5
      replace eB := Ext.trans eB e1_5
      have hlhow1_5_0 := OS.lt how1_5_0
      try simp (disch := decide) only [outv_some, outv_none, put_puts]
      refine plK_pres (Ext.pres e1_5) ?_
      try simp -implicitDefEqProofs (disch := first | decide | assumption | omega) only [go_sem, RdS.len hdX sl22, RdS.idx hdX sl22, R1.intB hdX (Ext.pres eB), RdS.cells hdX, RdS.len hmX sl23, RdS.idx hmX sl23, RdS.cellB hmX (Ext.pres eB), RdS.cells hmX, RdS.len (OS.rd how1_2_0) sl36, RdS.idx (OS.rd how1_2_0) sl36, RdS.cellN (OS.rd how1_2_0), RdS.cells (OS.rd how1_2_0), RdS.len (OS.rd ho1_6) sl36, RdS.idx (OS.rd ho1_6) sl36, RdS.cellN (OS.rd ho1_6), RdS.cells (OS.rd ho1_6), RdS.len (OS.rd how1_5_0) sl36, RdS.idx (OS.rd how1_5_0) sl36, RdS.cellN (OS.rd how1_5_0), RdS.cells (OS.rd how1_5_0), BoxAt.cell hb0_0, wrap_id]
      refine hK _ _ ?_
      clear hK K
      refine den_seq ?_
      refine den_seq ?_
      refine den_region TTok ?_
      intro K hK
      simp -implicitDefEqProofs (disch := first | decide | assumption | omega) only [go_sem, RdS.len hdX sl22, RdS.idx hdX sl22, R1.intB hdX (Ext.pres eB), RdS.cells hdX, RdS.len hmX sl23, RdS.idx hmX sl23, RdS.cellB hmX (Ext.pres eB), RdS.cells hmX, RdS.len (OS.rd how1_2_0) sl36, RdS.idx (OS.rd how1_2_0) sl36, RdS.cellN (OS.rd how1_2_0), RdS.cells (OS.rd how1_2_0), RdS.len (OS.rd ho1_6) sl36, RdS.idx (OS.rd ho1_6) sl36, RdS.cellN (OS.rd ho1_6), RdS.cells (OS.rd ho1_6), RdS.len (OS.rd how1_5_0) sl36, RdS.idx (OS.rd how1_5_0) sl36, RdS.cellN (OS.rd how1_5_0), RdS.cells (OS.rd how1_5_0), BoxAt.cell hb0_0, wrap_id]
      refine hK _ _ ?_
      clear hK K
      refine den_block ?_
      refine den_sel [7, 8, 2, 5, 6] ?_
      intro env_8
      simp only [go_sem]
      refine den_loopS (σ := Nat × Value × List Nat) (fun st_ => [(7, st_.2.1), (8, .int .i64 (st_.1 : Int))]) (fun st_ H => (st_.1 ≤ (cycP X n).length) ∧ (O2 H st_.2.1 (((cycP X n).take st_.1).map (restP X.p (bndP X n))) st_.2.2) ∧ (Fresh (h1_2.size) st_.2.2) ∧ (Sub [h1_2.size] h1_5.size st_.2.2) ∧ (Chg [h1_2.size] h1_5 H)) (fun st_ => (cycP X n).length - st_.1) (0, v1_6, [h1_2.size]) ?_ ?_
      · exact ⟨by first | (simp; done) | (dsimp only; omega) | (simp; omega), by simpa using ho1_6, hfho1_6, Sub.refl, Chg.refl _ _⟩
      · rintro ⟨k, vhO, fphO⟩ h11 ee10 ⟨hi0, hO, hfhO, sbhO, cL9⟩
        dsimp only at hi0 hO hfhO sbhO cL9
        replace how1_2_0 := OS.chg how1_2_0 cL9 (apart_lt hlhow1_2_0 hfho1_6 (by omega))
        replace how1_5_0 := OS.chg how1_5_0 cL9 (apart_gt hfw1_5_0 hlho1_6 (by omega))
        replace hb0_0 := BoxAt.chgA hb0_0 cL9 (apart_lt hlhb0_0 hfho1_6 (by omega))
        have := cL9.size
        replace eB := Ext.then eB cL9 (ge_of hfho1_6 (by omega))
        have ap12 : Apart fw1_5_0 fphO := Apart.sub_ hlhow1_5_0 (by omega) (apart_gt hfw1_5_0 hlho1_6 (by omega)) sbhO
        have hlhO := OS.lt hO
        simp only [List.cons_append, List.nil_append]
        have hlt_ : (((cycP X n).take k).map (restP X.p (bndP X n))).length = k := by simp; omega
        refine den_seq ?_
        refine den_seq ?_
        refine den_region TTok ?_
        intro K hK
        simp -implicitDefEqProofs (disch := first | decide | assumption | omega) only [go_sem, RdS.len hdX sl22, RdS.idx hdX sl22, R1.intB hdX (Ext.pres eB), RdS.cells hdX, RdS.len hmX sl23, RdS.idx hmX sl23, RdS.cellB hmX (Ext.pres eB), RdS.cells hmX, RdS.len (OS.rd how1_2_0) sl36, RdS.idx (OS.rd how1_2_0) sl36, RdS.cellN (OS.rd how1_2_0), RdS.cells (OS.rd how1_2_0), RdS.len (OS.rd how1_5_0) sl36, RdS.idx (OS.rd how1_5_0) sl36, RdS.cellN (OS.rd how1_5_0), RdS.cells (OS.rd how1_5_0), RdS.len (OS.rd hO) sl36, RdS.idx (OS.rd hO) sl36, RdS.cellN (OS.rd hO), RdS.cells (OS.rd hO), BoxAt.cell hb0_0, wrap_id]
        refine hK _ _ ?_
        clear hK K
        refine den_cond rfl (fun c0 => ?_) (fun c0 => ?_)
        · try simp only [decide_eq_true_eq, decide_eq_false_iff_not, beq_iff_eq, beq_eq_false_iff_ne, bne_iff_ne, ne_eq, Bool.not_eq_true', Bool.not_eq_false', Bool.and_eq_true, Bool.or_eq_true, bne_eq_false_iff_eq] at c0
          refine den_skip ?_
          refine den_seq ?_
          refine den_block ?_
          have hRk := hrc.tbl _ (getD_mem (show k < (cycP X n).length by omega))
          have hrr := hrB
          have hrv : ((cycP X n).getD k default).length = (dimP X n).toNat ∧ (dimP X n).toNat ≤ 1000 := ⟨hRk.1, by omega⟩
          have hrb := hRk.2
          refine den_draw TTok mixed [10] [(0, true), (1, true), (2, true), (3, true), (4, true), (5, true), (6, true), (7, true), (8, false), (9, false), (10, false), (11, true)] (by kernel_rfl) ?_
          intro K hK
          have hr13 := RdS.rowN (OS.rd how1_2_0) k (by omega)
          have hlhr13 := RdS.le hr13
          have xr14 := Ext.refl h11
          simp -implicitDefEqProofs (disch := first | decide | assumption | omega) only [go_sem, fa30_0, ld22, ld2, RdS.len hdX sl22, RdS.idx hdX sl22, R1.intB hdX (Ext.pres eB), RdS.cells hdX, RdS.len hmX sl23, RdS.idx hmX sl23, RdS.cellB hmX (Ext.pres eB), RdS.cells hmX, RdS.len (OS.rd how1_2_0) sl36, RdS.idx (OS.rd how1_2_0) sl36, RdS.cellN (OS.rd how1_2_0), RdS.cells (OS.rd how1_2_0), RdS.len (OS.rd how1_5_0) sl36, RdS.idx (OS.rd how1_5_0) sl36, RdS.cellN (OS.rd how1_5_0), RdS.cells (OS.rd how1_5_0), RdS.len (OS.rd hO) sl36, RdS.idx (OS.rd hO) sl36, RdS.cellN (OS.rd hO), RdS.cells (OS.rd hO), BoxAt.cell hb0_0, RdS.len hr13 sl22, RdS.idx hr13 sl22, R1.intB hr13 (Ext.pres xr14), RdS.cells hr13, wrap_id]
          try simp -implicitDefEqProofs (disch := first | decide | assumption | omega) only [go_sem, RdS.len hdX sl22, RdS.idx hdX sl22, R1.intB hdX (Ext.pres eB), RdS.cells hdX, RdS.len hmX sl23, RdS.idx hmX sl23, RdS.cellB hmX (Ext.pres eB), RdS.cells hmX, RdS.len (OS.rd how1_2_0) sl36, RdS.idx (OS.rd how1_2_0) sl36, RdS.cellN (OS.rd how1_2_0), RdS.cells (OS.rd how1_2_0), RdS.len (OS.rd how1_5_0) sl36, RdS.idx (OS.rd how1_5_0) sl36, RdS.cellN (OS.rd how1_5_0), RdS.cells (OS.rd how1_5_0), RdS.len (OS.rd hO) sl36, RdS.idx (OS.rd hO) sl36, RdS.cellN (OS.rd hO), RdS.cells (OS.rd hO), BoxAt.cell hb0_0, RdS.len hr13 sl22, RdS.idx hr13 sl22, R1.intB hr13 (Ext.pres xr14), RdS.cells hr13, wrap_id]
          refine CallA.mono (sRest_ok _ _ X.p (bndP X n) ((cycP X n).getD k default) _ (OS.rd how1_5_0) (RdS.pres hr13 (Ext.pres xr14)) hP hrr hrv hrb) ?_
          intro vw5_8_0 h5_8
          rintro ⟨zvw5_8_0, fw5_8_0, rfl, how5_8_0, hfw5_8_0, e5_8⟩
          replace how1_2_0 := OS.ext how1_2_0 e5_8
          replace how1_5_0 := OS.ext how1_5_0 e5_8
          replace hO := OS.ext hO e5_8
          replace hb0_0 := BoxAt.ext hb0_0 e5_8
          have := Ext.size e5_8
          replace eB := Ext.trans eB e5_8
          replace xr14 := Ext.trans xr14 e5_8
          replace cL9 := Chg.stepE cL9 e5_8
          have hlhow5_8_0 := OS.lt how5_8_0
          try simp (disch := decide) only [outv_some, outv_none, put_puts]
          refine plK_pres (Ext.pres e5_8) ?_
          try simp -implicitDefEqProofs (disch := first | decide | assumption | omega) only [go_sem, RdS.len hdX sl22, RdS.idx hdX sl22, R1.intB hdX (Ext.pres eB), RdS.cells hdX, RdS.len hmX sl23, RdS.idx hmX sl23, RdS.cellB hmX (Ext.pres eB), RdS.cells hmX, RdS.len (OS.rd how1_2_0) sl36, RdS.idx (OS.rd how1_2_0) sl36, RdS.cellN (OS.rd how1_2_0), RdS.cells (OS.rd how1_2_0), RdS.len (OS.rd how1_5_0) sl36, RdS.idx (OS.rd how1_5_0) sl36, RdS.cellN (OS.rd how1_5_0), RdS.cells (OS.rd how1_5_0), RdS.len (OS.rd hO) sl36, RdS.idx (OS.rd hO) sl36, RdS.cellN (OS.rd hO), RdS.cells (OS.rd hO), RdS.len (OS.rd how5_8_0) sl22, RdS.idx (OS.rd how5_8_0) sl22, R1.intN (OS.rd how5_8_0), RdS.cells (OS.rd how5_8_0), BoxAt.cell hb0_0, RdS.len hr13 sl22, RdS.idx hr13 sl22, R1.intB hr13 (Ext.pres xr14), RdS.cells hr13, wrap_id]
          refine op_bs1 sz36 rfl (OS.one how5_8_0).2 ?_
          try simp (disch := decide) only [outv_some, outv_none, put_puts]
          refine plK_pres (Ext.pres (Ext.push _ _)) ?_
          try simp -implicitDefEqProofs (disch := first | decide | assumption | omega) only [go_sem, RdS.len hdX sl22, RdS.idx hdX sl22, R1.intB hdX (Ext.pres eB), RdS.cells hdX, RdS.len hmX sl23, RdS.idx hmX sl23, RdS.cellB hmX (Ext.pres eB), RdS.cells hmX, RdS.len (OS.rd how1_2_0) sl36, RdS.idx (OS.rd how1_2_0) sl36, RdS.cellN (OS.rd how1_2_0), RdS.cells (OS.rd how1_2_0), RdS.len (OS.rd how1_5_0) sl36, RdS.idx (OS.rd how1_5_0) sl36, RdS.cellN (OS.rd how1_5_0), RdS.cells (OS.rd how1_5_0), RdS.len (OS.rd hO) sl36, RdS.idx (OS.rd hO) sl36, RdS.cellN (OS.rd hO), RdS.cells (OS.rd hO), RdS.len (OS.rd how5_8_0) sl22, RdS.idx (OS.rd how5_8_0) sl22, R1.intN (OS.rd how5_8_0), RdS.cells (OS.rd how5_8_0), BoxAt.cell hb0_0, RdS.len hr13 sl22, RdS.idx hr13 sl22, R1.intB hr13 (Ext.pres xr14), RdS.cells hr13, wrap_id]
          refine op_append1 sz36 hO hfhO.nodup how5_8_0 hfw5_8_0.nodup (apart_lt hlhO hfw5_8_0 (by omega)) (by first | omega | (simp; omega)) rfl rfl ?_
          intro v5_10 h5_10 fp5_10 ho5_10 hn5_10 hs5_10 c5_10
          have hsz5_10 := c5_10.size
          have hfho5_10 : Fresh h1_2.size fp5_10 := Fresh.appd hfhO hfw5_8_0 (by omega) (by omega) hn5_10 hs5_10
          have sb15 : Sub [h1_2.size] h1_5.size fp5_10 := Sub.grow sbhO (Sub.fresh hfw5_8_0 (by omega)) (by omega) hs5_10
          replace how1_2_0 := OS.chg how1_2_0 c5_10 (apart_lt hlhow1_2_0 hfhO (by omega))
          replace how1_5_0 := OS.chg how1_5_0 c5_10 ap12
          replace hb0_0 := BoxAt.chgA hb0_0 c5_10 (apart_lt hlhb0_0 hfhO (by omega))
          have := c5_10.size
          replace eB := Ext.then eB c5_10 (ge_of hfhO (by omega))
          replace cL9 := Chg.step cL9 c5_10 sbhO
          have ap16 : Apart fw1_5_0 fp5_10 := Apart.grow hlhow1_5_0 (by omega) ap12 (apart_lt hlhow1_5_0 hfw5_8_0 (by omega)) hs5_10
          have hlho5_10 := OS.lt ho5_10
          try simp (disch := decide) only [outv_some, outv_none, put_puts]
          refine plK_last (by decide) ?_
          try simp -implicitDefEqProofs (disch := first | decide | assumption | omega) only [go_sem, RdS.len hdX sl22, RdS.idx hdX sl22, R1.intB hdX (Ext.pres eB), RdS.cells hdX, RdS.len hmX sl23, RdS.idx hmX sl23, RdS.cellB hmX (Ext.pres eB), RdS.cells hmX, RdS.len (OS.rd how1_2_0) sl36, RdS.idx (OS.rd how1_2_0) sl36, RdS.cellN (OS.rd how1_2_0), RdS.cells (OS.rd how1_2_0), RdS.len (OS.rd how1_5_0) sl36, RdS.idx (OS.rd how1_5_0) sl36, RdS.cellN (OS.rd how1_5_0), RdS.cells (OS.rd how1_5_0), RdS.len (OS.rd ho5_10) sl36, RdS.idx (OS.rd ho5_10) sl36, RdS.cellN (OS.rd ho5_10), RdS.cells (OS.rd ho5_10), BoxAt.cell hb0_0, wrap_id]
          refine hK _ _ ?_
          clear hK K
          refine den_blk ?_
          refine den_region TTok ?_
          intro K hK
          simp -implicitDefEqProofs (disch := first | decide | assumption | omega) only [go_sem, RdS.len hdX sl22, RdS.idx hdX sl22, R1.intB hdX (Ext.pres eB), RdS.cells hdX, RdS.len hmX sl23, RdS.idx hmX sl23, RdS.cellB hmX (Ext.pres eB), RdS.cells hmX, RdS.len (OS.rd how1_2_0) sl36, RdS.idx (OS.rd how1_2_0) sl36, RdS.cellN (OS.rd how1_2_0), RdS.cells (OS.rd how1_2_0), RdS.len (OS.rd how1_5_0) sl36, RdS.idx (OS.rd how1_5_0) sl36, RdS.cellN (OS.rd how1_5_0), RdS.cells (OS.rd how1_5_0), RdS.len (OS.rd ho5_10) sl36, RdS.idx (OS.rd ho5_10) sl36, RdS.cellN (OS.rd ho5_10), RdS.cells (OS.rd ho5_10), BoxAt.cell hb0_0, wrap_id]
          refine hK _ _ ?_
          clear hK K
          refine den_stop ?_
          rw [map_takeA (by omega)] at ho5_10
          exact ⟨(k + 1, v5_10, fp5_10), by simp [HasL, puts_at], ⟨by first | omega | (dsimp only; omega), ho5_10, hfho5_10, sb15, cL9⟩, by first | omega | (dsimp only; omega)⟩
        · try simp only [decide_eq_true_eq, decide_eq_false_iff_not, beq_iff_eq, beq_eq_false_iff_ne, bne_iff_ne, ne_eq, Bool.not_eq_true', Bool.not_eq_false', Bool.and_eq_true, Bool.or_eq_true, bne_eq_false_iff_eq] at c0
          refine den_exit ?_
          refine denX_code ?_
          refine denX_stop ?_
          refine denX_hit ?_
          refine den_seq ?_
          have hredT := restL_tbl (B := bndP X n) (isP_bnd hP).1 hrc.tbl
          have hll_ : (restL X.p (cycP X n) (bndP X n)).length = (cycP X n).length := by simp [restL]
          rw [show ((cycP X n).take k).map (restP X.p (bndP X n)) = restL X.p (cycP X n) (bndP X n) by rw [restL, List.take_of_length_le (by omega)]] at hO
          refine den_region TTok ?_
          intro K hK
          simp -implicitDefEqProofs (disch := first | decide | assumption | omega) only [go_sem, fa30_0, ld2, RdS.len hdX sl22, RdS.idx hdX sl22, R1.intB hdX (Ext.pres eB), RdS.cells hdX, RdS.len hmX sl23, RdS.idx hmX sl23, RdS.cellB hmX (Ext.pres eB), RdS.cells hmX, RdS.len (OS.rd hO) sl36, RdS.idx (OS.rd hO) sl36, RdS.cellN (OS.rd hO), RdS.cells (OS.rd hO), BoxAt.cell hb0_0, wrap_id]
          try simp -implicitDefEqProofs (disch := first | decide | assumption | omega) only [go_sem, RdS.len hdX sl22, RdS.idx hdX sl22, R1.intB hdX (Ext.pres eB), RdS.cells hdX, RdS.len hmX sl23, RdS.idx hmX sl23, RdS.cellB hmX (Ext.pres eB), RdS.cells hmX, RdS.len (OS.rd hO) sl36, RdS.idx (OS.rd hO) sl36, RdS.cellN (OS.rd hO), RdS.cells (OS.rd hO), BoxAt.cell hb0_0, wrap_id]
          refine CallA.mono (sEch_ok _ X.p (restL X.p (cycP X n) (bndP X n)) _ (OS.rd hO) hP hredT (by omega) (by omega)) ?_
          intro vw6_3_0 h6_3
          rintro ⟨zvw6_3_0, fw6_3_0, rfl, how6_3_0, hfw6_3_0, e6_3⟩
          replace hO := OS.ext hO e6_3
          replace hb0_0 := BoxAt.ext hb0_0 e6_3
          have := Ext.size e6_3
          replace eB := Ext.trans eB e6_3
          have hlhow6_3_0 := OS.lt how6_3_0
          try simp -implicitDefEqProofs (disch := first | decide | assumption | omega) only [go_sem, RdS.len hdX sl22, RdS.idx hdX sl22, R1.intB hdX (Ext.pres eB), RdS.cells hdX, RdS.len hmX sl23, RdS.idx hmX sl23, RdS.cellB hmX (Ext.pres eB), RdS.cells hmX, RdS.len (OS.rd hO) sl36, RdS.idx (OS.rd hO) sl36, RdS.cellN (OS.rd hO), RdS.cells (OS.rd hO), RdS.len (OS.rd how6_3_0) sl36, RdS.idx (OS.rd how6_3_0) sl36, RdS.cellN (OS.rd how6_3_0), RdS.cells (OS.rd how6_3_0), BoxAt.cell hb0_0, wrap_id]
          refine hK _ _ ?_
          clear hK K
          refine den_ret ?_
          simp (disch := decide) only [resP_1, puts_same, puts_ne]
          exact ⟨_, _, rfl, how6_3_0, hfw6_3_0.mono (by omega), eB⟩
  · simp -implicitDefEqProofs (disch := first | decide | assumption | omega) only [go_sem, RdS.len hdX sl22, RdS.idx hdX sl22, R1.intB hdX (Ext.pres eB), RdS.cells hdX, RdS.len hmX sl23, RdS.idx hmX sl23, RdS.cellB hmX (Ext.pres eB), RdS.cells hmX, BoxAt.cell hb0_0, wrap_id]
    refine op_bs0 sz36 O1 ?_
    intro v1_6 h1_6 ho1_6 e1_6
    replace hb0_0 := BoxAt.ext hb0_0 e1_6
    have := Ext.size e1_6
    replace eB := Ext.trans eB e1_6
    have hfho1_6 : Fresh h0_0.size [h0_0.size] := Fresh.one _
    have hlho1_6 := OS.lt ho1_6
    try simp (disch := decide) only [outv_some, outv_none, put_puts]
    refine plK_pres (Ext.pres e1_6) ?_
    try simp -implicitDefEqProofs (disch := first | decide | assumption | omega) only [go_sem, RdS.len hdX sl22, RdS.idx hdX sl22, R1.intB hdX (Ext.pres eB), RdS.cells hdX, RdS.len hmX sl23, RdS.idx hmX sl23, RdS.cellB hmX (Ext.pres eB), RdS.cells hmX, RdS.len (OS.rd ho1_6) sl36, RdS.idx (OS.rd ho1_6) sl36, RdS.cellN (OS.rd ho1_6), RdS.cells (OS.rd ho1_6), BoxAt.cell hb0_0, wrap_id]
    try simp -implicitDefEqProofs (disch := first | decide | assumption | omega) only [go_sem, RdS.len hdX sl22, RdS.idx hdX sl22, R1.intB hdX (Ext.pres eB), RdS.cells hdX, RdS.len hmX sl23, RdS.idx hmX sl23, RdS.cellB hmX (Ext.pres eB), RdS.cells hmX, RdS.len (OS.rd ho1_6) sl36, RdS.idx (OS.rd ho1_6) sl36, RdS.cellN (OS.rd ho1_6), RdS.cells (OS.rd ho1_6), BoxAt.cell hb0_0, wrap_id]
    refine CallA.mono (sCyc_ok _ X n _ ⟨_, _, rfl, (RdS.pres hdX (Ext.pres eB)), (RdS.pres hmX (Ext.pres eB))⟩ hCx (by omega)) ?_
    intro vw1_2_0 h1_2
    rintro ⟨zvw1_2_0, fw1_2_0, rfl, how1_2_0, hfw1_2_0, e1_2⟩
    replace ho1_6 := OS.ext ho1_6 e1_2
    replace hb0_0 := BoxAt.ext hb0_0 e1_2
    have := Ext.size e1_2
    replace eB := Ext.trans eB e1_2
    have hlhow1_2_0 := OS.lt how1_2_0
    try simp (disch := decide) only [outv_some, outv_none, put_puts]
    refine plK_pres (Ext.pres e1_2) ?_
    try simp -implicitDefEqProofs (disch := first | decide | assumption | omega) only [go_sem, RdS.len hdX sl22, RdS.idx hdX sl22, R1.intB hdX (Ext.pres eB), RdS.cells hdX, RdS.len hmX sl23, RdS.idx hmX sl23, RdS.cellB hmX (Ext.pres eB), RdS.cells hmX, RdS.len (OS.rd ho1_6) sl36, RdS.idx (OS.rd ho1_6) sl36, RdS.cellN (OS.rd ho1_6), RdS.cells (OS.rd ho1_6), RdS.len (OS.rd how1_2_0) sl36, RdS.idx (OS.rd how1_2_0) sl36, RdS.cellN (OS.rd how1_2_0), RdS.cells (OS.rd how1_2_0), BoxAt.cell hb0_0, wrap_id]
    try simp -implicitDefEqProofs (disch := first | decide | assumption | omega) only [go_sem, RdS.len hdX sl22, RdS.idx hdX sl22, R1.intB hdX (Ext.pres eB), RdS.cells hdX, RdS.len hmX sl23, RdS.idx hmX sl23, RdS.cellB hmX (Ext.pres eB), RdS.cells hmX, RdS.len (OS.rd ho1_6) sl36, RdS.idx (OS.rd ho1_6) sl36, RdS.cellN (OS.rd ho1_6), RdS.cells (OS.rd ho1_6), RdS.len (OS.rd how1_2_0) sl36, RdS.idx (OS.rd how1_2_0) sl36, RdS.cellN (OS.rd how1_2_0), RdS.cells (OS.rd how1_2_0), BoxAt.cell hb0_0, wrap_id]
    refine CallA.mono (sBnd_ok _ X n _ ⟨_, _, rfl, (RdS.pres hdX (Ext.pres eB)), (RdS.pres hmX (Ext.pres eB))⟩ hCx (by omega)) ?_
    intro vw1_5_0 h1_5
    rintro ⟨zvw1_5_0, fw1_5_0, rfl, how1_5_0, hfw1_5_0, e1_5⟩
    replace ho1_6 := OS.ext ho1_6 e1_5
    replace how1_2_0 := OS.ext how1_2_0 e1_5
    replace hb0_0 := BoxAt.ext hb0_0 e1_5
    have := Ext.size e1_5
    replace eB := Ext.trans eB e1_5
    have hlhow1_5_0 := OS.lt how1_5_0
    try simp (disch := decide) only [outv_some, outv_none, put_puts]
    refine plK_pres (Ext.pres e1_5) ?_
    try simp -implicitDefEqProofs (disch := first | decide | assumption | omega) only [go_sem, RdS.len hdX sl22, RdS.idx hdX sl22, R1.intB hdX (Ext.pres eB), RdS.cells hdX, RdS.len hmX sl23, RdS.idx hmX sl23, RdS.cellB hmX (Ext.pres eB), RdS.cells hmX, RdS.len (OS.rd ho1_6) sl36, RdS.idx (OS.rd ho1_6) sl36, RdS.cellN (OS.rd ho1_6), RdS.cells (OS.rd ho1_6), RdS.len (OS.rd how1_2_0) sl36, RdS.idx (OS.rd how1_2_0) sl36, RdS.cellN (OS.rd how1_2_0), RdS.cells (OS.rd how1_2_0), RdS.len (OS.rd how1_5_0) sl36, RdS.idx (OS.rd how1_5_0) sl36, RdS.cellN (OS.rd how1_5_0), RdS.cells (OS.rd how1_5_0), BoxAt.cell hb0_0, wrap_id]
    refine hK _ _ ?_
    clear hK K
    refine den_seq ?_
    refine den_seq ?_
    refine den_region TTok ?_
    intro K hK
    simp -implicitDefEqProofs (disch := first | decide | assumption | omega) only [go_sem, RdS.len hdX sl22, RdS.idx hdX sl22, R1.intB hdX (Ext.pres eB), RdS.cells hdX, RdS.len hmX sl23, RdS.idx hmX sl23, RdS.cellB hmX (Ext.pres eB), RdS.cells hmX, RdS.len (OS.rd ho1_6) sl36, RdS.idx (OS.rd ho1_6) sl36, RdS.cellN (OS.rd ho1_6), RdS.cells (OS.rd ho1_6), RdS.len (OS.rd how1_2_0) sl36, RdS.idx (OS.rd how1_2_0) sl36, RdS.cellN (OS.rd how1_2_0), RdS.cells (OS.rd how1_2_0), RdS.len (OS.rd how1_5_0) sl36, RdS.idx (OS.rd how1_5_0) sl36, RdS.cellN (OS.rd how1_5_0), RdS.cells (OS.rd how1_5_0), BoxAt.cell hb0_0, wrap_id]
    refine hK _ _ ?_
    clear hK K
    refine den_block ?_
    refine den_sel [7, 8, 2, 5, 6] ?_
    intro env_17
    simp only [go_sem]
    refine den_loopS (σ := Nat × Value × List Nat) (fun st_ => [(7, st_.2.1), (8, .int .i64 (st_.1 : Int))]) (fun st_ H => (st_.1 ≤ (cycP X n).length) ∧ (O2 H st_.2.1 (((cycP X n).take st_.1).map (restP X.p (bndP X n))) st_.2.2) ∧ (Fresh (h0_0.size) st_.2.2) ∧ (Sub [h0_0.size] h1_5.size st_.2.2) ∧ (Chg [h0_0.size] h1_5 H)) (fun st_ => (cycP X n).length - st_.1) (0, v1_6, [h0_0.size]) ?_ ?_
    · exact ⟨by first | (simp; done) | (dsimp only; omega) | (simp; omega), by simpa using ho1_6, hfho1_6, Sub.refl, Chg.refl _ _⟩
    · rintro ⟨k, vhO, fphO⟩ h20 ee19 ⟨hi0, hO, hfhO, sbhO, cL18⟩
      dsimp only at hi0 hO hfhO sbhO cL18
      replace how1_2_0 := OS.chg how1_2_0 cL18 (apart_gt hfw1_2_0 hlho1_6 (by omega))
      replace how1_5_0 := OS.chg how1_5_0 cL18 (apart_gt hfw1_5_0 hlho1_6 (by omega))
      replace hb0_0 := BoxAt.chgA hb0_0 cL18 (apart_lt hlhb0_0 hfho1_6 (by omega))
      have := cL18.size
      replace eB := Ext.then eB cL18 (ge_of hfho1_6 (by omega))
      have ap21 : Apart fw1_2_0 fphO := Apart.sub_ hlhow1_2_0 (by omega) (apart_gt hfw1_2_0 hlho1_6 (by omega)) sbhO
      have ap22 : Apart fw1_5_0 fphO := Apart.sub_ hlhow1_5_0 (by omega) (apart_gt hfw1_5_0 hlho1_6 (by omega)) sbhO
      have hlhO := OS.lt hO
      simp only [List.cons_append, List.nil_append]
      have hlt_ : (((cycP X n).take k).map (restP X.p (bndP X n))).length = k := by simp; omega
      refine den_seq ?_
      refine den_seq ?_
      refine den_region TTok ?_
      intro K hK
      simp -implicitDefEqProofs (disch := first | decide | assumption | omega) only [go_sem, RdS.len hdX sl22, RdS.idx hdX sl22, R1.intB hdX (Ext.pres eB), RdS.cells hdX, RdS.len hmX sl23, RdS.idx hmX sl23, RdS.cellB hmX (Ext.pres eB), RdS.cells hmX, RdS.len (OS.rd how1_2_0) sl36, RdS.idx (OS.rd how1_2_0) sl36, RdS.cellN (OS.rd how1_2_0), RdS.cells (OS.rd how1_2_0), RdS.len (OS.rd how1_5_0) sl36, RdS.idx (OS.rd how1_5_0) sl36, RdS.cellN (OS.rd how1_5_0), RdS.cells (OS.rd how1_5_0), RdS.len (OS.rd hO) sl36, RdS.idx (OS.rd hO) sl36, RdS.cellN (OS.rd hO), RdS.cells (OS.rd hO), BoxAt.cell hb0_0, wrap_id]
      refine hK _ _ ?_
      clear hK K
      refine den_cond rfl (fun c0 => ?_) (fun c0 => ?_)
      · try simp only [decide_eq_true_eq, decide_eq_false_iff_not, beq_iff_eq, beq_eq_false_iff_ne, bne_iff_ne, ne_eq, Bool.not_eq_true', Bool.not_eq_false', Bool.and_eq_true, Bool.or_eq_true, bne_eq_false_iff_eq] at c0
        refine den_skip ?_
        refine den_seq ?_
        refine den_block ?_
        have hRk := hrc.tbl _ (getD_mem (show k < (cycP X n).length by omega))
        have hrr := hrB
        have hrv : ((cycP X n).getD k default).length = (dimP X n).toNat ∧ (dimP X n).toNat ≤ 1000 := ⟨hRk.1, by omega⟩
        have hrb := hRk.2
        refine den_draw TTok mixed [10] [(0, true), (1, true), (2, true), (3, true), (4, true), (5, true), (6, true), (7, true), (8, false), (9, false), (10, false), (11, true)] (by kernel_rfl) ?_
        intro K hK
        have hr23 := RdS.rowN (OS.rd how1_2_0) k (by omega)
        have hlhr23 := RdS.le hr23
        have xr24 := Ext.refl h20
        simp -implicitDefEqProofs (disch := first | decide | assumption | omega) only [go_sem, fa30_0, ld22, ld2, RdS.len hdX sl22, RdS.idx hdX sl22, R1.intB hdX (Ext.pres eB), RdS.cells hdX, RdS.len hmX sl23, RdS.idx hmX sl23, RdS.cellB hmX (Ext.pres eB), RdS.cells hmX, RdS.len (OS.rd how1_2_0) sl36, RdS.idx (OS.rd how1_2_0) sl36, RdS.cellN (OS.rd how1_2_0), RdS.cells (OS.rd how1_2_0), RdS.len (OS.rd how1_5_0) sl36, RdS.idx (OS.rd how1_5_0) sl36, RdS.cellN (OS.rd how1_5_0), RdS.cells (OS.rd how1_5_0), RdS.len (OS.rd hO) sl36, RdS.idx (OS.rd hO) sl36, RdS.cellN (OS.rd hO), RdS.cells (OS.rd hO), BoxAt.cell hb0_0, RdS.len hr23 sl22, RdS.idx hr23 sl22, R1.intB hr23 (Ext.pres xr24), RdS.cells hr23, wrap_id]
        try simp -implicitDefEqProofs (disch := first | decide | assumption | omega) only [go_sem, RdS.len hdX sl22, RdS.idx hdX sl22, R1.intB hdX (Ext.pres eB), RdS.cells hdX, RdS.len hmX sl23, RdS.idx hmX sl23, RdS.cellB hmX (Ext.pres eB), RdS.cells hmX, RdS.len (OS.rd how1_2_0) sl36, RdS.idx (OS.rd how1_2_0) sl36, RdS.cellN (OS.rd how1_2_0), RdS.cells (OS.rd how1_2_0), RdS.len (OS.rd how1_5_0) sl36, RdS.idx (OS.rd how1_5_0) sl36, RdS.cellN (OS.rd how1_5_0), RdS.cells (OS.rd how1_5_0), RdS.len (OS.rd hO) sl36, RdS.idx (OS.rd hO) sl36, RdS.cellN (OS.rd hO), RdS.cells (OS.rd hO), BoxAt.cell hb0_0, RdS.len hr23 sl22, RdS.idx hr23 sl22, R1.intB hr23 (Ext.pres xr24), RdS.cells hr23, wrap_id]
        refine CallA.mono (sRest_ok _ _ X.p (bndP X n) ((cycP X n).getD k default) _ (OS.rd how1_5_0) (RdS.pres hr23 (Ext.pres xr24)) hP hrr hrv hrb) ?_
        intro vw5_8_0 h5_8
        rintro ⟨zvw5_8_0, fw5_8_0, rfl, how5_8_0, hfw5_8_0, e5_8⟩
        replace how1_2_0 := OS.ext how1_2_0 e5_8
        replace how1_5_0 := OS.ext how1_5_0 e5_8
        replace hO := OS.ext hO e5_8
        replace hb0_0 := BoxAt.ext hb0_0 e5_8
        have := Ext.size e5_8
        replace eB := Ext.trans eB e5_8
        replace xr24 := Ext.trans xr24 e5_8
        replace cL18 := Chg.stepE cL18 e5_8
        have hlhow5_8_0 := OS.lt how5_8_0
        try simp (disch := decide) only [outv_some, outv_none, put_puts]
        refine plK_pres (Ext.pres e5_8) ?_
        try simp -implicitDefEqProofs (disch := first | decide | assumption | omega) only [go_sem, RdS.len hdX sl22, RdS.idx hdX sl22, R1.intB hdX (Ext.pres eB), RdS.cells hdX, RdS.len hmX sl23, RdS.idx hmX sl23, RdS.cellB hmX (Ext.pres eB), RdS.cells hmX, RdS.len (OS.rd how1_2_0) sl36, RdS.idx (OS.rd how1_2_0) sl36, RdS.cellN (OS.rd how1_2_0), RdS.cells (OS.rd how1_2_0), RdS.len (OS.rd how1_5_0) sl36, RdS.idx (OS.rd how1_5_0) sl36, RdS.cellN (OS.rd how1_5_0), RdS.cells (OS.rd how1_5_0), RdS.len (OS.rd hO) sl36, RdS.idx (OS.rd hO) sl36, RdS.cellN (OS.rd hO), RdS.cells (OS.rd hO), RdS.len (OS.rd how5_8_0) sl22, RdS.idx (OS.rd how5_8_0) sl22, R1.intN (OS.rd how5_8_0), RdS.cells (OS.rd how5_8_0), BoxAt.cell hb0_0, RdS.len hr23 sl22, RdS.idx hr23 sl22, R1.intB hr23 (Ext.pres xr24), RdS.cells hr23, wrap_id]
        refine op_bs1 sz36 rfl (OS.one how5_8_0).2 ?_
        try simp (disch := decide) only [outv_some, outv_none, put_puts]
        refine plK_pres (Ext.pres (Ext.push _ _)) ?_
        try simp -implicitDefEqProofs (disch := first | decide | assumption | omega) only [go_sem, RdS.len hdX sl22, RdS.idx hdX sl22, R1.intB hdX (Ext.pres eB), RdS.cells hdX, RdS.len hmX sl23, RdS.idx hmX sl23, RdS.cellB hmX (Ext.pres eB), RdS.cells hmX, RdS.len (OS.rd how1_2_0) sl36, RdS.idx (OS.rd how1_2_0) sl36, RdS.cellN (OS.rd how1_2_0), RdS.cells (OS.rd how1_2_0), RdS.len (OS.rd how1_5_0) sl36, RdS.idx (OS.rd how1_5_0) sl36, RdS.cellN (OS.rd how1_5_0), RdS.cells (OS.rd how1_5_0), RdS.len (OS.rd hO) sl36, RdS.idx (OS.rd hO) sl36, RdS.cellN (OS.rd hO), RdS.cells (OS.rd hO), RdS.len (OS.rd how5_8_0) sl22, RdS.idx (OS.rd how5_8_0) sl22, R1.intN (OS.rd how5_8_0), RdS.cells (OS.rd how5_8_0), BoxAt.cell hb0_0, RdS.len hr23 sl22, RdS.idx hr23 sl22, R1.intB hr23 (Ext.pres xr24), RdS.cells hr23, wrap_id]
        refine op_append1 sz36 hO hfhO.nodup how5_8_0 hfw5_8_0.nodup (apart_lt hlhO hfw5_8_0 (by omega)) (by first | omega | (simp; omega)) rfl rfl ?_
        intro v5_10 h5_10 fp5_10 ho5_10 hn5_10 hs5_10 c5_10
        have hsz5_10 := c5_10.size
        have hfho5_10 : Fresh h0_0.size fp5_10 := Fresh.appd hfhO hfw5_8_0 (by omega) (by omega) hn5_10 hs5_10
        have sb25 : Sub [h0_0.size] h1_5.size fp5_10 := Sub.grow sbhO (Sub.fresh hfw5_8_0 (by omega)) (by omega) hs5_10
        replace how1_2_0 := OS.chg how1_2_0 c5_10 ap21
        replace how1_5_0 := OS.chg how1_5_0 c5_10 ap22
        replace hb0_0 := BoxAt.chgA hb0_0 c5_10 (apart_lt hlhb0_0 hfhO (by omega))
        have := c5_10.size
        replace eB := Ext.then eB c5_10 (ge_of hfhO (by omega))
        replace cL18 := Chg.step cL18 c5_10 sbhO
        have ap26 : Apart fw1_2_0 fp5_10 := Apart.grow hlhow1_2_0 (by omega) ap21 (apart_lt hlhow1_2_0 hfw5_8_0 (by omega)) hs5_10
        have ap27 : Apart fw1_5_0 fp5_10 := Apart.grow hlhow1_5_0 (by omega) ap22 (apart_lt hlhow1_5_0 hfw5_8_0 (by omega)) hs5_10
        have hlho5_10 := OS.lt ho5_10
        try simp (disch := decide) only [outv_some, outv_none, put_puts]
        refine plK_last (by decide) ?_
        try simp -implicitDefEqProofs (disch := first | decide | assumption | omega) only [go_sem, RdS.len hdX sl22, RdS.idx hdX sl22, R1.intB hdX (Ext.pres eB), RdS.cells hdX, RdS.len hmX sl23, RdS.idx hmX sl23, RdS.cellB hmX (Ext.pres eB), RdS.cells hmX, RdS.len (OS.rd how1_2_0) sl36, RdS.idx (OS.rd how1_2_0) sl36, RdS.cellN (OS.rd how1_2_0), RdS.cells (OS.rd how1_2_0), RdS.len (OS.rd how1_5_0) sl36, RdS.idx (OS.rd how1_5_0) sl36, RdS.cellN (OS.rd how1_5_0), RdS.cells (OS.rd how1_5_0), RdS.len (OS.rd ho5_10) sl36, RdS.idx (OS.rd ho5_10) sl36, RdS.cellN (OS.rd ho5_10), RdS.cells (OS.rd ho5_10), BoxAt.cell hb0_0, wrap_id]
        refine hK _ _ ?_
        clear hK K
        refine den_blk ?_
        refine den_region TTok ?_
        intro K hK
        simp -implicitDefEqProofs (disch := first | decide | assumption | omega) only [go_sem, RdS.len hdX sl22, RdS.idx hdX sl22, R1.intB hdX (Ext.pres eB), RdS.cells hdX, RdS.len hmX sl23, RdS.idx hmX sl23, RdS.cellB hmX (Ext.pres eB), RdS.cells hmX, RdS.len (OS.rd how1_2_0) sl36, RdS.idx (OS.rd how1_2_0) sl36, RdS.cellN (OS.rd how1_2_0), RdS.cells (OS.rd how1_2_0), RdS.len (OS.rd how1_5_0) sl36, RdS.idx (OS.rd how1_5_0) sl36, RdS.cellN (OS.rd how1_5_0), RdS.cells (OS.rd how1_5_0), RdS.len (OS.rd ho5_10) sl36, RdS.idx (OS.rd ho5_10) sl36, RdS.cellN (OS.rd ho5_10), RdS.cells (OS.rd ho5_10), BoxAt.cell hb0_0, wrap_id]
        refine hK _ _ ?_
        clear hK K
        refine den_stop ?_
        rw [map_takeA (by omega)] at ho5_10
        exact ⟨(k + 1, v5_10, fp5_10), by simp [HasL, puts_at], ⟨by first | omega | (dsimp only; omega), ho5_10, hfho5_10, sb25, cL18⟩, by first | omega | (dsimp only; omega)⟩
      · try simp only [decide_eq_true_eq, decide_eq_false_iff_not, beq_iff_eq, beq_eq_false_iff_ne, bne_iff_ne, ne_eq, Bool.not_eq_true', Bool.not_eq_false', Bool.and_eq_true, Bool.or_eq_true, bne_eq_false_iff_eq] at c0
        refine den_exit ?_
        refine denX_code ?_
        refine denX_stop ?_
        refine denX_hit ?_
        refine den_seq ?_
        have hredT := restL_tbl (B := bndP X n) (isP_bnd hP).1 hrc.tbl
        have hll_ : (restL X.p (cycP X n) (bndP X n)).length = (cycP X n).length := by simp [restL]
        rw [show ((cycP X n).take k).map (restP X.p (bndP X n)) = restL X.p (cycP X n) (bndP X n) by rw [restL, List.take_of_length_le (by omega)]] at hO
        refine den_region TTok ?_
        intro K hK
        simp -implicitDefEqProofs (disch := first | decide | assumption | omega) only [go_sem, fa30_0, ld2, RdS.len hdX sl22, RdS.idx hdX sl22, R1.intB hdX (Ext.pres eB), RdS.cells hdX, RdS.len hmX sl23, RdS.idx hmX sl23, RdS.cellB hmX (Ext.pres eB), RdS.cells hmX, RdS.len (OS.rd hO) sl36, RdS.idx (OS.rd hO) sl36, RdS.cellN (OS.rd hO), RdS.cells (OS.rd hO), BoxAt.cell hb0_0, wrap_id]
        try simp -implicitDefEqProofs (disch := first | decide | assumption | omega) only [go_sem, RdS.len hdX sl22, RdS.idx hdX sl22, R1.intB hdX (Ext.pres eB), RdS.cells hdX, RdS.len hmX sl23, RdS.idx hmX sl23, RdS.cellB hmX (Ext.pres eB), RdS.cells hmX, RdS.len (OS.rd hO) sl36, RdS.idx (OS.rd hO) sl36, RdS.cellN (OS.rd hO), RdS.cells (OS.rd hO), BoxAt.cell hb0_0, wrap_id]
        refine CallA.mono (sEch_ok _ X.p (restL X.p (cycP X n) (bndP X n)) _ (OS.rd hO) hP hredT (by omega) (by omega)) ?_
        intro vw6_3_0 h6_3
        rintro ⟨zvw6_3_0, fw6_3_0, rfl, how6_3_0, hfw6_3_0, e6_3⟩
        replace hO := OS.ext hO e6_3
        replace hb0_0 := BoxAt.ext hb0_0 e6_3
        have := Ext.size e6_3
        replace eB := Ext.trans eB e6_3
        have hlhow6_3_0 := OS.lt how6_3_0
        try simp -implicitDefEqProofs (disch := first | decide | assumption | omega) only [go_sem, RdS.len hdX sl22, RdS.idx hdX sl22, R1.intB hdX (Ext.pres eB), RdS.cells hdX, RdS.len hmX sl23, RdS.idx hmX sl23, RdS.cellB hmX (Ext.pres eB), RdS.cells hmX, RdS.len (OS.rd hO) sl36, RdS.idx (OS.rd hO) sl36, RdS.cellN (OS.rd hO), RdS.cells (OS.rd hO), RdS.len (OS.rd how6_3_0) sl36, RdS.idx (OS.rd how6_3_0) sl36, RdS.cellN (OS.rd how6_3_0), RdS.cells (OS.rd how6_3_0), BoxAt.cell hb0_0, wrap_id]
        refine hK _ _ ?_
        clear hK K
        refine den_ret ?_
        simp (disch := decide) only [resP_1, puts_same, puts_ne]
        exact ⟨_, _, rfl, how6_3_0, hfw6_3_0.mono (by omega), eB⟩

set_option maxRecDepth 100000 in
theorem iHLo_ok (vX : Value) (X : Cx) (n : Int) (h : Heap) (rX : RC h vX X)  : CallA Try.prog 41 #[vX, .int .i64 n] h fun v' h' => ∃ w0 f0, v' = .tuple #[w0, .int .i64 ((hlR X n).2)] ∧ O2 h' w0 ((hlR X n).1) f0 ∧ Fresh h.size f0 ∧ Ext h h' := by
  obtain ⟨vdX, vmX, rfl, hdX, hmX⟩ := rX
  have hledX := RdS.le hdX
  have hlemX := RdS.le hmX
  refine callA_intro TTok (args := [_, _]) Try.func41 (by kernel_rfl) rfl 16 rfl (by simp) [.tmp 4, .tmp 5] rfl ?_
  simp only [idxs, Nat.reduceAdd]
  refine den_seq ?_
  refine den_region TTok ?_
  intro K hK
  simp -implicitDefEqProofs (disch := first | decide | assumption | omega) only [go_sem, RdS.len hdX sl22, RdS.idx hdX sl22, R1.intB hdX (HPres.refl _), RdS.cells hdX, RdS.len hmX sl23, RdS.idx hmX sl23, RdS.cellB hmX (HPres.refl _), RdS.cells hmX, wrap_id]
  refine op_box (cs := #[.int .i64 (X.p), vdX, vmX]) rfl ?_
  intro h0_0 e0_0 hb0_0 z0_0
  have := Ext.size e0_0
  have eB := e0_0
  have hfhb0_0 : Fresh h.size [h.size] := Fresh.one _
  have hlhb0_0 := one_lt (show h.size < h0_0.size by omega)
  try simp -implicitDefEqProofs (disch := first | decide | assumption | omega) only [go_sem, RdS.len hdX sl22, RdS.idx hdX sl22, R1.intB hdX (Ext.pres eB), RdS.cells hdX, RdS.len hmX sl23, RdS.idx hmX sl23, RdS.cellB hmX (Ext.pres eB), RdS.cells hmX, BoxAt.cell hb0_0, wrap_id]
  refine hK _ _ ?_
  clear hK K
  refine den_seq ?_
  refine den_seq ?_
  refine den_region TTok ?_
  intro K hK
  simp -implicitDefEqProofs (disch := first | decide | assumption | omega) only [go_sem, ld30, RdS.len hdX sl22, RdS.idx hdX sl22, R1.intB hdX (Ext.pres eB), RdS.cells hdX, RdS.len hmX sl23, RdS.idx hmX sl23, RdS.cellB hmX (Ext.pres eB), RdS.cells hmX, BoxAt.cell hb0_0, wrap_id]
  try simp -implicitDefEqProofs (disch := first | decide | assumption | omega) only [go_sem, RdS.len hdX sl22, RdS.idx hdX sl22, R1.intB hdX (Ext.pres eB), RdS.cells hdX, RdS.len hmX sl23, RdS.idx hmX sl23, RdS.cellB hmX (Ext.pres eB), RdS.cells hmX, BoxAt.cell hb0_0, wrap_id]
  refine CallA.mono (iDeg_ok _ X n _ ⟨_, _, rfl, (RdS.pres hdX (Ext.pres eB)), (RdS.pres hmX (Ext.pres eB))⟩ ) ?_
  intro v_ h1_2
  rintro ⟨rfl, e1_2⟩
  replace hb0_0 := BoxAt.ext hb0_0 e1_2
  have := Ext.size e1_2
  replace eB := Ext.trans eB e1_2
  try simp -implicitDefEqProofs (disch := first | decide | assumption | omega) only [go_sem, RdS.len hdX sl22, RdS.idx hdX sl22, R1.intB hdX (Ext.pres eB), RdS.cells hdX, RdS.len hmX sl23, RdS.idx hmX sl23, RdS.cellB hmX (Ext.pres eB), RdS.cells hmX, BoxAt.cell hb0_0, wrap_id]
  refine hK _ _ ?_
  clear hK K
  refine den_seq ?_
  refine den_region TTok ?_
  intro K hK
  simp -implicitDefEqProofs (disch := first | decide | assumption | omega) only [go_sem, RdS.len hdX sl22, RdS.idx hdX sl22, R1.intB hdX (Ext.pres eB), RdS.cells hdX, RdS.len hmX sl23, RdS.idx hmX sl23, RdS.cellB hmX (Ext.pres eB), RdS.cells hmX, BoxAt.cell hb0_0, wrap_id]
  refine hK _ _ ?_
  clear hK K
  refine den_cond rfl (fun c0 => ?_) (fun c0 => ?_)
  · try simp only [decide_eq_true_eq, decide_eq_false_iff_not, beq_iff_eq, beq_eq_false_iff_ne, bne_iff_ne, ne_eq, Bool.not_eq_true', Bool.not_eq_false', Bool.and_eq_true, Bool.or_eq_true, bne_eq_false_iff_eq] at c0
    refine den_seq ?_
    refine den_region TTok ?_
    intro K hK
    simp -implicitDefEqProofs (disch := first | decide | assumption | omega) only [go_sem, RdS.len hdX sl22, RdS.idx hdX sl22, R1.intB hdX (Ext.pres eB), RdS.cells hdX, RdS.len hmX sl23, RdS.idx hmX sl23, RdS.cellB hmX (Ext.pres eB), RdS.cells hmX, wrap_id]
    refine hK _ _ ?_
    clear hK K
    refine den_ret ?_
    simp (disch := decide) only [resP_2, puts_same, puts_ne]
    rw [hlR_n c0]
    exact ⟨.slice none 0 0, [], rfl, OS.nil, Fresh.nil _, eB⟩
  · try simp only [decide_eq_true_eq, decide_eq_false_iff_not, beq_iff_eq, beq_eq_false_iff_ne, bne_iff_ne, ne_eq, Bool.not_eq_true', Bool.not_eq_false', Bool.and_eq_true, Bool.or_eq_true, bne_eq_false_iff_eq] at c0
    obtain ⟨hCx, hn0, hn1⟩ := degC_0 c0
    have hlX := hCx.len
    refine den_skip ?_
    refine den_seq ?_
    refine den_region TTok ?_
    intro K hK
    simp -implicitDefEqProofs (disch := first | decide | assumption | omega) only [go_sem, ld30, RdS.len hdX sl22, RdS.idx hdX sl22, R1.intB hdX (Ext.pres eB), RdS.cells hdX, RdS.len hmX sl23, RdS.idx hmX sl23, RdS.cellB hmX (Ext.pres eB), RdS.cells hmX, BoxAt.cell hb0_0, wrap_id]
    try simp -implicitDefEqProofs (disch := first | decide | assumption | omega) only [go_sem, RdS.len hdX sl22, RdS.idx hdX sl22, R1.intB hdX (Ext.pres eB), RdS.cells hdX, RdS.len hmX sl23, RdS.idx hmX sl23, RdS.cellB hmX (Ext.pres eB), RdS.cells hmX, BoxAt.cell hb0_0, wrap_id]
    refine CallA.mono (iHL_ok _ X n _ ⟨_, _, rfl, (RdS.pres hdX (Ext.pres eB)), (RdS.pres hmX (Ext.pres eB))⟩ hCx (by omega)) ?_
    intro vw4_2_0 h4_2
    rintro ⟨zvw4_2_0, fw4_2_0, rfl, how4_2_0, hfw4_2_0, e4_2⟩
    replace hb0_0 := BoxAt.ext hb0_0 e4_2
    have := Ext.size e4_2
    replace eB := Ext.trans eB e4_2
    have hlhow4_2_0 := OS.lt how4_2_0
    try simp -implicitDefEqProofs (disch := first | decide | assumption | omega) only [go_sem, RdS.len hdX sl22, RdS.idx hdX sl22, R1.intB hdX (Ext.pres eB), RdS.cells hdX, RdS.len hmX sl23, RdS.idx hmX sl23, RdS.cellB hmX (Ext.pres eB), RdS.cells hmX, RdS.len (OS.rd how4_2_0) sl36, RdS.idx (OS.rd how4_2_0) sl36, RdS.cellN (OS.rd how4_2_0), RdS.cells (OS.rd how4_2_0), BoxAt.cell hb0_0, wrap_id]
    refine hK _ _ ?_
    clear hK K
    refine den_ret ?_
    simp (disch := decide) only [resP_2, puts_same, puts_ne]
    rw [hlR_y c0]
    exact ⟨_, _, rfl, how4_2_0, hfw4_2_0.mono (by omega), eB⟩

set_option maxRecDepth 100000 in
theorem iHoO_ok (vX : Value) (X : Cx) (n : Int) (h : Heap) (rX : RC h vX X)  : CallA Try.prog 43 #[vX, .int .i64 n] h fun v' h' => ∃ w0 f0, v' = .tuple #[w0, .int .i64 ((hlR X n).2)] ∧ O2 h' w0 ((hlR X n).1) f0 ∧ Fresh h.size f0 ∧ Ext h h' := by
  obtain ⟨vdX, vmX, rfl, hdX, hmX⟩ := rX
  have hledX := RdS.le hdX
  have hlemX := RdS.le hmX
  refine callA_intro TTok (args := [_, _]) Try.func43 (by kernel_rfl) rfl 11 rfl (by simp) [.tmp 4, .tmp 5] rfl ?_
  simp only [idxs, Nat.reduceAdd]
  refine den_seq ?_
  refine den_region TTok ?_
  intro K hK
  simp -implicitDefEqProofs (disch := first | decide | assumption | omega) only [go_sem, RdS.len hdX sl22, RdS.idx hdX sl22, R1.intB hdX (HPres.refl _), RdS.cells hdX, RdS.len hmX sl23, RdS.idx hmX sl23, RdS.cellB hmX (HPres.refl _), RdS.cells hmX, wrap_id]
  refine op_box (cs := #[.int .i64 (X.p), vdX, vmX]) rfl ?_
  intro h0_0 e0_0 hb0_0 z0_0
  have := Ext.size e0_0
  have eB := e0_0
  have hfhb0_0 : Fresh h.size [h.size] := Fresh.one _
  have hlhb0_0 := one_lt (show h.size < h0_0.size by omega)
  try simp -implicitDefEqProofs (disch := first | decide | assumption | omega) only [go_sem, RdS.len hdX sl22, RdS.idx hdX sl22, R1.intB hdX (Ext.pres eB), RdS.cells hdX, RdS.len hmX sl23, RdS.idx hmX sl23, RdS.cellB hmX (Ext.pres eB), RdS.cells hmX, BoxAt.cell hb0_0, wrap_id]
  refine hK _ _ ?_
  clear hK K
  refine den_seq ?_
  refine den_region TTok ?_
  intro K hK
  simp -implicitDefEqProofs (disch := first | decide | assumption | omega) only [go_sem, ld30, RdS.len hdX sl22, RdS.idx hdX sl22, R1.intB hdX (Ext.pres eB), RdS.cells hdX, RdS.len hmX sl23, RdS.idx hmX sl23, RdS.cellB hmX (Ext.pres eB), RdS.cells hmX, BoxAt.cell hb0_0, wrap_id]
  try simp -implicitDefEqProofs (disch := first | decide | assumption | omega) only [go_sem, RdS.len hdX sl22, RdS.idx hdX sl22, R1.intB hdX (Ext.pres eB), RdS.cells hdX, RdS.len hmX sl23, RdS.idx hmX sl23, RdS.cellB hmX (Ext.pres eB), RdS.cells hmX, BoxAt.cell hb0_0, wrap_id]
  refine CallA.mono (iHLo_ok _ X n _ ⟨_, _, rfl, (RdS.pres hdX (Ext.pres eB)), (RdS.pres hmX (Ext.pres eB))⟩ ) ?_
  intro v_ h1_2
  rintro ⟨vw1_2_0, fw1_2_0, rfl, how1_2_0, hfw1_2_0, e1_2⟩
  replace hb0_0 := BoxAt.ext hb0_0 e1_2
  have := Ext.size e1_2
  replace eB := Ext.trans eB e1_2
  have hlhow1_2_0 := OS.lt how1_2_0
  try simp -implicitDefEqProofs (disch := first | decide | assumption | omega) only [go_sem, RdS.len hdX sl22, RdS.idx hdX sl22, R1.intB hdX (Ext.pres eB), RdS.cells hdX, RdS.len hmX sl23, RdS.idx hmX sl23, RdS.cellB hmX (Ext.pres eB), RdS.cells hmX, RdS.len (OS.rd how1_2_0) sl36, RdS.idx (OS.rd how1_2_0) sl36, RdS.cellN (OS.rd how1_2_0), RdS.cells (OS.rd how1_2_0), BoxAt.cell hb0_0, wrap_id]
  refine hK _ _ ?_
  clear hK K
  refine den_ret ?_
  simp (disch := decide) only [resP_2, puts_same, puts_ne]
  exact ⟨_, _, rfl, how1_2_0, hfw1_2_0.mono (by omega), eB⟩

set_option maxRecDepth 100000 in
theorem sHoO_ok (vX : Value) (X : Cx) (n : Int) (h : Heap) (rX : RC h vX X)  : CallA Try.prog 42 #[vX, .int .i64 n] h fun v' h' => ∃ w0 f0, v' = .tuple #[w0, .int .i64 ((hlR X n).2)] ∧ O2 h' w0 ((hlR X n).1) f0 ∧ Fresh h.size f0 ∧ Ext h h' := by
  obtain ⟨vdX, vmX, rfl, hdX, hmX⟩ := rX
  have hledX := RdS.le hdX
  have hlemX := RdS.le hmX
  refine callA_intro TTok (args := [_, _]) Try.func42 (by kernel_rfl) rfl 16 rfl (by simp) [.tmp 4, .tmp 5] rfl ?_
  simp only [idxs, Nat.reduceAdd]
  refine den_seq ?_
  refine den_region TTok ?_
  intro K hK
  simp -implicitDefEqProofs (disch := first | decide | assumption | omega) only [go_sem, RdS.len hdX sl22, RdS.idx hdX sl22, R1.intB hdX (HPres.refl _), RdS.cells hdX, RdS.len hmX sl23, RdS.idx hmX sl23, RdS.cellB hmX (HPres.refl _), RdS.cells hmX, wrap_id]
  refine op_box (cs := #[.int .i64 (X.p), vdX, vmX]) rfl ?_
  intro h0_0 e0_0 hb0_0 z0_0
  have := Ext.size e0_0
  have eB := e0_0
  have hfhb0_0 : Fresh h.size [h.size] := Fresh.one _
  have hlhb0_0 := one_lt (show h.size < h0_0.size by omega)
  try simp -implicitDefEqProofs (disch := first | decide | assumption | omega) only [go_sem, RdS.len hdX sl22, RdS.idx hdX sl22, R1.intB hdX (Ext.pres eB), RdS.cells hdX, RdS.len hmX sl23, RdS.idx hmX sl23, RdS.cellB hmX (Ext.pres eB), RdS.cells hmX, BoxAt.cell hb0_0, wrap_id]
  refine hK _ _ ?_
  clear hK K
  refine den_seq ?_
  refine den_seq ?_
  refine den_region TTok ?_
  intro K hK
  simp -implicitDefEqProofs (disch := first | decide | assumption | omega) only [go_sem, ld30, RdS.len hdX sl22, RdS.idx hdX sl22, R1.intB hdX (Ext.pres eB), RdS.cells hdX, RdS.len hmX sl23, RdS.idx hmX sl23, RdS.cellB hmX (Ext.pres eB), RdS.cells hmX, BoxAt.cell hb0_0, wrap_id]
  try simp -implicitDefEqProofs (disch := first | decide | assumption | omega) only [go_sem, RdS.len hdX sl22, RdS.idx hdX sl22, R1.intB hdX (Ext.pres eB), RdS.cells hdX, RdS.len hmX sl23, RdS.idx hmX sl23, RdS.cellB hmX (Ext.pres eB), RdS.cells hmX, BoxAt.cell hb0_0, wrap_id]
  refine CallA.mono (sDeg8_ok _ X n _ ⟨_, _, rfl, (RdS.pres hdX (Ext.pres eB)), (RdS.pres hmX (Ext.pres eB))⟩ ) ?_
  intro v_ h1_2
  rintro ⟨rfl, e1_2⟩
  replace hb0_0 := BoxAt.ext hb0_0 e1_2
  have := Ext.size e1_2
  replace eB := Ext.trans eB e1_2
  try simp -implicitDefEqProofs (disch := first | decide | assumption | omega) only [go_sem, RdS.len hdX sl22, RdS.idx hdX sl22, R1.intB hdX (Ext.pres eB), RdS.cells hdX, RdS.len hmX sl23, RdS.idx hmX sl23, RdS.cellB hmX (Ext.pres eB), RdS.cells hmX, BoxAt.cell hb0_0, wrap_id]
  refine hK _ _ ?_
  clear hK K
  refine den_seq ?_
  refine den_region TTok ?_
  intro K hK
  simp -implicitDefEqProofs (disch := first | decide | assumption | omega) only [go_sem, RdS.len hdX sl22, RdS.idx hdX sl22, R1.intB hdX (Ext.pres eB), RdS.cells hdX, RdS.len hmX sl23, RdS.idx hmX sl23, RdS.cellB hmX (Ext.pres eB), RdS.cells hmX, BoxAt.cell hb0_0, wrap_id]
  refine hK _ _ ?_
  clear hK K
  refine den_cond rfl (fun c0 => ?_) (fun c0 => ?_)
  · try simp only [decide_eq_true_eq, decide_eq_false_iff_not, beq_iff_eq, beq_eq_false_iff_ne, bne_iff_ne, ne_eq, Bool.not_eq_true', Bool.not_eq_false', Bool.and_eq_true, Bool.or_eq_true, bne_eq_false_iff_eq] at c0
    refine den_seq ?_
    refine den_region TTok ?_
    intro K hK
    simp -implicitDefEqProofs (disch := first | decide | assumption | omega) only [go_sem, RdS.len hdX sl22, RdS.idx hdX sl22, R1.intB hdX (Ext.pres eB), RdS.cells hdX, RdS.len hmX sl23, RdS.idx hmX sl23, RdS.cellB hmX (Ext.pres eB), RdS.cells hmX, wrap_id]
    refine hK _ _ ?_
    clear hK K
    refine den_ret ?_
    simp (disch := decide) only [resP_2, puts_same, puts_ne]
    rw [hlR_n c0]
    exact ⟨.slice none 0 0, [], rfl, OS.nil, Fresh.nil _, eB⟩
  · try simp only [decide_eq_true_eq, decide_eq_false_iff_not, beq_iff_eq, beq_eq_false_iff_ne, bne_iff_ne, ne_eq, Bool.not_eq_true', Bool.not_eq_false', Bool.and_eq_true, Bool.or_eq_true, bne_eq_false_iff_eq] at c0
    obtain ⟨hCx, hn0, hn1⟩ := degC_0 c0
    have hlX := hCx.len
    refine den_skip ?_
    refine den_seq ?_
    refine den_region TTok ?_
    intro K hK
    simp -implicitDefEqProofs (disch := first | decide | assumption | omega) only [go_sem, ld30, RdS.len hdX sl22, RdS.idx hdX sl22, R1.intB hdX (Ext.pres eB), RdS.cells hdX, RdS.len hmX sl23, RdS.idx hmX sl23, RdS.cellB hmX (Ext.pres eB), RdS.cells hmX, BoxAt.cell hb0_0, wrap_id]
    try simp -implicitDefEqProofs (disch := first | decide | assumption | omega) only [go_sem, RdS.len hdX sl22, RdS.idx hdX sl22, R1.intB hdX (Ext.pres eB), RdS.cells hdX, RdS.len hmX sl23, RdS.idx hmX sl23, RdS.cellB hmX (Ext.pres eB), RdS.cells hmX, BoxAt.cell hb0_0, wrap_id]
    refine CallA.mono (sHoles_ok _ X n _ ⟨_, _, rfl, (RdS.pres hdX (Ext.pres eB)), (RdS.pres hmX (Ext.pres eB))⟩ hCx (by omega)) ?_
    intro vw4_2_0 h4_2
    rintro ⟨zvw4_2_0, fw4_2_0, rfl, how4_2_0, hfw4_2_0, e4_2⟩
    replace hb0_0 := BoxAt.ext hb0_0 e4_2
    have := Ext.size e4_2
    replace eB := Ext.trans eB e4_2
    have hlhow4_2_0 := OS.lt how4_2_0
    try simp -implicitDefEqProofs (disch := first | decide | assumption | omega) only [go_sem, RdS.len hdX sl22, RdS.idx hdX sl22, R1.intB hdX (Ext.pres eB), RdS.cells hdX, RdS.len hmX sl23, RdS.idx hmX sl23, RdS.cellB hmX (Ext.pres eB), RdS.cells hmX, RdS.len (OS.rd how4_2_0) sl36, RdS.idx (OS.rd how4_2_0) sl36, RdS.cellN (OS.rd how4_2_0), RdS.cells (OS.rd how4_2_0), BoxAt.cell hb0_0, wrap_id]
    refine hK _ _ ?_
    clear hK K
    refine den_ret ?_
    simp (disch := decide) only [resP_2, puts_same, puts_ne]
    rw [hlR_y c0]
    exact ⟨_, _, rfl, how4_2_0, hfw4_2_0.mono (by omega), eB⟩
end Go.Proofs.Ytbplnadngahgaaa

namespace Go.Proofs.Ytbplnadngahgaaa
open Go
set_option maxRecDepth 100000 in
set_option maxHeartbeats 4000000 in
theorem exactHolesOf_law (vX : Value) (X : Cx) (n : Int) (h : Heap) (rX : RC h vX X)  : CallA Try.prog 10 #[vX, .int .i64 n] h fun v' h' => v' = .bool (true) ∧ Ext h h' := by
  obtain ⟨vdX, vmX, rfl, hdX, hmX⟩ := rX
  have hledX := RdS.le hdX
  have hlemX := RdS.le hmX
  refine callA_intro TTok (args := [_, _]) Try.func10 (by kernel_rfl) rfl 101 rfl (by simp) [.tmp 4] rfl ?_
  simp only [idxs, Nat.reduceAdd]
  refine den_seq ?_
  refine den_region TTok ?_
  intro K hK
  simp -implicitDefEqProofs (disch := first | decide | assumption | omega) only [go_sem, wrap_id]
  refine op_box (cs := #[.int .i64 (X.p), vdX, vmX]) rfl ?_
  intro h0_0 e0_0 hb0_0 z0_0
  have := Ext.size e0_0
  have eB := e0_0
  have hfhb0_0 : Fresh h.size [h.size] := Fresh.one _
  have hlhb0_0 := one_lt (show h.size < h0_0.size by omega)
  try simp -implicitDefEqProofs (disch := first | decide | assumption | omega) only [go_sem, BoxAt.cell hb0_0, wrap_id]
  refine hK _ _ ?_
  clear hK K
  refine den_seq ?_
  refine den_region TTok ?_
  intro K hK
  simp -implicitDefEqProofs (disch := first | decide | assumption | omega) only [go_sem, BoxAt.cell hb0_0, wrap_id]
  refine hK _ _ ?_
  clear hK K
  refine den_seq ?_
  refine den_region TTok ?_
  intro K hK
  simp -implicitDefEqProofs (disch := first | decide | assumption | omega) only [go_sem, ld25, BoxAt.cell hb0_0, wrap_id]
  try simp -implicitDefEqProofs (disch := first | decide | assumption | omega) only [go_sem, BoxAt.cell hb0_0, wrap_id]
  refine CallA.mono (szC_ok _ X _ _ ⟨_, _, rfl, (RdS.pres hdX (Ext.pres eB)), (RdS.pres hmX (Ext.pres eB))⟩ (by omega) (by omega)) ?_
  intro v_ h2_2
  rintro ⟨rfl, e2_2⟩
  replace hb0_0 := BoxAt.ext hb0_0 e2_2
  have := Ext.size e2_2
  replace eB := Ext.trans eB e2_2
  have := szC_le X (1048576 : Int) (by omega)
  try simp -implicitDefEqProofs (disch := first | decide | assumption | omega) only [go_sem, BoxAt.cell hb0_0, wrap_id]
  refine hK _ _ ?_
  clear hK K
  refine den_seq ?_
  refine den_seq ?_
  refine den_region TTok ?_
  intro K hK
  simp -implicitDefEqProofs (disch := first | decide | assumption | omega) only [go_sem, BoxAt.cell hb0_0, wrap_id]
  refine hK _ _ ?_
  clear hK K
  refine den_cond rfl (fun c0 => ?_) (fun c0 => ?_)
  · try simp only [decide_eq_true_eq, decide_eq_false_iff_not, beq_iff_eq, beq_eq_false_iff_ne, bne_iff_ne, ne_eq, Bool.not_eq_true', Bool.not_eq_false', Bool.and_eq_true, Bool.or_eq_true, bne_eq_false_iff_eq] at c0
    refine den_seq ?_
    refine den_region TTok ?_
    intro K hK
    simp -implicitDefEqProofs (disch := first | decide | assumption | omega) only [go_sem, wrap_id]
    refine hK _ _ ?_
    clear hK K
    refine den_ret ?_
    simp (disch := decide) only [resP_1, puts_same, puts_ne]
    exact ⟨by first | rfl | trivial, eB⟩
  · try simp only [decide_eq_true_eq, decide_eq_false_iff_not, beq_iff_eq, beq_eq_false_iff_ne, bne_iff_ne, ne_eq, Bool.not_eq_true', Bool.not_eq_false', Bool.and_eq_true, Bool.or_eq_true, bne_eq_false_iff_eq] at c0
    have hMX := szC_ok' (by omega) (by omega) c0
    have hcnX := szC_cntA (by omega) (by omega) c0
    have hci := cnt_hl X n
    refine den_skip ?_
    refine den_seq ?_
    refine den_region TTok ?_
    intro K hK
    simp -implicitDefEqProofs (disch := first | decide | assumption | omega) only [go_sem, ld25, BoxAt.cell hb0_0, wrap_id]
    try simp -implicitDefEqProofs (disch := first | decide | assumption | omega) only [go_sem, BoxAt.cell hb0_0, wrap_id]
    refine CallA.mono (toC_ok _ X _ ⟨_, _, rfl, (RdS.pres hdX (Ext.pres eB)), (RdS.pres hmX (Ext.pres eB))⟩ hMX) ?_
    intro v_ h5_1
    rintro ⟨vd5_1, vm5_1, fd5_1, fm5_1, rfl, hod5_1, hom5_1, hf5_1, e5_1⟩
    replace hb0_0 := BoxAt.ext hb0_0 e5_1
    have := Ext.size e5_1
    replace eB := Ext.trans eB e5_1
    have hfd5_1 := hf5_1.left
    have hfm5_1 := hf5_1.right
    have hlhod5_1 := OS.lt hod5_1
    have hlhom5_1 := OS.lt hom5_1
    have ap1 : Apart fd5_1 fm5_1 := apart_nodup hf5_1
    try simp -implicitDefEqProofs (disch := first | decide | assumption | omega) only [go_sem, BoxAt.cell hb0_0, wrap_id]
    try simp -implicitDefEqProofs (disch := first | decide | assumption | omega) only [go_sem, BoxAt.cell hb0_0, wrap_id]
    refine CallA.mono (sHoO_ok _ X n _ ⟨_, _, rfl, (OS.rd hod5_1), (OS.rd hom5_1)⟩ ) ?_
    intro v_ h5_3
    rintro ⟨vw5_3_0, fw5_3_0, rfl, how5_3_0, hfw5_3_0, e5_3⟩
    replace hod5_1 := OS.ext hod5_1 e5_3
    replace hom5_1 := OS.ext hom5_1 e5_3
    replace hb0_0 := BoxAt.ext hb0_0 e5_3
    have := Ext.size e5_3
    replace eB := Ext.trans eB e5_3
    have hlhow5_3_0 := OS.lt how5_3_0
    try simp -implicitDefEqProofs (disch := first | decide | assumption | omega) only [go_sem, BoxAt.cell hb0_0, wrap_id]
    refine hK _ _ ?_
    clear hK K
    refine den_seq ?_
    refine den_region TTok ?_
    intro K hK
    simp -implicitDefEqProofs (disch := first | decide | assumption | omega) only [go_sem, ld25, BoxAt.cell hb0_0, wrap_id]
    try simp -implicitDefEqProofs (disch := first | decide | assumption | omega) only [go_sem, BoxAt.cell hb0_0, wrap_id]
    refine CallA.mono (toC_ok _ X _ ⟨_, _, rfl, (RdS.pres hdX (Ext.pres eB)), (RdS.pres hmX (Ext.pres eB))⟩ hMX) ?_
    intro v_ h6_1
    rintro ⟨vd6_1, vm6_1, fd6_1, fm6_1, rfl, hod6_1, hom6_1, hf6_1, e6_1⟩
    replace how5_3_0 := OS.ext how5_3_0 e6_1
    replace hb0_0 := BoxAt.ext hb0_0 e6_1
    have := Ext.size e6_1
    replace eB := Ext.trans eB e6_1
    have hfd6_1 := hf6_1.left
    have hfm6_1 := hf6_1.right
    have hlhod6_1 := OS.lt hod6_1
    have hlhom6_1 := OS.lt hom6_1
    have ap2 : Apart fd6_1 fm6_1 := apart_nodup hf6_1
    try simp -implicitDefEqProofs (disch := first | decide | assumption | omega) only [go_sem, BoxAt.cell hb0_0, wrap_id]
    refine op_alloc (cs := #[.int .i64 0, .slice none 0 0, .slice none 0 0]) (by kernel_rfl) ?_
    intro h6_2 e6_2 hb6_2 z6_2
    replace how5_3_0 := OS.ext how5_3_0 e6_2
    replace hod6_1 := OS.ext hod6_1 e6_2
    replace hom6_1 := OS.ext hom6_1 e6_2
    replace hb0_0 := BoxAt.ext hb0_0 e6_2
    have := Ext.size e6_2
    replace eB := Ext.trans eB e6_2
    have hfhb6_2 : Fresh h6_1.size [h6_1.size] := Fresh.one _
    have hlhb6_2 := one_lt (show h6_1.size < h6_2.size by omega)
    try simp -implicitDefEqProofs (disch := first | decide | assumption | omega) only [go_sem, BoxAt.cell hb0_0, BoxAt.cell hb6_2, wrap_id]
    refine op_storeB (cs' := #[.int .i64 (X.p), vd6_1, vm6_1]) st30 hb6_2 rfl rfl rfl (by simp) (allOne_mem (l := [.int .i64 (X.p), vd6_1, vm6_1]) ⟨rfl, (OS.one hod6_1).1, (OS.one hom6_1).1, trivial⟩) rfl ?_
    intro h6_3 hb6_2 c6_3
    replace how5_3_0 := OS.chg how5_3_0 c6_3 (apart_lt hlhow5_3_0 hfhb6_2 (by omega))
    replace hod6_1 := OS.chg hod6_1 c6_3 (apart_lt hlhod6_1 hfhb6_2 (by omega))
    replace hom6_1 := OS.chg hom6_1 c6_3 (apart_lt hlhom6_1 hfhb6_2 (by omega))
    replace hb0_0 := BoxAt.chgA hb0_0 c6_3 (apart_lt hlhb0_0 hfhb6_2 (by omega))
    have := c6_3.size
    replace eB := Ext.then eB c6_3 (ge_of hfhb6_2 (by omega))
    try simp -implicitDefEqProofs (disch := first | decide | assumption | omega) only [go_sem, BoxAt.cell hb0_0, BoxAt.cell hb6_2, wrap_id]
    refine hK _ _ ?_
    clear hK K
    refine den_seq ?_
    refine den_region TTok ?_
    intro K hK
    simp -implicitDefEqProofs (disch := first | decide | assumption | omega) only [go_sem, ld30, BoxAt.cell hb0_0, BoxAt.cell hb6_2, wrap_id]
    try simp -implicitDefEqProofs (disch := first | decide | assumption | omega) only [go_sem, BoxAt.cell hb0_0, BoxAt.cell hb6_2, wrap_id]
    refine CallA.mono (iHoO_ok _ X n _ ⟨_, _, rfl, (OS.rd hod6_1), (OS.rd hom6_1)⟩ ) ?_
    intro v_ h7_2
    rintro ⟨vw7_2_0, fw7_2_0, rfl, how7_2_0, hfw7_2_0, e7_2⟩
    replace how5_3_0 := OS.ext how5_3_0 e7_2
    replace hod6_1 := OS.ext hod6_1 e7_2
    replace hom6_1 := OS.ext hom6_1 e7_2
    replace hb0_0 := BoxAt.ext hb0_0 e7_2
    replace hb6_2 := BoxAt.ext hb6_2 e7_2
    have := Ext.size e7_2
    replace eB := Ext.trans eB e7_2
    have hlhow7_2_0 := OS.lt how7_2_0
    try simp -implicitDefEqProofs (disch := first | decide | assumption | omega) only [go_sem, BoxAt.cell hb0_0, BoxAt.cell hb6_2, wrap_id]
    refine hK _ _ ?_
    clear hK K
    refine den_seq ?_
    refine den_seq ?_
    refine den_mergeH [(44, .bool (((!(true)) || (((hlR X n).2) != ((hlR X n).2)))))] [1, 2, 6, 7, 8, 9, 10] ?_ ?_
      -- a way
    · refine den_region TTok ?_
      intro K hK
      simp -implicitDefEqProofs (disch := first | decide | assumption | (simp (disch := decide) only [slotOf_zero, slotOf_succ, Option.map_some, puts_same, puts_ne, gv_bool, gv_undef, tt, tf, ft, ff, eq_self, if_true, if_false, Bool.false_eq_true, Bool.not_true, Bool.not_false]; done) | omega) only [go_sem, BoxAt.cell hb0_0, BoxAt.cell hb6_2, wrap_id]
      try simp -implicitDefEqProofs (disch := first | decide | assumption | omega) only [go_sem, BoxAt.cell hb0_0, BoxAt.cell hb6_2, wrap_id]
      refine CallA.pure (eqSS_same _ _ _ _ (OS.rd how7_2_0) (OS.rd how5_3_0)) ?_
      try simp -implicitDefEqProofs (disch := first | decide | assumption | (simp (disch := decide) only [slotOf_zero, slotOf_succ, Option.map_some, puts_same, puts_ne, gv_bool, gv_undef, tt, tf, ft, ff, eq_self, if_true, if_false, Bool.false_eq_true, Bool.not_true, Bool.not_false]; done) | omega) only [go_sem, BoxAt.cell hb0_0, BoxAt.cell hb6_2, wrap_id]
      try simp -implicitDefEqProofs (disch := first | decide | assumption | (simp (disch := decide) only [slotOf_zero, slotOf_succ, Option.map_some, puts_same, puts_ne, gv_bool, gv_undef, tt, tf, ft, ff, eq_self, if_true, if_false, Bool.false_eq_true, Bool.not_true, Bool.not_false]; done) | omega) only [go_sem, BoxAt.cell hb0_0, BoxAt.cell hb6_2, wrap_id]
      refine hK _ _ ?_
      clear hK K
      refine den_stop ?_
      refine ⟨?_, rfl⟩
      first | (simp (disch := decide) only [go_sem, eq_self, Bool.true_and, Bool.and_true, Bool.false_and, Bool.and_false, Bool.true_or, Bool.or_true, Bool.false_or, Bool.or_false, if_true, if_false, Bool.false_eq_true]; done) | simp [HasL, sel, puts_at]
    intro en3
    simp (disch := decide) only [go_sem]
    refine den_cond rfl (fun c1 => ?_) (fun c1 => ?_)
    · try simp only [decide_eq_true_eq, decide_eq_false_iff_not, beq_iff_eq, beq_eq_false_iff_ne, bne_iff_ne, ne_eq, Bool.not_eq_true', Bool.not_eq_false', Bool.and_eq_true, Bool.or_eq_true, bne_eq_false_iff_eq] at c1
      refine den_seq ?_
      refine den_region TTok ?_
      intro K hK
      simp -implicitDefEqProofs (disch := first | decide | assumption | omega) only [go_sem, wrap_id]
      refine hK _ _ ?_
      clear hK K
      refine den_ret ?_
      simp (disch := decide) only [resP_1, puts_same, puts_ne]
      exact absurd c1 (by first | (simp; done) | (simp; omega) | omega | (simp [eqC_self]; done))
    · try simp only [decide_eq_true_eq, decide_eq_false_iff_not, beq_iff_eq, beq_eq_false_iff_ne, bne_iff_ne, ne_eq, Bool.not_eq_true', Bool.not_eq_false', Bool.and_eq_true, Bool.or_eq_true, bne_eq_false_iff_eq] at c1
      refine den_skip ?_
      refine den_seq ?_
      refine den_seq ?_
      refine den_draw TTok mixed [] [(0, true), (1, true), (2, false), (3, false), (4, true)] (by kernel_rfl) ?_
      intro K hK
      simp -implicitDefEqProofs (disch := first | decide | assumption | omega) only [go_sem, ld30, ld25, BoxAt.cell hb0_0, BoxAt.cell hb6_2, wrap_id]
      try simp -implicitDefEqProofs (disch := first | decide | assumption | omega) only [go_sem, BoxAt.cell hb0_0, BoxAt.cell hb6_2, wrap_id]
      refine CallA.mono (toC_ok _ X _ ⟨_, _, rfl, (RdS.pres hdX (Ext.pres eB)), (RdS.pres hmX (Ext.pres eB))⟩ hMX) ?_
      intro v_ h10_2
      rintro ⟨vd10_2, vm10_2, fd10_2, fm10_2, rfl, hod10_2, hom10_2, hf10_2, e10_2⟩
      replace how5_3_0 := OS.ext how5_3_0 e10_2
      replace hod6_1 := OS.ext hod6_1 e10_2
      replace hom6_1 := OS.ext hom6_1 e10_2
      replace how7_2_0 := OS.ext how7_2_0 e10_2
      replace hb0_0 := BoxAt.ext hb0_0 e10_2
      replace hb6_2 := BoxAt.ext hb6_2 e10_2
      have := Ext.size e10_2
      replace eB := Ext.trans eB e10_2
      have hfd10_2 := hf10_2.left
      have hfm10_2 := hf10_2.right
      have hlhod10_2 := OS.lt hod10_2
      have hlhom10_2 := OS.lt hom10_2
      have ap6 : Apart fd10_2 fm10_2 := apart_nodup hf10_2
      try simp (disch := decide) only [outv_some, outv_none, put_puts]
      refine plK_pres (Ext.pres e10_2) ?_
      try simp -implicitDefEqProofs (disch := first | decide | assumption | omega) only [go_sem, BoxAt.cell hb0_0, BoxAt.cell hb6_2, wrap_id]
      try simp -implicitDefEqProofs (disch := first | decide | assumption | omega) only [go_sem, BoxAt.cell hb0_0, BoxAt.cell hb6_2, wrap_id]
      refine CallA.mono (eqC_same _ _ X _ ⟨_, _, rfl, (OS.rd hod6_1), (OS.rd hom6_1)⟩ ⟨_, _, rfl, (OS.rd hod10_2), (OS.rd hom10_2)⟩) ?_
      intro v_ h10_3
      rintro ⟨rfl, e10_3⟩
      replace how5_3_0 := OS.ext how5_3_0 e10_3
      replace hod6_1 := OS.ext hod6_1 e10_3
      replace hom6_1 := OS.ext hom6_1 e10_3
      replace how7_2_0 := OS.ext how7_2_0 e10_3
      replace hod10_2 := OS.ext hod10_2 e10_3
      replace hom10_2 := OS.ext hom10_2 e10_3
      replace hb0_0 := BoxAt.ext hb0_0 e10_3
      replace hb6_2 := BoxAt.ext hb6_2 e10_3
      have := Ext.size e10_3
      replace eB := Ext.trans eB e10_3
      try simp (disch := decide) only [outv_some, outv_none, put_puts]
      refine plK_pres (Ext.pres e10_3) ?_
      try simp -implicitDefEqProofs (disch := first | decide | assumption | omega) only [go_sem, BoxAt.cell hb0_0, BoxAt.cell hb6_2, wrap_id]
      refine hK _ _ ?_
      clear hK K
      refine den_cond rfl (fun c2 => ?_) (fun c2 => ?_)
      · try simp only [decide_eq_true_eq, decide_eq_false_iff_not, beq_iff_eq, beq_eq_false_iff_ne, bne_iff_ne, ne_eq, Bool.not_eq_true', Bool.not_eq_false', Bool.and_eq_true, Bool.or_eq_true, bne_eq_false_iff_eq] at c2
        refine den_seq ?_
        refine den_region TTok ?_
        intro K hK
        simp -implicitDefEqProofs (disch := first | decide | assumption | omega) only [go_sem, wrap_id]
        refine hK _ _ ?_
        clear hK K
        refine den_ret ?_
        simp (disch := decide) only [resP_1, puts_same, puts_ne]
        exact absurd c2 (by first | (simp; done) | (simp; omega) | omega | (simp [eqC_self]; done))
      · try simp only [decide_eq_true_eq, decide_eq_false_iff_not, beq_iff_eq, beq_eq_false_iff_ne, bne_iff_ne, ne_eq, Bool.not_eq_true', Bool.not_eq_false', Bool.and_eq_true, Bool.or_eq_true, bne_eq_false_iff_eq] at c2
        refine den_skip ?_
        refine den_seq ?_
        refine den_region TTok ?_
        intro K hK
        simp -implicitDefEqProofs (disch := first | decide | assumption | omega) only [go_sem, BoxAt.cell hb0_0, BoxAt.cell hb6_2, wrap_id]
        refine hK _ _ ?_
        clear hK K
        refine den_seq ?_
        refine den_region TTok ?_
        intro K hK
        simp -implicitDefEqProofs (disch := first | decide | assumption | omega) only [go_sem, ld30, BoxAt.cell hb0_0, BoxAt.cell hb6_2, wrap_id]
        try simp -implicitDefEqProofs (disch := first | decide | assumption | omega) only [go_sem, BoxAt.cell hb0_0, BoxAt.cell hb6_2, wrap_id]
        refine CallA.mono (markCx_ok _ _ X (1 : Int) _ _ _ hod6_1 hom6_1 (List.nodup_append.2 ⟨hfd6_1.nodup, hfm6_1.nodup, fun b hb c hc e => ap2 b hb (e ▸ hc)⟩) (by omega)) ?_
        intro v_ h13_2
        rintro ⟨rfl, hogd13_2, hogm13_2, cg13_2⟩
        replace how5_3_0 := OS.chg how5_3_0 cg13_2 (Apart.app (apart_lt hlhow5_3_0 hfd6_1 (by omega)) (apart_lt hlhow5_3_0 hfm6_1 (by omega)))
        replace how7_2_0 := OS.chg how7_2_0 cg13_2 (Apart.app (apart_gt hfw7_2_0 hlhod6_1 (by omega)) (apart_gt hfw7_2_0 hlhom6_1 (by omega)))
        replace hb0_0 := BoxAt.chgA hb0_0 cg13_2 (Apart.app (apart_lt hlhb0_0 hfd6_1 (by omega)) (apart_lt hlhb0_0 hfm6_1 (by omega)))
        replace hb6_2 := BoxAt.chgA hb6_2 cg13_2 (Apart.app (apart_gt hfhb6_2 hlhod6_1 (by omega)) (apart_gt hfhb6_2 hlhom6_1 (by omega)))
        have := cg13_2.size
        replace eB := Ext.then eB cg13_2 (ge_app (ge_of hfd6_1 (by omega)) (ge_of hfm6_1 (by omega)))
        have ap7 : Apart fm6_1 fd6_1 := (Apart.symm ap2)
        have hlhogd13_2 := hlhod6_1
        have ap8 : Apart fd6_1 fm6_1 := (Apart.symm ap7)
        have hlhogm13_2 := hlhom6_1
        try simp -implicitDefEqProofs (disch := first | decide | assumption | omega) only [go_sem, BoxAt.cell hb0_0, BoxAt.cell hb6_2, wrap_id]
        refine hK _ _ ?_
        clear hK K
        refine den_seq ?_
        refine den_seq ?_
        refine den_mergeH [(65, .bool ((((decide (((1 : Int) + cnt1 X.dims + cntL cnt2 X.maps) < (0 : Int))) || (!(true))) || (((hlR X n).2) != ((hlR X n).2)))))] [1, 2, 6, 7, 9] ?_ ?_
          -- a way
        · refine den_region TTok ?_
          intro K hK
          simp -implicitDefEqProofs (disch := first | decide | assumption | (simp (disch := decide) only [slotOf_zero, slotOf_succ, Option.map_some, puts_same, puts_ne, gv_bool, gv_undef, tt, tf, ft, ff, eq_self, if_true, if_false, Bool.false_eq_true, Bool.not_true, Bool.not_false]; done) | omega) only [go_sem, BoxAt.cell hb0_0, wrap_id]
          refine opsP_F (by simp (disch := decide) only [slotOf_zero, slotOf_succ, Option.map_some, puts_same, puts_ne, gv_bool, gv_undef, tt, tf, ft, ff, eq_self, if_true, if_false, Bool.false_eq_true, Bool.not_true, Bool.not_false]; rfl) (fun g9 => ?_) (fun g9 => ?_)
          · try simp -implicitDefEqProofs (disch := first | decide | assumption | (simp (disch := decide) only [slotOf_zero, slotOf_succ, Option.map_some, puts_same, puts_ne, gv_bool, gv_undef, tt, tf, ft, ff, eq_self, if_true, if_false, Bool.false_eq_true, Bool.not_true, Bool.not_false, g9]; done) | omega) only [go_sem, BoxAt.cell hb0_0, wrap_id, g9, eq_self, if_true, if_false, Bool.false_eq_true]
            try simp -implicitDefEqProofs (disch := first | decide | assumption | omega) only [go_sem, BoxAt.cell hb0_0, wrap_id]
            refine CallA.pure (eqSS_same _ _ _ _ (OS.rd how7_2_0) (OS.rd how5_3_0)) ?_
            try simp -implicitDefEqProofs (disch := first | decide | assumption | (simp (disch := decide) only [slotOf_zero, slotOf_succ, Option.map_some, puts_same, puts_ne, gv_bool, gv_undef, tt, tf, ft, ff, eq_self, if_true, if_false, Bool.false_eq_true, Bool.not_true, Bool.not_false, g9]; done) | omega) only [go_sem, BoxAt.cell hb0_0, wrap_id, g9, eq_self, if_true, if_false, Bool.false_eq_true]
            try simp -implicitDefEqProofs (disch := first | decide | assumption | (simp (disch := decide) only [slotOf_zero, slotOf_succ, Option.map_some, puts_same, puts_ne, gv_bool, gv_undef, tt, tf, ft, ff, eq_self, if_true, if_false, Bool.false_eq_true, Bool.not_true, Bool.not_false, g9]; done) | omega) only [go_sem, BoxAt.cell hb0_0, wrap_id, g9, eq_self, if_true, if_false, Bool.false_eq_true]
            refine hK _ _ ?_
            clear hK K
            refine den_stop ?_
            refine ⟨?_, rfl⟩
            first | (simp (disch := decide) only [go_sem, g9, eq_self, Bool.true_and, Bool.and_true, Bool.false_and, Bool.and_false, Bool.true_or, Bool.or_true, Bool.false_or, Bool.or_false, if_true, if_false, Bool.false_eq_true]; done) | simp [HasL, sel, puts_at, g9]
          · try simp -implicitDefEqProofs (disch := first | decide | assumption | (simp (disch := decide) only [slotOf_zero, slotOf_succ, Option.map_some, puts_same, puts_ne, gv_bool, gv_undef, tt, tf, ft, ff, eq_self, if_true, if_false, Bool.false_eq_true, Bool.not_true, Bool.not_false, g9]; done) | omega) only [go_sem, BoxAt.cell hb0_0, wrap_id, g9, eq_self, if_true, if_false, Bool.false_eq_true]
            try simp -implicitDefEqProofs (disch := first | decide | assumption | (simp (disch := decide) only [slotOf_zero, slotOf_succ, Option.map_some, puts_same, puts_ne, gv_bool, gv_undef, tt, tf, ft, ff, eq_self, if_true, if_false, Bool.false_eq_true, Bool.not_true, Bool.not_false, g9]; done) | omega) only [go_sem, BoxAt.cell hb0_0, wrap_id, g9, eq_self, if_true, if_false, Bool.false_eq_true]
            refine hK _ _ ?_
            clear hK K
            refine den_stop ?_
            refine ⟨?_, rfl⟩
            first | (simp (disch := decide) only [go_sem, g9, eq_self, Bool.true_and, Bool.and_true, Bool.false_and, Bool.and_false, Bool.true_or, Bool.or_true, Bool.false_or, Bool.or_false, if_true, if_false, Bool.false_eq_true]; done) | simp [HasL, sel, puts_at, g9]
        intro en10
        simp (disch := decide) only [go_sem]
        refine den_cond rfl (fun c3 => ?_) (fun c3 => ?_)
        · try simp only [decide_eq_true_eq, decide_eq_false_iff_not, beq_iff_eq, beq_eq_false_iff_ne, bne_iff_ne, ne_eq, Bool.not_eq_true', Bool.not_eq_false', Bool.and_eq_true, Bool.or_eq_true, bne_eq_false_iff_eq] at c3
          refine den_seq ?_
          refine den_region TTok ?_
          intro K hK
          simp -implicitDefEqProofs (disch := first | decide | assumption | omega) only [go_sem, wrap_id]
          refine hK _ _ ?_
          clear hK K
          refine den_ret ?_
          simp (disch := decide) only [resP_1, puts_same, puts_ne]
          exact absurd c3 (by first | (simp; done) | (simp; omega) | omega | (simp [eqC_self]; done))
        · try simp only [decide_eq_true_eq, decide_eq_false_iff_not, beq_iff_eq, beq_eq_false_iff_ne, bne_iff_ne, ne_eq, Bool.not_eq_true', Bool.not_eq_false', Bool.and_eq_true, Bool.or_eq_true, bne_eq_false_iff_eq] at c3
          refine den_skip ?_
          refine den_seq ?_
          refine den_region TTok ?_
          intro K hK
          simp -implicitDefEqProofs (disch := first | decide | assumption | omega) only [go_sem, BoxAt.cell hb0_0, wrap_id]
          refine hK _ _ ?_
          clear hK K
          refine den_seq ?_
          refine den_region TTok ?_
          intro K hK
          simp -implicitDefEqProofs (disch := first | decide | assumption | omega) only [go_sem, BoxAt.cell hb0_0, wrap_id]
          try simp -implicitDefEqProofs (disch := first | decide | assumption | omega) only [go_sem, BoxAt.cell hb0_0, wrap_id]
          refine CallA.mono (markSS_ok _ ((hlR X n).1) (1 : Int) _ _ how7_2_0 hfw7_2_0.nodup (by omega)) ?_
          intro v_ h17_2
          rintro ⟨rfl, hog17_2, cg17_2⟩
          replace how5_3_0 := OS.chg how5_3_0 cg17_2 (apart_lt hlhow5_3_0 hfw7_2_0 (by omega))
          replace hb0_0 := BoxAt.chgA hb0_0 cg17_2 (apart_lt hlhb0_0 hfw7_2_0 (by omega))
          have := cg17_2.size
          replace eB := Ext.then eB cg17_2 (ge_of hfw7_2_0 (by omega))
          have hlhog17_2 := hlhow7_2_0
          try simp -implicitDefEqProofs (disch := first | decide | assumption | omega) only [go_sem, BoxAt.cell hb0_0, wrap_id]
          refine hK _ _ ?_
          clear hK K
          refine den_seq ?_
          refine den_region TTok ?_
          intro K hK
          simp -implicitDefEqProofs (disch := first | decide | assumption | omega) only [go_sem, BoxAt.cell hb0_0, wrap_id]
          refine hK _ _ ?_
          clear hK K
          refine den_seq ?_
          refine den_region TTok ?_
          intro K hK
          simp -implicitDefEqProofs (disch := first | decide | assumption | omega) only [go_sem, BoxAt.cell hb0_0, wrap_id]
          try simp -implicitDefEqProofs (disch := first | decide | assumption | omega) only [go_sem, BoxAt.cell hb0_0, wrap_id]
          refine CallA.pure (heldSS_ok _ ((hlR X n).1) (1 : Int) _ (OS.rd hog17_2) (by omega)) ?_
          try simp -implicitDefEqProofs (disch := first | decide | assumption | omega) only [go_sem, BoxAt.cell hb0_0, wrap_id]
          refine hK _ _ ?_
          clear hK K
          refine den_seq ?_
          refine den_seq ?_
          refine den_region TTok ?_
          intro K hK
          simp -implicitDefEqProofs (disch := first | decide | assumption | omega) only [go_sem, BoxAt.cell hb0_0, wrap_id]
          refine hK _ _ ?_
          clear hK K
          refine den_cond rfl (fun c4 => ?_) (fun c4 => ?_)
          · try simp only [decide_eq_true_eq, decide_eq_false_iff_not, beq_iff_eq, beq_eq_false_iff_ne, bne_iff_ne, ne_eq, Bool.not_eq_true', Bool.not_eq_false', Bool.and_eq_true, Bool.or_eq_true, bne_eq_false_iff_eq] at c4
            refine den_seq ?_
            refine den_region TTok ?_
            intro K hK
            simp -implicitDefEqProofs (disch := first | decide | assumption | omega) only [go_sem, wrap_id]
            refine hK _ _ ?_
            clear hK K
            refine den_ret ?_
            simp (disch := decide) only [resP_1, puts_same, puts_ne]
            exact absurd c4 (by first | (simp; done) | (simp; omega) | omega | (simp [eqC_self]; done))
          · try simp only [decide_eq_true_eq, decide_eq_false_iff_not, beq_iff_eq, beq_eq_false_iff_ne, bne_iff_ne, ne_eq, Bool.not_eq_true', Bool.not_eq_false', Bool.and_eq_true, Bool.or_eq_true, bne_eq_false_iff_eq] at c4
            refine den_skip ?_
            refine den_seq ?_
            refine den_seq ?_
            refine den_region TTok ?_
            intro K hK
            simp -implicitDefEqProofs (disch := first | decide | assumption | omega) only [go_sem, BoxAt.cell hb0_0, wrap_id]
            refine hK _ _ ?_
            clear hK K
            refine den_cond rfl (fun c5 => ?_) (fun c5 => ?_)
            · try simp only [decide_eq_true_eq, decide_eq_false_iff_not, beq_iff_eq, beq_eq_false_iff_ne, bne_iff_ne, ne_eq, Bool.not_eq_true', Bool.not_eq_false', Bool.and_eq_true, Bool.or_eq_true, bne_eq_false_iff_eq] at c5
              refine den_seq ?_
              refine den_region TTok ?_
              intro K hK
              simp -implicitDefEqProofs (disch := first | decide | assumption | omega) only [go_sem, wrap_id]
              refine hK _ _ ?_
              clear hK K
              refine den_ret ?_
              simp (disch := decide) only [resP_1, puts_same, puts_ne]
              exact absurd c5 (by first | (simp; done) | (simp; omega) | omega | (simp [eqC_self]; done))
            · try simp only [decide_eq_true_eq, decide_eq_false_iff_not, beq_iff_eq, beq_eq_false_iff_ne, bne_iff_ne, ne_eq, Bool.not_eq_true', Bool.not_eq_false', Bool.and_eq_true, Bool.or_eq_true, bne_eq_false_iff_eq] at c5
              refine den_skip ?_
              refine den_seq ?_
              refine den_region TTok ?_
              intro K hK
              simp -implicitDefEqProofs (disch := first | decide | assumption | omega) only [go_sem, ld25, BoxAt.cell hb0_0, wrap_id]
              try simp -implicitDefEqProofs (disch := first | decide | assumption | omega) only [go_sem, BoxAt.cell hb0_0, wrap_id]
              refine CallA.mono (toC_ok _ X _ ⟨_, _, rfl, (RdS.pres hdX (Ext.pres eB)), (RdS.pres hmX (Ext.pres eB))⟩ hMX) ?_
              intro v_ h24_1
              rintro ⟨vd24_1, vm24_1, fd24_1, fm24_1, rfl, hod24_1, hom24_1, hf24_1, e24_1⟩
              replace how5_3_0 := OS.ext how5_3_0 e24_1
              replace hog17_2 := OS.ext hog17_2 e24_1
              replace hb0_0 := BoxAt.ext hb0_0 e24_1
              have := Ext.size e24_1
              replace eB := Ext.trans eB e24_1
              have hfd24_1 := hf24_1.left
              have hfm24_1 := hf24_1.right
              have hlhod24_1 := OS.lt hod24_1
              have hlhom24_1 := OS.lt hom24_1
              have ap13 : Apart fd24_1 fm24_1 := apart_nodup hf24_1
              try simp -implicitDefEqProofs (disch := first | decide | assumption | omega) only [go_sem, BoxAt.cell hb0_0, wrap_id]
              try simp -implicitDefEqProofs (disch := first | decide | assumption | omega) only [go_sem, BoxAt.cell hb0_0, wrap_id]
              refine CallA.mono (iHoO_ok _ X n _ ⟨_, _, rfl, (OS.rd hod24_1), (OS.rd hom24_1)⟩ ) ?_
              intro v_ h24_3
              rintro ⟨vw24_3_0, fw24_3_0, rfl, how24_3_0, hfw24_3_0, e24_3⟩
              replace how5_3_0 := OS.ext how5_3_0 e24_3
              replace hog17_2 := OS.ext hog17_2 e24_3
              replace hod24_1 := OS.ext hod24_1 e24_3
              replace hom24_1 := OS.ext hom24_1 e24_3
              replace hb0_0 := BoxAt.ext hb0_0 e24_3
              have := Ext.size e24_3
              replace eB := Ext.trans eB e24_3
              have hlhow24_3_0 := OS.lt how24_3_0
              try simp -implicitDefEqProofs (disch := first | decide | assumption | omega) only [go_sem, BoxAt.cell hb0_0, wrap_id]
              refine hK _ _ ?_
              clear hK K
              refine den_seq ?_
              refine den_seq ?_
              refine den_mergeH [(92, .bool (((!(true)) || (((hlR X n).2) != ((hlR X n).2)))))] [9, 12] ?_ ?_
                -- a way
              · refine den_region TTok ?_
                intro K hK
                simp -implicitDefEqProofs (disch := first | decide | assumption | (simp (disch := decide) only [slotOf_zero, slotOf_succ, Option.map_some, puts_same, puts_ne, gv_bool, gv_undef, tt, tf, ft, ff, eq_self, if_true, if_false, Bool.false_eq_true, Bool.not_true, Bool.not_false]; done) | omega) only [go_sem, wrap_id]
                try simp -implicitDefEqProofs (disch := first | decide | assumption | omega) only [go_sem, wrap_id]
                refine CallA.pure (eqSS_same _ _ _ _ (OS.rd how24_3_0) (OS.rd how5_3_0)) ?_
                try simp -implicitDefEqProofs (disch := first | decide | assumption | (simp (disch := decide) only [slotOf_zero, slotOf_succ, Option.map_some, puts_same, puts_ne, gv_bool, gv_undef, tt, tf, ft, ff, eq_self, if_true, if_false, Bool.false_eq_true, Bool.not_true, Bool.not_false]; done) | omega) only [go_sem, wrap_id]
                try simp -implicitDefEqProofs (disch := first | decide | assumption | (simp (disch := decide) only [slotOf_zero, slotOf_succ, Option.map_some, puts_same, puts_ne, gv_bool, gv_undef, tt, tf, ft, ff, eq_self, if_true, if_false, Bool.false_eq_true, Bool.not_true, Bool.not_false]; done) | omega) only [go_sem, wrap_id]
                refine hK _ _ ?_
                clear hK K
                refine den_stop ?_
                refine ⟨?_, rfl⟩
                first | (simp (disch := decide) only [go_sem, eq_self, Bool.true_and, Bool.and_true, Bool.false_and, Bool.and_false, Bool.true_or, Bool.or_true, Bool.false_or, Bool.or_false, if_true, if_false, Bool.false_eq_true]; done) | simp [HasL, sel, puts_at]
              intro en14
              simp (disch := decide) only [go_sem]
              refine den_cond rfl (fun c6 => ?_) (fun c6 => ?_)
              · try simp only [decide_eq_true_eq, decide_eq_false_iff_not, beq_iff_eq, beq_eq_false_iff_ne, bne_iff_ne, ne_eq, Bool.not_eq_true', Bool.not_eq_false', Bool.and_eq_true, Bool.or_eq_true, bne_eq_false_iff_eq] at c6
                refine den_seq ?_
                refine den_region TTok ?_
                intro K hK
                simp -implicitDefEqProofs (disch := first | decide | assumption | omega) only [go_sem, wrap_id]
                refine hK _ _ ?_
                clear hK K
                refine den_ret ?_
                simp (disch := decide) only [resP_1, puts_same, puts_ne]
                exact absurd c6 (by first | (simp; done) | (simp; omega) | omega | (simp [eqC_self]; done))
              · try simp only [decide_eq_true_eq, decide_eq_false_iff_not, beq_iff_eq, beq_eq_false_iff_ne, bne_iff_ne, ne_eq, Bool.not_eq_true', Bool.not_eq_false', Bool.and_eq_true, Bool.or_eq_true, bne_eq_false_iff_eq] at c6
                refine den_skip ?_
                refine den_seq ?_
                refine den_region TTok ?_
                intro K hK
                simp -implicitDefEqProofs (disch := first | decide | assumption | omega) only [go_sem, wrap_id]
                refine hK _ _ ?_
                clear hK K
                refine den_seq ?_
                refine den_region TTok ?_
                intro K hK
                simp -implicitDefEqProofs (disch := first | decide | assumption | omega) only [go_sem, wrap_id]
                try simp -implicitDefEqProofs (disch := first | decide | assumption | omega) only [go_sem, wrap_id]
                refine CallA.pure (heldSS_ok _ ((hlR X n).1) (1 : Int) _ (OS.rd hog17_2) (by omega)) ?_
                try simp -implicitDefEqProofs (disch := first | decide | assumption | omega) only [go_sem, wrap_id]
                refine hK _ _ ?_
                clear hK K
                refine den_seq ?_
                refine den_seq ?_
                refine den_region TTok ?_
                intro K hK
                simp -implicitDefEqProofs (disch := first | decide | assumption | omega) only [go_sem, wrap_id]
                refine hK _ _ ?_
                clear hK K
                refine den_cond rfl (fun c7 => ?_) (fun c7 => ?_)
                · try simp only [decide_eq_true_eq, decide_eq_false_iff_not, beq_iff_eq, beq_eq_false_iff_ne, bne_iff_ne, ne_eq, Bool.not_eq_true', Bool.not_eq_false', Bool.and_eq_true, Bool.or_eq_true, bne_eq_false_iff_eq] at c7
                  refine den_seq ?_
                  refine den_region TTok ?_
                  intro K hK
                  simp -implicitDefEqProofs (disch := first | decide | assumption | omega) only [go_sem, wrap_id]
                  refine hK _ _ ?_
                  clear hK K
                  refine den_ret ?_
                  simp (disch := decide) only [resP_1, puts_same, puts_ne]
                  exact absurd c7 (by first | (simp; done) | (simp; omega) | omega | (simp [eqC_self]; done))
                · try simp only [decide_eq_true_eq, decide_eq_false_iff_not, beq_iff_eq, beq_eq_false_iff_ne, bne_iff_ne, ne_eq, Bool.not_eq_true', Bool.not_eq_false', Bool.and_eq_true, Bool.or_eq_true, bne_eq_false_iff_eq] at c7
                  refine den_skip ?_
                  refine den_seq ?_
                  refine den_seq ?_
                  refine den_region TTok ?_
                  intro K hK
                  simp -implicitDefEqProofs (disch := first | decide | assumption | omega) only [go_sem, wrap_id]
                  refine hK _ _ ?_
                  clear hK K
                  refine den_cond rfl (fun c8 => ?_) (fun c8 => ?_)
                  · try simp only [decide_eq_true_eq, decide_eq_false_iff_not, beq_iff_eq, beq_eq_false_iff_ne, bne_iff_ne, ne_eq, Bool.not_eq_true', Bool.not_eq_false', Bool.and_eq_true, Bool.or_eq_true, bne_eq_false_iff_eq] at c8
                    refine den_seq ?_
                    refine den_region TTok ?_
                    intro K hK
                    simp -implicitDefEqProofs (disch := first | decide | assumption | omega) only [go_sem, wrap_id]
                    refine hK _ _ ?_
                    clear hK K
                    refine den_ret ?_
                    simp (disch := decide) only [resP_1, puts_same, puts_ne]
                    exact absurd c8 (by first | (simp; done) | (simp; omega) | omega | (simp [eqC_self]; done))
                  · try simp only [decide_eq_true_eq, decide_eq_false_iff_not, beq_iff_eq, beq_eq_false_iff_ne, bne_iff_ne, ne_eq, Bool.not_eq_true', Bool.not_eq_false', Bool.and_eq_true, Bool.or_eq_true, bne_eq_false_iff_eq] at c8
                    refine den_skip ?_
                    refine den_seq ?_
                    refine den_region TTok ?_
                    intro K hK
                    simp -implicitDefEqProofs (disch := first | decide | assumption | omega) only [go_sem, wrap_id]
                    refine hK _ _ ?_
                    clear hK K
                    refine den_ret ?_
                    simp (disch := decide) only [resP_1, puts_same, puts_ne]
                    exact ⟨by first | rfl | trivial, eB⟩
end Go.Proofs.Ytbplnadngahgaaa
