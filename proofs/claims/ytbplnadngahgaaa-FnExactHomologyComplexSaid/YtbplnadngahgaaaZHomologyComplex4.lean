/-
  What the statement FnExactHomologyComplex uses of the walks, part 4.
  Conditions: each theorem's own.
-/
import Derived.Test.YtbplnadngahgaaaG16
import Derived.Test.YtbplnadngahgaaaG17
import Derived.Test.YtbplnadngahgaaaG14
import Derived.Test.YtbplnadngahgaaaG13
import Derived.Test.YtbplnadngahgaaaG15
import Derived.Test.YtbplnadngahgaaaG18
import Derived.Test.YtbplnadngahgaaaG19
import Derived.Test.YtbplnadngahgaaaZHomologyComplex1
import Derived.Test.YtbplnadngahgaaaZHomologyComplex2
import Derived.Test.YtbplnadngahgaaaZHomologyComplex3
set_option linter.unusedVariables false
set_option linter.unusedSimpArgs false
namespace Go.Proofs.Ytbplnadngahgaaa
open Go
noncomputable def homP (X : Cx) (n : Int) : Int := ((cycP X n).length : Int) - ((bndP X n).length : Int)
theorem cyc_len {X : Cx} (hC : IsC X) (n : Int) : (cycP X n).length ≤ 8 := by
  obtain ⟨l, r⟩ := cyc_rr hC n
  have := r.le_w
  have := dimP_bnd hC n
  omega
theorem bnd_len {X : Cx} (hC : IsC X) {n : Int} (h : 0 ≤ n) : (bndP X n).length ≤ 8 := by
  obtain ⟨l, r⟩ := bnd_rr hC h
  have := r.le_w
  have := dimP_bnd hC n
  omega
theorem homP_bnd {X : Cx} (hC : IsC X) {n : Int} (h : 0 ≤ n) : -8 ≤ homP X n ∧ homP X n ≤ 8 := by
  have := cyc_len hC n
  have := bnd_len hC h
  unfold homP; omega

set_option maxRecDepth 100000 in
theorem iHom_ok (vX : Value) (X : Cx) (n : Int) (h : Heap) (rX : RC h vX X) (hC : IsC X) (hn : 0 ≤ n ∧ n ≤ 1000) : CallA Try.prog 73 #[vX, .int .i64 n] h fun v' h' => v' = .int .i64 (homP X n) ∧ Ext h h' := by
  obtain ⟨vdX, vmX, rfl, hdX, hmX⟩ := rX
  have hledX := RdS.le hdX
  have hlemX := RdS.le hmX
  have hCx := hC
  have hcl_ := cyc_len hC n
  have hbl_ := bnd_len hC hn.1
  refine callA_intro TTok (args := [_, _]) Try.func73 (by kernel_rfl) rfl 14 rfl (by simp) [.tmp 4] rfl ?_
  simp only [idxs, Nat.reduceAdd]
  refine den_seq ?_
  refine den_region TTok ?_
  intro K hK
  simp -implicitDefEqProofs (disch := first | decide | assumption | omega) only [go_sem, RdS.len hdX sl22, RdS.idx hdX sl22, R1.intB hdX (HPres.refl _), RdS.cells hdX, RdS.len hmX sl23, RdS.idx hmX sl23, RdS.cellB hmX (HPres.refl _), RdS.cells hmX, wrap_id]
  refine op_box (cs := #[.int .i64 (X.p), vdX, vmX]) rfl ?_
  intro h0_0 e0_0 hb0_0 z0_0
  have := Ext.size e0_0
  have eB := e0_0
  have hfhb0_0 : Fresh h.size [h.size] := Fresh.one _
  have hlhb0_0 := one_lt (show h.size < h0_0.size by omega)
  try simp -implicitDefEqProofs (disch := first | decide | assumption | omega) only [go_sem, RdS.len hdX sl22, RdS.idx hdX sl22, R1.intB hdX (Ext.pres eB), RdS.cells hdX, RdS.len hmX sl23, RdS.idx hmX sl23, RdS.cellB hmX (Ext.pres eB), RdS.cells hmX, BoxAt.cell hb0_0, wrap_id]
  refine hK _ _ ?_
  clear hK K
  refine den_seq ?_
  refine den_draw TTok mixed [] [(0, true), (1, true), (4, true), (5, true), (2, false), (3, false), (6, false), (7, false), (8, true), (9, true)] (by kernel_rfl) ?_
  intro K hK
  simp -implicitDefEqProofs (disch := first | decide | assumption | omega) only [go_sem, ld30, RdS.len hdX sl22, RdS.idx hdX sl22, R1.intB hdX (Ext.pres eB), RdS.cells hdX, RdS.len hmX sl23, RdS.idx hmX sl23, RdS.cellB hmX (Ext.pres eB), RdS.cells hmX, BoxAt.cell hb0_0, wrap_id]
  try simp -implicitDefEqProofs (disch := first | decide | assumption | omega) only [go_sem, RdS.len hdX sl22, RdS.idx hdX sl22, R1.intB hdX (Ext.pres eB), RdS.cells hdX, RdS.len hmX sl23, RdS.idx hmX sl23, RdS.cellB hmX (Ext.pres eB), RdS.cells hmX, BoxAt.cell hb0_0, wrap_id]
  refine CallA.mono (iCyc_ok _ X n _ ⟨_, _, rfl, (RdS.pres hdX (Ext.pres eB)), (RdS.pres hmX (Ext.pres eB))⟩ hCx (by omega)) ?_
  intro vw1_2_0 h1_2
  rintro ⟨zvw1_2_0, fw1_2_0, rfl, how1_2_0, hfw1_2_0, e1_2⟩
  replace hb0_0 := BoxAt.ext hb0_0 e1_2
  have := Ext.size e1_2
  replace eB := Ext.trans eB e1_2
  have hlhow1_2_0 := OS.lt how1_2_0
  try simp (disch := decide) only [outv_some, outv_none, put_puts]
  refine plK_pres (Ext.pres e1_2) ?_
  try simp -implicitDefEqProofs (disch := first | decide | assumption | omega) only [go_sem, RdS.len hdX sl22, RdS.idx hdX sl22, R1.intB hdX (Ext.pres eB), RdS.cells hdX, RdS.len hmX sl23, RdS.idx hmX sl23, RdS.cellB hmX (Ext.pres eB), RdS.cells hmX, RdS.len (OS.rd how1_2_0) sl36, RdS.idx (OS.rd how1_2_0) sl36, RdS.cellN (OS.rd how1_2_0), RdS.cells (OS.rd how1_2_0), BoxAt.cell hb0_0, wrap_id]
  try simp -implicitDefEqProofs (disch := first | decide | assumption | omega) only [go_sem, RdS.len hdX sl22, RdS.idx hdX sl22, R1.intB hdX (Ext.pres eB), RdS.cells hdX, RdS.len hmX sl23, RdS.idx hmX sl23, RdS.cellB hmX (Ext.pres eB), RdS.cells hmX, RdS.len (OS.rd how1_2_0) sl36, RdS.idx (OS.rd how1_2_0) sl36, RdS.cellN (OS.rd how1_2_0), RdS.cells (OS.rd how1_2_0), BoxAt.cell hb0_0, wrap_id]
  refine CallA.pure (size2_ok _ _ _ (OS.rd how1_2_0)) ?_
  try simp -implicitDefEqProofs (disch := first | decide | assumption | omega) only [go_sem, RdS.len hdX sl22, RdS.idx hdX sl22, R1.intB hdX (Ext.pres eB), RdS.cells hdX, RdS.len hmX sl23, RdS.idx hmX sl23, RdS.cellB hmX (Ext.pres eB), RdS.cells hmX, RdS.len (OS.rd how1_2_0) sl36, RdS.idx (OS.rd how1_2_0) sl36, RdS.cellN (OS.rd how1_2_0), RdS.cells (OS.rd how1_2_0), BoxAt.cell hb0_0, wrap_id]
  try simp -implicitDefEqProofs (disch := first | decide | assumption | omega) only [go_sem, RdS.len hdX sl22, RdS.idx hdX sl22, R1.intB hdX (Ext.pres eB), RdS.cells hdX, RdS.len hmX sl23, RdS.idx hmX sl23, RdS.cellB hmX (Ext.pres eB), RdS.cells hmX, RdS.len (OS.rd how1_2_0) sl36, RdS.idx (OS.rd how1_2_0) sl36, RdS.cellN (OS.rd how1_2_0), RdS.cells (OS.rd how1_2_0), BoxAt.cell hb0_0, wrap_id]
  refine CallA.mono (iBnd_ok _ X n _ ⟨_, _, rfl, (RdS.pres hdX (Ext.pres eB)), (RdS.pres hmX (Ext.pres eB))⟩ hCx (by omega)) ?_
  intro vw1_6_0 h1_6
  rintro ⟨zvw1_6_0, fw1_6_0, rfl, how1_6_0, hfw1_6_0, e1_6⟩
  replace how1_2_0 := OS.ext how1_2_0 e1_6
  replace hb0_0 := BoxAt.ext hb0_0 e1_6
  have := Ext.size e1_6
  replace eB := Ext.trans eB e1_6
  have hlhow1_6_0 := OS.lt how1_6_0
  try simp (disch := decide) only [outv_some, outv_none, put_puts]
  refine plK_pres (Ext.pres e1_6) ?_
  try simp -implicitDefEqProofs (disch := first | decide | assumption | omega) only [go_sem, RdS.len hdX sl22, RdS.idx hdX sl22, R1.intB hdX (Ext.pres eB), RdS.cells hdX, RdS.len hmX sl23, RdS.idx hmX sl23, RdS.cellB hmX (Ext.pres eB), RdS.cells hmX, RdS.len (OS.rd how1_2_0) sl36, RdS.idx (OS.rd how1_2_0) sl36, RdS.cellN (OS.rd how1_2_0), RdS.cells (OS.rd how1_2_0), RdS.len (OS.rd how1_6_0) sl36, RdS.idx (OS.rd how1_6_0) sl36, RdS.cellN (OS.rd how1_6_0), RdS.cells (OS.rd how1_6_0), BoxAt.cell hb0_0, wrap_id]
  try simp -implicitDefEqProofs (disch := first | decide | assumption | omega) only [go_sem, RdS.len hdX sl22, RdS.idx hdX sl22, R1.intB hdX (Ext.pres eB), RdS.cells hdX, RdS.len hmX sl23, RdS.idx hmX sl23, RdS.cellB hmX (Ext.pres eB), RdS.cells hmX, RdS.len (OS.rd how1_2_0) sl36, RdS.idx (OS.rd how1_2_0) sl36, RdS.cellN (OS.rd how1_2_0), RdS.cells (OS.rd how1_2_0), RdS.len (OS.rd how1_6_0) sl36, RdS.idx (OS.rd how1_6_0) sl36, RdS.cellN (OS.rd how1_6_0), RdS.cells (OS.rd how1_6_0), BoxAt.cell hb0_0, wrap_id]
  refine CallA.pure (size2_ok _ _ _ (OS.rd how1_6_0)) ?_
  try simp -implicitDefEqProofs (disch := first | decide | assumption | omega) only [go_sem, RdS.len hdX sl22, RdS.idx hdX sl22, R1.intB hdX (Ext.pres eB), RdS.cells hdX, RdS.len hmX sl23, RdS.idx hmX sl23, RdS.cellB hmX (Ext.pres eB), RdS.cells hmX, RdS.len (OS.rd how1_2_0) sl36, RdS.idx (OS.rd how1_2_0) sl36, RdS.cellN (OS.rd how1_2_0), RdS.cells (OS.rd how1_2_0), RdS.len (OS.rd how1_6_0) sl36, RdS.idx (OS.rd how1_6_0) sl36, RdS.cellN (OS.rd how1_6_0), RdS.cells (OS.rd how1_6_0), BoxAt.cell hb0_0, wrap_id]
  refine hK _ _ ?_
  clear hK K
  refine den_ret ?_
  simp (disch := decide) only [resP_1, puts_same, puts_ne]
  exact ⟨by first | rfl | trivial, eB⟩

set_option maxRecDepth 100000 in
theorem sHom_ok (vX : Value) (X : Cx) (n : Int) (h : Heap) (rX : RC h vX X) (hC : IsC X) (hn : 0 ≤ n ∧ n ≤ 1000) : CallA Try.prog 72 #[vX, .int .i64 n] h fun v' h' => v' = .int .i64 (homP X n) ∧ Ext h h' := by
  obtain ⟨vdX, vmX, rfl, hdX, hmX⟩ := rX
  have hledX := RdS.le hdX
  have hlemX := RdS.le hmX
  have hCx := hC
  have hcl_ := cyc_len hC n
  have hbl_ := bnd_len hC hn.1
  refine callA_intro TTok (args := [_, _]) Try.func72 (by kernel_rfl) rfl 14 rfl (by simp) [.tmp 4] rfl ?_
  simp only [idxs, Nat.reduceAdd]
  refine den_seq ?_
  refine den_region TTok ?_
  intro K hK
  simp -implicitDefEqProofs (disch := first | decide | assumption | omega) only [go_sem, RdS.len hdX sl22, RdS.idx hdX sl22, R1.intB hdX (HPres.refl _), RdS.cells hdX, RdS.len hmX sl23, RdS.idx hmX sl23, RdS.cellB hmX (HPres.refl _), RdS.cells hmX, wrap_id]
  refine op_box (cs := #[.int .i64 (X.p), vdX, vmX]) rfl ?_
  intro h0_0 e0_0 hb0_0 z0_0
  have := Ext.size e0_0
  have eB := e0_0
  have hfhb0_0 : Fresh h.size [h.size] := Fresh.one _
  have hlhb0_0 := one_lt (show h.size < h0_0.size by omega)
  try simp -implicitDefEqProofs (disch := first | decide | assumption | omega) only [go_sem, RdS.len hdX sl22, RdS.idx hdX sl22, R1.intB hdX (Ext.pres eB), RdS.cells hdX, RdS.len hmX sl23, RdS.idx hmX sl23, RdS.cellB hmX (Ext.pres eB), RdS.cells hmX, BoxAt.cell hb0_0, wrap_id]
  refine hK _ _ ?_
  clear hK K
  refine den_seq ?_
  refine den_draw TTok mixed [] [(0, true), (1, true), (4, true), (5, true), (2, false), (3, true), (6, false), (7, true), (8, true), (9, true)] (by kernel_rfl) ?_
  intro K hK
  simp -implicitDefEqProofs (disch := first | decide | assumption | omega) only [go_sem, ld30, RdS.len hdX sl22, RdS.idx hdX sl22, R1.intB hdX (Ext.pres eB), RdS.cells hdX, RdS.len hmX sl23, RdS.idx hmX sl23, RdS.cellB hmX (Ext.pres eB), RdS.cells hmX, BoxAt.cell hb0_0, wrap_id]
  try simp -implicitDefEqProofs (disch := first | decide | assumption | omega) only [go_sem, RdS.len hdX sl22, RdS.idx hdX sl22, R1.intB hdX (Ext.pres eB), RdS.cells hdX, RdS.len hmX sl23, RdS.idx hmX sl23, RdS.cellB hmX (Ext.pres eB), RdS.cells hmX, BoxAt.cell hb0_0, wrap_id]
  refine CallA.mono (sCyc_ok _ X n _ ⟨_, _, rfl, (RdS.pres hdX (Ext.pres eB)), (RdS.pres hmX (Ext.pres eB))⟩ hCx (by omega)) ?_
  intro vw1_2_0 h1_2
  rintro ⟨zvw1_2_0, fw1_2_0, rfl, how1_2_0, hfw1_2_0, e1_2⟩
  replace hb0_0 := BoxAt.ext hb0_0 e1_2
  have := Ext.size e1_2
  replace eB := Ext.trans eB e1_2
  have hlhow1_2_0 := OS.lt how1_2_0
  try simp (disch := decide) only [outv_some, outv_none, put_puts]
  refine plK_pres (Ext.pres e1_2) ?_
  try simp -implicitDefEqProofs (disch := first | decide | assumption | omega) only [go_sem, RdS.len hdX sl22, RdS.idx hdX sl22, R1.intB hdX (Ext.pres eB), RdS.cells hdX, RdS.len hmX sl23, RdS.idx hmX sl23, RdS.cellB hmX (Ext.pres eB), RdS.cells hmX, RdS.len (OS.rd how1_2_0) sl36, RdS.idx (OS.rd how1_2_0) sl36, RdS.cellN (OS.rd how1_2_0), RdS.cells (OS.rd how1_2_0), BoxAt.cell hb0_0, wrap_id]
  try simp -implicitDefEqProofs (disch := first | decide | assumption | omega) only [go_sem, RdS.len hdX sl22, RdS.idx hdX sl22, R1.intB hdX (Ext.pres eB), RdS.cells hdX, RdS.len hmX sl23, RdS.idx hmX sl23, RdS.cellB hmX (Ext.pres eB), RdS.cells hmX, RdS.len (OS.rd how1_2_0) sl36, RdS.idx (OS.rd how1_2_0) sl36, RdS.cellN (OS.rd how1_2_0), RdS.cells (OS.rd how1_2_0), BoxAt.cell hb0_0, wrap_id]
  refine CallA.mono (sBnd_ok _ X n _ ⟨_, _, rfl, (RdS.pres hdX (Ext.pres eB)), (RdS.pres hmX (Ext.pres eB))⟩ hCx (by omega)) ?_
  intro vw1_6_0 h1_6
  rintro ⟨zvw1_6_0, fw1_6_0, rfl, how1_6_0, hfw1_6_0, e1_6⟩
  replace how1_2_0 := OS.ext how1_2_0 e1_6
  replace hb0_0 := BoxAt.ext hb0_0 e1_6
  have := Ext.size e1_6
  replace eB := Ext.trans eB e1_6
  have hlhow1_6_0 := OS.lt how1_6_0
  try simp (disch := decide) only [outv_some, outv_none, put_puts]
  refine plK_pres (Ext.pres e1_6) ?_
  try simp -implicitDefEqProofs (disch := first | decide | assumption | omega) only [go_sem, RdS.len hdX sl22, RdS.idx hdX sl22, R1.intB hdX (Ext.pres eB), RdS.cells hdX, RdS.len hmX sl23, RdS.idx hmX sl23, RdS.cellB hmX (Ext.pres eB), RdS.cells hmX, RdS.len (OS.rd how1_2_0) sl36, RdS.idx (OS.rd how1_2_0) sl36, RdS.cellN (OS.rd how1_2_0), RdS.cells (OS.rd how1_2_0), RdS.len (OS.rd how1_6_0) sl36, RdS.idx (OS.rd how1_6_0) sl36, RdS.cellN (OS.rd how1_6_0), RdS.cells (OS.rd how1_6_0), BoxAt.cell hb0_0, wrap_id]
  refine hK _ _ ?_
  clear hK K
  refine den_ret ?_
  simp (disch := decide) only [resP_1, puts_same, puts_ne]
  exact ⟨by first | rfl | trivial, eB⟩

noncomputable def homL (X : Cx) (n : Nat) : List Int := (List.range n).map fun q : Nat => homP X (q : Int)
noncomputable def homR (X : Cx) : List Int × Int := if isC X = true then (homL X X.dims.length, 0) else ([], 1)
theorem homL_len (X : Cx) (n : Nat) : (homL X n).length = n := by simp [homL]
theorem homL_step (X : Cx) (n : Nat) : homL X n ++ [homP X (n : Int)] = homL X (n + 1) := range_step (fun q : Nat => homP X (q : Int)) n
set_option maxRecDepth 100000 in
theorem iHN_ok (vX : Value) (X : Cx) (h : Heap) (rX : RC h vX X)  : CallA Try.prog 32 #[vX] h fun v' h' => ∃ w0 f0, v' = .tuple #[w0, .int .i64 ((homR X).2)] ∧ O1 h' w0 ((homR X).1) f0 ∧ Fresh h.size f0 ∧ Ext h h' := by
  obtain ⟨vdX, vmX, rfl, hdX, hmX⟩ := rX
  have hledX := RdS.le hdX
  have hlemX := RdS.le hmX
  refine callA_intro TTok (args := [_]) Try.func32 (by kernel_rfl) rfl 24 rfl (by simp) [.tmp 2, .tmp 3] rfl ?_
  simp only [idxs, Nat.reduceAdd]
  refine den_seq ?_
  refine den_region TTok ?_
  intro K hK
  simp -implicitDefEqProofs (disch := first | decide | assumption | omega) only [go_sem, RdS.len hdX sl22, RdS.idx hdX sl22, R1.intB hdX (HPres.refl _), RdS.cells hdX, RdS.len hmX sl23, RdS.idx hmX sl23, RdS.cellB hmX (HPres.refl _), RdS.cells hmX, wrap_id]
  refine op_box (cs := #[.int .i64 (X.p), vdX, vmX]) rfl ?_
  intro h0_0 e0_0 hb0_0 z0_0
  have := Ext.size e0_0
  have eB := e0_0
  have hfhb0_0 : Fresh h.size [h.size] := Fresh.one _
  have hlhb0_0 := one_lt (show h.size < h0_0.size by omega)
  try simp -implicitDefEqProofs (disch := first | decide | assumption | omega) only [go_sem, RdS.len hdX sl22, RdS.idx hdX sl22, R1.intB hdX (Ext.pres eB), RdS.cells hdX, RdS.len hmX sl23, RdS.idx hmX sl23, RdS.cellB hmX (Ext.pres eB), RdS.cells hmX, BoxAt.cell hb0_0, wrap_id]
  refine hK _ _ ?_
  clear hK K
  refine den_seq ?_
  refine den_seq ?_
  refine den_region TTok ?_
  intro K hK
  simp -implicitDefEqProofs (disch := first | decide | assumption | omega) only [go_sem, ld30, RdS.len hdX sl22, RdS.idx hdX sl22, R1.intB hdX (Ext.pres eB), RdS.cells hdX, RdS.len hmX sl23, RdS.idx hmX sl23, RdS.cellB hmX (Ext.pres eB), RdS.cells hmX, BoxAt.cell hb0_0, wrap_id]
  try simp -implicitDefEqProofs (disch := first | decide | assumption | omega) only [go_sem, RdS.len hdX sl22, RdS.idx hdX sl22, R1.intB hdX (Ext.pres eB), RdS.cells hdX, RdS.len hmX sl23, RdS.idx hmX sl23, RdS.cellB hmX (Ext.pres eB), RdS.cells hmX, BoxAt.cell hb0_0, wrap_id]
  refine CallA.mono (iIs_ok _ X _ ⟨_, _, rfl, (RdS.pres hdX (Ext.pres eB)), (RdS.pres hmX (Ext.pres eB))⟩) ?_
  intro v_ h1_1
  rintro ⟨rfl, e1_1⟩
  replace hb0_0 := BoxAt.ext hb0_0 e1_1
  have := Ext.size e1_1
  replace eB := Ext.trans eB e1_1
  try simp -implicitDefEqProofs (disch := first | decide | assumption | omega) only [go_sem, RdS.len hdX sl22, RdS.idx hdX sl22, R1.intB hdX (Ext.pres eB), RdS.cells hdX, RdS.len hmX sl23, RdS.idx hmX sl23, RdS.cellB hmX (Ext.pres eB), RdS.cells hmX, BoxAt.cell hb0_0, wrap_id]
  refine hK _ _ ?_
  clear hK K
  refine den_cond rfl (fun c0 => ?_) (fun c0 => ?_)
  · try simp only [decide_eq_true_eq, decide_eq_false_iff_not, beq_iff_eq, beq_eq_false_iff_ne, bne_iff_ne, ne_eq, Bool.not_eq_true', Bool.not_eq_false', Bool.and_eq_true, Bool.or_eq_true, bne_eq_false_iff_eq, Bool.not_eq_true] at c0
    refine den_seq ?_
    refine den_region TTok ?_
    intro K hK
    simp -implicitDefEqProofs (disch := first | decide | assumption | omega) only [go_sem, RdS.len hdX sl22, RdS.idx hdX sl22, R1.intB hdX (Ext.pres eB), RdS.cells hdX, RdS.len hmX sl23, RdS.idx hmX sl23, RdS.cellB hmX (Ext.pres eB), RdS.cells hmX, wrap_id]
    refine hK _ _ ?_
    clear hK K
    refine den_ret ?_
    simp (disch := decide) only [resP_2, puts_same, puts_ne]
    have hz : homR X = ([], 1) := by rw [homR, if_neg (by rw [c0]; decide)]
    rw [hz]
    exact ⟨.slice none 0 0, [], rfl, OS.nil, Fresh.nil _, eB⟩
  · try simp only [decide_eq_true_eq, decide_eq_false_iff_not, beq_iff_eq, beq_eq_false_iff_ne, bne_iff_ne, ne_eq, Bool.not_eq_true', Bool.not_eq_false', Bool.and_eq_true, Bool.or_eq_true, bne_eq_false_iff_eq, Bool.not_eq_true] at c0
    have hCx := isC_t.1 c0
    have hlX := hCx.len
    refine den_skip ?_
    refine den_seq ?_
    refine den_region TTok ?_
    intro K hK
    simp -implicitDefEqProofs (disch := first | decide | assumption | omega) only [go_sem, RdS.len hdX sl22, RdS.idx hdX sl22, R1.intB hdX (Ext.pres eB), RdS.cells hdX, RdS.len hmX sl23, RdS.idx hmX sl23, RdS.cellB hmX (Ext.pres eB), RdS.cells hmX, BoxAt.cell hb0_0, wrap_id]
    refine op_bs0 sz22 OI ?_
    intro v3_0 h3_0 ho3_0 e3_0
    replace hb0_0 := BoxAt.ext hb0_0 e3_0
    have := Ext.size e3_0
    replace eB := Ext.trans eB e3_0
    have hfho3_0 : Fresh h1_1.size [h1_1.size] := Fresh.one _
    have hlho3_0 := OS.lt ho3_0
    try simp -implicitDefEqProofs (disch := first | decide | assumption | omega) only [go_sem, RdS.len hdX sl22, RdS.idx hdX sl22, R1.intB hdX (Ext.pres eB), RdS.cells hdX, RdS.len hmX sl23, RdS.idx hmX sl23, RdS.cellB hmX (Ext.pres eB), RdS.cells hmX, RdS.len (OS.rd ho3_0) sl22, RdS.idx (OS.rd ho3_0) sl22, R1.intN (OS.rd ho3_0), RdS.cells (OS.rd ho3_0), BoxAt.cell hb0_0, wrap_id]
    refine hK _ _ ?_
    clear hK K
    refine den_seq ?_
    refine den_seq ?_
    refine den_region TTok ?_
    intro K hK
    simp -implicitDefEqProofs (disch := first | decide | assumption | omega) only [go_sem, fa30_1, ld22, RdS.len hdX sl22, RdS.idx hdX sl22, R1.intB hdX (Ext.pres eB), RdS.cells hdX, RdS.len hmX sl23, RdS.idx hmX sl23, RdS.cellB hmX (Ext.pres eB), RdS.cells hmX, RdS.len (OS.rd ho3_0) sl22, RdS.idx (OS.rd ho3_0) sl22, R1.intN (OS.rd ho3_0), RdS.cells (OS.rd ho3_0), BoxAt.cell hb0_0, wrap_id]
    try simp -implicitDefEqProofs (disch := first | decide | assumption | omega) only [go_sem, RdS.len hdX sl22, RdS.idx hdX sl22, R1.intB hdX (Ext.pres eB), RdS.cells hdX, RdS.len hmX sl23, RdS.idx hmX sl23, RdS.cellB hmX (Ext.pres eB), RdS.cells hmX, RdS.len (OS.rd ho3_0) sl22, RdS.idx (OS.rd ho3_0) sl22, R1.intN (OS.rd ho3_0), RdS.cells (OS.rd ho3_0), BoxAt.cell hb0_0, wrap_id]
    refine CallA.pure (size1_ok _ _ _ (RdS.pres hdX (Ext.pres eB))) ?_
    try simp -implicitDefEqProofs (disch := first | decide | assumption | omega) only [go_sem, RdS.len hdX sl22, RdS.idx hdX sl22, R1.intB hdX (Ext.pres eB), RdS.cells hdX, RdS.len hmX sl23, RdS.idx hmX sl23, RdS.cellB hmX (Ext.pres eB), RdS.cells hmX, RdS.len (OS.rd ho3_0) sl22, RdS.idx (OS.rd ho3_0) sl22, R1.intN (OS.rd ho3_0), RdS.cells (OS.rd ho3_0), BoxAt.cell hb0_0, wrap_id]
    refine hK _ _ ?_
    clear hK K
    refine den_block ?_
    refine den_sel [4, 13, 1, 12] ?_
    intro env_1
    simp only [go_sem]
    refine den_loopS (σ := Nat × Value × List Nat) (fun st_ => [(4, st_.2.1), (13, .int .i64 (st_.1 : Int))]) (fun st_ H => (st_.1 ≤ X.dims.length) ∧ (O1 H st_.2.1 (homL X st_.1) st_.2.2) ∧ (Fresh (h1_1.size) st_.2.2) ∧ (Sub [h1_1.size] h3_0.size st_.2.2) ∧ (Chg [h1_1.size] h3_0 H)) (fun st_ => X.dims.length - st_.1) (0, v3_0, [h1_1.size]) ?_ ?_
    · exact ⟨by first | (simp; done) | (dsimp only; omega) | (simp; omega), by exact ho3_0, hfho3_0, Sub.refl, Chg.refl _ _⟩
    · rintro ⟨k, vhO, fphO⟩ h4 ee3 ⟨hi0, hO, hfhO, sbhO, cL2⟩
      dsimp only at hi0 hO hfhO sbhO cL2
      replace hb0_0 := BoxAt.chgA hb0_0 cL2 (apart_lt hlhb0_0 hfho3_0 (by omega))
      have := cL2.size
      replace eB := Ext.then eB cL2 (ge_of hfho3_0 (by omega))
      have hlhO := OS.lt hO
      simp only [List.cons_append, List.nil_append]
      have hhl := homL_len X k
      refine den_seq ?_
      refine den_region TTok ?_
      intro K hK
      simp -implicitDefEqProofs (disch := first | decide | assumption | omega) only [go_sem, RdS.len hdX sl22, RdS.idx hdX sl22, R1.intB hdX (Ext.pres eB), RdS.cells hdX, RdS.len hmX sl23, RdS.idx hmX sl23, RdS.cellB hmX (Ext.pres eB), RdS.cells hmX, RdS.len (OS.rd hO) sl22, RdS.idx (OS.rd hO) sl22, R1.intN (OS.rd hO), RdS.cells (OS.rd hO), BoxAt.cell hb0_0, wrap_id]
      refine hK _ _ ?_
      clear hK K
      refine den_seq ?_
      refine den_cond rfl (fun c1 => ?_) (fun c1 => ?_)
      · try simp only [decide_eq_true_eq, decide_eq_false_iff_not, beq_iff_eq, beq_eq_false_iff_ne, bne_iff_ne, ne_eq, Bool.not_eq_true', Bool.not_eq_false', Bool.and_eq_true, Bool.or_eq_true, bne_eq_false_iff_eq, Bool.not_eq_true] at c1
        refine den_skip ?_
        refine den_seq ?_
        refine den_block ?_
        refine den_seq ?_
        refine den_region TTok ?_
        intro K hK
        simp -implicitDefEqProofs (disch := first | decide | assumption | omega) only [go_sem, RdS.len hdX sl22, RdS.idx hdX sl22, R1.intB hdX (Ext.pres eB), RdS.cells hdX, RdS.len hmX sl23, RdS.idx hmX sl23, RdS.cellB hmX (Ext.pres eB), RdS.cells hmX, RdS.len (OS.rd hO) sl22, RdS.idx (OS.rd hO) sl22, R1.intN (OS.rd hO), RdS.cells (OS.rd hO), BoxAt.cell hb0_0, wrap_id]
        refine hK _ _ ?_
        clear hK K
        refine den_region TTok ?_
        intro K hK
        simp -implicitDefEqProofs (disch := first | decide | assumption | omega) only [go_sem, ld30, RdS.len hdX sl22, RdS.idx hdX sl22, R1.intB hdX (Ext.pres eB), RdS.cells hdX, RdS.len hmX sl23, RdS.idx hmX sl23, RdS.cellB hmX (Ext.pres eB), RdS.cells hmX, RdS.len (OS.rd hO) sl22, RdS.idx (OS.rd hO) sl22, R1.intN (OS.rd hO), RdS.cells (OS.rd hO), BoxAt.cell hb0_0, wrap_id]
        try simp -implicitDefEqProofs (disch := first | decide | assumption | omega) only [go_sem, RdS.len hdX sl22, RdS.idx hdX sl22, R1.intB hdX (Ext.pres eB), RdS.cells hdX, RdS.len hmX sl23, RdS.idx hmX sl23, RdS.cellB hmX (Ext.pres eB), RdS.cells hmX, RdS.len (OS.rd hO) sl22, RdS.idx (OS.rd hO) sl22, R1.intN (OS.rd hO), RdS.cells (OS.rd hO), BoxAt.cell hb0_0, wrap_id]
        refine CallA.mono (iHom_ok _ X (k : Int) _ ⟨_, _, rfl, (RdS.pres hdX (Ext.pres eB)), (RdS.pres hmX (Ext.pres eB))⟩ hCx (by omega)) ?_
        intro v_ h7_3
        rintro ⟨rfl, e7_3⟩
        replace hO := OS.ext hO e7_3
        replace hb0_0 := BoxAt.ext hb0_0 e7_3
        have := Ext.size e7_3
        replace eB := Ext.trans eB e7_3
        replace cL2 := Chg.stepE cL2 e7_3
        try simp -implicitDefEqProofs (disch := first | decide | assumption | omega) only [go_sem, RdS.len hdX sl22, RdS.idx hdX sl22, R1.intB hdX (Ext.pres eB), RdS.cells hdX, RdS.len hmX sl23, RdS.idx hmX sl23, RdS.cellB hmX (Ext.pres eB), RdS.cells hmX, RdS.len (OS.rd hO) sl22, RdS.idx (OS.rd hO) sl22, R1.intN (OS.rd hO), RdS.cells (OS.rd hO), BoxAt.cell hb0_0, wrap_id]
        refine op_bs1 sz22 rfl rfl ?_
        try simp -implicitDefEqProofs (disch := first | decide | assumption | omega) only [go_sem, RdS.len hdX sl22, RdS.idx hdX sl22, R1.intB hdX (Ext.pres eB), RdS.cells hdX, RdS.len hmX sl23, RdS.idx hmX sl23, RdS.cellB hmX (Ext.pres eB), RdS.cells hmX, RdS.len (OS.rd hO) sl22, RdS.idx (OS.rd hO) sl22, R1.intN (OS.rd hO), RdS.cells (OS.rd hO), BoxAt.cell hb0_0, wrap_id]
        refine op_append1 sz22 hO hfhO.nodup ⟨rfl, rfl⟩ List.nodup_nil (Apart.nil _) (by first | omega | (simp; omega)) rfl rfl ?_
        intro v7_5 h7_5 fp7_5 ho7_5 hn7_5 hs7_5 c7_5
        have hsz7_5 := c7_5.size
        have hfho7_5 : Fresh h1_1.size fp7_5 := Fresh.appd hfhO (Fresh.nil h7_3.size) (by omega) (by omega) hn7_5 hs7_5
        have sb5 : Sub [h1_1.size] h3_0.size fp7_5 := Sub.grow sbhO Sub.nil (by omega) hs7_5
        replace hb0_0 := BoxAt.chgA hb0_0 c7_5 (apart_lt hlhb0_0 hfhO (by omega))
        have := c7_5.size
        replace eB := Ext.then eB c7_5 (ge_of hfhO (by omega))
        replace cL2 := Chg.step cL2 c7_5 sbhO
        have hlho7_5 := OS.lt ho7_5
        try simp -implicitDefEqProofs (disch := first | decide | assumption | omega) only [go_sem, RdS.len hdX sl22, RdS.idx hdX sl22, R1.intB hdX (Ext.pres eB), RdS.cells hdX, RdS.len hmX sl23, RdS.idx hmX sl23, RdS.cellB hmX (Ext.pres eB), RdS.cells hmX, RdS.len (OS.rd ho7_5) sl22, RdS.idx (OS.rd ho7_5) sl22, R1.intN (OS.rd ho7_5), RdS.cells (OS.rd ho7_5), BoxAt.cell hb0_0, wrap_id]
        refine hK _ _ ?_
        clear hK K
        refine den_blk ?_
        refine den_region TTok ?_
        intro K hK
        simp -implicitDefEqProofs (disch := first | decide | assumption | omega) only [go_sem, RdS.len hdX sl22, RdS.idx hdX sl22, R1.intB hdX (Ext.pres eB), RdS.cells hdX, RdS.len hmX sl23, RdS.idx hmX sl23, RdS.cellB hmX (Ext.pres eB), RdS.cells hmX, RdS.len (OS.rd ho7_5) sl22, RdS.idx (OS.rd ho7_5) sl22, R1.intN (OS.rd ho7_5), RdS.cells (OS.rd ho7_5), BoxAt.cell hb0_0, wrap_id]
        refine hK _ _ ?_
        clear hK K
        refine den_stop ?_
        rw [homL_step] at ho7_5
        exact ⟨(k + 1, v7_5, fp7_5), by simp [HasL, puts_at], ⟨by first | omega | (dsimp only; omega), ho7_5, hfho7_5, sb5, cL2⟩, by first | omega | (dsimp only; omega)⟩
      · try simp only [decide_eq_true_eq, decide_eq_false_iff_not, beq_iff_eq, beq_eq_false_iff_ne, bne_iff_ne, ne_eq, Bool.not_eq_true', Bool.not_eq_false', Bool.and_eq_true, Bool.or_eq_true, bne_eq_false_iff_eq, Bool.not_eq_true] at c1
        refine den_exit ?_
        refine denX_code ?_
        refine denX_stop ?_
        refine denX_hit ?_
        refine den_seq ?_
        refine den_region TTok ?_
        intro K hK
        simp -implicitDefEqProofs (disch := first | decide | assumption | omega) only [go_sem, RdS.len hdX sl22, RdS.idx hdX sl22, R1.intB hdX (Ext.pres eB), RdS.cells hdX, RdS.len hmX sl23, RdS.idx hmX sl23, RdS.cellB hmX (Ext.pres eB), RdS.cells hmX, RdS.len (OS.rd hO) sl22, RdS.idx (OS.rd hO) sl22, R1.intN (OS.rd hO), RdS.cells (OS.rd hO), wrap_id]
        refine hK _ _ ?_
        clear hK K
        refine den_ret ?_
        simp (disch := decide) only [resP_2, puts_same, puts_ne]
        have hz : homR X = (homL X X.dims.length, 0) := by rw [homR, if_pos c0]
        rw [hz, show X.dims.length = k by omega]
        exact ⟨_, _, rfl, hO, hfhO.mono (by omega), eB⟩
end Go.Proofs.Ytbplnadngahgaaa

namespace Go.Proofs.Ytbplnadngahgaaa
open Go
structure PvOk (X Y : Cx) (i : Int) (u : List Int) (j : Int) (v : List Int) : Prop where
  cX : IsC X
  cY : IsC Y
  p : 0 < X.p ∧ X.p ≤ 7
  ci : 0 ≤ i ∧ i ≤ (X.dims.length : Int) - 1
  cj : 0 ≤ j ∧ j ≤ (Y.dims.length : Int) - 1
  lX : X.dims.length ≤ 6
  lY : Y.dims.length ≤ 6
  cu : (u.length : Int) = dimP X i ∧ Bnd X.p u
  cv : (v.length : Int) = dimP Y j ∧ Bnd X.p v
end Go.Proofs.Ytbplnadngahgaaa

namespace Go.Proofs.Ytbplnadngahgaaa
open Go
section
variable {P : Program} {n : Nat} {K : Env → Heap → Prop} {env : Env} {h : Heap} {d : Option Tmp} {ty : TypeId} {p : String} {a : Array Edge} {g : Option (Nat × Bool)}
end
def famAt (X Y : Cx) (f : List (List (List Int))) (s : Int) (n : Nat) : Bool := tableP X.p (f.getD n default) (X.dims.getD n 0) (dimP Y ((n : Int) + s))
structure IsFam (X Y : Cx) (f : List (List (List Int))) (s : Int) : Prop where
  len : f.length = X.dims.length
  rows : ∀ n, n < f.length → famAt X Y f s n = true
theorem famAt_iff {X Y : Cx} {f : List (List (List Int))} {s : Int} {n : Nat} : famAt X Y f s n = true ↔ ((f.getD n default).length : Int) = X.dims.getD n 0 ∧ (f.getD n default).all (isRow X.p (dimP Y ((n : Int) + s))) = true := by
  simp only [famAt, tableP, Bool.and_eq_true, decide_eq_true_eq]
theorem IsFam.at {X Y : Cx} {f : List (List (List Int))} {s : Int} (h : IsFam X Y f s) {n : Nat} (hn : n < f.length) : ((f.getD n default).length : Int) = X.dims.getD n 0 ∧ Tbl X.p (dimP Y ((n : Int) + s)) (f.getD n default) := tableP_iff.1 (h.rows n hn)
theorem IsFam.row {X Y : Cx} {f : List (List (List Int))} {s : Int} (h : IsFam X Y f s) {n i : Nat} (hn : n < f.length) (hi : i < (f.getD n default).length) : isRow X.p (dimP Y ((n : Int) + s)) ((f.getD n default).getD i default) = true := all_at (d := default) (famAt_iff.1 (h.rows n hn)).2 hi
end Go.Proofs.Ytbplnadngahgaaa

namespace Go.Proofs.Ytbplnadngahgaaa
open Go
/-- What a round of the test of chain maps knows. -/
structure ChnR (X Y : Cx) (f : List (List (List Int))) (k i : Nat) : Prop where
  hi : i < (X.maps.getD k default).length
  ml : k < X.maps.length
  row : (((X.maps.getD k default).getD i default).length : Int) = X.dims.getD k 0 ∧ Bnd X.p ((X.maps.getD k default).getD i default)
  img : (((f.getD ((k : Int) + 1).toNat default).getD i default).length : Int) = Y.dims.getD ((k : Int) + 1).toNat 0 ∧ Bnd Y.p ((f.getD ((k : Int) + 1).toNat default).getD i default)
end Go.Proofs.Ytbplnadngahgaaa

namespace Go.Proofs.Ytbplnadngahgaaa
open Go
structure SumOk (p : Int) (f g : List (List (List Int))) : Prop where
  len : f.length = g.length ∧ f.length ≤ 6
  rows : ∀ n, n < f.length → (f.getD n default).length = (g.getD n default).length ∧ (f.getD n default).length ≤ 8
  row : ∀ n i, n < f.length → i < (f.getD n default).length → ((f.getD n default).getD i default).length = ((g.getD n default).getD i default).length ∧ ((f.getD n default).getD i default).length ≤ 8 ∧ Bnd p ((f.getD n default).getD i default) ∧ Bnd p ((g.getD n default).getD i default)
end Go.Proofs.Ytbplnadngahgaaa

namespace Go.Proofs.Ytbplnadngahgaaa
open Go
/-- A row that is one's own, or one that lies in other blocks. -/
def EM (h0 : Heap) (fE : List Nat) (h : Heap) (u : Value) (x : List Int) (fp : List Nat) : Prop := O1 h u x fp ∨ ESt h0 fE h u x fp
instance {h0 : Heap} {fE : List Nat} : Own (EM h0 fE) := ⟨fun hl h => h.elim (fun a => .inl (Own.loc hl a)) .inr, (fun h => h.elim Own.lt fun a b hb => by rw [a.1] at hb; cases hb), (fun h => h.elim Own.one fun a => a.2.1)⟩
abbrev O2M (h0 : Heap) (fE : List Nat) : Heap → Value → List (List Int) → List Nat → Prop := OS 22 (EM h0 fE)
theorem O2M.nil {h0 : Heap} {fE : List Nat} {h : Heap} {v : Value} {fp : List Nat} (ho : O2 h v [] fp) : O2M h0 fE h v [] fp := by
  rcases ho with ⟨h1, _, h3⟩ | ⟨b, c, cur, fps, rfl, r⟩
  · exact .inl ⟨h1, rfl, h3⟩
  · exact .inr ⟨b, c, cur, fps, rfl, ⟨r.val, r.box, r.size, r.max, r.le, r.len, fun j hj => by simp at hj⟩⟩
theorem O2M.rd {h0 : Heap} {fE : List Nat} {h : Heap} {v : Value} {xs : List (List Int)} {fp : List Nat} (ho : O2M h0 fE h v xs fp) (hag : Agr fE h0 h) : R2 h v xs := by
  rcases ho with ⟨rfl, rfl, _⟩ | ⟨b, c, cur, fps, _, r⟩
  · exact ⟨none, 0, rfl, .inr rfl, by simp, by omega, fun j hj => by simp at hj⟩
  · refine ⟨some ⟨b, 0, none⟩, c, r.val, .inl rfl, r.le, r.max, fun j hj => ?_⟩
    obtain ⟨u, f, h1, _, h4⟩ := r.el j hj
    refine ⟨u, ?_, h4.elim (fun a => OS.rd a) fun a => a.2.2 h hag⟩
    rw [r.val]
    simp only [sA]
    rw [addr_add, r.box.cell, Nat.zero_add, h1]
theorem ES.row {h : Heap} {vE : Value} {E : List (List Int)} {fE : List Nat} (hE : O2 h vE E fE) (hn : fE.Nodup) {i : Nat} (hi : i < E.length) {H : Heap} : ESt h fE H (rowV h vE i) (E.getD i default) [] := by
  obtain ⟨f, hO, hsub, _, _⟩ := OS.elem hE hn i hi
  exact ⟨rfl, Own.one hO, fun h' hg => OS.rd (show O1 h' (rowV h vE i) (E.getD i default) f from Own.loc (fun b hb => hg b (hsub b hb)) hO)⟩
theorem getD_elem {α : Type} [Inhabited α] {xs : List α} {j : Nat} (hj : j < xs.length) : xs[j] = xs.getD j default := by
  rw [List.getD_eq_getElem?_getD, List.getElem?_eq_getElem hj]; rfl
structure RkOk (X Y : Cx) (f : List (List (List Int))) (n : Int) : Prop where
  cX : IsC X
  cY : IsC Y
  cf : IsFam X Y f 0
  p : X.p = Y.p
  n0 : 0 ≤ n
  n1 : n ≤ (X.dims.length : Int) - 1
end Go.Proofs.Ytbplnadngahgaaa

namespace Go.Proofs.Ytbplnadngahgaaa
open Go
theorem stepRow_cg {p x : Int} {row acc : List Int} {w : Nat} (hl : row.length = acc.length) (hx : 0 ≤ x) (hr : Bnd p row) (ha : Bnd p acc) (j : Nat) : Cg p ((stepRow p x row acc).getD j 0) (acc.getD j 0 + x * row.getD j 0) := by
  rcases Nat.lt_or_ge j acc.length with h | h
  · have h1 := ha.at h
    have h2 := hr.at (k := j) (by omega)
    have h3 : 0 ≤ x * row.getD j 0 := Int.mul_nonneg hx h2.1
    rw [stepRow_get hl h, tmod_e (by omega)]; exact Cg.mod _
  · rw [getD_out (by rw [stepRow_len hl]; exact h), getD_out h, getD_out (by omega), Int.mul_zero]; exact Cg.refl _
theorem sm_head (n : Nat) (f : Nat → Int) : sm (n + 1) f = f 0 + sm n fun i => f (i + 1) := by
  induction n with
  | zero => simp [sm]
  | succ n ih => rw [sm, ih, sm]; omega
/-- What a vector makes of rows, as a sum. -/
theorem accP_cg {p : Int} (hp : 0 < p) : ∀ {v : List Int} {rows : List (List Int)} {acc : List Int}, v.length ≤ rows.length → Bnd p v → Tbl p acc.length rows → Bnd p acc → ∀ j, Cg p ((accP p v rows acc).getD j 0) (acc.getD j 0 + sm v.length fun i => v.getD i 0 * g2 rows i j)
  | [], rows, acc, _, _, _, _, j => by cases rows <;> (simp only [accP, List.length_nil, sm]; exact Cg.of_eq (by omega))
  | x :: v, [], acc, h, _, _, _, j => by simp at h
  | x :: v, r :: rows, acc, h, hv, ht, ha, j => by
    have hr := ht r (by simp)
    have hx := hv x (by simp)
    have hsl : (stepRow p x r acc).length = acc.length := stepRow_len (by omega)
    have hsb := stepRow_bnd hp hx.1 hr.2 ha
    rw [accP]
    refine (accP_cg hp (v := v) (rows := rows) (by simpa using h) (fun y hy => hv y (List.mem_cons_of_mem _ hy)) (fun y hy => by rw [hsl]; exact ht y (List.mem_cons_of_mem _ hy)) hsb j).trans ?_
    refine (Cg.add (stepRow_cg (w := acc.length) (by omega) hx.1 hr.2 ha j) (Cg.refl _)).trans (Cg.of_eq ?_)
    rw [List.length_cons, sm_head]
    have e1 : (x :: v).getD 0 0 * g2 (r :: rows) 0 j = x * r.getD j 0 := rfl
    have e2 : (sm v.length fun i => (x :: v).getD (i + 1) 0 * g2 (r :: rows) (i + 1) j) = sm v.length fun i => v.getD i 0 * g2 rows i j := sm_eq fun i _ => rfl
    rw [e1, e2]; omega
theorem zeros_get (n j : Nat) : (List.replicate n (0 : Int)).getD j 0 = 0 := by
  rcases Nat.lt_or_ge j n with h | h
  · exact getD_repl h
  · exact getD_out (by simpa using h)
theorem Le.of_mem {p : Int} {A B : List (List Int)} (h : ∀ x ∈ A, Sp p B fun j => x.getD j 0) : Le p A B := fun i hi => h _ (getD_mem hi)
structure ArOk (X Y : Cx) (f g : List (List (List Int))) : Prop where
  cX : IsC X
  cY : IsC Y
  cf : IsFam X Y f 0
  cg : IsFam X Y g 0
  p : X.p = Y.p
  l : X.dims.length = Y.dims.length
end Go.Proofs.Ytbplnadngahgaaa

namespace Go.Proofs.Ytbplnadngahgaaa
open Go
theorem sm_split (q : Nat) (f : Nat → Int) : ∀ r, sm (q + r) f = sm q f + sm r fun i => f (q + i)
  | 0 => by simp [sm]
  | r + 1 => by rw [← Nat.add_assoc, sm, sm_split q f r, sm]; omega
theorem unitP_get {n i j : Nat} (hi : i < n) : (unitP n i).getD j 0 = if i = j then 1 else 0 := by
  rw [unitP, getD_set (by simpa using hi), zeros_get]
theorem long_len {rows : List (List Int)} : (longP rows).length = rows.length := by simp [longP]
theorem long_lo {w : Nat} {rows : List (List Int)} (hl : ∀ r ∈ rows, r.length = w) {i j : Nat} (hi : i < rows.length) (hj : j < w) : g2 (longP rows) i j = g2 rows i j := by
  have hr := hl _ (getD_mem hi)
  rw [g2, longP, getD_map_range (fun i => rows.getD i default ++ unitP rows.length i) hi, List.getD_eq_getElem?_getD, List.getElem?_append_left (by omega), ← List.getD_eq_getElem?_getD]
theorem long_hi {w : Nat} {rows : List (List Int)} (hl : ∀ r ∈ rows, r.length = w) {i k : Nat} (hi : i < rows.length) : g2 (longP rows) i (w + k) = if i = k then 1 else 0 := by
  have hr := hl _ (getD_mem hi)
  rw [g2, longP, getD_map_range (fun i => rows.getD i default ++ unitP rows.length i) hi, List.getD_eq_getElem?_getD, List.getElem?_append_right (by omega), hr, Nat.add_sub_cancel_left, ← List.getD_eq_getElem?_getD, unitP_get hi]
theorem long_sp {p : Int} {w : Nat} {rows : List (List Int)} (hl : ∀ r ∈ rows, r.length = w) {u : Nat → Int} : Sp p (longP rows) u ↔ (∀ j, j < w → Cg p (u j) (sm rows.length fun i => u (w + i) * g2 rows i j)) ∧ ∀ k, rows.length ≤ k → Cg p (u (w + k)) 0 := by
  constructor
  · rintro ⟨c, hc⟩
    rw [long_len] at hc
    have ck : ∀ k, k < rows.length → Cg p (u (w + k)) (c k) := fun k hk => (hc (w + k)).trans (Cg.of_eq (by
      rw [sm_one (k := k) hk (fun i hi he => by rw [long_hi hl hi, if_neg he, Int.mul_zero]), long_hi hl hk, if_pos rfl, Int.mul_one]))
    refine ⟨fun j hj => (hc j).trans (sm_cg fun i hi => ?_), fun k hk => (hc (w + k)).trans (Cg.of_eq (sm_zero fun i hi => by rw [long_hi hl hi, if_neg (by omega), Int.mul_zero]))⟩
    rw [long_lo hl hi hj]
    exact (ck i hi).symm.mul (Cg.refl _)
  · rintro ⟨h1, h2⟩
    refine ⟨fun i => u (w + i), fun j => ?_⟩
    rw [long_len]
    rcases Nat.lt_or_ge j w with hj | hj
    · exact (h1 j hj).trans (Cg.of_eq (sm_eq fun i hi => by rw [long_lo hl hi hj]))
    · obtain ⟨k, rfl⟩ : ∃ k, j = w + k := ⟨j - w, by omega⟩
      rcases Nat.lt_or_ge k rows.length with hk | hk
      · exact Cg.of_eq (by rw [sm_one (k := k) hk (fun i hi he => by rw [long_hi hl hi, if_neg he, Int.mul_zero]), long_hi hl hk, if_pos rfl, Int.mul_one])
      · exact (h2 k hk).trans (Cg.of_eq (sm_zero fun i hi => by rw [long_hi hl hi, if_neg (by omega), Int.mul_zero]).symm)
/-- The kernel: the vectors of which the rows make 0. -/
theorem ker_sp {p : Int} {w : Nat} (hP : isP p = true) {rows : List (List Int)} (h : ∀ r ∈ rows, r.length = w ∧ Bnd p r) {v : Nat → Int} : Sp p (kerP p w rows) v ↔ (∀ j, j < w → Cg p (sm rows.length fun i => v i * g2 rows i j) 0) ∧ ∀ k, rows.length ≤ k → Cg p (v k) 0 := by
  have hl : ∀ r ∈ rows, r.length = w := fun r hr => (h r hr).1
  obtain ⟨⟨l, r⟩, ee⟩ := ech_red (w := w + rows.length) hP (longP_tbl (isP_two hP).1 h)
  obtain ⟨t1, t2, t3⟩ := posP_ok (at_ := w) r
  have hk : kerP p w rows = ((ech p (longP rows)).drop (posP (ech p (longP rows)) w)).map fun r => r.drop w := by rw [kerP, filter_suffix r]
  rw [hk]
  generalize ech p (longP rows) = E at *
  generalize posP E w = q at *
  have hlen : ((E.drop q).map fun r => r.drop w).length = E.length - q := by simp
  have gg : ∀ i j, i < E.length - q → g2 ((E.drop q).map fun r => r.drop w) i j = g2 E (q + i) (w + j) := fun i j hi => by
    rw [g2, List.getD_eq_getElem?_getD (l := List.map _ _), List.getElem?_map, List.getElem?_drop, List.getElem?_eq_getElem (by omega)]
    simp only [Option.map_some, Option.getD_some]
    rw [List.getD_eq_getElem?_getD, List.getElem?_drop, g2, getD_elem (by omega), List.getD_eq_getElem?_getD (l := E.getD (q + i) default)]
  constructor
  · rintro ⟨c, hc⟩
    rw [hlen] at hc
    have hu : Sp p E fun j => sm (E.length - q) fun i => c i * g2 E (q + i) j := Sp.sm (fun i hi => Sp.row (by omega)) c
    obtain ⟨a, b⟩ := (long_sp hl).1 (hu.le ee.1)
    have hv : ∀ k, Cg p (v k) (sm (E.length - q) fun i => c i * g2 E (q + i) (w + k)) := fun k => (hc k).trans (Cg.of_eq (sm_eq fun i hi => by rw [gg i k hi]))
    refine ⟨fun j hj => ?_, fun k hk => (hv k).trans (b k hk)⟩
    have z : (sm (E.length - q) fun i => c i * g2 E (q + i) j) = 0 := sm_zero fun i hi => by rw [r.zb (q + i) j (by omega) (by have := t3 (q + i) (by omega) (by omega); omega), Int.mul_zero]
    have := a j hj
    rw [z] at this
    exact (sm_cg fun i hi => (hv i).mul (Cg.refl _)).trans this.symm
  · rintro ⟨h1, h2⟩
    have hu : Sp p E fun j => if j < w then 0 else v (j - w) := by
      refine ((long_sp hl).2 ⟨fun j hj => ?_, fun k hk => ?_⟩).le ee.2
      · rw [if_pos hj]
        refine (h1 j hj).symm.trans (Cg.of_eq (sm_eq fun i hi => ?_))
        rw [if_neg (by omega), Nat.add_sub_cancel_left]
      · rw [if_neg (by omega), Nat.add_sub_cancel_left]; exact h2 k hk
    refine ⟨fun i => (if l (q + i) < w then 0 else v (l (q + i) - w)), fun k => ?_⟩
    have hc := r.coef hu (w + k)
    simp only [if_neg (show ¬ w + k < w by omega), Nat.add_sub_cancel_left] at hc
    refine hc.trans (Cg.of_eq ?_)
    rw [hlen, show E.length = q + (E.length - q) by omega, sm_split, sm_zero (n := q) (fun i hi => by rw [if_pos (t2 i hi), Int.zero_mul]), Int.zero_add, show q + (E.length - q) - q = E.length - q by omega]
    exact sm_eq fun i hi => by rw [gg i k hi]
theorem units_sp {p : Int} {m : Nat} {v : Nat → Int} (h : ∀ k, m ≤ k → Cg p (v k) 0) : Sp p (unitsP (m : Int)) v := by
  have hl : (unitsP (m : Int)).length = m := by simp [unitsP]
  refine ⟨v, fun j => ?_⟩
  rw [hl]
  have g : ∀ i, i < m → g2 (unitsP (m : Int)) i j = if i = j then 1 else 0 := fun i hi => by rw [g2, unitsP, Int.toNat_natCast, getD_map_range _ hi, unitP_get hi]
  rcases Nat.lt_or_ge j m with hj | hj
  · exact Cg.of_eq (by rw [sm_one (k := j) hj (fun i hi he => by rw [g i hi, if_neg he, Int.mul_zero]), g j hj, if_pos rfl, Int.mul_one])
  · exact (h j hj).trans (Cg.of_eq (sm_zero fun i hi => by rw [g i hi, if_neg (by omega), Int.mul_zero]).symm)
theorem kerQ_sp {p : Int} {w : Nat} (hP : isP p = true) {rows : List (List Int)} (h : ∀ r ∈ rows, r.length = w ∧ Bnd p r) {v : Nat → Int} (h1 : ∀ j, j < w → Cg p (sm rows.length fun i => v i * g2 rows i j) 0) (h2 : ∀ k, rows.length ≤ k → Cg p (v k) 0) : Sp p (kerQ p rows) v := by
  by_cases hn : rows = []
  · subst hn
    rw [kerQ_nil (isP_two hP).1]
    exact Sp.zero.cg fun j => h2 j (Nat.zero_le _)
  · rw [kerQ_w h hn]; exact (ker_sp hP h).2 ⟨h1, h2⟩
/-- Boundaries are cycles. -/
theorem bnd_cyc {X : Cx} (hC : IsC X) {n : Int} (h0 : 0 ≤ n) : Le X.p (bndP X n) (cycP X n) := by
  have hP := hC.p
  have hp := isP_bnd hP
  obtain ⟨m1, m2⟩ := mapP_tbl hC (n + 1)
  have hd := dimP_bnd hC n
  rw [if_pos (by omega), Int.add_sub_cancel] at m2
  refine (ech_red hP m2).2.1.trans (Le.of_mem fun r hr => ?_)
  obtain ⟨rl, rb⟩ := m2 r hr
  by_cases hn : n ≤ (X.dims.length : Int) - 1
  · by_cases hz : n = 0
    · subst hz
      rw [cycP_out hC (.inl (by omega)), show dimP X 0 = ((dimP X 0).toNat : Int) by omega]
      exact units_sp fun k hk => Cg.of_eq (getD_out (by omega))
    · have c1 := mapP_tbl hC n
      rw [if_pos (by omega)] at c1
      have hml : (mapP X n).length = (dimP X n).toNat := by omega
      by_cases ht : n + 1 ≤ (X.dims.length : Int) - 1
      · rw [mapP_in (by omega) ht, Int.add_sub_cancel] at hr
        obtain ⟨i, hi, rfl⟩ := List.getElem_of_mem hr
        rw [getD_elem hi] at rl rb ⊢
        have hsq := hC.sq n.toNat (by have := hC.ml; omega) (by omega) i hi
        have hz0 : ∀ j, (sqv X n.toNat i).getD j 0 = 0 := by
          rcases lead_cases (sqv X n.toNat i) with ⟨_, h2⟩ | ⟨k, _, h3, _⟩
          · exact h2
          · omega
        have em : X.maps.getD ((n.toNat : Int) - 1).toNat default = mapP X n := by rw [mapP_in (by omega) hn]; congr 1; omega
        have edm : X.dims.getD ((n.toNat : Int) - 1).toNat 0 = dimP X (n - 1) := by rw [dimP, if_pos (in3_iff.2 ⟨by omega, by omega⟩)]; congr 1; omega
        unfold sqv at hz0
        rw [em, edm] at hz0
        have hdd := dimP_bnd hC (n - 1)
        have hwl : ((List.replicate (dimP X (n - 1)).toNat (0 : Int)).length : Int) = dimP X (n - 1) := by rw [List.length_replicate]; omega
        refine kerQ_sp hP c1.2 (fun j hj => ?_) (fun k hk => Cg.of_eq (getD_out (by omega)))
        have := accP_cg hp.1 (v := (X.maps.getD n.toNat default).getD i default) (rows := mapP X n) (acc := List.replicate (dimP X (n - 1)).toNat 0) (by omega) rb (fun r hr => by have := c1.2 r hr; exact ⟨by omega, this.2⟩) (Bnd.zeros hp.1 _) j
        rw [hz0 j, zeros_get, Int.zero_add, rl, ← hml] at this
        exact this.symm
      · rw [mapP_out (by omega), dimP_out (by omega)] at hr
        cases hr
  · rw [mapP_out (by omega), dimP_out (by omega)] at hr
    cases hr
theorem homP_nn {X : Cx} (hC : IsC X) {n : Int} (h0 : 0 ≤ n) : 0 ≤ homP X n ∧ homP X n ≤ 8 := by
  obtain ⟨lb, rb⟩ := bnd_rr hC h0
  obtain ⟨lc, rc_⟩ := cyc_rr hC n
  have := rb.le_len (isP_two hC.p).1 rc_ (bnd_cyc hC h0)
  have := cyc_len hC n
  unfold homP; omega
end Go.Proofs.Ytbplnadngahgaaa

namespace Go.Proofs.Ytbplnadngahgaaa
open Go
theorem homL_get (X : Cx) {n q : Nat} (h : q < n) : (homL X n).getD q 0 = homP X (q : Int) := by
  rw [homL, List.getD_eq_getElem?_getD, List.getElem?_eq_getElem (by simpa using h)]; simp
def hblk1 (a b : Int) : List (List Int) := List.replicate b.toNat (List.replicate a.toNat 0)
noncomputable def hblk (X : Cx) (k : Nat) : List (List (List Int)) := (List.range k).map fun j : Nat => hblk1 (homP X (j : Int)) (homP X ((j : Int) + 1))
theorem hblk_eq (X : Cx) (N : Nat) : zblk (homL X N) (N - 1) = hblk X (N - 1) := by
  apply List.map_congr_left
  intro j hj
  rw [List.mem_range] at hj
  rw [homL_get X (by omega), homL_get X (by omega), hblk1]
  simp
theorem hblk_len (X : Cx) (k : Nat) : (hblk X k).length = k := by simp [hblk]
theorem hblk_step (X : Cx) {n : Nat} (h : 0 < n) : hblk X (n - 1) ++ [hblk1 (homP X ((n : Int) - 1)) (homP X (n : Int))] = hblk X (n + 1 - 1) := by
  obtain ⟨m, rfl⟩ : ∃ m, n = m + 1 := ⟨n - 1, by omega⟩
  rw [Nat.add_sub_cancel, Nat.add_sub_cancel]
  have e : hblk1 (homP X (((m + 1 : Nat) : Int) - 1)) (homP X ((m + 1 : Nat) : Int)) = hblk1 (homP X (m : Int)) (homP X ((m : Int) + 1)) := by
    rw [show ((m + 1 : Nat) : Int) - 1 = (m : Int) by omega, show ((m + 1 : Nat) : Int) = (m : Int) + 1 by omega]
  rw [e]; exact range_step (fun j : Nat => hblk1 (homP X (j : Int)) (homP X ((j : Int) + 1))) m
noncomputable def hcP (X : Cx) : Cx × Int := if isC X = true then (⟨X.p, homL X X.dims.length, hblk X (X.dims.length - 1)⟩, 0) else (⟨0, [], []⟩, 1)
theorem homL_dm {X : Cx} (hC : IsC X) (n : Nat) : (homL X n).all (fun x => in3 x 0 8) = true := by
  rw [List.all_eq_true]
  intro x hx
  obtain ⟨q, _, rfl⟩ := List.mem_map.1 hx
  exact in3_iff.2 (homP_nn hC (by omega))
theorem cnt_hc (X : Cx) : 0 ≤ cnt1 (hcP X).1.dims ∧ cnt1 (hcP X).1.dims ≤ 6 ∧ 0 ≤ cntL cnt2 (hcP X).1.maps ∧ cntL cnt2 (hcP X).1.maps ≤ 320 := by
  unfold hcP
  split
  · rename_i hc
    have hC := isC_t.1 hc
    have hl := hC.len
    refine ⟨cnt1_nn _, by show cnt1 (homL X X.dims.length) ≤ 6; rw [cnt1, homL_len]; omega, cntL_nonneg cnt2_nn _, ?_⟩
    have := cntL_bnd (ct := cnt2) (c := 64) (by omega) (xs := hblk X (X.dims.length - 1)) (m := 5) (fun x hx => by
      obtain ⟨j, _, rfl⟩ := List.mem_map.1 hx
      have h1 := homP_nn hC (n := (j : Int)) (by omega)
      have h2 := homP_nn hC (n := (j : Int) + 1) (by omega)
      have := cntL_bnd (ct := cnt1) (c := 8) (by omega) (xs := hblk1 (homP X (j : Int)) (homP X ((j : Int) + 1))) (m := 8) (fun y hy => by
        rw [List.eq_of_mem_replicate hy, cnt1, List.length_replicate]; omega) (by simp [hblk1]; omega)
      exact ⟨this.1, by have := this.2; unfold cnt2; omega⟩) (by rw [hblk_len]; omega)
    exact this.2
  · exact ⟨cnt1_nn _, by show cnt1 [] ≤ 6; decide, Int.le_refl _, by show (0 : Int) ≤ _; decide⟩
theorem homR_y {X : Cx} (h : isC X = true) : homR X = (homL X X.dims.length, 0) := by rw [homR, if_pos h]
theorem homR_n {X : Cx} (h : ¬ isC X = true) : homR X = ([], 1) := by rw [homR, if_neg h]
theorem homR_2 {X : Cx} : (homR X).2 = 0 ↔ isC X = true := by
  by_cases h : isC X = true
  · rw [homR_y h]; exact ⟨fun _ => h, fun _ => rfl⟩
  · rw [homR_n h]; exact ⟨fun e => absurd e (show ¬ (1 : Int) = 0 by decide), fun e => absurd e h⟩

set_option maxRecDepth 100000 in
theorem iHC_ok (vX : Value) (X : Cx) (h : Heap) (rX : RC h vX X)  : CallA Try.prog 45 #[vX] h fun v' h' => ∃ wd0 wm0 fd0 fm0, v' = .tuple #[.agg #[.int .i64 ((hcP X).1).p, wd0, wm0], .int .i64 ((hcP X).2)] ∧ O1 h' wd0 ((hcP X).1).dims fd0 ∧ O3 h' wm0 ((hcP X).1).maps fm0 ∧ Fresh h.size (fd0 ++ fm0) ∧ Ext h h' := by
  obtain ⟨vdX, vmX, rfl, hdX, hmX⟩ := rX
  have hledX := RdS.le hdX
  have hlemX := RdS.le hmX
  refine callA_intro TTok (args := [_]) Try.func45 (by kernel_rfl) rfl 19 rfl (by simp) [.cell 2 30, .tmp 3] rfl ?_
  simp only [idxs, Nat.reduceAdd]
  refine den_seq ?_
  refine den_region TTok ?_
  intro K hK
  simp -implicitDefEqProofs (disch := first | decide | assumption | omega) only [go_sem, RdS.len hdX sl22, RdS.idx hdX sl22, R1.intB hdX (HPres.refl _), RdS.cells hdX, RdS.len hmX sl23, RdS.idx hmX sl23, RdS.cellB hmX (HPres.refl _), RdS.cells hmX, wrap_id, bC0]
  refine op_box (cs := #[.int .i64 (X.p), vdX, vmX]) rfl ?_
  intro h0_0 e0_0 hb0_0 z0_0
  have := Ext.size e0_0
  have eB := e0_0
  have hfhb0_0 : Fresh h.size [h.size] := Fresh.one _
  have hlhb0_0 := one_lt (show h.size < h0_0.size by omega)
  try simp -implicitDefEqProofs (disch := first | decide | assumption | omega) only [go_sem, RdS.len hdX sl22, RdS.idx hdX sl22, R1.intB hdX (Ext.pres eB), RdS.cells hdX, RdS.len hmX sl23, RdS.idx hmX sl23, RdS.cellB hmX (Ext.pres eB), RdS.cells hmX, BoxAt.cell hb0_0, wrap_id, bC0]
  refine op_alloc (cs := #[.int .i64 0, .slice none 0 0, .slice none 0 0]) (by kernel_rfl) ?_
  intro h0_1 e0_1 hb0_1 z0_1
  replace hb0_0 := BoxAt.ext hb0_0 e0_1
  have := Ext.size e0_1
  replace eB := Ext.trans eB e0_1
  have hfhb0_1 : Fresh h0_0.size [h0_0.size] := Fresh.one _
  have hlhb0_1 := one_lt (show h0_0.size < h0_1.size by omega)
  try simp -implicitDefEqProofs (disch := first | decide | assumption | omega) only [go_sem, RdS.len hdX sl22, RdS.idx hdX sl22, R1.intB hdX (Ext.pres eB), RdS.cells hdX, RdS.len hmX sl23, RdS.idx hmX sl23, RdS.cellB hmX (Ext.pres eB), RdS.cells hmX, BoxAt.cell hb0_0, BoxAt.cell hb0_1, wrap_id, bC0]
  refine hK _ _ ?_
  clear hK K
  refine den_seq ?_
  refine den_region TTok ?_
  intro K hK
  simp -implicitDefEqProofs (disch := first | decide | assumption | omega) only [go_sem, ld30, RdS.len hdX sl22, RdS.idx hdX sl22, R1.intB hdX (Ext.pres eB), RdS.cells hdX, RdS.len hmX sl23, RdS.idx hmX sl23, RdS.cellB hmX (Ext.pres eB), RdS.cells hmX, BoxAt.cell hb0_0, BoxAt.cell hb0_1, wrap_id, bC0]
  try simp -implicitDefEqProofs (disch := first | decide | assumption | omega) only [go_sem, RdS.len hdX sl22, RdS.idx hdX sl22, R1.intB hdX (Ext.pres eB), RdS.cells hdX, RdS.len hmX sl23, RdS.idx hmX sl23, RdS.cellB hmX (Ext.pres eB), RdS.cells hmX, BoxAt.cell hb0_0, BoxAt.cell hb0_1, wrap_id, bC0]
  refine CallA.mono (iHN_ok _ X _ ⟨_, _, rfl, (RdS.pres hdX (Ext.pres eB)), (RdS.pres hmX (Ext.pres eB))⟩ ) ?_
  intro v_ h1_1
  rintro ⟨vw1_1_0, fw1_1_0, rfl, how1_1_0, hfw1_1_0, e1_1⟩
  replace hb0_0 := BoxAt.ext hb0_0 e1_1
  replace hb0_1 := BoxAt.ext hb0_1 e1_1
  have := Ext.size e1_1
  replace eB := Ext.trans eB e1_1
  have hlhow1_1_0 := OS.lt how1_1_0
  try simp -implicitDefEqProofs (disch := first | decide | assumption | omega) only [go_sem, RdS.len hdX sl22, RdS.idx hdX sl22, R1.intB hdX (Ext.pres eB), RdS.cells hdX, RdS.len hmX sl23, RdS.idx hmX sl23, RdS.cellB hmX (Ext.pres eB), RdS.cells hmX, RdS.len (OS.rd how1_1_0) sl22, RdS.idx (OS.rd how1_1_0) sl22, R1.intN (OS.rd how1_1_0), RdS.cells (OS.rd how1_1_0), BoxAt.cell hb0_0, BoxAt.cell hb0_1, wrap_id, bC0]
  refine hK _ _ ?_
  clear hK K
  refine den_seq ?_
  refine den_seq ?_
  refine den_region TTok ?_
  intro K hK
  simp -implicitDefEqProofs (disch := first | decide | assumption | omega) only [go_sem, RdS.len hdX sl22, RdS.idx hdX sl22, R1.intB hdX (Ext.pres eB), RdS.cells hdX, RdS.len hmX sl23, RdS.idx hmX sl23, RdS.cellB hmX (Ext.pres eB), RdS.cells hmX, RdS.len (OS.rd how1_1_0) sl22, RdS.idx (OS.rd how1_1_0) sl22, R1.intN (OS.rd how1_1_0), RdS.cells (OS.rd how1_1_0), BoxAt.cell hb0_0, BoxAt.cell hb0_1, wrap_id, bC0]
  refine hK _ _ ?_
  clear hK K
  refine den_cond rfl (fun c0 => ?_) (fun c0 => ?_)
  · try simp only [decide_eq_true_eq, decide_eq_false_iff_not, beq_iff_eq, beq_eq_false_iff_ne, bne_iff_ne, ne_eq, Bool.not_eq_true', Bool.not_eq_false', Bool.and_eq_true, Bool.or_eq_true, bne_eq_false_iff_eq] at c0
    have hn_ : ¬ isC X = true := fun h => c0 (homR_2.2 h)
    refine den_seq ?_
    refine den_region TTok ?_
    intro K hK
    simp -implicitDefEqProofs (disch := first | decide | assumption | omega) only [go_sem, RdS.len hdX sl22, RdS.idx hdX sl22, R1.intB hdX (Ext.pres eB), RdS.cells hdX, RdS.len hmX sl23, RdS.idx hmX sl23, RdS.cellB hmX (Ext.pres eB), RdS.cells hmX, BoxAt.cell hb0_1, wrap_id, bC0]
    refine op_storeB (cs' := #[.int .i64 ((0 : Int)), .slice none 0 0, .slice none 0 0]) st30 hb0_1 rfl rfl rfl (by simp) (allOne_mem (l := [.int .i64 ((0 : Int)), .slice none 0 0, .slice none 0 0]) ⟨rfl, rfl, rfl, trivial⟩) rfl ?_
    intro h3_2 hb0_1 c3_2
    have := c3_2.size
    replace eB := Ext.then eB c3_2 (ge_of hfhb0_1 (by omega))
    try simp -implicitDefEqProofs (disch := first | decide | assumption | omega) only [go_sem, RdS.len hdX sl22, RdS.idx hdX sl22, R1.intB hdX (Ext.pres eB), RdS.cells hdX, RdS.len hmX sl23, RdS.idx hmX sl23, RdS.cellB hmX (Ext.pres eB), RdS.cells hmX, BoxAt.cell hb0_1, wrap_id, bC0]
    refine hK _ _ ?_
    clear hK K
    refine den_ret ?_
    simp -implicitDefEqProofs (disch := first | decide | assumption | omega) only [go_sem, RdS.len hdX sl22, RdS.idx hdX sl22, R1.intB hdX (Ext.pres eB), RdS.cells hdX, RdS.len hmX sl23, RdS.idx hmX sl23, RdS.cellB hmX (Ext.pres eB), RdS.cells hmX, BoxAt.cell hb0_1, wrap_id, bC0, resP_ct, ld30]
    have hz : hcP X = (⟨0, [], []⟩, 1) := by rw [hcP, if_neg hn_]
    rw [hz, show (homR X).2 = 1 by rw [homR_n hn_]]
    exact ⟨.slice none 0 0, .slice none 0 0, [], [], rfl, OS.nil, OS.nil, Fresh.nil _, eB⟩
  · try simp only [decide_eq_true_eq, decide_eq_false_iff_not, beq_iff_eq, beq_eq_false_iff_ne, bne_iff_ne, ne_eq, Bool.not_eq_true', Bool.not_eq_false', Bool.and_eq_true, Bool.or_eq_true, bne_eq_false_iff_eq] at c0
    have hc_ := homR_2.1 c0
    have hC := isC_t.1 hc_
    have hlX := hC.len
    refine den_skip ?_
    refine den_seq ?_
    rw [homR_y hc_] at how1_1_0
    have hbD := homL_dm hC X.dims.length
    have hbL : (homL X X.dims.length).length ≤ 16 := by rw [homL_len]; omega
    refine den_region TTok ?_
    intro K hK
    simp -implicitDefEqProofs (disch := first | decide | assumption | omega) only [go_sem, fa30_0, ld2, RdS.len hdX sl22, RdS.idx hdX sl22, R1.intB hdX (Ext.pres eB), RdS.cells hdX, RdS.len hmX sl23, RdS.idx hmX sl23, RdS.cellB hmX (Ext.pres eB), RdS.cells hmX, RdS.len (OS.rd how1_1_0) sl22, RdS.idx (OS.rd how1_1_0) sl22, R1.intN (OS.rd how1_1_0), RdS.cells (OS.rd how1_1_0), BoxAt.cell hb0_0, BoxAt.cell hb0_1, wrap_id, bC0]
    try simp -implicitDefEqProofs (disch := first | decide | assumption | omega) only [go_sem, RdS.len hdX sl22, RdS.idx hdX sl22, R1.intB hdX (Ext.pres eB), RdS.cells hdX, RdS.len hmX sl23, RdS.idx hmX sl23, RdS.cellB hmX (Ext.pres eB), RdS.cells hmX, RdS.len (OS.rd how1_1_0) sl22, RdS.idx (OS.rd how1_1_0) sl22, R1.intN (OS.rd how1_1_0), RdS.cells (OS.rd how1_1_0), BoxAt.cell hb0_0, BoxAt.cell hb0_1, wrap_id, bC0]
    refine CallA.mono (blank_ok _ _ (homL X X.dims.length) _ (OS.rd how1_1_0) hbD hbL) ?_
    intro v_ h4_3
    rintro ⟨vw4_3, fw4_3, rfl, how4_3, hfw4_3, e4_3⟩
    replace how1_1_0 := OS.ext how1_1_0 e4_3
    replace hb0_0 := BoxAt.ext hb0_0 e4_3
    replace hb0_1 := BoxAt.ext hb0_1 e4_3
    have := Ext.size e4_3
    replace eB := Ext.trans eB e4_3
    have hlhow4_3 := OS.lt how4_3
    try simp -implicitDefEqProofs (disch := first | decide | assumption | omega) only [go_sem, RdS.len hdX sl22, RdS.idx hdX sl22, R1.intB hdX (Ext.pres eB), RdS.cells hdX, RdS.len hmX sl23, RdS.idx hmX sl23, RdS.cellB hmX (Ext.pres eB), RdS.cells hmX, RdS.len (OS.rd how1_1_0) sl22, RdS.idx (OS.rd how1_1_0) sl22, R1.intN (OS.rd how1_1_0), RdS.cells (OS.rd how1_1_0), RdS.len (OS.rd how4_3) sl23, RdS.idx (OS.rd how4_3) sl23, RdS.cellN (OS.rd how4_3), RdS.cells (OS.rd how4_3), BoxAt.cell hb0_0, BoxAt.cell hb0_1, wrap_id, bC0]
    refine op_storeB (cs' := #[.int .i64 (X.p), vw1_1_0, vw4_3]) st30 hb0_1 rfl rfl rfl (by simp) (allOne_mem (l := [.int .i64 (X.p), vw1_1_0, vw4_3]) ⟨rfl, (OS.one how1_1_0).1, (OS.one how4_3).1, trivial⟩) rfl ?_
    intro h4_4 hb0_1 c4_4
    replace how1_1_0 := OS.chg how1_1_0 c4_4 (apart_gt hfw1_1_0 hlhb0_1 (by omega))
    replace how4_3 := OS.chg how4_3 c4_4 (apart_gt hfw4_3 hlhb0_1 (by omega))
    replace hb0_0 := BoxAt.chgA hb0_0 c4_4 (apart_lt hlhb0_0 hfhb0_1 (by omega))
    have := c4_4.size
    replace eB := Ext.then eB c4_4 (ge_of hfhb0_1 (by omega))
    try simp -implicitDefEqProofs (disch := first | decide | assumption | omega) only [go_sem, RdS.len hdX sl22, RdS.idx hdX sl22, R1.intB hdX (Ext.pres eB), RdS.cells hdX, RdS.len hmX sl23, RdS.idx hmX sl23, RdS.cellB hmX (Ext.pres eB), RdS.cells hmX, RdS.len (OS.rd how1_1_0) sl22, RdS.idx (OS.rd how1_1_0) sl22, R1.intN (OS.rd how1_1_0), RdS.cells (OS.rd how1_1_0), RdS.len (OS.rd how4_3) sl23, RdS.idx (OS.rd how4_3) sl23, RdS.cellN (OS.rd how4_3), RdS.cells (OS.rd how4_3), BoxAt.cell hb0_0, BoxAt.cell hb0_1, wrap_id, bC0]
    refine hK _ _ ?_
    clear hK K
    refine den_ret ?_
    simp -implicitDefEqProofs (disch := first | decide | assumption | omega) only [go_sem, RdS.len hdX sl22, RdS.idx hdX sl22, R1.intB hdX (Ext.pres eB), RdS.cells hdX, RdS.len hmX sl23, RdS.idx hmX sl23, RdS.cellB hmX (Ext.pres eB), RdS.cells hmX, RdS.len (OS.rd how1_1_0) sl22, RdS.idx (OS.rd how1_1_0) sl22, R1.intN (OS.rd how1_1_0), RdS.cells (OS.rd how1_1_0), RdS.len (OS.rd how4_3) sl23, RdS.idx (OS.rd how4_3) sl23, RdS.cellN (OS.rd how4_3), RdS.cells (OS.rd how4_3), BoxAt.cell hb0_0, BoxAt.cell hb0_1, wrap_id, bC0, resP_ct, ld30]
    have hz : hcP X = (⟨X.p, homL X X.dims.length, hblk X (X.dims.length - 1)⟩, 0) := by rw [hcP, if_pos hc_]
    rw [hz]
    have hM2 := how4_3
    rw [show (homL X X.dims.length).length - 1 = X.dims.length - 1 by rw [homL_len], hblk_eq] at hM2
    exact ⟨_, _, _, _, rfl, how1_1_0, hM2, Fresh.two hfw1_1_0 hfw4_3 (apart_lt hlhow1_1_0 hfw4_3 (by omega)) (by omega) (by omega), eB⟩

set_option maxRecDepth 100000 in
theorem sHC_ok (vX : Value) (X : Cx) (h : Heap) (rX : RC h vX X)  : CallA Try.prog 44 #[vX] h fun v' h' => ∃ wd0 wm0 fd0 fm0, v' = .tuple #[.agg #[.int .i64 ((hcP X).1).p, wd0, wm0], .int .i64 ((hcP X).2)] ∧ O1 h' wd0 ((hcP X).1).dims fd0 ∧ O3 h' wm0 ((hcP X).1).maps fm0 ∧ Fresh h.size (fd0 ++ fm0) ∧ Ext h h' := by
  obtain ⟨vdX, vmX, rfl, hdX, hmX⟩ := rX
  have hledX := RdS.le hdX
  have hlemX := RdS.le hmX
  refine callA_intro TTok (args := [_]) Try.func44 (by kernel_rfl) rfl 65 rfl (by simp) [.cell 2 30, .tmp 3] rfl ?_
  simp only [idxs, Nat.reduceAdd]
  refine den_seq ?_
  refine den_region TTok ?_
  intro K hK
  simp -implicitDefEqProofs (disch := first | decide | assumption | omega) only [go_sem, RdS.len hdX sl22, RdS.idx hdX sl22, R1.intB hdX (HPres.refl _), RdS.cells hdX, RdS.len hmX sl23, RdS.idx hmX sl23, RdS.cellB hmX (HPres.refl _), RdS.cells hmX, wrap_id, bC0]
  refine op_box (cs := #[.int .i64 (X.p), vdX, vmX]) rfl ?_
  intro h0_0 e0_0 hb0_0 z0_0
  have := Ext.size e0_0
  have eB := e0_0
  have hfhb0_0 : Fresh h.size [h.size] := Fresh.one _
  have hlhb0_0 := one_lt (show h.size < h0_0.size by omega)
  try simp -implicitDefEqProofs (disch := first | decide | assumption | omega) only [go_sem, RdS.len hdX sl22, RdS.idx hdX sl22, R1.intB hdX (Ext.pres eB), RdS.cells hdX, RdS.len hmX sl23, RdS.idx hmX sl23, RdS.cellB hmX (Ext.pres eB), RdS.cells hmX, BoxAt.cell hb0_0, wrap_id, bC0]
  refine op_alloc (cs := #[.int .i64 0, .slice none 0 0, .slice none 0 0]) (by kernel_rfl) ?_
  intro h0_1 e0_1 hb0_1 z0_1
  replace hb0_0 := BoxAt.ext hb0_0 e0_1
  have := Ext.size e0_1
  replace eB := Ext.trans eB e0_1
  have hfhb0_1 : Fresh h0_0.size [h0_0.size] := Fresh.one _
  have hlhb0_1 := one_lt (show h0_0.size < h0_1.size by omega)
  try simp -implicitDefEqProofs (disch := first | decide | assumption | omega) only [go_sem, RdS.len hdX sl22, RdS.idx hdX sl22, R1.intB hdX (Ext.pres eB), RdS.cells hdX, RdS.len hmX sl23, RdS.idx hmX sl23, RdS.cellB hmX (Ext.pres eB), RdS.cells hmX, BoxAt.cell hb0_0, BoxAt.cell hb0_1, wrap_id, bC0]
  refine hK _ _ ?_
  clear hK K
  refine den_seq ?_
  refine den_seq ?_
  refine den_region TTok ?_
  intro K hK
  simp -implicitDefEqProofs (disch := first | decide | assumption | omega) only [go_sem, ld30, RdS.len hdX sl22, RdS.idx hdX sl22, R1.intB hdX (Ext.pres eB), RdS.cells hdX, RdS.len hmX sl23, RdS.idx hmX sl23, RdS.cellB hmX (Ext.pres eB), RdS.cells hmX, BoxAt.cell hb0_0, BoxAt.cell hb0_1, wrap_id, bC0]
  try simp -implicitDefEqProofs (disch := first | decide | assumption | omega) only [go_sem, RdS.len hdX sl22, RdS.idx hdX sl22, R1.intB hdX (Ext.pres eB), RdS.cells hdX, RdS.len hmX sl23, RdS.idx hmX sl23, RdS.cellB hmX (Ext.pres eB), RdS.cells hmX, BoxAt.cell hb0_0, BoxAt.cell hb0_1, wrap_id, bC0]
  refine CallA.mono (sIs_ok _ X _ ⟨_, _, rfl, (RdS.pres hdX (Ext.pres eB)), (RdS.pres hmX (Ext.pres eB))⟩) ?_
  intro v_ h1_1
  rintro ⟨rfl, e1_1⟩
  replace hb0_0 := BoxAt.ext hb0_0 e1_1
  replace hb0_1 := BoxAt.ext hb0_1 e1_1
  have := Ext.size e1_1
  replace eB := Ext.trans eB e1_1
  try simp -implicitDefEqProofs (disch := first | decide | assumption | omega) only [go_sem, RdS.len hdX sl22, RdS.idx hdX sl22, R1.intB hdX (Ext.pres eB), RdS.cells hdX, RdS.len hmX sl23, RdS.idx hmX sl23, RdS.cellB hmX (Ext.pres eB), RdS.cells hmX, BoxAt.cell hb0_0, BoxAt.cell hb0_1, wrap_id, bC0]
  refine hK _ _ ?_
  clear hK K
  refine den_cond rfl (fun c0 => ?_) (fun c0 => ?_)
  · try simp only [decide_eq_true_eq, decide_eq_false_iff_not, beq_iff_eq, beq_eq_false_iff_ne, bne_iff_ne, ne_eq, Bool.not_eq_true', Bool.not_eq_false', Bool.and_eq_true, Bool.or_eq_true, bne_eq_false_iff_eq, Bool.not_eq_true] at c0
    refine den_seq ?_
    refine den_region TTok ?_
    intro K hK
    simp -implicitDefEqProofs (disch := first | decide | assumption | omega) only [go_sem, RdS.len hdX sl22, RdS.idx hdX sl22, R1.intB hdX (Ext.pres eB), RdS.cells hdX, RdS.len hmX sl23, RdS.idx hmX sl23, RdS.cellB hmX (Ext.pres eB), RdS.cells hmX, BoxAt.cell hb0_1, wrap_id, bC0]
    refine op_storeB (cs' := #[.int .i64 ((0 : Int)), .slice none 0 0, .slice none 0 0]) st30 hb0_1 rfl rfl rfl (by simp) (allOne_mem (l := [.int .i64 ((0 : Int)), .slice none 0 0, .slice none 0 0]) ⟨rfl, rfl, rfl, trivial⟩) rfl ?_
    intro h2_1 hb0_1 c2_1
    have := c2_1.size
    replace eB := Ext.then eB c2_1 (ge_of hfhb0_1 (by omega))
    try simp -implicitDefEqProofs (disch := first | decide | assumption | omega) only [go_sem, RdS.len hdX sl22, RdS.idx hdX sl22, R1.intB hdX (Ext.pres eB), RdS.cells hdX, RdS.len hmX sl23, RdS.idx hmX sl23, RdS.cellB hmX (Ext.pres eB), RdS.cells hmX, BoxAt.cell hb0_1, wrap_id, bC0]
    refine hK _ _ ?_
    clear hK K
    refine den_ret ?_
    simp -implicitDefEqProofs (disch := first | decide | assumption | omega) only [go_sem, RdS.len hdX sl22, RdS.idx hdX sl22, R1.intB hdX (Ext.pres eB), RdS.cells hdX, RdS.len hmX sl23, RdS.idx hmX sl23, RdS.cellB hmX (Ext.pres eB), RdS.cells hmX, BoxAt.cell hb0_1, wrap_id, bC0, resP_ct, ld30]
    have hz : hcP X = (⟨0, [], []⟩, 1) := by rw [hcP, if_neg (by rw [c0]; decide)]
    rw [hz]
    exact ⟨.slice none 0 0, .slice none 0 0, [], [], rfl, OS.nil, OS.nil, Fresh.nil _, eB⟩
  · try simp only [decide_eq_true_eq, decide_eq_false_iff_not, beq_iff_eq, beq_eq_false_iff_ne, bne_iff_ne, ne_eq, Bool.not_eq_true', Bool.not_eq_false', Bool.and_eq_true, Bool.or_eq_true, bne_eq_false_iff_eq, Bool.not_eq_true] at c0
    have hC := isC_t.1 c0
    have hCx := hC
    have hlX := hC.len
    refine den_skip ?_
    refine den_seq ?_
    refine den_region TTok ?_
    intro K hK
    simp -implicitDefEqProofs (disch := first | decide | assumption | omega) only [go_sem, fa30_0, ld2, RdS.len hdX sl22, RdS.idx hdX sl22, R1.intB hdX (Ext.pres eB), RdS.cells hdX, RdS.len hmX sl23, RdS.idx hmX sl23, RdS.cellB hmX (Ext.pres eB), RdS.cells hmX, BoxAt.cell hb0_0, BoxAt.cell hb0_1, wrap_id, bC0]
    refine op_bs0 sz22 OI ?_
    intro v3_2 h3_2 ho3_2 e3_2
    replace hb0_0 := BoxAt.ext hb0_0 e3_2
    replace hb0_1 := BoxAt.ext hb0_1 e3_2
    have := Ext.size e3_2
    replace eB := Ext.trans eB e3_2
    have hfho3_2 : Fresh h1_1.size [h1_1.size] := Fresh.one _
    have hlho3_2 := OS.lt ho3_2
    try simp -implicitDefEqProofs (disch := first | decide | assumption | omega) only [go_sem, RdS.len hdX sl22, RdS.idx hdX sl22, R1.intB hdX (Ext.pres eB), RdS.cells hdX, RdS.len hmX sl23, RdS.idx hmX sl23, RdS.cellB hmX (Ext.pres eB), RdS.cells hmX, RdS.len (OS.rd ho3_2) sl22, RdS.idx (OS.rd ho3_2) sl22, R1.intN (OS.rd ho3_2), RdS.cells (OS.rd ho3_2), BoxAt.cell hb0_0, BoxAt.cell hb0_1, wrap_id, bC0]
    refine op_bs0 sz23 O2 ?_
    intro v3_3 h3_3 ho3_3 e3_3
    replace ho3_2 := OS.ext ho3_2 e3_3
    replace hb0_0 := BoxAt.ext hb0_0 e3_3
    replace hb0_1 := BoxAt.ext hb0_1 e3_3
    have := Ext.size e3_3
    replace eB := Ext.trans eB e3_3
    have hfho3_3 : Fresh h3_2.size [h3_2.size] := Fresh.one _
    have hlho3_3 := OS.lt ho3_3
    try simp -implicitDefEqProofs (disch := first | decide | assumption | omega) only [go_sem, RdS.len hdX sl22, RdS.idx hdX sl22, R1.intB hdX (Ext.pres eB), RdS.cells hdX, RdS.len hmX sl23, RdS.idx hmX sl23, RdS.cellB hmX (Ext.pres eB), RdS.cells hmX, RdS.len (OS.rd ho3_2) sl22, RdS.idx (OS.rd ho3_2) sl22, R1.intN (OS.rd ho3_2), RdS.cells (OS.rd ho3_2), RdS.len (OS.rd ho3_3) sl23, RdS.idx (OS.rd ho3_3) sl23, RdS.cellN (OS.rd ho3_3), RdS.cells (OS.rd ho3_3), BoxAt.cell hb0_0, BoxAt.cell hb0_1, wrap_id, bC0, bC3 (OS.isSl ho3_2) (OS.isSl ho3_3)]
    refine op_alloc (cs := #[.int .i64 0, .slice none 0 0, .slice none 0 0]) (by kernel_rfl) ?_
    intro h3_5 e3_5 hb3_5 z3_5
    replace ho3_2 := OS.ext ho3_2 e3_5
    replace ho3_3 := OS.ext ho3_3 e3_5
    replace hb0_0 := BoxAt.ext hb0_0 e3_5
    replace hb0_1 := BoxAt.ext hb0_1 e3_5
    have := Ext.size e3_5
    replace eB := Ext.trans eB e3_5
    have hfhb3_5 : Fresh h3_3.size [h3_3.size] := Fresh.one _
    have hlhb3_5 := one_lt (show h3_3.size < h3_5.size by omega)
    try simp -implicitDefEqProofs (disch := first | decide | assumption | omega) only [go_sem, RdS.len hdX sl22, RdS.idx hdX sl22, R1.intB hdX (Ext.pres eB), RdS.cells hdX, RdS.len hmX sl23, RdS.idx hmX sl23, RdS.cellB hmX (Ext.pres eB), RdS.cells hmX, RdS.len (OS.rd ho3_2) sl22, RdS.idx (OS.rd ho3_2) sl22, R1.intN (OS.rd ho3_2), RdS.cells (OS.rd ho3_2), RdS.len (OS.rd ho3_3) sl23, RdS.idx (OS.rd ho3_3) sl23, RdS.cellN (OS.rd ho3_3), RdS.cells (OS.rd ho3_3), BoxAt.cell hb0_0, BoxAt.cell hb0_1, BoxAt.cell hb3_5, wrap_id, bC0, bC3 (OS.isSl ho3_2) (OS.isSl ho3_3)]
    refine op_storeB (cs' := #[.int .i64 (X.p), v3_2, v3_3]) st30 hb3_5 rfl rfl rfl (by simp) (allOne_mem (l := [.int .i64 (X.p), v3_2, v3_3]) ⟨rfl, (OS.one ho3_2).1, (OS.one ho3_3).1, trivial⟩) rfl ?_
    intro h3_6 hb3_5 c3_6
    replace ho3_2 := OS.chg ho3_2 c3_6 (apart_lt hlho3_2 hfhb3_5 (by omega))
    replace ho3_3 := OS.chg ho3_3 c3_6 (apart_lt hlho3_3 hfhb3_5 (by omega))
    replace hb0_0 := BoxAt.chgA hb0_0 c3_6 (apart_lt hlhb0_0 hfhb3_5 (by omega))
    replace hb0_1 := BoxAt.chgA hb0_1 c3_6 (apart_lt hlhb0_1 hfhb3_5 (by omega))
    have := c3_6.size
    replace eB := Ext.then eB c3_6 (ge_of hfhb3_5 (by omega))
    try simp -implicitDefEqProofs (disch := first | decide | assumption | omega) only [go_sem, RdS.len hdX sl22, RdS.idx hdX sl22, R1.intB hdX (Ext.pres eB), RdS.cells hdX, RdS.len hmX sl23, RdS.idx hmX sl23, RdS.cellB hmX (Ext.pres eB), RdS.cells hmX, RdS.len (OS.rd ho3_2) sl22, RdS.idx (OS.rd ho3_2) sl22, R1.intN (OS.rd ho3_2), RdS.cells (OS.rd ho3_2), RdS.len (OS.rd ho3_3) sl23, RdS.idx (OS.rd ho3_3) sl23, RdS.cellN (OS.rd ho3_3), RdS.cells (OS.rd ho3_3), BoxAt.cell hb0_0, BoxAt.cell hb0_1, BoxAt.cell hb3_5, wrap_id, bC0, bC3 (OS.isSl ho3_2) (OS.isSl ho3_3)]
    refine hK _ _ ?_
    clear hK K
    refine den_seq ?_
    refine den_seq ?_
    refine den_region TTok ?_
    intro K hK
    simp -implicitDefEqProofs (disch := first | decide | assumption | omega) only [go_sem, RdS.len hdX sl22, RdS.idx hdX sl22, R1.intB hdX (Ext.pres eB), RdS.cells hdX, RdS.len hmX sl23, RdS.idx hmX sl23, RdS.cellB hmX (Ext.pres eB), RdS.cells hmX, RdS.len (OS.rd ho3_2) sl22, RdS.idx (OS.rd ho3_2) sl22, R1.intN (OS.rd ho3_2), RdS.cells (OS.rd ho3_2), RdS.len (OS.rd ho3_3) sl23, RdS.idx (OS.rd ho3_3) sl23, RdS.cellN (OS.rd ho3_3), RdS.cells (OS.rd ho3_3), BoxAt.cell hb0_0, BoxAt.cell hb0_1, BoxAt.cell hb3_5, wrap_id, bC0]
    refine hK _ _ ?_
    clear hK K
    refine den_block ?_
    refine den_sel [5, 1, 2, 4] ?_
    intro env_1
    simp only [go_sem]
    refine den_loopS (σ := Nat × Value × List Nat × Value × List Nat) (fun st_ => [(5, .int .i64 (st_.1 : Int))]) (fun st_ H => (st_.1 ≤ X.dims.length) ∧ (O1 H st_.2.1 (homL X st_.1) st_.2.2.1) ∧ (Fresh (h1_1.size) st_.2.2.1) ∧ (Sub ([h1_1.size] ++ ([h3_2.size] ++ ([h3_3.size]))) h3_6.size st_.2.2.1) ∧ (O3 H st_.2.2.2.1 (hblk X (st_.1 - 1)) st_.2.2.2.2) ∧ (Fresh (h3_2.size) st_.2.2.2.2) ∧ (Sub ([h1_1.size] ++ ([h3_2.size] ++ ([h3_3.size]))) h3_6.size st_.2.2.2.2) ∧ (BoxAt H (h3_3.size) #[.int .i64 (X.p), st_.2.1, st_.2.2.2.1] 30) ∧ (Apart st_.2.2.1 st_.2.2.2.2) ∧ (Apart st_.2.2.1 [h3_3.size]) ∧ (Apart st_.2.2.2.2 [h3_3.size]) ∧ (Chg ([h1_1.size] ++ ([h3_2.size] ++ ([h3_3.size]))) h3_6 H)) (fun st_ => X.dims.length - st_.1) (0, v3_2, [h1_1.size], v3_3, [h3_2.size]) ?_ ?_
    · exact ⟨by first | (simp; done) | (dsimp only; omega) | (simp; omega), by exact ho3_2, hfho3_2, (Sub.left Sub.refl), by exact ho3_3, hfho3_3, (Sub.right (Sub.left Sub.refl)), by simpa using hb3_5, (apart_lt hlho3_2 hfho3_3 (by omega)), (apart_lt hlho3_2 hfhb3_5 (by omega)), (apart_lt hlho3_3 hfhb3_5 (by omega)), Chg.refl _ _⟩
    · rintro ⟨n, vhD, fphD, vhM, fphM⟩ h4 ee3 ⟨hi0, hD, hfhD, sbhD, hM, hfhM, sbhM, hbx4, ap_hD_hM, ap_hD_hbx4, ap_hM_hbx4, cL2⟩
      dsimp only at hi0 hD hfhD sbhD hM hfhM sbhM hbx4 ap_hD_hM ap_hD_hbx4 ap_hM_hbx4 cL2
      replace hb0_0 := BoxAt.chgA hb0_0 cL2 (Apart.app (apart_lt hlhb0_0 hfho3_2 (by omega)) (Apart.app (apart_lt hlhb0_0 hfho3_3 (by omega)) (apart_lt hlhb0_0 hfhb3_5 (by omega))))
      replace hb0_1 := BoxAt.chgA hb0_1 cL2 (Apart.app (apart_lt hlhb0_1 hfho3_2 (by omega)) (Apart.app (apart_lt hlhb0_1 hfho3_3 (by omega)) (apart_lt hlhb0_1 hfhb3_5 (by omega))))
      have := cL2.size
      replace eB := Ext.then eB cL2 (ge_app (ge_of hfho3_2 (by omega)) (ge_app (ge_of hfho3_3 (by omega)) (ge_of hfhb3_5 (by omega))))
      have hlhD := OS.lt hD
      have hlhM := OS.lt hM
      have hfhbx4 := hfhb3_5
      have hlhbx4 := hlhb3_5
      simp only [List.cons_append, List.nil_append]
      refine den_seq ?_
      refine den_seq ?_
      refine den_region TTok ?_
      intro K hK
      simp -implicitDefEqProofs (disch := first | decide | assumption | omega) only [go_sem, fa30_1, ld22, RdS.len hdX sl22, RdS.idx hdX sl22, R1.intB hdX (Ext.pres eB), RdS.cells hdX, RdS.len hmX sl23, RdS.idx hmX sl23, RdS.cellB hmX (Ext.pres eB), RdS.cells hmX, RdS.len (OS.rd hD) sl22, RdS.idx (OS.rd hD) sl22, R1.intN (OS.rd hD), RdS.cells (OS.rd hD), RdS.len (OS.rd hM) sl23, RdS.idx (OS.rd hM) sl23, RdS.cellN (OS.rd hM), RdS.cells (OS.rd hM), BoxAt.cell hb0_0, BoxAt.cell hb0_1, BoxAt.cell hbx4, wrap_id, bC0]
      refine hK _ _ ?_
      clear hK K
      refine den_cond rfl (fun c1 => ?_) (fun c1 => ?_)
      · try simp only [decide_eq_true_eq, decide_eq_false_iff_not, beq_iff_eq, beq_eq_false_iff_ne, bne_iff_ne, ne_eq, Bool.not_eq_true', Bool.not_eq_false', Bool.and_eq_true, Bool.or_eq_true, bne_eq_false_iff_eq, Bool.not_eq_true] at c1
        refine den_skip ?_
        refine den_seq ?_
        refine den_block ?_
        refine den_seq ?_
        have hhl := homL_len X n
        have hhb := homP_bnd hC (n := (n : Int)) (by omega)
        have hnn := homP_nn hC (n := (n : Int)) (by omega)
        refine den_draw TTok mixed [6, 8] [(0, true), (1, true), (2, true), (3, true), (4, false), (5, false), (6, false), (7, true), (8, false)] (by kernel_rfl) ?_
        intro K hK
        simp -implicitDefEqProofs (disch := first | decide | assumption | omega) only [go_sem, fa30_1, ld22, ld30, RdS.len hdX sl22, RdS.idx hdX sl22, R1.intB hdX (Ext.pres eB), RdS.cells hdX, RdS.len hmX sl23, RdS.idx hmX sl23, RdS.cellB hmX (Ext.pres eB), RdS.cells hmX, RdS.len (OS.rd hD) sl22, RdS.idx (OS.rd hD) sl22, R1.intN (OS.rd hD), RdS.cells (OS.rd hD), RdS.len (OS.rd hM) sl23, RdS.idx (OS.rd hM) sl23, RdS.cellN (OS.rd hM), RdS.cells (OS.rd hM), BoxAt.cell hb0_0, BoxAt.cell hb0_1, BoxAt.cell hbx4, wrap_id, bC0]
        try simp -implicitDefEqProofs (disch := first | decide | assumption | omega) only [go_sem, RdS.len hdX sl22, RdS.idx hdX sl22, R1.intB hdX (Ext.pres eB), RdS.cells hdX, RdS.len hmX sl23, RdS.idx hmX sl23, RdS.cellB hmX (Ext.pres eB), RdS.cells hmX, RdS.len (OS.rd hD) sl22, RdS.idx (OS.rd hD) sl22, R1.intN (OS.rd hD), RdS.cells (OS.rd hD), RdS.len (OS.rd hM) sl23, RdS.idx (OS.rd hM) sl23, RdS.cellN (OS.rd hM), RdS.cells (OS.rd hM), BoxAt.cell hb0_0, BoxAt.cell hb0_1, BoxAt.cell hbx4, wrap_id, bC0]
        refine CallA.mono (sHom_ok _ X (n : Int) _ ⟨_, _, rfl, (RdS.pres hdX (Ext.pres eB)), (RdS.pres hmX (Ext.pres eB))⟩ hCx (by omega)) ?_
        intro v_ h7_4
        rintro ⟨rfl, e7_4⟩
        replace hD := OS.ext hD e7_4
        replace hM := OS.ext hM e7_4
        replace hb0_0 := BoxAt.ext hb0_0 e7_4
        replace hb0_1 := BoxAt.ext hb0_1 e7_4
        replace hbx4 := BoxAt.ext hbx4 e7_4
        have := Ext.size e7_4
        replace eB := Ext.trans eB e7_4
        replace cL2 := Chg.stepE cL2 e7_4
        try simp (disch := decide) only [outv_some, outv_none, put_puts]
        refine plK_pres (Ext.pres e7_4) ?_
        try simp -implicitDefEqProofs (disch := first | decide | assumption | omega) only [go_sem, RdS.len hdX sl22, RdS.idx hdX sl22, R1.intB hdX (Ext.pres eB), RdS.cells hdX, RdS.len hmX sl23, RdS.idx hmX sl23, RdS.cellB hmX (Ext.pres eB), RdS.cells hmX, RdS.len (OS.rd hD) sl22, RdS.idx (OS.rd hD) sl22, R1.intN (OS.rd hD), RdS.cells (OS.rd hD), RdS.len (OS.rd hM) sl23, RdS.idx (OS.rd hM) sl23, RdS.cellN (OS.rd hM), RdS.cells (OS.rd hM), BoxAt.cell hb0_0, BoxAt.cell hb0_1, BoxAt.cell hbx4, wrap_id, bC0]
        refine op_bs1 sz22 rfl rfl ?_
        try simp (disch := decide) only [outv_some, outv_none, put_puts]
        refine plK_pres (Ext.pres (Ext.push _ _)) ?_
        try simp -implicitDefEqProofs (disch := first | decide | assumption | omega) only [go_sem, RdS.len hdX sl22, RdS.idx hdX sl22, R1.intB hdX (Ext.pres eB), RdS.cells hdX, RdS.len hmX sl23, RdS.idx hmX sl23, RdS.cellB hmX (Ext.pres eB), RdS.cells hmX, RdS.len (OS.rd hD) sl22, RdS.idx (OS.rd hD) sl22, R1.intN (OS.rd hD), RdS.cells (OS.rd hD), RdS.len (OS.rd hM) sl23, RdS.idx (OS.rd hM) sl23, RdS.cellN (OS.rd hM), RdS.cells (OS.rd hM), BoxAt.cell hb0_0, BoxAt.cell hb0_1, BoxAt.cell hbx4, wrap_id, bC0]
        refine op_append1 sz22 hD hfhD.nodup ⟨rfl, rfl⟩ List.nodup_nil (Apart.nil _) (by first | omega | (simp; omega)) rfl rfl ?_
        intro v7_6 h7_6 fp7_6 ho7_6 hn7_6 hs7_6 c7_6
        have hsz7_6 := c7_6.size
        have hfho7_6 : Fresh h1_1.size fp7_6 := Fresh.appd hfhD (Fresh.nil h7_4.size) (by omega) (by omega) hn7_6 hs7_6
        have sb5 : Sub ([h1_1.size] ++ ([h3_2.size] ++ ([h3_3.size]))) h3_6.size fp7_6 := Sub.grow sbhD Sub.nil (by omega) hs7_6
        replace hM := OS.chg hM c7_6 (Apart.symm ap_hD_hM)
        replace hb0_0 := BoxAt.chgA hb0_0 c7_6 (apart_lt hlhb0_0 hfhD (by omega))
        replace hb0_1 := BoxAt.chgA hb0_1 c7_6 (apart_lt hlhb0_1 hfhD (by omega))
        replace hbx4 := BoxAt.chgA hbx4 c7_6 (Apart.symm ap_hD_hbx4)
        have := c7_6.size
        replace eB := Ext.then eB c7_6 (ge_of hfhD (by omega))
        replace cL2 := Chg.step cL2 c7_6 sbhD
        have ap6 : Apart fphM fp7_6 := Apart.grow hlhM (by omega) (Apart.symm ap_hD_hM) (Apart.nil _) hs7_6
        have ap7 : Apart [h3_3.size] fp7_6 := Apart.grow hlhbx4 (by omega) (Apart.symm ap_hD_hbx4) (Apart.nil _) hs7_6
        have hlho7_6 := OS.lt ho7_6
        try simp (disch := decide) only [outv_some, outv_none, put_puts]
        refine plK_last (by decide) ?_
        try simp -implicitDefEqProofs (disch := first | decide | assumption | omega) only [go_sem, fa30_1, RdS.len hdX sl22, RdS.idx hdX sl22, R1.intB hdX (Ext.pres eB), RdS.cells hdX, RdS.len hmX sl23, RdS.idx hmX sl23, RdS.cellB hmX (Ext.pres eB), RdS.cells hmX, RdS.len (OS.rd hM) sl23, RdS.idx (OS.rd hM) sl23, RdS.cellN (OS.rd hM), RdS.cells (OS.rd hM), RdS.len (OS.rd ho7_6) sl22, RdS.idx (OS.rd ho7_6) sl22, R1.intN (OS.rd ho7_6), RdS.cells (OS.rd ho7_6), BoxAt.cell hb0_0, BoxAt.cell hb0_1, BoxAt.cell hbx4, wrap_id, bC0]
        refine op_storeB (cs' := #[.int .i64 (X.p), v7_6, vhM]) st22 hbx4 rfl (OS.one ho7_6).2 rfl (by simp) (allOne_mem (l := [v7_6]) ⟨(OS.one ho7_6).1, trivial⟩) rfl ?_
        intro h7_8 hbx4 c7_8
        replace hM := OS.chg hM c7_8 ap_hM_hbx4
        replace ho7_6 := OS.chg ho7_6 c7_8 (Apart.symm ap7)
        replace hb0_0 := BoxAt.chgA hb0_0 c7_8 (apart_lt hlhb0_0 hfhbx4 (by omega))
        replace hb0_1 := BoxAt.chgA hb0_1 c7_8 (apart_lt hlhb0_1 hfhbx4 (by omega))
        have := c7_8.size
        replace eB := Ext.then eB c7_8 (ge_of hfhbx4 (by omega))
        replace cL2 := Chg.step cL2 c7_8 (Sub.right (Sub.right Sub.refl))
        try simp (disch := decide) only [outv_some, outv_none, put_puts]
        refine plK_last (by decide) ?_
        try simp -implicitDefEqProofs (disch := first | decide | assumption | omega) only [go_sem, RdS.len hdX sl22, RdS.idx hdX sl22, R1.intB hdX (Ext.pres eB), RdS.cells hdX, RdS.len hmX sl23, RdS.idx hmX sl23, RdS.cellB hmX (Ext.pres eB), RdS.cells hmX, RdS.len (OS.rd hM) sl23, RdS.idx (OS.rd hM) sl23, RdS.cellN (OS.rd hM), RdS.cells (OS.rd hM), RdS.len (OS.rd ho7_6) sl22, RdS.idx (OS.rd ho7_6) sl22, R1.intN (OS.rd ho7_6), RdS.cells (OS.rd ho7_6), BoxAt.cell hb0_0, BoxAt.cell hb0_1, BoxAt.cell hbx4, wrap_id, bC0]
        refine hK _ _ ?_
        clear hK K
        refine den_seq ?_
        rw [homL_step] at ho7_6
        have hhl2 := homL_len X (n + 1)
        have hgn : (homL X (n + 1)).getD n 0 = homP X (n : Int) := homL_get X (by omega)
        refine den_region TTok ?_
        intro K hK
        simp -implicitDefEqProofs (disch := first | decide | assumption | omega) only [go_sem, RdS.len hdX sl22, RdS.idx hdX sl22, R1.intB hdX (Ext.pres eB), RdS.cells hdX, RdS.len hmX sl23, RdS.idx hmX sl23, RdS.cellB hmX (Ext.pres eB), RdS.cells hmX, RdS.len (OS.rd hM) sl23, RdS.idx (OS.rd hM) sl23, RdS.cellN (OS.rd hM), RdS.cells (OS.rd hM), RdS.len (OS.rd ho7_6) sl22, RdS.idx (OS.rd ho7_6) sl22, R1.intN (OS.rd ho7_6), RdS.cells (OS.rd ho7_6), BoxAt.cell hb0_0, BoxAt.cell hb0_1, BoxAt.cell hbx4, wrap_id, bC0]
        refine op_bs0 sz36 O1 ?_
        intro v8_0 h8_0 ho8_0 e8_0
        replace hM := OS.ext hM e8_0
        replace ho7_6 := OS.ext ho7_6 e8_0
        replace hb0_0 := BoxAt.ext hb0_0 e8_0
        replace hb0_1 := BoxAt.ext hb0_1 e8_0
        replace hbx4 := BoxAt.ext hbx4 e8_0
        have := Ext.size e8_0
        replace eB := Ext.trans eB e8_0
        replace cL2 := Chg.stepE cL2 e8_0
        have hfho8_0 : Fresh h7_8.size [h7_8.size] := Fresh.one _
        have hlho8_0 := OS.lt ho8_0
        try simp -implicitDefEqProofs (disch := first | decide | assumption | omega) only [go_sem, RdS.len hdX sl22, RdS.idx hdX sl22, R1.intB hdX (Ext.pres eB), RdS.cells hdX, RdS.len hmX sl23, RdS.idx hmX sl23, RdS.cellB hmX (Ext.pres eB), RdS.cells hmX, RdS.len (OS.rd hM) sl23, RdS.idx (OS.rd hM) sl23, RdS.cellN (OS.rd hM), RdS.cells (OS.rd hM), RdS.len (OS.rd ho7_6) sl22, RdS.idx (OS.rd ho7_6) sl22, R1.intN (OS.rd ho7_6), RdS.cells (OS.rd ho7_6), RdS.len (OS.rd ho8_0) sl36, RdS.idx (OS.rd ho8_0) sl36, RdS.cellN (OS.rd ho8_0), RdS.cells (OS.rd ho8_0), BoxAt.cell hb0_0, BoxAt.cell hb0_1, BoxAt.cell hbx4, wrap_id, bC0]
        refine hK _ _ ?_
        clear hK K
        refine den_seq ?_
        refine den_seq ?_
        refine den_region TTok ?_
        intro K hK
        simp -implicitDefEqProofs (disch := first | decide | assumption | omega) only [go_sem, RdS.len hdX sl22, RdS.idx hdX sl22, R1.intB hdX (Ext.pres eB), RdS.cells hdX, RdS.len hmX sl23, RdS.idx hmX sl23, RdS.cellB hmX (Ext.pres eB), RdS.cells hmX, RdS.len (OS.rd hM) sl23, RdS.idx (OS.rd hM) sl23, RdS.cellN (OS.rd hM), RdS.cells (OS.rd hM), RdS.len (OS.rd ho7_6) sl22, RdS.idx (OS.rd ho7_6) sl22, R1.intN (OS.rd ho7_6), RdS.cells (OS.rd ho7_6), RdS.len (OS.rd ho8_0) sl36, RdS.idx (OS.rd ho8_0) sl36, RdS.cellN (OS.rd ho8_0), RdS.cells (OS.rd ho8_0), BoxAt.cell hb0_0, BoxAt.cell hb0_1, BoxAt.cell hbx4, wrap_id, bC0]
        refine hK _ _ ?_
        clear hK K
        refine den_block ?_
        refine den_sel [6, 7, 1, 2, 4, 5] ?_
        intro env_8
        simp only [go_sem]
        refine den_loopS (σ := Nat × Value × List Nat) (fun st_ => [(6, st_.2.1), (7, .int .i64 (st_.1 : Int))]) (fun st_ H => ((st_.1 : Int) ≤ homP X (n : Int)) ∧ (O2 H st_.2.1 (List.replicate st_.1 (List.replicate (homP X ((n : Int) - 1)).toNat 0)) st_.2.2) ∧ (Fresh (h7_8.size) st_.2.2) ∧ (Sub [h7_8.size] h8_0.size st_.2.2) ∧ (Chg [h7_8.size] h8_0 H)) (fun st_ => (homP X (n : Int)).toNat - st_.1) (0, v8_0, [h7_8.size]) ?_ ?_
        · exact ⟨by first | (simp; done) | (dsimp only; omega) | (simp; omega), by simpa using ho8_0, hfho8_0, Sub.refl, Chg.refl _ _⟩
        · rintro ⟨i, vhI, fphI⟩ h11 ee10 ⟨hi0, hI, hfhI, sbhI, cL9⟩
          dsimp only at hi0 hI hfhI sbhI cL9
          replace hM := OS.chg hM cL9 (apart_lt hlhM hfho8_0 (by omega))
          replace ho7_6 := OS.chg ho7_6 cL9 (apart_lt hlho7_6 hfho8_0 (by omega))
          replace hb0_0 := BoxAt.chgA hb0_0 cL9 (apart_lt hlhb0_0 hfho8_0 (by omega))
          replace hb0_1 := BoxAt.chgA hb0_1 cL9 (apart_lt hlhb0_1 hfho8_0 (by omega))
          replace hbx4 := BoxAt.chgA hbx4 cL9 (apart_lt hlhbx4 hfho8_0 (by omega))
          have := cL9.size
          replace eB := Ext.then eB cL9 (ge_of hfho8_0 (by omega))
          replace cL2 := Chg.step cL2 cL9 (Sub.fresh hfho8_0 (by omega))
          have hlhI := OS.lt hI
          simp only [List.cons_append, List.nil_append]
          have hlr : (List.replicate i (List.replicate (homP X ((n : Int) - 1)).toNat (0 : Int))).length = i := List.length_replicate
          refine den_seq ?_
          refine den_seq ?_
          refine den_mergeH [(43, .bool (((decide ((0 : Int) < (n : Int))) && (decide ((i : Int) < (homP X (n : Int)))))))] [1, 2, 4, 5, 6, 7] ?_ ?_
            -- a way
          · refine den_region TTok ?_
            intro K hK
            simp -implicitDefEqProofs (disch := first | decide | assumption | (simp (disch := decide) only [slotOf_zero, slotOf_succ, Option.map_some, puts_same, puts_ne, gv_bool, gv_undef, tt, tf, ft, ff, eq_self, if_true, if_false, Bool.false_eq_true, Bool.not_true, Bool.not_false]; done) | omega) only [go_sem, RdS.len hdX sl22, RdS.idx hdX sl22, R1.intB hdX (Ext.pres eB), RdS.cells hdX, RdS.len hmX sl23, RdS.idx hmX sl23, RdS.cellB hmX (Ext.pres eB), RdS.cells hmX, RdS.len (OS.rd hM) sl23, RdS.idx (OS.rd hM) sl23, RdS.cellN (OS.rd hM), RdS.cells (OS.rd hM), RdS.len (OS.rd ho7_6) sl22, RdS.idx (OS.rd ho7_6) sl22, R1.intN (OS.rd ho7_6), RdS.cells (OS.rd ho7_6), RdS.len (OS.rd hI) sl36, RdS.idx (OS.rd hI) sl36, RdS.cellN (OS.rd hI), RdS.cells (OS.rd hI), BoxAt.cell hb0_0, BoxAt.cell hb0_1, BoxAt.cell hbx4, wrap_id, bC0, hgn]
            refine opsP_T (by simp (disch := decide) only [slotOf_zero, slotOf_succ, Option.map_some, puts_same, puts_ne, gv_bool, gv_undef, tt, tf, ft, ff, eq_self, if_true, if_false, Bool.false_eq_true, Bool.not_true, Bool.not_false]; rfl) (fun g12 => ?_) (fun g12 => ?_)
            · try simp -implicitDefEqProofs (disch := first | decide | assumption | (simp (disch := decide) only [slotOf_zero, slotOf_succ, Option.map_some, puts_same, puts_ne, gv_bool, gv_undef, tt, tf, ft, ff, eq_self, if_true, if_false, Bool.false_eq_true, Bool.not_true, Bool.not_false, g12]; done) | omega) only [go_sem, fa30_1, ld22, ld2, RdS.len hdX sl22, RdS.idx hdX sl22, R1.intB hdX (Ext.pres eB), RdS.cells hdX, RdS.len hmX sl23, RdS.idx hmX sl23, RdS.cellB hmX (Ext.pres eB), RdS.cells hmX, RdS.len (OS.rd hM) sl23, RdS.idx (OS.rd hM) sl23, RdS.cellN (OS.rd hM), RdS.cells (OS.rd hM), RdS.len (OS.rd ho7_6) sl22, RdS.idx (OS.rd ho7_6) sl22, R1.intN (OS.rd ho7_6), RdS.cells (OS.rd ho7_6), RdS.len (OS.rd hI) sl36, RdS.idx (OS.rd hI) sl36, RdS.cellN (OS.rd hI), RdS.cells (OS.rd hI), BoxAt.cell hb0_0, BoxAt.cell hb0_1, BoxAt.cell hbx4, wrap_id, bC0, g12, eq_self, if_true, if_false, Bool.false_eq_true, hgn]
              refine hK _ _ ?_
              clear hK K
              refine den_stop ?_
              refine ⟨?_, rfl⟩
              first | (simp (disch := decide) only [go_sem, g12, eq_self, Bool.true_and, Bool.and_true, Bool.false_and, Bool.and_false, Bool.true_or, Bool.or_true, Bool.false_or, Bool.or_false, if_true, if_false, Bool.false_eq_true]; done) | simp [HasL, sel, puts_at, g12]
            · try simp -implicitDefEqProofs (disch := first | decide | assumption | (simp (disch := decide) only [slotOf_zero, slotOf_succ, Option.map_some, puts_same, puts_ne, gv_bool, gv_undef, tt, tf, ft, ff, eq_self, if_true, if_false, Bool.false_eq_true, Bool.not_true, Bool.not_false, g12]; done) | omega) only [go_sem, RdS.len hdX sl22, RdS.idx hdX sl22, R1.intB hdX (Ext.pres eB), RdS.cells hdX, RdS.len hmX sl23, RdS.idx hmX sl23, RdS.cellB hmX (Ext.pres eB), RdS.cells hmX, RdS.len (OS.rd hM) sl23, RdS.idx (OS.rd hM) sl23, RdS.cellN (OS.rd hM), RdS.cells (OS.rd hM), RdS.len (OS.rd ho7_6) sl22, RdS.idx (OS.rd ho7_6) sl22, R1.intN (OS.rd ho7_6), RdS.cells (OS.rd ho7_6), RdS.len (OS.rd hI) sl36, RdS.idx (OS.rd hI) sl36, RdS.cellN (OS.rd hI), RdS.cells (OS.rd hI), BoxAt.cell hb0_0, BoxAt.cell hb0_1, BoxAt.cell hbx4, wrap_id, bC0, g12, eq_self, if_true, if_false, Bool.false_eq_true, hgn]
              refine hK _ _ ?_
              clear hK K
              refine den_stop ?_
              refine ⟨?_, rfl⟩
              first | (simp (disch := decide) only [go_sem, g12, eq_self, Bool.true_and, Bool.and_true, Bool.false_and, Bool.and_false, Bool.true_or, Bool.or_true, Bool.false_or, Bool.or_false, if_true, if_false, Bool.false_eq_true]; done) | simp [HasL, sel, puts_at, g12]
          intro en13
          simp (disch := decide) only [go_sem]
          refine den_cond rfl (fun c2 => ?_) (fun c2 => ?_)
          · try simp only [decide_eq_true_eq, decide_eq_false_iff_not, beq_iff_eq, beq_eq_false_iff_ne, bne_iff_ne, ne_eq, Bool.not_eq_true', Bool.not_eq_false', Bool.and_eq_true, Bool.or_eq_true, bne_eq_false_iff_eq, Bool.not_eq_true] at c2
            refine den_skip ?_
            refine den_seq ?_
            refine den_block ?_
            have hgm : (homL X (n + 1)).getD ((n : Int) - 1).toNat 0 = homP X ((n : Int) - 1) := by rw [homL_get X (by omega)]; congr 1; omega
            have hmn := homP_nn hC (n := (n : Int) - 1) (by omega)
            refine den_region TTok ?_
            intro K hK
            simp -implicitDefEqProofs (disch := first | decide | assumption | omega) only [go_sem, fa30_1, ld22, ld2, RdS.len hdX sl22, RdS.idx hdX sl22, R1.intB hdX (Ext.pres eB), RdS.cells hdX, RdS.len hmX sl23, RdS.idx hmX sl23, RdS.cellB hmX (Ext.pres eB), RdS.cells hmX, RdS.len (OS.rd hM) sl23, RdS.idx (OS.rd hM) sl23, RdS.cellN (OS.rd hM), RdS.cells (OS.rd hM), RdS.len (OS.rd ho7_6) sl22, RdS.idx (OS.rd ho7_6) sl22, R1.intN (OS.rd ho7_6), RdS.cells (OS.rd ho7_6), RdS.len (OS.rd hI) sl36, RdS.idx (OS.rd hI) sl36, RdS.cellN (OS.rd hI), RdS.cells (OS.rd hI), BoxAt.cell hb0_0, BoxAt.cell hb0_1, BoxAt.cell hbx4, wrap_id, bC0, hgm]
            refine op_make sz22 rfl rfl (by omega) (by omega) OI 0 (fun _ => ⟨rfl, rfl⟩) ?_
            intro v12_7 h12_7 ho12_7 e12_7
            replace hM := OS.ext hM e12_7
            replace ho7_6 := OS.ext ho7_6 e12_7
            replace hI := OS.ext hI e12_7
            replace hb0_0 := BoxAt.ext hb0_0 e12_7
            replace hb0_1 := BoxAt.ext hb0_1 e12_7
            replace hbx4 := BoxAt.ext hbx4 e12_7
            have := Ext.size e12_7
            replace eB := Ext.trans eB e12_7
            replace cL2 := Chg.stepE cL2 e12_7
            replace cL9 := Chg.stepE cL9 e12_7
            have hfho12_7 : Fresh h11.size [h11.size] := Fresh.one _
            have hlenho12_7 : (List.replicate ((homP X ((n : Int) - 1))).toNat (0 : Int)).length = ((homP X ((n : Int) - 1))).toNat := List.length_replicate
            have hlho12_7 := OS.lt ho12_7
            try simp -implicitDefEqProofs (disch := first | decide | assumption | omega) only [go_sem, RdS.len hdX sl22, RdS.idx hdX sl22, R1.intB hdX (Ext.pres eB), RdS.cells hdX, RdS.len hmX sl23, RdS.idx hmX sl23, RdS.cellB hmX (Ext.pres eB), RdS.cells hmX, RdS.len (OS.rd hM) sl23, RdS.idx (OS.rd hM) sl23, RdS.cellN (OS.rd hM), RdS.cells (OS.rd hM), RdS.len (OS.rd ho7_6) sl22, RdS.idx (OS.rd ho7_6) sl22, R1.intN (OS.rd ho7_6), RdS.cells (OS.rd ho7_6), RdS.len (OS.rd hI) sl36, RdS.idx (OS.rd hI) sl36, RdS.cellN (OS.rd hI), RdS.cells (OS.rd hI), RdS.len (OS.rd ho12_7) sl22, RdS.idx (OS.rd ho12_7) sl22, R1.intN (OS.rd ho12_7), RdS.cells (OS.rd ho12_7), BoxAt.cell hb0_0, BoxAt.cell hb0_1, BoxAt.cell hbx4, wrap_id, bC0, hgm]
            refine op_bs1 sz36 rfl (OS.one ho12_7).2 ?_
            try simp -implicitDefEqProofs (disch := first | decide | assumption | omega) only [go_sem, RdS.len hdX sl22, RdS.idx hdX sl22, R1.intB hdX (Ext.pres eB), RdS.cells hdX, RdS.len hmX sl23, RdS.idx hmX sl23, RdS.cellB hmX (Ext.pres eB), RdS.cells hmX, RdS.len (OS.rd hM) sl23, RdS.idx (OS.rd hM) sl23, RdS.cellN (OS.rd hM), RdS.cells (OS.rd hM), RdS.len (OS.rd ho7_6) sl22, RdS.idx (OS.rd ho7_6) sl22, R1.intN (OS.rd ho7_6), RdS.cells (OS.rd ho7_6), RdS.len (OS.rd hI) sl36, RdS.idx (OS.rd hI) sl36, RdS.cellN (OS.rd hI), RdS.cells (OS.rd hI), RdS.len (OS.rd ho12_7) sl22, RdS.idx (OS.rd ho12_7) sl22, R1.intN (OS.rd ho12_7), RdS.cells (OS.rd ho12_7), BoxAt.cell hb0_0, BoxAt.cell hb0_1, BoxAt.cell hbx4, wrap_id, bC0, hgm]
            refine op_append1 sz36 hI hfhI.nodup ho12_7 hfho12_7.nodup (apart_lt hlhI hfho12_7 (by omega)) (by first | omega | (simp; omega)) rfl rfl ?_
            intro v12_9 h12_9 fp12_9 ho12_9 hn12_9 hs12_9 c12_9
            have hsz12_9 := c12_9.size
            have hfho12_9 : Fresh h7_8.size fp12_9 := Fresh.appd hfhI hfho12_7 (by omega) (by omega) hn12_9 hs12_9
            have sb16 : Sub [h7_8.size] h8_0.size fp12_9 := Sub.grow sbhI (Sub.fresh hfho12_7 (by omega)) (by omega) hs12_9
            replace hM := OS.chg hM c12_9 (apart_lt hlhM hfhI (by omega))
            replace ho7_6 := OS.chg ho7_6 c12_9 (apart_lt hlho7_6 hfhI (by omega))
            replace hb0_0 := BoxAt.chgA hb0_0 c12_9 (apart_lt hlhb0_0 hfhI (by omega))
            replace hb0_1 := BoxAt.chgA hb0_1 c12_9 (apart_lt hlhb0_1 hfhI (by omega))
            replace hbx4 := BoxAt.chgA hbx4 c12_9 (apart_lt hlhbx4 hfhI (by omega))
            have := c12_9.size
            replace eB := Ext.then eB c12_9 (ge_of hfhI (by omega))
            replace cL2 := Chg.step cL2 c12_9 (Sub.fresh hfhI (by omega))
            replace cL9 := Chg.step cL9 c12_9 sbhI
            have hlho12_9 := OS.lt ho12_9
            try simp -implicitDefEqProofs (disch := first | decide | assumption | omega) only [go_sem, RdS.len hdX sl22, RdS.idx hdX sl22, R1.intB hdX (Ext.pres eB), RdS.cells hdX, RdS.len hmX sl23, RdS.idx hmX sl23, RdS.cellB hmX (Ext.pres eB), RdS.cells hmX, RdS.len (OS.rd hM) sl23, RdS.idx (OS.rd hM) sl23, RdS.cellN (OS.rd hM), RdS.cells (OS.rd hM), RdS.len (OS.rd ho7_6) sl22, RdS.idx (OS.rd ho7_6) sl22, R1.intN (OS.rd ho7_6), RdS.cells (OS.rd ho7_6), RdS.len (OS.rd ho12_9) sl36, RdS.idx (OS.rd ho12_9) sl36, RdS.cellN (OS.rd ho12_9), RdS.cells (OS.rd ho12_9), BoxAt.cell hb0_0, BoxAt.cell hb0_1, BoxAt.cell hbx4, wrap_id, bC0, hgm]
            refine hK _ _ ?_
            clear hK K
            refine den_blk ?_
            refine den_region TTok ?_
            intro K hK
            simp -implicitDefEqProofs (disch := first | decide | assumption | omega) only [go_sem, RdS.len hdX sl22, RdS.idx hdX sl22, R1.intB hdX (Ext.pres eB), RdS.cells hdX, RdS.len hmX sl23, RdS.idx hmX sl23, RdS.cellB hmX (Ext.pres eB), RdS.cells hmX, RdS.len (OS.rd hM) sl23, RdS.idx (OS.rd hM) sl23, RdS.cellN (OS.rd hM), RdS.cells (OS.rd hM), RdS.len (OS.rd ho7_6) sl22, RdS.idx (OS.rd ho7_6) sl22, R1.intN (OS.rd ho7_6), RdS.cells (OS.rd ho7_6), RdS.len (OS.rd ho12_9) sl36, RdS.idx (OS.rd ho12_9) sl36, RdS.cellN (OS.rd ho12_9), RdS.cells (OS.rd ho12_9), BoxAt.cell hb0_0, BoxAt.cell hb0_1, BoxAt.cell hbx4, wrap_id, bC0]
            refine hK _ _ ?_
            clear hK K
            refine den_stop ?_
            rw [← List.replicate_succ'] at ho12_9
            exact ⟨(i + 1, v12_9, fp12_9), by simp [HasL, puts_at], ⟨by first | omega | (dsimp only; omega), ho12_9, hfho12_9, sb16, cL9⟩, by first | omega | (dsimp only; omega)⟩
          · try simp only [decide_eq_true_eq, decide_eq_false_iff_not, beq_iff_eq, beq_eq_false_iff_ne, bne_iff_ne, ne_eq, Bool.not_eq_true', Bool.not_eq_false', Bool.and_eq_true, Bool.or_eq_true, bne_eq_false_iff_eq, Bool.not_eq_true] at c2
            refine den_exit ?_
            refine denX_code ?_
            refine denX_stop ?_
            refine denX_hit ?_
            refine den_seq ?_
            refine den_region TTok ?_
            intro K hK
            simp -implicitDefEqProofs (disch := first | decide | assumption | omega) only [go_sem, RdS.len hdX sl22, RdS.idx hdX sl22, R1.intB hdX (Ext.pres eB), RdS.cells hdX, RdS.len hmX sl23, RdS.idx hmX sl23, RdS.cellB hmX (Ext.pres eB), RdS.cells hmX, RdS.len (OS.rd hM) sl23, RdS.idx (OS.rd hM) sl23, RdS.cellN (OS.rd hM), RdS.cells (OS.rd hM), RdS.len (OS.rd ho7_6) sl22, RdS.idx (OS.rd ho7_6) sl22, R1.intN (OS.rd ho7_6), RdS.cells (OS.rd ho7_6), RdS.len (OS.rd hI) sl36, RdS.idx (OS.rd hI) sl36, RdS.cellN (OS.rd hI), RdS.cells (OS.rd hI), BoxAt.cell hb0_0, BoxAt.cell hb0_1, BoxAt.cell hbx4, wrap_id, bC0]
            refine hK _ _ ?_
            clear hK K
            refine den_cond rfl (fun c3 => ?_) (fun c3 => ?_)
            · try simp only [decide_eq_true_eq, decide_eq_false_iff_not, beq_iff_eq, beq_eq_false_iff_ne, bne_iff_ne, ne_eq, Bool.not_eq_true', Bool.not_eq_false', Bool.and_eq_true, Bool.or_eq_true, bne_eq_false_iff_eq, Bool.not_eq_true] at c3
              have hie : ¬ ((i : Int) < homP X (n : Int)) := fun h => by
                have h1 := c2
                rw [decide_eq_true (show (0 : Int) < (n : Int) from c3), decide_eq_true h] at h1
                cases h1
              have hbl_ := hblk_len X (n - 1)
              refine den_region TTok ?_
              intro K hK
              simp -implicitDefEqProofs (disch := first | decide | assumption | omega) only [go_sem, fa30_2, ld23, RdS.len hdX sl22, RdS.idx hdX sl22, R1.intB hdX (Ext.pres eB), RdS.cells hdX, RdS.len hmX sl23, RdS.idx hmX sl23, RdS.cellB hmX (Ext.pres eB), RdS.cells hmX, RdS.len (OS.rd hM) sl23, RdS.idx (OS.rd hM) sl23, RdS.cellN (OS.rd hM), RdS.cells (OS.rd hM), RdS.len (OS.rd ho7_6) sl22, RdS.idx (OS.rd ho7_6) sl22, R1.intN (OS.rd ho7_6), RdS.cells (OS.rd ho7_6), RdS.len (OS.rd hI) sl36, RdS.idx (OS.rd hI) sl36, RdS.cellN (OS.rd hI), RdS.cells (OS.rd hI), BoxAt.cell hb0_0, BoxAt.cell hb0_1, BoxAt.cell hbx4, wrap_id, bC0]
              refine op_bs1 sz23 rfl (OS.one hI).2 ?_
              try simp -implicitDefEqProofs (disch := first | decide | assumption | omega) only [go_sem, RdS.len hdX sl22, RdS.idx hdX sl22, R1.intB hdX (Ext.pres eB), RdS.cells hdX, RdS.len hmX sl23, RdS.idx hmX sl23, RdS.cellB hmX (Ext.pres eB), RdS.cells hmX, RdS.len (OS.rd hM) sl23, RdS.idx (OS.rd hM) sl23, RdS.cellN (OS.rd hM), RdS.cells (OS.rd hM), RdS.len (OS.rd ho7_6) sl22, RdS.idx (OS.rd ho7_6) sl22, R1.intN (OS.rd ho7_6), RdS.cells (OS.rd ho7_6), RdS.len (OS.rd hI) sl36, RdS.idx (OS.rd hI) sl36, RdS.cellN (OS.rd hI), RdS.cells (OS.rd hI), BoxAt.cell hb0_0, BoxAt.cell hb0_1, BoxAt.cell hbx4, wrap_id, bC0]
              refine op_append1 sz23 hM hfhM.nodup hI hfhI.nodup (apart_lt hlhM hfhI (by omega)) (by first | omega | (simp; omega)) rfl rfl ?_
              intro v14_4 h14_4 fp14_4 ho14_4 hn14_4 hs14_4 c14_4
              have hsz14_4 := c14_4.size
              have hfho14_4 : Fresh h3_2.size fp14_4 := Fresh.appd hfhM hfhI (by omega) (by omega) hn14_4 hs14_4
              have sb17 : Sub ([h1_1.size] ++ ([h3_2.size] ++ ([h3_3.size]))) h3_6.size fp14_4 := Sub.grow sbhM (Sub.fresh hfhI (by omega)) (by omega) hs14_4
              replace ho7_6 := OS.chg ho7_6 c14_4 (Apart.symm ap6)
              replace hb0_0 := BoxAt.chgA hb0_0 c14_4 (apart_lt hlhb0_0 hfhM (by omega))
              replace hb0_1 := BoxAt.chgA hb0_1 c14_4 (apart_lt hlhb0_1 hfhM (by omega))
              replace hbx4 := BoxAt.chgA hbx4 c14_4 (Apart.symm ap_hM_hbx4)
              have := c14_4.size
              replace eB := Ext.then eB c14_4 (ge_of hfhM (by omega))
              replace cL2 := Chg.step cL2 c14_4 sbhM
              have ap18 : Apart fp7_6 fp14_4 := Apart.grow hlho7_6 (by omega) (Apart.symm ap6) (apart_lt hlho7_6 hfhI (by omega)) hs14_4
              have ap19 : Apart [h3_3.size] fp14_4 := Apart.grow hlhbx4 (by omega) (Apart.symm ap_hM_hbx4) (apart_lt hlhbx4 hfhI (by omega)) hs14_4
              have hlho14_4 := OS.lt ho14_4
              try simp -implicitDefEqProofs (disch := first | decide | assumption | omega) only [go_sem, fa30_2, RdS.len hdX sl22, RdS.idx hdX sl22, R1.intB hdX (Ext.pres eB), RdS.cells hdX, RdS.len hmX sl23, RdS.idx hmX sl23, RdS.cellB hmX (Ext.pres eB), RdS.cells hmX, RdS.len (OS.rd ho7_6) sl22, RdS.idx (OS.rd ho7_6) sl22, R1.intN (OS.rd ho7_6), RdS.cells (OS.rd ho7_6), RdS.len (OS.rd ho14_4) sl23, RdS.idx (OS.rd ho14_4) sl23, RdS.cellN (OS.rd ho14_4), RdS.cells (OS.rd ho14_4), BoxAt.cell hb0_0, BoxAt.cell hb0_1, BoxAt.cell hbx4, wrap_id, bC0]
              refine op_storeB (cs' := #[.int .i64 (X.p), v7_6, v14_4]) st23 hbx4 rfl (OS.one ho14_4).2 rfl (by simp) (allOne_mem (l := [v14_4]) ⟨(OS.one ho14_4).1, trivial⟩) rfl ?_
              intro h14_6 hbx4 c14_6
              replace ho7_6 := OS.chg ho7_6 c14_6 (Apart.symm ap7)
              replace ho14_4 := OS.chg ho14_4 c14_6 (Apart.symm ap19)
              replace hb0_0 := BoxAt.chgA hb0_0 c14_6 (apart_lt hlhb0_0 hfhbx4 (by omega))
              replace hb0_1 := BoxAt.chgA hb0_1 c14_6 (apart_lt hlhb0_1 hfhbx4 (by omega))
              have := c14_6.size
              replace eB := Ext.then eB c14_6 (ge_of hfhbx4 (by omega))
              replace cL2 := Chg.step cL2 c14_6 (Sub.right (Sub.right Sub.refl))
              try simp -implicitDefEqProofs (disch := first | decide | assumption | omega) only [go_sem, RdS.len hdX sl22, RdS.idx hdX sl22, R1.intB hdX (Ext.pres eB), RdS.cells hdX, RdS.len hmX sl23, RdS.idx hmX sl23, RdS.cellB hmX (Ext.pres eB), RdS.cells hmX, RdS.len (OS.rd ho7_6) sl22, RdS.idx (OS.rd ho7_6) sl22, R1.intN (OS.rd ho7_6), RdS.cells (OS.rd ho7_6), RdS.len (OS.rd ho14_4) sl23, RdS.idx (OS.rd ho14_4) sl23, RdS.cellN (OS.rd ho14_4), RdS.cells (OS.rd ho14_4), BoxAt.cell hb0_0, BoxAt.cell hb0_1, BoxAt.cell hbx4, wrap_id, bC0]
              refine hK _ _ ?_
              clear hK K
              refine den_blk ?_
              refine den_region TTok ?_
              intro K hK
              simp -implicitDefEqProofs (disch := first | decide | assumption | omega) only [go_sem, RdS.len hdX sl22, RdS.idx hdX sl22, R1.intB hdX (Ext.pres eB), RdS.cells hdX, RdS.len hmX sl23, RdS.idx hmX sl23, RdS.cellB hmX (Ext.pres eB), RdS.cells hmX, RdS.len (OS.rd ho7_6) sl22, RdS.idx (OS.rd ho7_6) sl22, R1.intN (OS.rd ho7_6), RdS.cells (OS.rd ho7_6), RdS.len (OS.rd ho14_4) sl23, RdS.idx (OS.rd ho14_4) sl23, RdS.cellN (OS.rd ho14_4), RdS.cells (OS.rd ho14_4), BoxAt.cell hb0_0, BoxAt.cell hb0_1, BoxAt.cell hbx4, wrap_id, bC0]
              refine hK _ _ ?_
              clear hK K
              refine den_stop ?_
              first | rw [show (List.replicate i (List.replicate (homP X ((n : Int) - 1)).toNat (0 : Int))) = hblk1 (homP X ((n : Int) - 1)) (homP X (n : Int)) by rw [hblk1, show (homP X (n : Int)).toNat = i by omega], hblk_step X (by omega)] at ho14_4 | rw [show n - 1 = n + 1 - 1 by omega] at ho14_4
              exact ⟨(n + 1, v7_6, fp7_6, v14_4, fp14_4), by simp [HasL, puts_at], ⟨by first | omega | (dsimp only; omega), ho7_6, hfho7_6, sb5, ho14_4, hfho14_4, sb17, hbx4, ap18, (Apart.symm ap7), (Apart.symm ap19), cL2⟩, by first | omega | (dsimp only; omega)⟩
            · try simp only [decide_eq_true_eq, decide_eq_false_iff_not, beq_iff_eq, beq_eq_false_iff_ne, bne_iff_ne, ne_eq, Bool.not_eq_true', Bool.not_eq_false', Bool.and_eq_true, Bool.or_eq_true, bne_eq_false_iff_eq, Bool.not_eq_true] at c3
              refine den_skip ?_
              refine den_blk ?_
              refine den_region TTok ?_
              intro K hK
              simp -implicitDefEqProofs (disch := first | decide | assumption | omega) only [go_sem, RdS.len hdX sl22, RdS.idx hdX sl22, R1.intB hdX (Ext.pres eB), RdS.cells hdX, RdS.len hmX sl23, RdS.idx hmX sl23, RdS.cellB hmX (Ext.pres eB), RdS.cells hmX, RdS.len (OS.rd hM) sl23, RdS.idx (OS.rd hM) sl23, RdS.cellN (OS.rd hM), RdS.cells (OS.rd hM), RdS.len (OS.rd ho7_6) sl22, RdS.idx (OS.rd ho7_6) sl22, R1.intN (OS.rd ho7_6), RdS.cells (OS.rd ho7_6), BoxAt.cell hb0_0, BoxAt.cell hb0_1, BoxAt.cell hbx4, wrap_id, bC0]
              refine hK _ _ ?_
              clear hK K
              refine den_stop ?_
              first | rw [show (List.replicate i (List.replicate (homP X ((n : Int) - 1)).toNat (0 : Int))) = hblk1 (homP X ((n : Int) - 1)) (homP X (n : Int)) by rw [hblk1, show (homP X (n : Int)).toNat = i by omega], hblk_step X (by omega)] at hM | rw [show n - 1 = n + 1 - 1 by omega] at hM
              exact ⟨(n + 1, v7_6, fp7_6, vhM, fphM), by simp [HasL, puts_at], ⟨by first | omega | (dsimp only; omega), ho7_6, hfho7_6, sb5, hM, hfhM, sbhM, hbx4, (Apart.symm ap6), (Apart.symm ap7), ap_hM_hbx4, cL2⟩, by first | omega | (dsimp only; omega)⟩
      · try simp only [decide_eq_true_eq, decide_eq_false_iff_not, beq_iff_eq, beq_eq_false_iff_ne, bne_iff_ne, ne_eq, Bool.not_eq_true', Bool.not_eq_false', Bool.and_eq_true, Bool.or_eq_true, bne_eq_false_iff_eq, Bool.not_eq_true] at c1
        refine den_exit ?_
        refine denX_code ?_
        refine denX_stop ?_
        refine denX_hit ?_
        refine den_seq ?_
        refine den_region TTok ?_
        intro K hK
        simp -implicitDefEqProofs (disch := first | decide | assumption | omega) only [go_sem, ld30, RdS.len hdX sl22, RdS.idx hdX sl22, R1.intB hdX (Ext.pres eB), RdS.cells hdX, RdS.len hmX sl23, RdS.idx hmX sl23, RdS.cellB hmX (Ext.pres eB), RdS.cells hmX, RdS.len (OS.rd hD) sl22, RdS.idx (OS.rd hD) sl22, R1.intN (OS.rd hD), RdS.cells (OS.rd hD), RdS.len (OS.rd hM) sl23, RdS.idx (OS.rd hM) sl23, RdS.cellN (OS.rd hM), RdS.cells (OS.rd hM), BoxAt.cell hb0_1, BoxAt.cell hbx4, wrap_id, bC0]
        refine op_storeB (cs' := #[.int .i64 (X.p), vhD, vhM]) st30 hb0_1 rfl rfl rfl (by simp) (allOne_mem (l := [.int .i64 (X.p), vhD, vhM]) ⟨rfl, (OS.one hD).1, (OS.one hM).1, trivial⟩) rfl ?_
        intro h15_1 hb0_1 c15_1
        replace hD := OS.chg hD c15_1 (apart_gt hfhD hlhb0_1 (by omega))
        replace hM := OS.chg hM c15_1 (apart_gt hfhM hlhb0_1 (by omega))
        replace hbx4 := BoxAt.chgA hbx4 c15_1 (apart_gt hfhbx4 hlhb0_1 (by omega))
        have := c15_1.size
        replace eB := Ext.then eB c15_1 (ge_of hfhb0_1 (by omega))
        try simp -implicitDefEqProofs (disch := first | decide | assumption | omega) only [go_sem, RdS.len hdX sl22, RdS.idx hdX sl22, R1.intB hdX (Ext.pres eB), RdS.cells hdX, RdS.len hmX sl23, RdS.idx hmX sl23, RdS.cellB hmX (Ext.pres eB), RdS.cells hmX, RdS.len (OS.rd hD) sl22, RdS.idx (OS.rd hD) sl22, R1.intN (OS.rd hD), RdS.cells (OS.rd hD), RdS.len (OS.rd hM) sl23, RdS.idx (OS.rd hM) sl23, RdS.cellN (OS.rd hM), RdS.cells (OS.rd hM), BoxAt.cell hb0_1, BoxAt.cell hbx4, wrap_id, bC0]
        refine hK _ _ ?_
        clear hK K
        refine den_ret ?_
        simp -implicitDefEqProofs (disch := first | decide | assumption | omega) only [go_sem, RdS.len hdX sl22, RdS.idx hdX sl22, R1.intB hdX (Ext.pres eB), RdS.cells hdX, RdS.len hmX sl23, RdS.idx hmX sl23, RdS.cellB hmX (Ext.pres eB), RdS.cells hmX, RdS.len (OS.rd hD) sl22, RdS.idx (OS.rd hD) sl22, R1.intN (OS.rd hD), RdS.cells (OS.rd hD), RdS.len (OS.rd hM) sl23, RdS.idx (OS.rd hM) sl23, RdS.cellN (OS.rd hM), RdS.cells (OS.rd hM), BoxAt.cell hb0_1, BoxAt.cell hbx4, wrap_id, bC0, resP_ct, ld30]
        have hz : hcP X = (⟨X.p, homL X X.dims.length, hblk X (X.dims.length - 1)⟩, 0) := by rw [hcP, if_pos c0]
        rw [hz, show X.dims.length = n by omega]
        exact ⟨_, _, _, _, rfl, hD, hM, Fresh.two hfhD hfhM ap_hD_hM (by omega) (by omega), eB⟩
end Go.Proofs.Ytbplnadngahgaaa

namespace Go.Proofs.Ytbplnadngahgaaa
open Go
set_option maxRecDepth 100000 in
set_option maxHeartbeats 4000000 in
theorem exactHomologyComplex_law (vX : Value) (X : Cx) (h : Heap) (rX : RC h vX X)  : CallA Try.prog 11 #[vX] h fun v' h' => v' = .bool (true) ∧ Ext h h' := by
  obtain ⟨vdX, vmX, rfl, hdX, hmX⟩ := rX
  have hledX := RdS.le hdX
  have hlemX := RdS.le hmX
  refine callA_intro TTok (args := [_]) Try.func11 (by kernel_rfl) rfl 96 rfl (by simp) [.tmp 2] rfl ?_
  simp only [idxs, Nat.reduceAdd]
  refine den_seq ?_
  refine den_region TTok ?_
  intro K hK
  simp -implicitDefEqProofs (disch := first | decide | assumption | omega) only [go_sem, wrap_id]
  refine op_box (cs := #[.int .i64 (X.p), vdX, vmX]) rfl ?_
  intro h0_0 e0_0 hb0_0 z0_0
  have := Ext.size e0_0
  have eB := e0_0
  have hfhb0_0 : Fresh h.size [h.size] := Fresh.one _
  have hlhb0_0 := one_lt (show h.size < h0_0.size by omega)
  try simp -implicitDefEqProofs (disch := first | decide | assumption | omega) only [go_sem, BoxAt.cell hb0_0, wrap_id]
  refine hK _ _ ?_
  clear hK K
  refine den_seq ?_
  refine den_region TTok ?_
  intro K hK
  simp -implicitDefEqProofs (disch := first | decide | assumption | omega) only [go_sem, BoxAt.cell hb0_0, wrap_id]
  refine hK _ _ ?_
  clear hK K
  refine den_seq ?_
  refine den_region TTok ?_
  intro K hK
  simp -implicitDefEqProofs (disch := first | decide | assumption | omega) only [go_sem, ld25, BoxAt.cell hb0_0, wrap_id]
  try simp -implicitDefEqProofs (disch := first | decide | assumption | omega) only [go_sem, BoxAt.cell hb0_0, wrap_id]
  refine CallA.mono (szC_ok _ X _ _ ⟨_, _, rfl, (RdS.pres hdX (Ext.pres eB)), (RdS.pres hmX (Ext.pres eB))⟩ (by omega) (by omega)) ?_
  intro v_ h2_2
  rintro ⟨rfl, e2_2⟩
  replace hb0_0 := BoxAt.ext hb0_0 e2_2
  have := Ext.size e2_2
  replace eB := Ext.trans eB e2_2
  have := szC_le X (1048576 : Int) (by omega)
  try simp -implicitDefEqProofs (disch := first | decide | assumption | omega) only [go_sem, BoxAt.cell hb0_0, wrap_id]
  refine hK _ _ ?_
  clear hK K
  refine den_seq ?_
  refine den_seq ?_
  refine den_region TTok ?_
  intro K hK
  simp -implicitDefEqProofs (disch := first | decide | assumption | omega) only [go_sem, BoxAt.cell hb0_0, wrap_id]
  refine hK _ _ ?_
  clear hK K
  refine den_cond rfl (fun c0 => ?_) (fun c0 => ?_)
  · try simp only [decide_eq_true_eq, decide_eq_false_iff_not, beq_iff_eq, beq_eq_false_iff_ne, bne_iff_ne, ne_eq, Bool.not_eq_true', Bool.not_eq_false', Bool.and_eq_true, Bool.or_eq_true, bne_eq_false_iff_eq] at c0
    refine den_seq ?_
    refine den_region TTok ?_
    intro K hK
    simp -implicitDefEqProofs (disch := first | decide | assumption | omega) only [go_sem, wrap_id]
    refine hK _ _ ?_
    clear hK K
    refine den_ret ?_
    simp (disch := decide) only [resP_1, puts_same, puts_ne]
    exact ⟨by first | rfl | trivial, eB⟩
  · try simp only [decide_eq_true_eq, decide_eq_false_iff_not, beq_iff_eq, beq_eq_false_iff_ne, bne_iff_ne, ne_eq, Bool.not_eq_true', Bool.not_eq_false', Bool.and_eq_true, Bool.or_eq_true, bne_eq_false_iff_eq] at c0
    have hMX := szC_ok' (by omega) (by omega) c0
    have hcnX := szC_cntA (by omega) (by omega) c0
    have hci := cnt_hc X
    refine den_skip ?_
    refine den_seq ?_
    refine den_region TTok ?_
    intro K hK
    simp -implicitDefEqProofs (disch := first | decide | assumption | omega) only [go_sem, ld25, BoxAt.cell hb0_0, wrap_id]
    try simp -implicitDefEqProofs (disch := first | decide | assumption | omega) only [go_sem, BoxAt.cell hb0_0, wrap_id]
    refine CallA.mono (toC_ok _ X _ ⟨_, _, rfl, (RdS.pres hdX (Ext.pres eB)), (RdS.pres hmX (Ext.pres eB))⟩ hMX) ?_
    intro v_ h5_1
    rintro ⟨vd5_1, vm5_1, fd5_1, fm5_1, rfl, hod5_1, hom5_1, hf5_1, e5_1⟩
    replace hb0_0 := BoxAt.ext hb0_0 e5_1
    have := Ext.size e5_1
    replace eB := Ext.trans eB e5_1
    have hfd5_1 := hf5_1.left
    have hfm5_1 := hf5_1.right
    have hlhod5_1 := OS.lt hod5_1
    have hlhom5_1 := OS.lt hom5_1
    have ap1 : Apart fd5_1 fm5_1 := apart_nodup hf5_1
    try simp -implicitDefEqProofs (disch := first | decide | assumption | omega) only [go_sem, BoxAt.cell hb0_0, wrap_id]
    try simp -implicitDefEqProofs (disch := first | decide | assumption | omega) only [go_sem, BoxAt.cell hb0_0, wrap_id]
    refine CallA.mono (sHC_ok _ X _ ⟨_, _, rfl, (OS.rd hod5_1), (OS.rd hom5_1)⟩ ) ?_
    intro v_ h5_2
    rintro ⟨vd5_2_0, vm5_2_0, fd5_2_0, fm5_2_0, rfl, hod5_2_0, hom5_2_0, hf5_2_0, e5_2⟩
    replace hod5_1 := OS.ext hod5_1 e5_2
    replace hom5_1 := OS.ext hom5_1 e5_2
    replace hb0_0 := BoxAt.ext hb0_0 e5_2
    have := Ext.size e5_2
    replace eB := Ext.trans eB e5_2
    have hfd5_2_0 := hf5_2_0.left
    have hfm5_2_0 := hf5_2_0.right
    have hlhod5_2_0 := OS.lt hod5_2_0
    have hlhom5_2_0 := OS.lt hom5_2_0
    have ap2 : Apart fd5_2_0 fm5_2_0 := apart_nodup hf5_2_0
    try simp -implicitDefEqProofs (disch := first | decide | assumption | omega) only [go_sem, BoxAt.cell hb0_0, wrap_id]
    refine op_alloc (cs := #[.int .i64 0, .slice none 0 0, .slice none 0 0]) (by kernel_rfl) ?_
    intro h5_6 e5_6 hb5_6 z5_6
    replace hod5_1 := OS.ext hod5_1 e5_6
    replace hom5_1 := OS.ext hom5_1 e5_6
    replace hod5_2_0 := OS.ext hod5_2_0 e5_6
    replace hom5_2_0 := OS.ext hom5_2_0 e5_6
    replace hb0_0 := BoxAt.ext hb0_0 e5_6
    have := Ext.size e5_6
    replace eB := Ext.trans eB e5_6
    have hfhb5_6 : Fresh h5_2.size [h5_2.size] := Fresh.one _
    have hlhb5_6 := one_lt (show h5_2.size < h5_6.size by omega)
    try simp -implicitDefEqProofs (disch := first | decide | assumption | omega) only [go_sem, BoxAt.cell hb0_0, BoxAt.cell hb5_6, wrap_id]
    refine op_storeB (cs' := #[.int .i64 ((((hcP X).1).p)), vd5_2_0, vm5_2_0]) st30 hb5_6 rfl rfl rfl (by simp) (allOne_mem (l := [.int .i64 ((((hcP X).1).p)), vd5_2_0, vm5_2_0]) ⟨rfl, (OS.one hod5_2_0).1, (OS.one hom5_2_0).1, trivial⟩) rfl ?_
    intro h5_7 hb5_6 c5_7
    replace hod5_1 := OS.chg hod5_1 c5_7 (apart_lt hlhod5_1 hfhb5_6 (by omega))
    replace hom5_1 := OS.chg hom5_1 c5_7 (apart_lt hlhom5_1 hfhb5_6 (by omega))
    replace hod5_2_0 := OS.chg hod5_2_0 c5_7 (apart_lt hlhod5_2_0 hfhb5_6 (by omega))
    replace hom5_2_0 := OS.chg hom5_2_0 c5_7 (apart_lt hlhom5_2_0 hfhb5_6 (by omega))
    replace hb0_0 := BoxAt.chgA hb0_0 c5_7 (apart_lt hlhb0_0 hfhb5_6 (by omega))
    have := c5_7.size
    replace eB := Ext.then eB c5_7 (ge_of hfhb5_6 (by omega))
    try simp -implicitDefEqProofs (disch := first | decide | assumption | omega) only [go_sem, BoxAt.cell hb0_0, BoxAt.cell hb5_6, wrap_id]
    refine hK _ _ ?_
    clear hK K
    refine den_seq ?_
    refine den_region TTok ?_
    intro K hK
    simp -implicitDefEqProofs (disch := first | decide | assumption | omega) only [go_sem, ld25, BoxAt.cell hb0_0, BoxAt.cell hb5_6, wrap_id]
    try simp -implicitDefEqProofs (disch := first | decide | assumption | omega) only [go_sem, BoxAt.cell hb0_0, BoxAt.cell hb5_6, wrap_id]
    refine CallA.mono (toC_ok _ X _ ⟨_, _, rfl, (RdS.pres hdX (Ext.pres eB)), (RdS.pres hmX (Ext.pres eB))⟩ hMX) ?_
    intro v_ h6_1
    rintro ⟨vd6_1, vm6_1, fd6_1, fm6_1, rfl, hod6_1, hom6_1, hf6_1, e6_1⟩
    replace hod5_2_0 := OS.ext hod5_2_0 e6_1
    replace hom5_2_0 := OS.ext hom5_2_0 e6_1
    replace hb0_0 := BoxAt.ext hb0_0 e6_1
    replace hb5_6 := BoxAt.ext hb5_6 e6_1
    have := Ext.size e6_1
    replace eB := Ext.trans eB e6_1
    have hfd6_1 := hf6_1.left
    have hfm6_1 := hf6_1.right
    have hlhod6_1 := OS.lt hod6_1
    have hlhom6_1 := OS.lt hom6_1
    have ap3 : Apart fd6_1 fm6_1 := apart_nodup hf6_1
    try simp -implicitDefEqProofs (disch := first | decide | assumption | omega) only [go_sem, BoxAt.cell hb0_0, BoxAt.cell hb5_6, wrap_id]
    refine op_alloc (cs := #[.int .i64 0, .slice none 0 0, .slice none 0 0]) (by kernel_rfl) ?_
    intro h6_2 e6_2 hb6_2 z6_2
    replace hod5_2_0 := OS.ext hod5_2_0 e6_2
    replace hom5_2_0 := OS.ext hom5_2_0 e6_2
    replace hod6_1 := OS.ext hod6_1 e6_2
    replace hom6_1 := OS.ext hom6_1 e6_2
    replace hb0_0 := BoxAt.ext hb0_0 e6_2
    replace hb5_6 := BoxAt.ext hb5_6 e6_2
    have := Ext.size e6_2
    replace eB := Ext.trans eB e6_2
    have hfhb6_2 : Fresh h6_1.size [h6_1.size] := Fresh.one _
    have hlhb6_2 := one_lt (show h6_1.size < h6_2.size by omega)
    try simp -implicitDefEqProofs (disch := first | decide | assumption | omega) only [go_sem, BoxAt.cell hb0_0, BoxAt.cell hb5_6, BoxAt.cell hb6_2, wrap_id]
    refine op_storeB (cs' := #[.int .i64 (X.p), vd6_1, vm6_1]) st30 hb6_2 rfl rfl rfl (by simp) (allOne_mem (l := [.int .i64 (X.p), vd6_1, vm6_1]) ⟨rfl, (OS.one hod6_1).1, (OS.one hom6_1).1, trivial⟩) rfl ?_
    intro h6_3 hb6_2 c6_3
    replace hod5_2_0 := OS.chg hod5_2_0 c6_3 (apart_lt hlhod5_2_0 hfhb6_2 (by omega))
    replace hom5_2_0 := OS.chg hom5_2_0 c6_3 (apart_lt hlhom5_2_0 hfhb6_2 (by omega))
    replace hod6_1 := OS.chg hod6_1 c6_3 (apart_lt hlhod6_1 hfhb6_2 (by omega))
    replace hom6_1 := OS.chg hom6_1 c6_3 (apart_lt hlhom6_1 hfhb6_2 (by omega))
    replace hb0_0 := BoxAt.chgA hb0_0 c6_3 (apart_lt hlhb0_0 hfhb6_2 (by omega))
    replace hb5_6 := BoxAt.chgA hb5_6 c6_3 (apart_lt hlhb5_6 hfhb6_2 (by omega))
    have := c6_3.size
    replace eB := Ext.then eB c6_3 (ge_of hfhb6_2 (by omega))
    try simp -implicitDefEqProofs (disch := first | decide | assumption | omega) only [go_sem, BoxAt.cell hb0_0, BoxAt.cell hb5_6, BoxAt.cell hb6_2, wrap_id]
    refine hK _ _ ?_
    clear hK K
    refine den_seq ?_
    refine den_region TTok ?_
    intro K hK
    simp -implicitDefEqProofs (disch := first | decide | assumption | omega) only [go_sem, ld30, BoxAt.cell hb0_0, BoxAt.cell hb5_6, BoxAt.cell hb6_2, wrap_id]
    try simp -implicitDefEqProofs (disch := first | decide | assumption | omega) only [go_sem, BoxAt.cell hb0_0, BoxAt.cell hb5_6, BoxAt.cell hb6_2, wrap_id]
    refine CallA.mono (iHC_ok _ X _ ⟨_, _, rfl, (OS.rd hod6_1), (OS.rd hom6_1)⟩ ) ?_
    intro v_ h7_1
    rintro ⟨vd7_1_0, vm7_1_0, fd7_1_0, fm7_1_0, rfl, hod7_1_0, hom7_1_0, hf7_1_0, e7_1⟩
    replace hod5_2_0 := OS.ext hod5_2_0 e7_1
    replace hom5_2_0 := OS.ext hom5_2_0 e7_1
    replace hod6_1 := OS.ext hod6_1 e7_1
    replace hom6_1 := OS.ext hom6_1 e7_1
    replace hb0_0 := BoxAt.ext hb0_0 e7_1
    replace hb5_6 := BoxAt.ext hb5_6 e7_1
    replace hb6_2 := BoxAt.ext hb6_2 e7_1
    have := Ext.size e7_1
    replace eB := Ext.trans eB e7_1
    have hfd7_1_0 := hf7_1_0.left
    have hfm7_1_0 := hf7_1_0.right
    have hlhod7_1_0 := OS.lt hod7_1_0
    have hlhom7_1_0 := OS.lt hom7_1_0
    have ap4 : Apart fd7_1_0 fm7_1_0 := apart_nodup hf7_1_0
    try simp -implicitDefEqProofs (disch := first | decide | assumption | omega) only [go_sem, BoxAt.cell hb0_0, BoxAt.cell hb5_6, BoxAt.cell hb6_2, wrap_id]
    refine op_alloc (cs := #[.int .i64 0, .slice none 0 0, .slice none 0 0]) (by kernel_rfl) ?_
    intro h7_5 e7_5 hb7_5 z7_5
    replace hod5_2_0 := OS.ext hod5_2_0 e7_5
    replace hom5_2_0 := OS.ext hom5_2_0 e7_5
    replace hod6_1 := OS.ext hod6_1 e7_5
    replace hom6_1 := OS.ext hom6_1 e7_5
    replace hod7_1_0 := OS.ext hod7_1_0 e7_5
    replace hom7_1_0 := OS.ext hom7_1_0 e7_5
    replace hb0_0 := BoxAt.ext hb0_0 e7_5
    replace hb5_6 := BoxAt.ext hb5_6 e7_5
    replace hb6_2 := BoxAt.ext hb6_2 e7_5
    have := Ext.size e7_5
    replace eB := Ext.trans eB e7_5
    have hfhb7_5 : Fresh h7_1.size [h7_1.size] := Fresh.one _
    have hlhb7_5 := one_lt (show h7_1.size < h7_5.size by omega)
    try simp -implicitDefEqProofs (disch := first | decide | assumption | omega) only [go_sem, BoxAt.cell hb0_0, BoxAt.cell hb5_6, BoxAt.cell hb6_2, BoxAt.cell hb7_5, wrap_id]
    refine op_storeB (cs' := #[.int .i64 ((((hcP X).1).p)), vd7_1_0, vm7_1_0]) st30 hb7_5 rfl rfl rfl (by simp) (allOne_mem (l := [.int .i64 ((((hcP X).1).p)), vd7_1_0, vm7_1_0]) ⟨rfl, (OS.one hod7_1_0).1, (OS.one hom7_1_0).1, trivial⟩) rfl ?_
    intro h7_6 hb7_5 c7_6
    replace hod5_2_0 := OS.chg hod5_2_0 c7_6 (apart_lt hlhod5_2_0 hfhb7_5 (by omega))
    replace hom5_2_0 := OS.chg hom5_2_0 c7_6 (apart_lt hlhom5_2_0 hfhb7_5 (by omega))
    replace hod6_1 := OS.chg hod6_1 c7_6 (apart_lt hlhod6_1 hfhb7_5 (by omega))
    replace hom6_1 := OS.chg hom6_1 c7_6 (apart_lt hlhom6_1 hfhb7_5 (by omega))
    replace hod7_1_0 := OS.chg hod7_1_0 c7_6 (apart_lt hlhod7_1_0 hfhb7_5 (by omega))
    replace hom7_1_0 := OS.chg hom7_1_0 c7_6 (apart_lt hlhom7_1_0 hfhb7_5 (by omega))
    replace hb0_0 := BoxAt.chgA hb0_0 c7_6 (apart_lt hlhb0_0 hfhb7_5 (by omega))
    replace hb5_6 := BoxAt.chgA hb5_6 c7_6 (apart_lt hlhb5_6 hfhb7_5 (by omega))
    replace hb6_2 := BoxAt.chgA hb6_2 c7_6 (apart_lt hlhb6_2 hfhb7_5 (by omega))
    have := c7_6.size
    replace eB := Ext.then eB c7_6 (ge_of hfhb7_5 (by omega))
    try simp -implicitDefEqProofs (disch := first | decide | assumption | omega) only [go_sem, BoxAt.cell hb0_0, BoxAt.cell hb5_6, BoxAt.cell hb6_2, BoxAt.cell hb7_5, wrap_id]
    refine hK _ _ ?_
    clear hK K
    refine den_seq ?_
    refine den_seq ?_
    refine den_merge [(40, .bool (((!(true)) || (((hcP X).2) != ((hcP X).2)))))] [1, 4, 5, 6, 7, 8] (fun H => Ext h7_6 H) ?_ ?_
      -- a way
    · refine den_region TTok ?_
      intro K hK
      simp -implicitDefEqProofs (disch := first | decide | assumption | (simp (disch := decide) only [slotOf_zero, slotOf_succ, Option.map_some, puts_same, puts_ne, gv_bool, gv_undef, tt, tf, ft, ff, eq_self, if_true, if_false, Bool.false_eq_true, Bool.not_true, Bool.not_false]; done) | omega) only [go_sem, ld30, BoxAt.cell hb0_0, BoxAt.cell hb5_6, BoxAt.cell hb6_2, BoxAt.cell hb7_5, wrap_id]
      try simp -implicitDefEqProofs (disch := first | decide | assumption | omega) only [go_sem, BoxAt.cell hb0_0, BoxAt.cell hb5_6, BoxAt.cell hb6_2, BoxAt.cell hb7_5, wrap_id]
      refine CallA.mono (eqC_same _ _ ((hcP X).1) _ ⟨_, _, rfl, (OS.rd hod7_1_0), (OS.rd hom7_1_0)⟩ ⟨_, _, rfl, (OS.rd hod5_2_0), (OS.rd hom5_2_0)⟩) ?_
      intro v_ h8_2
      rintro ⟨rfl, e8_2⟩
      replace hod5_2_0 := OS.ext hod5_2_0 e8_2
      replace hom5_2_0 := OS.ext hom5_2_0 e8_2
      replace hod6_1 := OS.ext hod6_1 e8_2
      replace hom6_1 := OS.ext hom6_1 e8_2
      replace hod7_1_0 := OS.ext hod7_1_0 e8_2
      replace hom7_1_0 := OS.ext hom7_1_0 e8_2
      replace hb0_0 := BoxAt.ext hb0_0 e8_2
      replace hb5_6 := BoxAt.ext hb5_6 e8_2
      replace hb6_2 := BoxAt.ext hb6_2 e8_2
      replace hb7_5 := BoxAt.ext hb7_5 e8_2
      have := Ext.size e8_2
      replace eB := Ext.trans eB e8_2
      try simp -implicitDefEqProofs (disch := first | decide | assumption | (simp (disch := decide) only [slotOf_zero, slotOf_succ, Option.map_some, puts_same, puts_ne, gv_bool, gv_undef, tt, tf, ft, ff, eq_self, if_true, if_false, Bool.false_eq_true, Bool.not_true, Bool.not_false]; done) | omega) only [go_sem, BoxAt.cell hb0_0, BoxAt.cell hb5_6, BoxAt.cell hb6_2, BoxAt.cell hb7_5, wrap_id]
      try simp -implicitDefEqProofs (disch := first | decide | assumption | (simp (disch := decide) only [slotOf_zero, slotOf_succ, Option.map_some, puts_same, puts_ne, gv_bool, gv_undef, tt, tf, ft, ff, eq_self, if_true, if_false, Bool.false_eq_true, Bool.not_true, Bool.not_false]; done) | omega) only [go_sem, BoxAt.cell hb0_0, BoxAt.cell hb5_6, BoxAt.cell hb6_2, BoxAt.cell hb7_5, wrap_id]
      refine hK _ _ ?_
      clear hK K
      refine den_stop ?_
      refine ⟨?_, e8_2⟩
      first | (simp (disch := decide) only [go_sem, eq_self, Bool.true_and, Bool.and_true, Bool.false_and, Bool.and_false, Bool.true_or, Bool.or_true, Bool.false_or, Bool.or_false, if_true, if_false, Bool.false_eq_true]; done) | simp [HasL, sel, puts_at]
    intro en5 h6 e7
    replace hod5_2_0 := OS.ext hod5_2_0 e7
    replace hom5_2_0 := OS.ext hom5_2_0 e7
    replace hod6_1 := OS.ext hod6_1 e7
    replace hom6_1 := OS.ext hom6_1 e7
    replace hod7_1_0 := OS.ext hod7_1_0 e7
    replace hom7_1_0 := OS.ext hom7_1_0 e7
    replace hb0_0 := BoxAt.ext hb0_0 e7
    replace hb5_6 := BoxAt.ext hb5_6 e7
    replace hb6_2 := BoxAt.ext hb6_2 e7
    replace hb7_5 := BoxAt.ext hb7_5 e7
    have := Ext.size e7
    replace eB := Ext.trans eB e7
    simp (disch := decide) only [go_sem]
    refine den_cond rfl (fun c1 => ?_) (fun c1 => ?_)
    · try simp only [decide_eq_true_eq, decide_eq_false_iff_not, beq_iff_eq, beq_eq_false_iff_ne, bne_iff_ne, ne_eq, Bool.not_eq_true', Bool.not_eq_false', Bool.and_eq_true, Bool.or_eq_true, bne_eq_false_iff_eq] at c1
      refine den_seq ?_
      refine den_region TTok ?_
      intro K hK
      simp -implicitDefEqProofs (disch := first | decide | assumption | omega) only [go_sem, wrap_id]
      refine hK _ _ ?_
      clear hK K
      refine den_ret ?_
      simp (disch := decide) only [resP_1, puts_same, puts_ne]
      exact absurd c1 (by first | (simp; done) | (simp; omega) | omega | (simp [eqC_self]; done))
    · try simp only [decide_eq_true_eq, decide_eq_false_iff_not, beq_iff_eq, beq_eq_false_iff_ne, bne_iff_ne, ne_eq, Bool.not_eq_true', Bool.not_eq_false', Bool.and_eq_true, Bool.or_eq_true, bne_eq_false_iff_eq] at c1
      refine den_skip ?_
      refine den_seq ?_
      refine den_seq ?_
      refine den_draw TTok mixed [] [(0, true), (1, true), (2, false), (3, false), (4, true)] (by kernel_rfl) ?_
      intro K hK
      simp -implicitDefEqProofs (disch := first | decide | assumption | omega) only [go_sem, ld30, ld25, BoxAt.cell hb0_0, BoxAt.cell hb5_6, BoxAt.cell hb6_2, BoxAt.cell hb7_5, wrap_id]
      try simp -implicitDefEqProofs (disch := first | decide | assumption | omega) only [go_sem, BoxAt.cell hb0_0, BoxAt.cell hb5_6, BoxAt.cell hb6_2, BoxAt.cell hb7_5, wrap_id]
      refine CallA.mono (toC_ok _ X _ ⟨_, _, rfl, (RdS.pres hdX (Ext.pres eB)), (RdS.pres hmX (Ext.pres eB))⟩ hMX) ?_
      intro v_ h10_2
      rintro ⟨vd10_2, vm10_2, fd10_2, fm10_2, rfl, hod10_2, hom10_2, hf10_2, e10_2⟩
      replace hod5_2_0 := OS.ext hod5_2_0 e10_2
      replace hom5_2_0 := OS.ext hom5_2_0 e10_2
      replace hod6_1 := OS.ext hod6_1 e10_2
      replace hom6_1 := OS.ext hom6_1 e10_2
      replace hod7_1_0 := OS.ext hod7_1_0 e10_2
      replace hom7_1_0 := OS.ext hom7_1_0 e10_2
      replace hb0_0 := BoxAt.ext hb0_0 e10_2
      replace hb5_6 := BoxAt.ext hb5_6 e10_2
      replace hb6_2 := BoxAt.ext hb6_2 e10_2
      replace hb7_5 := BoxAt.ext hb7_5 e10_2
      have := Ext.size e10_2
      replace eB := Ext.trans eB e10_2
      have hfd10_2 := hf10_2.left
      have hfm10_2 := hf10_2.right
      have hlhod10_2 := OS.lt hod10_2
      have hlhom10_2 := OS.lt hom10_2
      have ap8 : Apart fd10_2 fm10_2 := apart_nodup hf10_2
      try simp (disch := decide) only [outv_some, outv_none, put_puts]
      refine plK_pres (Ext.pres e10_2) ?_
      try simp -implicitDefEqProofs (disch := first | decide | assumption | omega) only [go_sem, BoxAt.cell hb0_0, BoxAt.cell hb5_6, BoxAt.cell hb6_2, BoxAt.cell hb7_5, wrap_id]
      try simp -implicitDefEqProofs (disch := first | decide | assumption | omega) only [go_sem, BoxAt.cell hb0_0, BoxAt.cell hb5_6, BoxAt.cell hb6_2, BoxAt.cell hb7_5, wrap_id]
      refine CallA.mono (eqC_same _ _ X _ ⟨_, _, rfl, (OS.rd hod6_1), (OS.rd hom6_1)⟩ ⟨_, _, rfl, (OS.rd hod10_2), (OS.rd hom10_2)⟩) ?_
      intro v_ h10_3
      rintro ⟨rfl, e10_3⟩
      replace hod5_2_0 := OS.ext hod5_2_0 e10_3
      replace hom5_2_0 := OS.ext hom5_2_0 e10_3
      replace hod6_1 := OS.ext hod6_1 e10_3
      replace hom6_1 := OS.ext hom6_1 e10_3
      replace hod7_1_0 := OS.ext hod7_1_0 e10_3
      replace hom7_1_0 := OS.ext hom7_1_0 e10_3
      replace hod10_2 := OS.ext hod10_2 e10_3
      replace hom10_2 := OS.ext hom10_2 e10_3
      replace hb0_0 := BoxAt.ext hb0_0 e10_3
      replace hb5_6 := BoxAt.ext hb5_6 e10_3
      replace hb6_2 := BoxAt.ext hb6_2 e10_3
      replace hb7_5 := BoxAt.ext hb7_5 e10_3
      have := Ext.size e10_3
      replace eB := Ext.trans eB e10_3
      try simp (disch := decide) only [outv_some, outv_none, put_puts]
      refine plK_pres (Ext.pres e10_3) ?_
      try simp -implicitDefEqProofs (disch := first | decide | assumption | omega) only [go_sem, BoxAt.cell hb0_0, BoxAt.cell hb5_6, BoxAt.cell hb6_2, BoxAt.cell hb7_5, wrap_id]
      refine hK _ _ ?_
      clear hK K
      refine den_cond rfl (fun c2 => ?_) (fun c2 => ?_)
      · try simp only [decide_eq_true_eq, decide_eq_false_iff_not, beq_iff_eq, beq_eq_false_iff_ne, bne_iff_ne, ne_eq, Bool.not_eq_true', Bool.not_eq_false', Bool.and_eq_true, Bool.or_eq_true, bne_eq_false_iff_eq] at c2
        refine den_seq ?_
        refine den_region TTok ?_
        intro K hK
        simp -implicitDefEqProofs (disch := first | decide | assumption | omega) only [go_sem, wrap_id]
        refine hK _ _ ?_
        clear hK K
        refine den_ret ?_
        simp (disch := decide) only [resP_1, puts_same, puts_ne]
        exact absurd c2 (by first | (simp; done) | (simp; omega) | omega | (simp [eqC_self]; done))
      · try simp only [decide_eq_true_eq, decide_eq_false_iff_not, beq_iff_eq, beq_eq_false_iff_ne, bne_iff_ne, ne_eq, Bool.not_eq_true', Bool.not_eq_false', Bool.and_eq_true, Bool.or_eq_true, bne_eq_false_iff_eq] at c2
        refine den_skip ?_
        refine den_seq ?_
        refine den_region TTok ?_
        intro K hK
        simp -implicitDefEqProofs (disch := first | decide | assumption | omega) only [go_sem, BoxAt.cell hb0_0, BoxAt.cell hb5_6, BoxAt.cell hb6_2, BoxAt.cell hb7_5, wrap_id]
        refine hK _ _ ?_
        clear hK K
        refine den_seq ?_
        refine den_region TTok ?_
        intro K hK
        simp -implicitDefEqProofs (disch := first | decide | assumption | omega) only [go_sem, ld30, BoxAt.cell hb0_0, BoxAt.cell hb5_6, BoxAt.cell hb6_2, BoxAt.cell hb7_5, wrap_id]
        try simp -implicitDefEqProofs (disch := first | decide | assumption | omega) only [go_sem, BoxAt.cell hb0_0, BoxAt.cell hb5_6, BoxAt.cell hb6_2, BoxAt.cell hb7_5, wrap_id]
        refine CallA.mono (markCx_ok _ _ X (1 : Int) _ _ _ hod6_1 hom6_1 (List.nodup_append.2 ⟨hfd6_1.nodup, hfm6_1.nodup, fun b hb c hc e => ap3 b hb (e ▸ hc)⟩) (by omega)) ?_
        intro v_ h13_2
        rintro ⟨rfl, hogd13_2, hogm13_2, cg13_2⟩
        replace hod5_2_0 := OS.chg hod5_2_0 cg13_2 (Apart.app (apart_lt hlhod5_2_0 hfd6_1 (by omega)) (apart_lt hlhod5_2_0 hfm6_1 (by omega)))
        replace hom5_2_0 := OS.chg hom5_2_0 cg13_2 (Apart.app (apart_lt hlhom5_2_0 hfd6_1 (by omega)) (apart_lt hlhom5_2_0 hfm6_1 (by omega)))
        replace hod7_1_0 := OS.chg hod7_1_0 cg13_2 (Apart.app (apart_gt hfd7_1_0 hlhod6_1 (by omega)) (apart_gt hfd7_1_0 hlhom6_1 (by omega)))
        replace hom7_1_0 := OS.chg hom7_1_0 cg13_2 (Apart.app (apart_gt hfm7_1_0 hlhod6_1 (by omega)) (apart_gt hfm7_1_0 hlhom6_1 (by omega)))
        replace hb0_0 := BoxAt.chgA hb0_0 cg13_2 (Apart.app (apart_lt hlhb0_0 hfd6_1 (by omega)) (apart_lt hlhb0_0 hfm6_1 (by omega)))
        replace hb5_6 := BoxAt.chgA hb5_6 cg13_2 (Apart.app (apart_lt hlhb5_6 hfd6_1 (by omega)) (apart_lt hlhb5_6 hfm6_1 (by omega)))
        replace hb6_2 := BoxAt.chgA hb6_2 cg13_2 (Apart.app (apart_gt hfhb6_2 hlhod6_1 (by omega)) (apart_gt hfhb6_2 hlhom6_1 (by omega)))
        replace hb7_5 := BoxAt.chgA hb7_5 cg13_2 (Apart.app (apart_gt hfhb7_5 hlhod6_1 (by omega)) (apart_gt hfhb7_5 hlhom6_1 (by omega)))
        have := cg13_2.size
        replace eB := Ext.then eB cg13_2 (ge_app (ge_of hfd6_1 (by omega)) (ge_of hfm6_1 (by omega)))
        have ap9 : Apart fm6_1 fd6_1 := (Apart.symm ap3)
        have hlhogd13_2 := hlhod6_1
        have ap10 : Apart fd6_1 fm6_1 := (Apart.symm ap9)
        have hlhogm13_2 := hlhom6_1
        try simp -implicitDefEqProofs (disch := first | decide | assumption | omega) only [go_sem, BoxAt.cell hb0_0, BoxAt.cell hb5_6, BoxAt.cell hb6_2, BoxAt.cell hb7_5, wrap_id]
        refine hK _ _ ?_
        clear hK K
        refine den_seq ?_
        refine den_seq ?_
        refine den_merge [(61, .bool ((((decide (((1 : Int) + cnt1 X.dims + cntL cnt2 X.maps) < (0 : Int))) || (!(true))) || (((hcP X).2) != ((hcP X).2)))))] [1, 4, 5, 7] (fun H => Ext h13_2 H) ?_ ?_
          -- a way
        · refine den_region TTok ?_
          intro K hK
          simp -implicitDefEqProofs (disch := first | decide | assumption | (simp (disch := decide) only [slotOf_zero, slotOf_succ, Option.map_some, puts_same, puts_ne, gv_bool, gv_undef, tt, tf, ft, ff, eq_self, if_true, if_false, Bool.false_eq_true, Bool.not_true, Bool.not_false]; done) | omega) only [go_sem, BoxAt.cell hb0_0, BoxAt.cell hb5_6, BoxAt.cell hb7_5, wrap_id]
          refine opsP_F (by simp (disch := decide) only [slotOf_zero, slotOf_succ, Option.map_some, puts_same, puts_ne, gv_bool, gv_undef, tt, tf, ft, ff, eq_self, if_true, if_false, Bool.false_eq_true, Bool.not_true, Bool.not_false]; rfl) (fun g11 => ?_) (fun g11 => ?_)
          · try simp -implicitDefEqProofs (disch := first | decide | assumption | (simp (disch := decide) only [slotOf_zero, slotOf_succ, Option.map_some, puts_same, puts_ne, gv_bool, gv_undef, tt, tf, ft, ff, eq_self, if_true, if_false, Bool.false_eq_true, Bool.not_true, Bool.not_false, g11]; done) | omega) only [go_sem, ld30, BoxAt.cell hb0_0, BoxAt.cell hb5_6, BoxAt.cell hb7_5, wrap_id, g11, eq_self, if_true, if_false, Bool.false_eq_true]
            try simp -implicitDefEqProofs (disch := first | decide | assumption | omega) only [go_sem, BoxAt.cell hb0_0, BoxAt.cell hb5_6, BoxAt.cell hb7_5, wrap_id]
            refine CallA.mono (eqC_same _ _ ((hcP X).1) _ ⟨_, _, rfl, (OS.rd hod7_1_0), (OS.rd hom7_1_0)⟩ ⟨_, _, rfl, (OS.rd hod5_2_0), (OS.rd hom5_2_0)⟩) ?_
            intro v_ h14_5
            rintro ⟨rfl, e14_5⟩
            replace hod5_2_0 := OS.ext hod5_2_0 e14_5
            replace hom5_2_0 := OS.ext hom5_2_0 e14_5
            replace hod7_1_0 := OS.ext hod7_1_0 e14_5
            replace hom7_1_0 := OS.ext hom7_1_0 e14_5
            replace hb0_0 := BoxAt.ext hb0_0 e14_5
            replace hb5_6 := BoxAt.ext hb5_6 e14_5
            replace hb7_5 := BoxAt.ext hb7_5 e14_5
            have := Ext.size e14_5
            replace eB := Ext.trans eB e14_5
            try simp -implicitDefEqProofs (disch := first | decide | assumption | (simp (disch := decide) only [slotOf_zero, slotOf_succ, Option.map_some, puts_same, puts_ne, gv_bool, gv_undef, tt, tf, ft, ff, eq_self, if_true, if_false, Bool.false_eq_true, Bool.not_true, Bool.not_false, g11]; done) | omega) only [go_sem, BoxAt.cell hb0_0, BoxAt.cell hb5_6, BoxAt.cell hb7_5, wrap_id, g11, eq_self, if_true, if_false, Bool.false_eq_true]
            try simp -implicitDefEqProofs (disch := first | decide | assumption | (simp (disch := decide) only [slotOf_zero, slotOf_succ, Option.map_some, puts_same, puts_ne, gv_bool, gv_undef, tt, tf, ft, ff, eq_self, if_true, if_false, Bool.false_eq_true, Bool.not_true, Bool.not_false, g11]; done) | omega) only [go_sem, BoxAt.cell hb0_0, BoxAt.cell hb5_6, BoxAt.cell hb7_5, wrap_id, g11, eq_self, if_true, if_false, Bool.false_eq_true]
            refine hK _ _ ?_
            clear hK K
            refine den_stop ?_
            refine ⟨?_, e14_5⟩
            first | (simp (disch := decide) only [go_sem, g11, eq_self, Bool.true_and, Bool.and_true, Bool.false_and, Bool.and_false, Bool.true_or, Bool.or_true, Bool.false_or, Bool.or_false, if_true, if_false, Bool.false_eq_true]; done) | simp [HasL, sel, puts_at, g11]
          · try simp -implicitDefEqProofs (disch := first | decide | assumption | (simp (disch := decide) only [slotOf_zero, slotOf_succ, Option.map_some, puts_same, puts_ne, gv_bool, gv_undef, tt, tf, ft, ff, eq_self, if_true, if_false, Bool.false_eq_true, Bool.not_true, Bool.not_false, g11]; done) | omega) only [go_sem, BoxAt.cell hb0_0, BoxAt.cell hb5_6, BoxAt.cell hb7_5, wrap_id, g11, eq_self, if_true, if_false, Bool.false_eq_true]
            try simp -implicitDefEqProofs (disch := first | decide | assumption | (simp (disch := decide) only [slotOf_zero, slotOf_succ, Option.map_some, puts_same, puts_ne, gv_bool, gv_undef, tt, tf, ft, ff, eq_self, if_true, if_false, Bool.false_eq_true, Bool.not_true, Bool.not_false, g11]; done) | omega) only [go_sem, BoxAt.cell hb0_0, BoxAt.cell hb5_6, BoxAt.cell hb7_5, wrap_id, g11, eq_self, if_true, if_false, Bool.false_eq_true]
            refine hK _ _ ?_
            clear hK K
            refine den_stop ?_
            refine ⟨?_, Ext.refl _⟩
            first | (simp (disch := decide) only [go_sem, g11, eq_self, Bool.true_and, Bool.and_true, Bool.false_and, Bool.and_false, Bool.true_or, Bool.or_true, Bool.false_or, Bool.or_false, if_true, if_false, Bool.false_eq_true]; done) | simp [HasL, sel, puts_at, g11]
        intro en12 h13 e14
        replace hod5_2_0 := OS.ext hod5_2_0 e14
        replace hom5_2_0 := OS.ext hom5_2_0 e14
        replace hod7_1_0 := OS.ext hod7_1_0 e14
        replace hom7_1_0 := OS.ext hom7_1_0 e14
        replace hb0_0 := BoxAt.ext hb0_0 e14
        replace hb5_6 := BoxAt.ext hb5_6 e14
        replace hb7_5 := BoxAt.ext hb7_5 e14
        have := Ext.size e14
        replace eB := Ext.trans eB e14
        simp (disch := decide) only [go_sem]
        refine den_cond rfl (fun c3 => ?_) (fun c3 => ?_)
        · try simp only [decide_eq_true_eq, decide_eq_false_iff_not, beq_iff_eq, beq_eq_false_iff_ne, bne_iff_ne, ne_eq, Bool.not_eq_true', Bool.not_eq_false', Bool.and_eq_true, Bool.or_eq_true, bne_eq_false_iff_eq] at c3
          refine den_seq ?_
          refine den_region TTok ?_
          intro K hK
          simp -implicitDefEqProofs (disch := first | decide | assumption | omega) only [go_sem, wrap_id]
          refine hK _ _ ?_
          clear hK K
          refine den_ret ?_
          simp (disch := decide) only [resP_1, puts_same, puts_ne]
          exact absurd c3 (by first | (simp; done) | (simp; omega) | omega | (simp [eqC_self]; done))
        · try simp only [decide_eq_true_eq, decide_eq_false_iff_not, beq_iff_eq, beq_eq_false_iff_ne, bne_iff_ne, ne_eq, Bool.not_eq_true', Bool.not_eq_false', Bool.and_eq_true, Bool.or_eq_true, bne_eq_false_iff_eq] at c3
          refine den_skip ?_
          refine den_seq ?_
          refine den_region TTok ?_
          intro K hK
          simp -implicitDefEqProofs (disch := first | decide | assumption | omega) only [go_sem, BoxAt.cell hb0_0, BoxAt.cell hb5_6, BoxAt.cell hb7_5, wrap_id]
          refine hK _ _ ?_
          clear hK K
          refine den_seq ?_
          refine den_region TTok ?_
          intro K hK
          simp -implicitDefEqProofs (disch := first | decide | assumption | omega) only [go_sem, ld30, BoxAt.cell hb0_0, BoxAt.cell hb5_6, BoxAt.cell hb7_5, wrap_id]
          try simp -implicitDefEqProofs (disch := first | decide | assumption | omega) only [go_sem, BoxAt.cell hb0_0, BoxAt.cell hb5_6, BoxAt.cell hb7_5, wrap_id]
          refine CallA.mono (markCx_ok _ _ ((hcP X).1) (1 : Int) _ _ _ hod7_1_0 hom7_1_0 (List.nodup_append.2 ⟨hfd7_1_0.nodup, hfm7_1_0.nodup, fun b hb c hc e => ap4 b hb (e ▸ hc)⟩) (by omega)) ?_
          intro v_ h17_2
          rintro ⟨rfl, hogd17_2, hogm17_2, cg17_2⟩
          replace hod5_2_0 := OS.chg hod5_2_0 cg17_2 (Apart.app (apart_lt hlhod5_2_0 hfd7_1_0 (by omega)) (apart_lt hlhod5_2_0 hfm7_1_0 (by omega)))
          replace hom5_2_0 := OS.chg hom5_2_0 cg17_2 (Apart.app (apart_lt hlhom5_2_0 hfd7_1_0 (by omega)) (apart_lt hlhom5_2_0 hfm7_1_0 (by omega)))
          replace hb0_0 := BoxAt.chgA hb0_0 cg17_2 (Apart.app (apart_lt hlhb0_0 hfd7_1_0 (by omega)) (apart_lt hlhb0_0 hfm7_1_0 (by omega)))
          replace hb5_6 := BoxAt.chgA hb5_6 cg17_2 (Apart.app (apart_lt hlhb5_6 hfd7_1_0 (by omega)) (apart_lt hlhb5_6 hfm7_1_0 (by omega)))
          replace hb7_5 := BoxAt.chgA hb7_5 cg17_2 (Apart.app (apart_gt hfhb7_5 hlhod7_1_0 (by omega)) (apart_gt hfhb7_5 hlhom7_1_0 (by omega)))
          have := cg17_2.size
          replace eB := Ext.then eB cg17_2 (ge_app (ge_of hfd7_1_0 (by omega)) (ge_of hfm7_1_0 (by omega)))
          have ap15 : Apart fm7_1_0 fd7_1_0 := (Apart.symm ap4)
          have hlhogd17_2 := hlhod7_1_0
          have ap16 : Apart fd7_1_0 fm7_1_0 := (Apart.symm ap15)
          have hlhogm17_2 := hlhom7_1_0
          try simp -implicitDefEqProofs (disch := first | decide | assumption | omega) only [go_sem, BoxAt.cell hb0_0, BoxAt.cell hb5_6, BoxAt.cell hb7_5, wrap_id]
          refine hK _ _ ?_
          clear hK K
          refine den_seq ?_
          refine den_region TTok ?_
          intro K hK
          simp -implicitDefEqProofs (disch := first | decide | assumption | omega) only [go_sem, BoxAt.cell hb0_0, BoxAt.cell hb5_6, BoxAt.cell hb7_5, wrap_id]
          refine hK _ _ ?_
          clear hK K
          refine den_seq ?_
          refine den_region TTok ?_
          intro K hK
          simp -implicitDefEqProofs (disch := first | decide | assumption | omega) only [go_sem, ld30, BoxAt.cell hb0_0, BoxAt.cell hb5_6, BoxAt.cell hb7_5, wrap_id]
          try simp -implicitDefEqProofs (disch := first | decide | assumption | omega) only [go_sem, BoxAt.cell hb0_0, BoxAt.cell hb5_6, BoxAt.cell hb7_5, wrap_id]
          refine CallA.mono (heldCx_ok _ _ ((hcP X).1) (1 : Int) _ (OS.rd hogd17_2) (OS.rd hogm17_2) (by omega)) ?_
          intro v_ h19_2
          rintro ⟨rfl, e19_2⟩
          replace hod5_2_0 := OS.ext hod5_2_0 e19_2
          replace hom5_2_0 := OS.ext hom5_2_0 e19_2
          replace hogd17_2 := OS.ext hogd17_2 e19_2
          replace hogm17_2 := OS.ext hogm17_2 e19_2
          replace hb0_0 := BoxAt.ext hb0_0 e19_2
          replace hb5_6 := BoxAt.ext hb5_6 e19_2
          replace hb7_5 := BoxAt.ext hb7_5 e19_2
          have := Ext.size e19_2
          replace eB := Ext.trans eB e19_2
          try simp -implicitDefEqProofs (disch := first | decide | assumption | omega) only [go_sem, BoxAt.cell hb0_0, BoxAt.cell hb5_6, BoxAt.cell hb7_5, wrap_id]
          refine hK _ _ ?_
          clear hK K
          refine den_seq ?_
          refine den_seq ?_
          refine den_region TTok ?_
          intro K hK
          simp -implicitDefEqProofs (disch := first | decide | assumption | omega) only [go_sem, BoxAt.cell hb0_0, BoxAt.cell hb5_6, BoxAt.cell hb7_5, wrap_id]
          refine hK _ _ ?_
          clear hK K
          refine den_cond rfl (fun c4 => ?_) (fun c4 => ?_)
          · try simp only [decide_eq_true_eq, decide_eq_false_iff_not, beq_iff_eq, beq_eq_false_iff_ne, bne_iff_ne, ne_eq, Bool.not_eq_true', Bool.not_eq_false', Bool.and_eq_true, Bool.or_eq_true, bne_eq_false_iff_eq] at c4
            refine den_seq ?_
            refine den_region TTok ?_
            intro K hK
            simp -implicitDefEqProofs (disch := first | decide | assumption | omega) only [go_sem, wrap_id]
            refine hK _ _ ?_
            clear hK K
            refine den_ret ?_
            simp (disch := decide) only [resP_1, puts_same, puts_ne]
            exact absurd c4 (by first | (simp; done) | (simp; omega) | omega | (simp [eqC_self]; done))
          · try simp only [decide_eq_true_eq, decide_eq_false_iff_not, beq_iff_eq, beq_eq_false_iff_ne, bne_iff_ne, ne_eq, Bool.not_eq_true', Bool.not_eq_false', Bool.and_eq_true, Bool.or_eq_true, bne_eq_false_iff_eq] at c4
            refine den_skip ?_
            refine den_seq ?_
            refine den_seq ?_
            refine den_region TTok ?_
            intro K hK
            simp -implicitDefEqProofs (disch := first | decide | assumption | omega) only [go_sem, BoxAt.cell hb0_0, BoxAt.cell hb5_6, BoxAt.cell hb7_5, wrap_id]
            refine hK _ _ ?_
            clear hK K
            refine den_cond rfl (fun c5 => ?_) (fun c5 => ?_)
            · try simp only [decide_eq_true_eq, decide_eq_false_iff_not, beq_iff_eq, beq_eq_false_iff_ne, bne_iff_ne, ne_eq, Bool.not_eq_true', Bool.not_eq_false', Bool.and_eq_true, Bool.or_eq_true, bne_eq_false_iff_eq] at c5
              refine den_seq ?_
              refine den_region TTok ?_
              intro K hK
              simp -implicitDefEqProofs (disch := first | decide | assumption | omega) only [go_sem, wrap_id]
              refine hK _ _ ?_
              clear hK K
              refine den_ret ?_
              simp (disch := decide) only [resP_1, puts_same, puts_ne]
              exact absurd c5 (by first | (simp; done) | (simp; omega) | omega | (simp [eqC_self]; done))
            · try simp only [decide_eq_true_eq, decide_eq_false_iff_not, beq_iff_eq, beq_eq_false_iff_ne, bne_iff_ne, ne_eq, Bool.not_eq_true', Bool.not_eq_false', Bool.and_eq_true, Bool.or_eq_true, bne_eq_false_iff_eq] at c5
              refine den_skip ?_
              refine den_seq ?_
              refine den_region TTok ?_
              intro K hK
              simp -implicitDefEqProofs (disch := first | decide | assumption | omega) only [go_sem, ld25, BoxAt.cell hb0_0, BoxAt.cell hb5_6, BoxAt.cell hb7_5, wrap_id]
              try simp -implicitDefEqProofs (disch := first | decide | assumption | omega) only [go_sem, BoxAt.cell hb0_0, BoxAt.cell hb5_6, BoxAt.cell hb7_5, wrap_id]
              refine CallA.mono (toC_ok _ X _ ⟨_, _, rfl, (RdS.pres hdX (Ext.pres eB)), (RdS.pres hmX (Ext.pres eB))⟩ hMX) ?_
              intro v_ h24_1
              rintro ⟨vd24_1, vm24_1, fd24_1, fm24_1, rfl, hod24_1, hom24_1, hf24_1, e24_1⟩
              replace hod5_2_0 := OS.ext hod5_2_0 e24_1
              replace hom5_2_0 := OS.ext hom5_2_0 e24_1
              replace hogd17_2 := OS.ext hogd17_2 e24_1
              replace hogm17_2 := OS.ext hogm17_2 e24_1
              replace hb0_0 := BoxAt.ext hb0_0 e24_1
              replace hb5_6 := BoxAt.ext hb5_6 e24_1
              replace hb7_5 := BoxAt.ext hb7_5 e24_1
              have := Ext.size e24_1
              replace eB := Ext.trans eB e24_1
              have hfd24_1 := hf24_1.left
              have hfm24_1 := hf24_1.right
              have hlhod24_1 := OS.lt hod24_1
              have hlhom24_1 := OS.lt hom24_1
              have ap17 : Apart fd24_1 fm24_1 := apart_nodup hf24_1
              try simp -implicitDefEqProofs (disch := first | decide | assumption | omega) only [go_sem, BoxAt.cell hb0_0, BoxAt.cell hb5_6, BoxAt.cell hb7_5, wrap_id]
              try simp -implicitDefEqProofs (disch := first | decide | assumption | omega) only [go_sem, BoxAt.cell hb0_0, BoxAt.cell hb5_6, BoxAt.cell hb7_5, wrap_id]
              refine CallA.mono (iHC_ok _ X _ ⟨_, _, rfl, (OS.rd hod24_1), (OS.rd hom24_1)⟩ ) ?_
              intro v_ h24_2
              rintro ⟨vd24_2_0, vm24_2_0, fd24_2_0, fm24_2_0, rfl, hod24_2_0, hom24_2_0, hf24_2_0, e24_2⟩
              replace hod5_2_0 := OS.ext hod5_2_0 e24_2
              replace hom5_2_0 := OS.ext hom5_2_0 e24_2
              replace hogd17_2 := OS.ext hogd17_2 e24_2
              replace hogm17_2 := OS.ext hogm17_2 e24_2
              replace hod24_1 := OS.ext hod24_1 e24_2
              replace hom24_1 := OS.ext hom24_1 e24_2
              replace hb0_0 := BoxAt.ext hb0_0 e24_2
              replace hb5_6 := BoxAt.ext hb5_6 e24_2
              replace hb7_5 := BoxAt.ext hb7_5 e24_2
              have := Ext.size e24_2
              replace eB := Ext.trans eB e24_2
              have hfd24_2_0 := hf24_2_0.left
              have hfm24_2_0 := hf24_2_0.right
              have hlhod24_2_0 := OS.lt hod24_2_0
              have hlhom24_2_0 := OS.lt hom24_2_0
              have ap18 : Apart fd24_2_0 fm24_2_0 := apart_nodup hf24_2_0
              try simp -implicitDefEqProofs (disch := first | decide | assumption | omega) only [go_sem, BoxAt.cell hb0_0, BoxAt.cell hb5_6, BoxAt.cell hb7_5, wrap_id]
              refine op_alloc (cs := #[.int .i64 0, .slice none 0 0, .slice none 0 0]) (by kernel_rfl) ?_
              intro h24_6 e24_6 hb24_6 z24_6
              replace hod5_2_0 := OS.ext hod5_2_0 e24_6
              replace hom5_2_0 := OS.ext hom5_2_0 e24_6
              replace hogd17_2 := OS.ext hogd17_2 e24_6
              replace hogm17_2 := OS.ext hogm17_2 e24_6
              replace hod24_1 := OS.ext hod24_1 e24_6
              replace hom24_1 := OS.ext hom24_1 e24_6
              replace hod24_2_0 := OS.ext hod24_2_0 e24_6
              replace hom24_2_0 := OS.ext hom24_2_0 e24_6
              replace hb0_0 := BoxAt.ext hb0_0 e24_6
              replace hb5_6 := BoxAt.ext hb5_6 e24_6
              replace hb7_5 := BoxAt.ext hb7_5 e24_6
              have := Ext.size e24_6
              replace eB := Ext.trans eB e24_6
              have hfhb24_6 : Fresh h24_2.size [h24_2.size] := Fresh.one _
              have hlhb24_6 := one_lt (show h24_2.size < h24_6.size by omega)
              try simp -implicitDefEqProofs (disch := first | decide | assumption | omega) only [go_sem, BoxAt.cell hb0_0, BoxAt.cell hb5_6, BoxAt.cell hb7_5, BoxAt.cell hb24_6, wrap_id]
              refine op_storeB (cs' := #[.int .i64 ((((hcP X).1).p)), vd24_2_0, vm24_2_0]) st30 hb24_6 rfl rfl rfl (by simp) (allOne_mem (l := [.int .i64 ((((hcP X).1).p)), vd24_2_0, vm24_2_0]) ⟨rfl, (OS.one hod24_2_0).1, (OS.one hom24_2_0).1, trivial⟩) rfl ?_
              intro h24_7 hb24_6 c24_7
              replace hod5_2_0 := OS.chg hod5_2_0 c24_7 (apart_lt hlhod5_2_0 hfhb24_6 (by omega))
              replace hom5_2_0 := OS.chg hom5_2_0 c24_7 (apart_lt hlhom5_2_0 hfhb24_6 (by omega))
              replace hogd17_2 := OS.chg hogd17_2 c24_7 (apart_lt hlhogd17_2 hfhb24_6 (by omega))
              replace hogm17_2 := OS.chg hogm17_2 c24_7 (apart_lt hlhogm17_2 hfhb24_6 (by omega))
              replace hod24_1 := OS.chg hod24_1 c24_7 (apart_lt hlhod24_1 hfhb24_6 (by omega))
              replace hom24_1 := OS.chg hom24_1 c24_7 (apart_lt hlhom24_1 hfhb24_6 (by omega))
              replace hod24_2_0 := OS.chg hod24_2_0 c24_7 (apart_lt hlhod24_2_0 hfhb24_6 (by omega))
              replace hom24_2_0 := OS.chg hom24_2_0 c24_7 (apart_lt hlhom24_2_0 hfhb24_6 (by omega))
              replace hb0_0 := BoxAt.chgA hb0_0 c24_7 (apart_lt hlhb0_0 hfhb24_6 (by omega))
              replace hb5_6 := BoxAt.chgA hb5_6 c24_7 (apart_lt hlhb5_6 hfhb24_6 (by omega))
              replace hb7_5 := BoxAt.chgA hb7_5 c24_7 (apart_lt hlhb7_5 hfhb24_6 (by omega))
              have := c24_7.size
              replace eB := Ext.then eB c24_7 (ge_of hfhb24_6 (by omega))
              try simp -implicitDefEqProofs (disch := first | decide | assumption | omega) only [go_sem, BoxAt.cell hb0_0, BoxAt.cell hb5_6, BoxAt.cell hb7_5, BoxAt.cell hb24_6, wrap_id]
              refine hK _ _ ?_
              clear hK K
              refine den_seq ?_
              refine den_seq ?_
              refine den_merge [(87, .bool (((!(true)) || (((hcP X).2) != ((hcP X).2)))))] [7, 10] (fun H => Ext h24_7 H) ?_ ?_
                -- a way
              · refine den_region TTok ?_
                intro K hK
                simp -implicitDefEqProofs (disch := first | decide | assumption | (simp (disch := decide) only [slotOf_zero, slotOf_succ, Option.map_some, puts_same, puts_ne, gv_bool, gv_undef, tt, tf, ft, ff, eq_self, if_true, if_false, Bool.false_eq_true, Bool.not_true, Bool.not_false]; done) | omega) only [go_sem, ld30, BoxAt.cell hb5_6, BoxAt.cell hb7_5, BoxAt.cell hb24_6, wrap_id]
                try simp -implicitDefEqProofs (disch := first | decide | assumption | omega) only [go_sem, BoxAt.cell hb5_6, BoxAt.cell hb7_5, BoxAt.cell hb24_6, wrap_id]
                refine CallA.mono (eqC_same _ _ ((hcP X).1) _ ⟨_, _, rfl, (OS.rd hod24_2_0), (OS.rd hom24_2_0)⟩ ⟨_, _, rfl, (OS.rd hod5_2_0), (OS.rd hom5_2_0)⟩) ?_
                intro v_ h25_2
                rintro ⟨rfl, e25_2⟩
                replace hod5_2_0 := OS.ext hod5_2_0 e25_2
                replace hom5_2_0 := OS.ext hom5_2_0 e25_2
                replace hogd17_2 := OS.ext hogd17_2 e25_2
                replace hogm17_2 := OS.ext hogm17_2 e25_2
                replace hod24_2_0 := OS.ext hod24_2_0 e25_2
                replace hom24_2_0 := OS.ext hom24_2_0 e25_2
                replace hb5_6 := BoxAt.ext hb5_6 e25_2
                replace hb7_5 := BoxAt.ext hb7_5 e25_2
                replace hb24_6 := BoxAt.ext hb24_6 e25_2
                have := Ext.size e25_2
                replace eB := Ext.trans eB e25_2
                try simp -implicitDefEqProofs (disch := first | decide | assumption | (simp (disch := decide) only [slotOf_zero, slotOf_succ, Option.map_some, puts_same, puts_ne, gv_bool, gv_undef, tt, tf, ft, ff, eq_self, if_true, if_false, Bool.false_eq_true, Bool.not_true, Bool.not_false]; done) | omega) only [go_sem, BoxAt.cell hb5_6, BoxAt.cell hb7_5, BoxAt.cell hb24_6, wrap_id]
                try simp -implicitDefEqProofs (disch := first | decide | assumption | (simp (disch := decide) only [slotOf_zero, slotOf_succ, Option.map_some, puts_same, puts_ne, gv_bool, gv_undef, tt, tf, ft, ff, eq_self, if_true, if_false, Bool.false_eq_true, Bool.not_true, Bool.not_false]; done) | omega) only [go_sem, BoxAt.cell hb5_6, BoxAt.cell hb7_5, BoxAt.cell hb24_6, wrap_id]
                refine hK _ _ ?_
                clear hK K
                refine den_stop ?_
                refine ⟨?_, e25_2⟩
                first | (simp (disch := decide) only [go_sem, eq_self, Bool.true_and, Bool.and_true, Bool.false_and, Bool.and_false, Bool.true_or, Bool.or_true, Bool.false_or, Bool.or_false, if_true, if_false, Bool.false_eq_true]; done) | simp [HasL, sel, puts_at]
              intro en19 h20 e21
              replace hod5_2_0 := OS.ext hod5_2_0 e21
              replace hom5_2_0 := OS.ext hom5_2_0 e21
              replace hogd17_2 := OS.ext hogd17_2 e21
              replace hogm17_2 := OS.ext hogm17_2 e21
              replace hod24_2_0 := OS.ext hod24_2_0 e21
              replace hom24_2_0 := OS.ext hom24_2_0 e21
              replace hb5_6 := BoxAt.ext hb5_6 e21
              replace hb7_5 := BoxAt.ext hb7_5 e21
              replace hb24_6 := BoxAt.ext hb24_6 e21
              have := Ext.size e21
              replace eB := Ext.trans eB e21
              simp (disch := decide) only [go_sem]
              refine den_cond rfl (fun c6 => ?_) (fun c6 => ?_)
              · try simp only [decide_eq_true_eq, decide_eq_false_iff_not, beq_iff_eq, beq_eq_false_iff_ne, bne_iff_ne, ne_eq, Bool.not_eq_true', Bool.not_eq_false', Bool.and_eq_true, Bool.or_eq_true, bne_eq_false_iff_eq] at c6
                refine den_seq ?_
                refine den_region TTok ?_
                intro K hK
                simp -implicitDefEqProofs (disch := first | decide | assumption | omega) only [go_sem, wrap_id]
                refine hK _ _ ?_
                clear hK K
                refine den_ret ?_
                simp (disch := decide) only [resP_1, puts_same, puts_ne]
                exact absurd c6 (by first | (simp; done) | (simp; omega) | omega | (simp [eqC_self]; done))
              · try simp only [decide_eq_true_eq, decide_eq_false_iff_not, beq_iff_eq, beq_eq_false_iff_ne, bne_iff_ne, ne_eq, Bool.not_eq_true', Bool.not_eq_false', Bool.and_eq_true, Bool.or_eq_true, bne_eq_false_iff_eq] at c6
                refine den_skip ?_
                refine den_seq ?_
                refine den_region TTok ?_
                intro K hK
                simp -implicitDefEqProofs (disch := first | decide | assumption | omega) only [go_sem, BoxAt.cell hb7_5, wrap_id]
                refine hK _ _ ?_
                clear hK K
                refine den_seq ?_
                refine den_region TTok ?_
                intro K hK
                simp -implicitDefEqProofs (disch := first | decide | assumption | omega) only [go_sem, ld30, BoxAt.cell hb7_5, wrap_id]
                try simp -implicitDefEqProofs (disch := first | decide | assumption | omega) only [go_sem, BoxAt.cell hb7_5, wrap_id]
                refine CallA.mono (heldCx_ok _ _ ((hcP X).1) (1 : Int) _ (OS.rd hogd17_2) (OS.rd hogm17_2) (by omega)) ?_
                intro v_ h28_2
                rintro ⟨rfl, e28_2⟩
                replace hogd17_2 := OS.ext hogd17_2 e28_2
                replace hogm17_2 := OS.ext hogm17_2 e28_2
                replace hb7_5 := BoxAt.ext hb7_5 e28_2
                have := Ext.size e28_2
                replace eB := Ext.trans eB e28_2
                try simp -implicitDefEqProofs (disch := first | decide | assumption | omega) only [go_sem, BoxAt.cell hb7_5, wrap_id]
                refine hK _ _ ?_
                clear hK K
                refine den_seq ?_
                refine den_seq ?_
                refine den_region TTok ?_
                intro K hK
                simp -implicitDefEqProofs (disch := first | decide | assumption | omega) only [go_sem, wrap_id]
                refine hK _ _ ?_
                clear hK K
                refine den_cond rfl (fun c7 => ?_) (fun c7 => ?_)
                · try simp only [decide_eq_true_eq, decide_eq_false_iff_not, beq_iff_eq, beq_eq_false_iff_ne, bne_iff_ne, ne_eq, Bool.not_eq_true', Bool.not_eq_false', Bool.and_eq_true, Bool.or_eq_true, bne_eq_false_iff_eq] at c7
                  refine den_seq ?_
                  refine den_region TTok ?_
                  intro K hK
                  simp -implicitDefEqProofs (disch := first | decide | assumption | omega) only [go_sem, wrap_id]
                  refine hK _ _ ?_
                  clear hK K
                  refine den_ret ?_
                  simp (disch := decide) only [resP_1, puts_same, puts_ne]
                  exact absurd c7 (by first | (simp; done) | (simp; omega) | omega | (simp [eqC_self]; done))
                · try simp only [decide_eq_true_eq, decide_eq_false_iff_not, beq_iff_eq, beq_eq_false_iff_ne, bne_iff_ne, ne_eq, Bool.not_eq_true', Bool.not_eq_false', Bool.and_eq_true, Bool.or_eq_true, bne_eq_false_iff_eq] at c7
                  refine den_skip ?_
                  refine den_seq ?_
                  refine den_seq ?_
                  refine den_region TTok ?_
                  intro K hK
                  simp -implicitDefEqProofs (disch := first | decide | assumption | omega) only [go_sem, wrap_id]
                  refine hK _ _ ?_
                  clear hK K
                  refine den_cond rfl (fun c8 => ?_) (fun c8 => ?_)
                  · try simp only [decide_eq_true_eq, decide_eq_false_iff_not, beq_iff_eq, beq_eq_false_iff_ne, bne_iff_ne, ne_eq, Bool.not_eq_true', Bool.not_eq_false', Bool.and_eq_true, Bool.or_eq_true, bne_eq_false_iff_eq] at c8
                    refine den_seq ?_
                    refine den_region TTok ?_
                    intro K hK
                    simp -implicitDefEqProofs (disch := first | decide | assumption | omega) only [go_sem, wrap_id]
                    refine hK _ _ ?_
                    clear hK K
                    refine den_ret ?_
                    simp (disch := decide) only [resP_1, puts_same, puts_ne]
                    exact absurd c8 (by first | (simp; done) | (simp; omega) | omega | (simp [eqC_self]; done))
                  · try simp only [decide_eq_true_eq, decide_eq_false_iff_not, beq_iff_eq, beq_eq_false_iff_ne, bne_iff_ne, ne_eq, Bool.not_eq_true', Bool.not_eq_false', Bool.and_eq_true, Bool.or_eq_true, bne_eq_false_iff_eq] at c8
                    refine den_skip ?_
                    refine den_seq ?_
                    refine den_region TTok ?_
                    intro K hK
                    simp -implicitDefEqProofs (disch := first | decide | assumption | omega) only [go_sem, wrap_id]
                    refine hK _ _ ?_
                    clear hK K
                    refine den_ret ?_
                    simp (disch := decide) only [resP_1, puts_same, puts_ne]
                    exact ⟨by first | rfl | trivial, eB⟩
end Go.Proofs.Ytbplnadngahgaaa
