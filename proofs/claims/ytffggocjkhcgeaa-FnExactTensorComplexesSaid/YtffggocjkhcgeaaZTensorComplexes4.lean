/-
  What the statement FnExactTensorComplexes uses of the walks, part 4.
  Conditions: each theorem's own.
-/
import Derived.Test.YtffggocjkhcgeaaG16
import Derived.Test.YtffggocjkhcgeaaG17
import Derived.Test.YtffggocjkhcgeaaG14
import Derived.Test.YtffggocjkhcgeaaG13
import Derived.Test.YtffggocjkhcgeaaG15
import Derived.Test.YtffggocjkhcgeaaG18
import Derived.Test.YtffggocjkhcgeaaG21
import Derived.Test.YtffggocjkhcgeaaZTensorComplexes1
import Derived.Test.YtffggocjkhcgeaaZTensorComplexes2
import Derived.Test.YtffggocjkhcgeaaZTensorComplexes3
set_option linter.unusedVariables false
set_option linter.unusedSimpArgs false
namespace Go.Proofs.Ytffggocjkhcgeaa
open Go
set_option maxRecDepth 100000 in
set_option maxHeartbeats 4000000 in
theorem sTns_ok (vX vY : Value) (X : Cx) (Y : Cx) (h : Heap) (rX : RC h vX X) (rY : RC h vY Y) (hX : IsC X) (hY : IsC Y) (hpp : X.p = Y.p) : CallA Try.prog 108 #[vX, vY] h fun v' h' => ∃ wd0 wm0 fd0 fm0, v' = .agg #[.int .i64 ((⟨X.p, tdP X Y, tT X Y⟩ : Cx)).p, wd0, wm0] ∧ O1 h' wd0 ((⟨X.p, tdP X Y, tT X Y⟩ : Cx)).dims fd0 ∧ O3 h' wm0 ((⟨X.p, tdP X Y, tT X Y⟩ : Cx)).maps fm0 ∧ Fresh h.size (fd0 ++ fm0) ∧ Ext h h' := by
 obtain ⟨vdX, vmX, rfl, hdX, hmX⟩ := rX
 have hledX := RdS.le hdX
 have hlemX := RdS.le hmX
 obtain ⟨vdY, vmY, rfl, hdY, hmY⟩ := rY
 have hledY := RdS.le hdY
 have hlemY := RdS.le hmY
 have hlX := hX.len
 have hlY := hY.len
 have hpb := isP_bnd hX.p
 have htl := tdP_len X Y
 have hTs := tT_sh hX hY
 have hTl := hTs.len
 refine callA_intro TTok (args := [_, _]) Try.func108 (by kernel_rfl) rfl 72 rfl (by simp) [.cell 4 30] rfl ?_
 simp only [idxs, Nat.reduceAdd]
 refine den_seq ?_
 refine den_region TTok ?_
 intro K hK
 simp -implicitDefEqProofs (disch := first | decide | assumption | omega) only [go_sem, RdS.len hdX sl22, RdS.idx hdX sl22, R1.intB hdX (HPres.refl _), RdS.cells hdX, RdS.len hmX sl23, RdS.idx hmX sl23, RdS.cellB hmX (HPres.refl _), RdS.cells hmX, RdS.len hdY sl22, RdS.idx hdY sl22, R1.intB hdY (HPres.refl _), RdS.cells hdY, RdS.len hmY sl23, RdS.idx hmY sl23, RdS.cellB hmY (HPres.refl _), RdS.cells hmY, wrap_id]
 refine op_box (cs := #[.int .i64 (X.p), vdX, vmX]) rfl ?_
 intro h0_0 e0_0 hb0_0 z0_0
 have := Ext.size e0_0
 have eB := e0_0
 have hfhb0_0 : Fresh h.size [h.size] := Fresh.one _
 have hlhb0_0 := one_lt (show h.size < h0_0.size by omega)
 try simp -implicitDefEqProofs (disch := first | decide | assumption | omega) only [go_sem, RdS.len hdX sl22, RdS.idx hdX sl22, R1.intB hdX (Ext.pres eB), RdS.cells hdX, RdS.len hmX sl23, RdS.idx hmX sl23, RdS.cellB hmX (Ext.pres eB), RdS.cells hmX, RdS.len hdY sl22, RdS.idx hdY sl22, R1.intB hdY (Ext.pres eB), RdS.cells hdY, RdS.len hmY sl23, RdS.idx hmY sl23, RdS.cellB hmY (Ext.pres eB), RdS.cells hmY, BoxAt.cell hb0_0, wrap_id]
 refine op_box (cs := #[.int .i64 (Y.p), vdY, vmY]) rfl ?_
 intro h0_1 e0_1 hb0_1 z0_1
 replace hb0_0 := BoxAt.ext hb0_0 e0_1
 have := Ext.size e0_1
 replace eB := Ext.trans eB e0_1
 have hfhb0_1 : Fresh h0_0.size [h0_0.size] := Fresh.one _
 have hlhb0_1 := one_lt (show h0_0.size < h0_1.size by omega)
 try simp -implicitDefEqProofs (disch := first | decide | assumption | omega) only [go_sem, RdS.len hdX sl22, RdS.idx hdX sl22, R1.intB hdX (Ext.pres eB), RdS.cells hdX, RdS.len hmX sl23, RdS.idx hmX sl23, RdS.cellB hmX (Ext.pres eB), RdS.cells hmX, RdS.len hdY sl22, RdS.idx hdY sl22, R1.intB hdY (Ext.pres eB), RdS.cells hdY, RdS.len hmY sl23, RdS.idx hmY sl23, RdS.cellB hmY (Ext.pres eB), RdS.cells hmY, BoxAt.cell hb0_0, BoxAt.cell hb0_1, wrap_id]
 refine op_alloc (cs := #[.int .i64 0, .slice none 0 0, .slice none 0 0]) (by kernel_rfl) ?_
 intro h0_2 e0_2 hb0_2 z0_2
 replace hb0_0 := BoxAt.ext hb0_0 e0_2
 replace hb0_1 := BoxAt.ext hb0_1 e0_2
 have := Ext.size e0_2
 replace eB := Ext.trans eB e0_2
 have hfhb0_2 : Fresh h0_1.size [h0_1.size] := Fresh.one _
 have hlhb0_2 := one_lt (show h0_1.size < h0_2.size by omega)
 try simp -implicitDefEqProofs (disch := first | decide | assumption | omega) only [go_sem, RdS.len hdX sl22, RdS.idx hdX sl22, R1.intB hdX (Ext.pres eB), RdS.cells hdX, RdS.len hmX sl23, RdS.idx hmX sl23, RdS.cellB hmX (Ext.pres eB), RdS.cells hmX, RdS.len hdY sl22, RdS.idx hdY sl22, R1.intB hdY (Ext.pres eB), RdS.cells hdY, RdS.len hmY sl23, RdS.idx hmY sl23, RdS.cellB hmY (Ext.pres eB), RdS.cells hmY, BoxAt.cell hb0_0, BoxAt.cell hb0_1, BoxAt.cell hb0_2, wrap_id]
 refine hK _ _ ?_
 clear hK K
 refine den_seq ?_
 refine den_sel [2, 3, 4] ?_
 intro env_1
 simp only [go_sem]
 refine den_drawTJ (σ := Value × List Nat × Value × List Nat × Nat) TTok (fun st_ => [(5, .pointer (some ⟨st_.2.2.2.2, 0, none⟩))]) (fun st_ H => (O1 H st_.1 (tdP X Y) st_.2.1) ∧ (Fresh h0_2.size st_.2.1) ∧ (O3 H st_.2.2.1 ([]) st_.2.2.2.1) ∧ (Fresh h0_2.size st_.2.2.2.1) ∧ (BoxAt H st_.2.2.2.2 #[.int .i64 (X.p), st_.1, st_.2.2.1] 30) ∧ (Fresh h0_2.size [st_.2.2.2.2]) ∧ (Apart st_.2.1 st_.2.2.2.1) ∧ (Apart st_.2.1 [st_.2.2.2.2]) ∧ (Apart st_.2.2.2.1 [st_.2.2.2.2]) ∧ (Ext h0_2 H)) mixed [8] [(0, true), (1, true), (2, true), (3, true)] (.fork3 4 [] (.fork 5 [(6, true), (7, false), (8, false)] .fin 7 [(5, false), (6, true), (8, false)] .fin) 5 [] (.fork 4 [(6, true), (7, false), (8, false)] .fin 7 [(4, false), (6, true), (8, false)] .fin) 7 [] (.fork 4 [(5, false), (6, true), (8, false)] .fin 5 [(4, false), (6, true), (8, false)] .fin)) (by kernel_rfl) ?_ ?_
 ·intro K hK
  have cJ2 := Ext.refl h0_2
  simp -implicitDefEqProofs (disch := first | decide | assumption | omega) only [go_sem, fa30_0, ld2, ld30, RdS.len hdX sl22, RdS.idx hdX sl22, R1.intB hdX (Ext.pres eB), RdS.cells hdX, RdS.len hmX sl23, RdS.idx hmX sl23, RdS.cellB hmX (Ext.pres eB), RdS.cells hmX, RdS.len hdY sl22, RdS.idx hdY sl22, R1.intB hdY (Ext.pres eB), RdS.cells hdY, RdS.len hmY sl23, RdS.idx hmY sl23, RdS.cellB hmY (Ext.pres eB), RdS.cells hmY, BoxAt.cell hb0_0, BoxAt.cell hb0_1, BoxAt.cell hb0_2, wrap_id]
  refine And.intro ?_ (And.intro ?_ ?_)
  ·simp -implicitDefEqProofs (disch := first | decide | assumption | omega) only [go_sem, RdS.len hdX sl22, RdS.idx hdX sl22, R1.intB hdX (Ext.pres eB), RdS.cells hdX, RdS.len hmX sl23, RdS.idx hmX sl23, RdS.cellB hmX (Ext.pres eB), RdS.cells hmX, RdS.len hdY sl22, RdS.idx hdY sl22, R1.intB hdY (Ext.pres eB), RdS.cells hdY, RdS.len hmY sl23, RdS.idx hmY sl23, RdS.cellB hmY (Ext.pres eB), RdS.cells hmY, BoxAt.cell hb0_0, BoxAt.cell hb0_1, BoxAt.cell hb0_2, wrap_id]
   try simp -implicitDefEqProofs (disch := first | decide | assumption | omega) only [go_sem, RdS.len hdX sl22, RdS.idx hdX sl22, R1.intB hdX (Ext.pres eB), RdS.cells hdX, RdS.len hmX sl23, RdS.idx hmX sl23, RdS.cellB hmX (Ext.pres eB), RdS.cells hmX, RdS.len hdY sl22, RdS.idx hdY sl22, R1.intB hdY (Ext.pres eB), RdS.cells hdY, RdS.len hmY sl23, RdS.idx hmY sl23, RdS.cellB hmY (Ext.pres eB), RdS.cells hmY, BoxAt.cell hb0_0, BoxAt.cell hb0_1, BoxAt.cell hb0_2, wrap_id]
   refine CallA.mono (sDims_ok _ _ X Y _ ⟨_, _, rfl, (RdS.pres hdX (Ext.pres eB)), (RdS.pres hmX (Ext.pres eB))⟩ ⟨_, _, rfl, (RdS.pres hdY (Ext.pres eB)), (RdS.pres hmY (Ext.pres eB))⟩ (hX) (hY)) ?_
   intro vw1_4_0 h1_4
   rintro ⟨zvw1_4_0, fw1_4_0, rfl, how1_4_0, hfw1_4_0, e1_4⟩
   replace hb0_0 := BoxAt.ext hb0_0 e1_4
   replace hb0_1 := BoxAt.ext hb0_1 e1_4
   replace hb0_2 := BoxAt.ext hb0_2 e1_4
   have := Ext.size e1_4
   replace eB := Ext.trans eB e1_4
   replace cJ2 := Ext.trans cJ2 e1_4
   have hlhow1_4_0 := OS.lt how1_4_0
   try simp (disch := decide) only [outv_some, outv_none, put_puts]
   refine plK_pres (Ext.pres e1_4) ?_
   try simp -implicitDefEqProofs (disch := first | decide | assumption | omega) only [go_sem, RdS.len hdX sl22, RdS.idx hdX sl22, R1.intB hdX (Ext.pres eB), RdS.cells hdX, RdS.len hmX sl23, RdS.idx hmX sl23, RdS.cellB hmX (Ext.pres eB), RdS.cells hmX, RdS.len hdY sl22, RdS.idx hdY sl22, R1.intB hdY (Ext.pres eB), RdS.cells hdY, RdS.len hmY sl23, RdS.idx hmY sl23, RdS.cellB hmY (Ext.pres eB), RdS.cells hmY, RdS.len (OS.rd how1_4_0) sl22, RdS.idx (OS.rd how1_4_0) sl22, R1.intN (OS.rd how1_4_0), RdS.cells (OS.rd how1_4_0), BoxAt.cell hb0_0, BoxAt.cell hb0_1, BoxAt.cell hb0_2, wrap_id]
   refine And.intro ?_ ?_
   ·simp -implicitDefEqProofs (disch := first | decide | assumption | omega) only [go_sem, RdS.len hdX sl22, RdS.idx hdX sl22, R1.intB hdX (Ext.pres eB), RdS.cells hdX, RdS.len hmX sl23, RdS.idx hmX sl23, RdS.cellB hmX (Ext.pres eB), RdS.cells hmX, RdS.len hdY sl22, RdS.idx hdY sl22, R1.intB hdY (Ext.pres eB), RdS.cells hdY, RdS.len hmY sl23, RdS.idx hmY sl23, RdS.cellB hmY (Ext.pres eB), RdS.cells hmY, RdS.len (OS.rd how1_4_0) sl22, RdS.idx (OS.rd how1_4_0) sl22, R1.intN (OS.rd how1_4_0), RdS.cells (OS.rd how1_4_0), BoxAt.cell hb0_0, BoxAt.cell hb0_1, BoxAt.cell hb0_2, wrap_id]
    refine op_bs0 sz23 O2 ?_
    intro v1_5 h1_5 ho1_5 e1_5
    replace how1_4_0 := OS.ext how1_4_0 e1_5
    replace hb0_0 := BoxAt.ext hb0_0 e1_5
    replace hb0_1 := BoxAt.ext hb0_1 e1_5
    replace hb0_2 := BoxAt.ext hb0_2 e1_5
    have := Ext.size e1_5
    replace eB := Ext.trans eB e1_5
    replace cJ2 := Ext.trans cJ2 e1_5
    have hfho1_5 : Fresh h1_4.size [h1_4.size] := Fresh.one _
    have hlho1_5 := OS.lt ho1_5
    try simp (disch := decide) only [outv_some, outv_none, put_puts]
    refine plK_pres (Ext.pres e1_5) ?_
    try simp -implicitDefEqProofs (disch := first | decide | assumption | omega) only [go_sem, RdS.len hdX sl22, RdS.idx hdX sl22, R1.intB hdX (Ext.pres eB), RdS.cells hdX, RdS.len hmX sl23, RdS.idx hmX sl23, RdS.cellB hmX (Ext.pres eB), RdS.cells hmX, RdS.len hdY sl22, RdS.idx hdY sl22, R1.intB hdY (Ext.pres eB), RdS.cells hdY, RdS.len hmY sl23, RdS.idx hmY sl23, RdS.cellB hmY (Ext.pres eB), RdS.cells hmY, RdS.len (OS.rd how1_4_0) sl22, RdS.idx (OS.rd how1_4_0) sl22, R1.intN (OS.rd how1_4_0), RdS.cells (OS.rd how1_4_0), RdS.len (OS.rd ho1_5) sl23, RdS.idx (OS.rd ho1_5) sl23, RdS.cellN (OS.rd ho1_5), RdS.cells (OS.rd ho1_5), BoxAt.cell hb0_0, BoxAt.cell hb0_1, BoxAt.cell hb0_2, wrap_id, bC3 (OS.isSl how1_4_0) (OS.isSl ho1_5)]
    refine op_alloc (cs := #[.int .i64 0, .slice none 0 0, .slice none 0 0]) (by kernel_rfl) ?_
    intro h1_7 e1_7 hb1_7 z1_7
    replace how1_4_0 := OS.ext how1_4_0 e1_7
    replace ho1_5 := OS.ext ho1_5 e1_7
    replace hb0_0 := BoxAt.ext hb0_0 e1_7
    replace hb0_1 := BoxAt.ext hb0_1 e1_7
    replace hb0_2 := BoxAt.ext hb0_2 e1_7
    have := Ext.size e1_7
    replace eB := Ext.trans eB e1_7
    replace cJ2 := Ext.trans cJ2 e1_7
    have hfhb1_7 : Fresh h1_5.size [h1_5.size] := Fresh.one _
    have hlhb1_7 := one_lt (show h1_5.size < h1_7.size by omega)
    try simp (disch := decide) only [outv_some, outv_none, put_puts]
    refine plK_pres (Ext.pres e1_7) ?_
    try simp -implicitDefEqProofs (disch := first | decide | assumption | omega) only [go_sem, RdS.len hdX sl22, RdS.idx hdX sl22, R1.intB hdX (Ext.pres eB), RdS.cells hdX, RdS.len hmX sl23, RdS.idx hmX sl23, RdS.cellB hmX (Ext.pres eB), RdS.cells hmX, RdS.len hdY sl22, RdS.idx hdY sl22, R1.intB hdY (Ext.pres eB), RdS.cells hdY, RdS.len hmY sl23, RdS.idx hmY sl23, RdS.cellB hmY (Ext.pres eB), RdS.cells hmY, RdS.len (OS.rd how1_4_0) sl22, RdS.idx (OS.rd how1_4_0) sl22, R1.intN (OS.rd how1_4_0), RdS.cells (OS.rd how1_4_0), RdS.len (OS.rd ho1_5) sl23, RdS.idx (OS.rd ho1_5) sl23, RdS.cellN (OS.rd ho1_5), RdS.cells (OS.rd ho1_5), BoxAt.cell hb0_0, BoxAt.cell hb0_1, BoxAt.cell hb0_2, BoxAt.cell hb1_7, wrap_id, bC3 (OS.isSl how1_4_0) (OS.isSl ho1_5)]
    refine op_storeB (cs' := #[.int .i64 (X.p), vw1_4_0, v1_5]) st30 hb1_7 rfl rfl rfl (by simp) (allOne_mem (l := [.int .i64 (X.p), vw1_4_0, v1_5]) ⟨rfl, (OS.one how1_4_0).1, (OS.one ho1_5).1, trivial⟩) rfl ?_
    intro h1_8 hb1_7 c1_8
    replace how1_4_0 := OS.chg how1_4_0 c1_8 (apart_lt hlhow1_4_0 hfhb1_7 (by omega))
    replace ho1_5 := OS.chg ho1_5 c1_8 (apart_lt hlho1_5 hfhb1_7 (by omega))
    replace hb0_0 := BoxAt.chgA hb0_0 c1_8 (apart_lt hlhb0_0 hfhb1_7 (by omega))
    replace hb0_1 := BoxAt.chgA hb0_1 c1_8 (apart_lt hlhb0_1 hfhb1_7 (by omega))
    replace hb0_2 := BoxAt.chgA hb0_2 c1_8 (apart_lt hlhb0_2 hfhb1_7 (by omega))
    have := c1_8.size
    replace eB := Ext.then eB c1_8 (ge_of hfhb1_7 (by omega))
    replace cJ2 := Ext.then cJ2 c1_8 (ge_of hfhb1_7 (by omega))
    try simp (disch := decide) only [outv_some, outv_none, put_puts]
    refine plK_last (by decide) ?_
    try simp -implicitDefEqProofs (disch := first | decide | assumption | omega) only [go_sem, RdS.len hdX sl22, RdS.idx hdX sl22, R1.intB hdX (Ext.pres eB), RdS.cells hdX, RdS.len hmX sl23, RdS.idx hmX sl23, RdS.cellB hmX (Ext.pres eB), RdS.cells hmX, RdS.len hdY sl22, RdS.idx hdY sl22, R1.intB hdY (Ext.pres eB), RdS.cells hdY, RdS.len hmY sl23, RdS.idx hmY sl23, RdS.cellB hmY (Ext.pres eB), RdS.cells hmY, RdS.len (OS.rd how1_4_0) sl22, RdS.idx (OS.rd how1_4_0) sl22, R1.intN (OS.rd how1_4_0), RdS.cells (OS.rd how1_4_0), RdS.len (OS.rd ho1_5) sl23, RdS.idx (OS.rd ho1_5) sl23, RdS.cellN (OS.rd ho1_5), RdS.cells (OS.rd ho1_5), BoxAt.cell hb0_0, BoxAt.cell hb0_1, BoxAt.cell hb0_2, BoxAt.cell hb1_7, wrap_id, bC3 (OS.isSl how1_4_0) (OS.isSl ho1_5)]
    exact hK (vw1_4_0, fw1_4_0, v1_5, [h1_4.size], h1_5.size) _ _ (by simp [HasL, puts_at]) ⟨how1_4_0, (hfw1_4_0.mono (by omega)), ho1_5, (hfho1_5.mono (by omega)), hb1_7, (hfhb1_7.mono (by omega)), (apart_lt hlhow1_4_0 hfho1_5 (by omega)), (apart_lt hlhow1_4_0 hfhb1_7 (by omega)), (apart_lt hlho1_5 hfhb1_7 (by omega)), cJ2⟩
   ·simp -implicitDefEqProofs (disch := first | decide | assumption | omega) only [go_sem, RdS.len hdX sl22, RdS.idx hdX sl22, R1.intB hdX (Ext.pres eB), RdS.cells hdX, RdS.len hmX sl23, RdS.idx hmX sl23, RdS.cellB hmX (Ext.pres eB), RdS.cells hmX, RdS.len hdY sl22, RdS.idx hdY sl22, R1.intB hdY (Ext.pres eB), RdS.cells hdY, RdS.len hmY sl23, RdS.idx hmY sl23, RdS.cellB hmY (Ext.pres eB), RdS.cells hmY, RdS.len (OS.rd how1_4_0) sl22, RdS.idx (OS.rd how1_4_0) sl22, R1.intN (OS.rd how1_4_0), RdS.cells (OS.rd how1_4_0), BoxAt.cell hb0_0, BoxAt.cell hb0_1, BoxAt.cell hb0_2, wrap_id]
    refine op_alloc (cs := #[.int .i64 0, .slice none 0 0, .slice none 0 0]) (by kernel_rfl) ?_
    intro h1_7 e1_7 hb1_7 z1_7
    replace how1_4_0 := OS.ext how1_4_0 e1_7
    replace hb0_0 := BoxAt.ext hb0_0 e1_7
    replace hb0_1 := BoxAt.ext hb0_1 e1_7
    replace hb0_2 := BoxAt.ext hb0_2 e1_7
    have := Ext.size e1_7
    replace eB := Ext.trans eB e1_7
    replace cJ2 := Ext.trans cJ2 e1_7
    have hfhb1_7 : Fresh h1_4.size [h1_4.size] := Fresh.one _
    have hlhb1_7 := one_lt (show h1_4.size < h1_7.size by omega)
    try simp (disch := decide) only [outv_some, outv_none, put_puts]
    refine plK_pres (Ext.pres e1_7) ?_
    try simp -implicitDefEqProofs (disch := first | decide | assumption | omega) only [go_sem, RdS.len hdX sl22, RdS.idx hdX sl22, R1.intB hdX (Ext.pres eB), RdS.cells hdX, RdS.len hmX sl23, RdS.idx hmX sl23, RdS.cellB hmX (Ext.pres eB), RdS.cells hmX, RdS.len hdY sl22, RdS.idx hdY sl22, R1.intB hdY (Ext.pres eB), RdS.cells hdY, RdS.len hmY sl23, RdS.idx hmY sl23, RdS.cellB hmY (Ext.pres eB), RdS.cells hmY, RdS.len (OS.rd how1_4_0) sl22, RdS.idx (OS.rd how1_4_0) sl22, R1.intN (OS.rd how1_4_0), RdS.cells (OS.rd how1_4_0), BoxAt.cell hb0_0, BoxAt.cell hb0_1, BoxAt.cell hb0_2, BoxAt.cell hb1_7, wrap_id]
    refine op_bs0 sz23 O2 ?_
    intro v1_5 h1_5 ho1_5 e1_5
    replace how1_4_0 := OS.ext how1_4_0 e1_5
    replace hb0_0 := BoxAt.ext hb0_0 e1_5
    replace hb0_1 := BoxAt.ext hb0_1 e1_5
    replace hb0_2 := BoxAt.ext hb0_2 e1_5
    replace hb1_7 := BoxAt.ext hb1_7 e1_5
    have := Ext.size e1_5
    replace eB := Ext.trans eB e1_5
    replace cJ2 := Ext.trans cJ2 e1_5
    have hfho1_5 : Fresh h1_7.size [h1_7.size] := Fresh.one _
    have hlho1_5 := OS.lt ho1_5
    try simp (disch := decide) only [outv_some, outv_none, put_puts]
    refine plK_pres (Ext.pres e1_5) ?_
    try simp -implicitDefEqProofs (disch := first | decide | assumption | omega) only [go_sem, RdS.len hdX sl22, RdS.idx hdX sl22, R1.intB hdX (Ext.pres eB), RdS.cells hdX, RdS.len hmX sl23, RdS.idx hmX sl23, RdS.cellB hmX (Ext.pres eB), RdS.cells hmX, RdS.len hdY sl22, RdS.idx hdY sl22, R1.intB hdY (Ext.pres eB), RdS.cells hdY, RdS.len hmY sl23, RdS.idx hmY sl23, RdS.cellB hmY (Ext.pres eB), RdS.cells hmY, RdS.len (OS.rd how1_4_0) sl22, RdS.idx (OS.rd how1_4_0) sl22, R1.intN (OS.rd how1_4_0), RdS.cells (OS.rd how1_4_0), RdS.len (OS.rd ho1_5) sl23, RdS.idx (OS.rd ho1_5) sl23, RdS.cellN (OS.rd ho1_5), RdS.cells (OS.rd ho1_5), BoxAt.cell hb0_0, BoxAt.cell hb0_1, BoxAt.cell hb0_2, BoxAt.cell hb1_7, wrap_id, bC3 (OS.isSl how1_4_0) (OS.isSl ho1_5)]
    refine op_storeB (cs' := #[.int .i64 (X.p), vw1_4_0, v1_5]) st30 hb1_7 rfl rfl rfl (by simp) (allOne_mem (l := [.int .i64 (X.p), vw1_4_0, v1_5]) ⟨rfl, (OS.one how1_4_0).1, (OS.one ho1_5).1, trivial⟩) rfl ?_
    intro h1_8 hb1_7 c1_8
    replace how1_4_0 := OS.chg how1_4_0 c1_8 (apart_lt hlhow1_4_0 hfhb1_7 (by omega))
    replace ho1_5 := OS.chg ho1_5 c1_8 (apart_gt hfho1_5 hlhb1_7 (by omega))
    replace hb0_0 := BoxAt.chgA hb0_0 c1_8 (apart_lt hlhb0_0 hfhb1_7 (by omega))
    replace hb0_1 := BoxAt.chgA hb0_1 c1_8 (apart_lt hlhb0_1 hfhb1_7 (by omega))
    replace hb0_2 := BoxAt.chgA hb0_2 c1_8 (apart_lt hlhb0_2 hfhb1_7 (by omega))
    have := c1_8.size
    replace eB := Ext.then eB c1_8 (ge_of hfhb1_7 (by omega))
    replace cJ2 := Ext.then cJ2 c1_8 (ge_of hfhb1_7 (by omega))
    try simp (disch := decide) only [outv_some, outv_none, put_puts]
    refine plK_last (by decide) ?_
    try simp -implicitDefEqProofs (disch := first | decide | assumption | omega) only [go_sem, RdS.len hdX sl22, RdS.idx hdX sl22, R1.intB hdX (Ext.pres eB), RdS.cells hdX, RdS.len hmX sl23, RdS.idx hmX sl23, RdS.cellB hmX (Ext.pres eB), RdS.cells hmX, RdS.len hdY sl22, RdS.idx hdY sl22, R1.intB hdY (Ext.pres eB), RdS.cells hdY, RdS.len hmY sl23, RdS.idx hmY sl23, RdS.cellB hmY (Ext.pres eB), RdS.cells hmY, RdS.len (OS.rd how1_4_0) sl22, RdS.idx (OS.rd how1_4_0) sl22, R1.intN (OS.rd how1_4_0), RdS.cells (OS.rd how1_4_0), RdS.len (OS.rd ho1_5) sl23, RdS.idx (OS.rd ho1_5) sl23, RdS.cellN (OS.rd ho1_5), RdS.cells (OS.rd ho1_5), BoxAt.cell hb0_0, BoxAt.cell hb0_1, BoxAt.cell hb0_2, BoxAt.cell hb1_7, wrap_id, bC3 (OS.isSl how1_4_0) (OS.isSl ho1_5)]
    exact hK (vw1_4_0, fw1_4_0, v1_5, [h1_7.size], h1_4.size) _ _ (by simp [HasL, puts_at]) ⟨how1_4_0, (hfw1_4_0.mono (by omega)), ho1_5, (hfho1_5.mono (by omega)), hb1_7, (hfhb1_7.mono (by omega)), (apart_lt hlhow1_4_0 hfho1_5 (by omega)), (apart_lt hlhow1_4_0 hfhb1_7 (by omega)), (apart_gt hfho1_5 hlhb1_7 (by omega)), cJ2⟩
  ·simp -implicitDefEqProofs (disch := first | decide | assumption | omega) only [go_sem, RdS.len hdX sl22, RdS.idx hdX sl22, R1.intB hdX (Ext.pres eB), RdS.cells hdX, RdS.len hmX sl23, RdS.idx hmX sl23, RdS.cellB hmX (Ext.pres eB), RdS.cells hmX, RdS.len hdY sl22, RdS.idx hdY sl22, R1.intB hdY (Ext.pres eB), RdS.cells hdY, RdS.len hmY sl23, RdS.idx hmY sl23, RdS.cellB hmY (Ext.pres eB), RdS.cells hmY, BoxAt.cell hb0_0, BoxAt.cell hb0_1, BoxAt.cell hb0_2, wrap_id]
   refine op_bs0 sz23 O2 ?_
   intro v1_5 h1_5 ho1_5 e1_5
   replace hb0_0 := BoxAt.ext hb0_0 e1_5
   replace hb0_1 := BoxAt.ext hb0_1 e1_5
   replace hb0_2 := BoxAt.ext hb0_2 e1_5
   have := Ext.size e1_5
   replace eB := Ext.trans eB e1_5
   replace cJ2 := Ext.trans cJ2 e1_5
   have hfho1_5 : Fresh h0_2.size [h0_2.size] := Fresh.one _
   have hlho1_5 := OS.lt ho1_5
   try simp (disch := decide) only [outv_some, outv_none, put_puts]
   refine plK_pres (Ext.pres e1_5) ?_
   try simp -implicitDefEqProofs (disch := first | decide | assumption | omega) only [go_sem, RdS.len hdX sl22, RdS.idx hdX sl22, R1.intB hdX (Ext.pres eB), RdS.cells hdX, RdS.len hmX sl23, RdS.idx hmX sl23, RdS.cellB hmX (Ext.pres eB), RdS.cells hmX, RdS.len hdY sl22, RdS.idx hdY sl22, R1.intB hdY (Ext.pres eB), RdS.cells hdY, RdS.len hmY sl23, RdS.idx hmY sl23, RdS.cellB hmY (Ext.pres eB), RdS.cells hmY, RdS.len (OS.rd ho1_5) sl23, RdS.idx (OS.rd ho1_5) sl23, RdS.cellN (OS.rd ho1_5), RdS.cells (OS.rd ho1_5), BoxAt.cell hb0_0, BoxAt.cell hb0_1, BoxAt.cell hb0_2, wrap_id]
   refine And.intro ?_ ?_
   ·simp -implicitDefEqProofs (disch := first | decide | assumption | omega) only [go_sem, RdS.len hdX sl22, RdS.idx hdX sl22, R1.intB hdX (Ext.pres eB), RdS.cells hdX, RdS.len hmX sl23, RdS.idx hmX sl23, RdS.cellB hmX (Ext.pres eB), RdS.cells hmX, RdS.len hdY sl22, RdS.idx hdY sl22, R1.intB hdY (Ext.pres eB), RdS.cells hdY, RdS.len hmY sl23, RdS.idx hmY sl23, RdS.cellB hmY (Ext.pres eB), RdS.cells hmY, RdS.len (OS.rd ho1_5) sl23, RdS.idx (OS.rd ho1_5) sl23, RdS.cellN (OS.rd ho1_5), RdS.cells (OS.rd ho1_5), BoxAt.cell hb0_0, BoxAt.cell hb0_1, BoxAt.cell hb0_2, wrap_id]
    try simp -implicitDefEqProofs (disch := first | decide | assumption | omega) only [go_sem, RdS.len hdX sl22, RdS.idx hdX sl22, R1.intB hdX (Ext.pres eB), RdS.cells hdX, RdS.len hmX sl23, RdS.idx hmX sl23, RdS.cellB hmX (Ext.pres eB), RdS.cells hmX, RdS.len hdY sl22, RdS.idx hdY sl22, R1.intB hdY (Ext.pres eB), RdS.cells hdY, RdS.len hmY sl23, RdS.idx hmY sl23, RdS.cellB hmY (Ext.pres eB), RdS.cells hmY, RdS.len (OS.rd ho1_5) sl23, RdS.idx (OS.rd ho1_5) sl23, RdS.cellN (OS.rd ho1_5), RdS.cells (OS.rd ho1_5), BoxAt.cell hb0_0, BoxAt.cell hb0_1, BoxAt.cell hb0_2, wrap_id]
    refine CallA.mono (sDims_ok _ _ X Y _ ⟨_, _, rfl, (RdS.pres hdX (Ext.pres eB)), (RdS.pres hmX (Ext.pres eB))⟩ ⟨_, _, rfl, (RdS.pres hdY (Ext.pres eB)), (RdS.pres hmY (Ext.pres eB))⟩ (hX) (hY)) ?_
    intro vw1_4_0 h1_4
    rintro ⟨zvw1_4_0, fw1_4_0, rfl, how1_4_0, hfw1_4_0, e1_4⟩
    replace ho1_5 := OS.ext ho1_5 e1_4
    replace hb0_0 := BoxAt.ext hb0_0 e1_4
    replace hb0_1 := BoxAt.ext hb0_1 e1_4
    replace hb0_2 := BoxAt.ext hb0_2 e1_4
    have := Ext.size e1_4
    replace eB := Ext.trans eB e1_4
    replace cJ2 := Ext.trans cJ2 e1_4
    have hlhow1_4_0 := OS.lt how1_4_0
    try simp (disch := decide) only [outv_some, outv_none, put_puts]
    refine plK_pres (Ext.pres e1_4) ?_
    try simp -implicitDefEqProofs (disch := first | decide | assumption | omega) only [go_sem, RdS.len hdX sl22, RdS.idx hdX sl22, R1.intB hdX (Ext.pres eB), RdS.cells hdX, RdS.len hmX sl23, RdS.idx hmX sl23, RdS.cellB hmX (Ext.pres eB), RdS.cells hmX, RdS.len hdY sl22, RdS.idx hdY sl22, R1.intB hdY (Ext.pres eB), RdS.cells hdY, RdS.len hmY sl23, RdS.idx hmY sl23, RdS.cellB hmY (Ext.pres eB), RdS.cells hmY, RdS.len (OS.rd ho1_5) sl23, RdS.idx (OS.rd ho1_5) sl23, RdS.cellN (OS.rd ho1_5), RdS.cells (OS.rd ho1_5), RdS.len (OS.rd how1_4_0) sl22, RdS.idx (OS.rd how1_4_0) sl22, R1.intN (OS.rd how1_4_0), RdS.cells (OS.rd how1_4_0), BoxAt.cell hb0_0, BoxAt.cell hb0_1, BoxAt.cell hb0_2, wrap_id, bC3 (OS.isSl how1_4_0) (OS.isSl ho1_5)]
    refine op_alloc (cs := #[.int .i64 0, .slice none 0 0, .slice none 0 0]) (by kernel_rfl) ?_
    intro h1_7 e1_7 hb1_7 z1_7
    replace ho1_5 := OS.ext ho1_5 e1_7
    replace how1_4_0 := OS.ext how1_4_0 e1_7
    replace hb0_0 := BoxAt.ext hb0_0 e1_7
    replace hb0_1 := BoxAt.ext hb0_1 e1_7
    replace hb0_2 := BoxAt.ext hb0_2 e1_7
    have := Ext.size e1_7
    replace eB := Ext.trans eB e1_7
    replace cJ2 := Ext.trans cJ2 e1_7
    have hfhb1_7 : Fresh h1_4.size [h1_4.size] := Fresh.one _
    have hlhb1_7 := one_lt (show h1_4.size < h1_7.size by omega)
    try simp (disch := decide) only [outv_some, outv_none, put_puts]
    refine plK_pres (Ext.pres e1_7) ?_
    try simp -implicitDefEqProofs (disch := first | decide | assumption | omega) only [go_sem, RdS.len hdX sl22, RdS.idx hdX sl22, R1.intB hdX (Ext.pres eB), RdS.cells hdX, RdS.len hmX sl23, RdS.idx hmX sl23, RdS.cellB hmX (Ext.pres eB), RdS.cells hmX, RdS.len hdY sl22, RdS.idx hdY sl22, R1.intB hdY (Ext.pres eB), RdS.cells hdY, RdS.len hmY sl23, RdS.idx hmY sl23, RdS.cellB hmY (Ext.pres eB), RdS.cells hmY, RdS.len (OS.rd ho1_5) sl23, RdS.idx (OS.rd ho1_5) sl23, RdS.cellN (OS.rd ho1_5), RdS.cells (OS.rd ho1_5), RdS.len (OS.rd how1_4_0) sl22, RdS.idx (OS.rd how1_4_0) sl22, R1.intN (OS.rd how1_4_0), RdS.cells (OS.rd how1_4_0), BoxAt.cell hb0_0, BoxAt.cell hb0_1, BoxAt.cell hb0_2, BoxAt.cell hb1_7, wrap_id, bC3 (OS.isSl how1_4_0) (OS.isSl ho1_5)]
    refine op_storeB (cs' := #[.int .i64 (X.p), vw1_4_0, v1_5]) st30 hb1_7 rfl rfl rfl (by simp) (allOne_mem (l := [.int .i64 (X.p), vw1_4_0, v1_5]) ⟨rfl, (OS.one how1_4_0).1, (OS.one ho1_5).1, trivial⟩) rfl ?_
    intro h1_8 hb1_7 c1_8
    replace ho1_5 := OS.chg ho1_5 c1_8 (apart_lt hlho1_5 hfhb1_7 (by omega))
    replace how1_4_0 := OS.chg how1_4_0 c1_8 (apart_lt hlhow1_4_0 hfhb1_7 (by omega))
    replace hb0_0 := BoxAt.chgA hb0_0 c1_8 (apart_lt hlhb0_0 hfhb1_7 (by omega))
    replace hb0_1 := BoxAt.chgA hb0_1 c1_8 (apart_lt hlhb0_1 hfhb1_7 (by omega))
    replace hb0_2 := BoxAt.chgA hb0_2 c1_8 (apart_lt hlhb0_2 hfhb1_7 (by omega))
    have := c1_8.size
    replace eB := Ext.then eB c1_8 (ge_of hfhb1_7 (by omega))
    replace cJ2 := Ext.then cJ2 c1_8 (ge_of hfhb1_7 (by omega))
    try simp (disch := decide) only [outv_some, outv_none, put_puts]
    refine plK_last (by decide) ?_
    try simp -implicitDefEqProofs (disch := first | decide | assumption | omega) only [go_sem, RdS.len hdX sl22, RdS.idx hdX sl22, R1.intB hdX (Ext.pres eB), RdS.cells hdX, RdS.len hmX sl23, RdS.idx hmX sl23, RdS.cellB hmX (Ext.pres eB), RdS.cells hmX, RdS.len hdY sl22, RdS.idx hdY sl22, R1.intB hdY (Ext.pres eB), RdS.cells hdY, RdS.len hmY sl23, RdS.idx hmY sl23, RdS.cellB hmY (Ext.pres eB), RdS.cells hmY, RdS.len (OS.rd ho1_5) sl23, RdS.idx (OS.rd ho1_5) sl23, RdS.cellN (OS.rd ho1_5), RdS.cells (OS.rd ho1_5), RdS.len (OS.rd how1_4_0) sl22, RdS.idx (OS.rd how1_4_0) sl22, R1.intN (OS.rd how1_4_0), RdS.cells (OS.rd how1_4_0), BoxAt.cell hb0_0, BoxAt.cell hb0_1, BoxAt.cell hb0_2, BoxAt.cell hb1_7, wrap_id, bC3 (OS.isSl how1_4_0) (OS.isSl ho1_5)]
    exact hK (vw1_4_0, fw1_4_0, v1_5, [h0_2.size], h1_4.size) _ _ (by simp [HasL, puts_at]) ⟨how1_4_0, (hfw1_4_0.mono (by omega)), ho1_5, (hfho1_5.mono (by omega)), hb1_7, (hfhb1_7.mono (by omega)), (apart_gt hfw1_4_0 hlho1_5 (by omega)), (apart_lt hlhow1_4_0 hfhb1_7 (by omega)), (apart_lt hlho1_5 hfhb1_7 (by omega)), cJ2⟩
   ·simp -implicitDefEqProofs (disch := first | decide | assumption | omega) only [go_sem, RdS.len hdX sl22, RdS.idx hdX sl22, R1.intB hdX (Ext.pres eB), RdS.cells hdX, RdS.len hmX sl23, RdS.idx hmX sl23, RdS.cellB hmX (Ext.pres eB), RdS.cells hmX, RdS.len hdY sl22, RdS.idx hdY sl22, R1.intB hdY (Ext.pres eB), RdS.cells hdY, RdS.len hmY sl23, RdS.idx hmY sl23, RdS.cellB hmY (Ext.pres eB), RdS.cells hmY, RdS.len (OS.rd ho1_5) sl23, RdS.idx (OS.rd ho1_5) sl23, RdS.cellN (OS.rd ho1_5), RdS.cells (OS.rd ho1_5), BoxAt.cell hb0_0, BoxAt.cell hb0_1, BoxAt.cell hb0_2, wrap_id]
    refine op_alloc (cs := #[.int .i64 0, .slice none 0 0, .slice none 0 0]) (by kernel_rfl) ?_
    intro h1_7 e1_7 hb1_7 z1_7
    replace ho1_5 := OS.ext ho1_5 e1_7
    replace hb0_0 := BoxAt.ext hb0_0 e1_7
    replace hb0_1 := BoxAt.ext hb0_1 e1_7
    replace hb0_2 := BoxAt.ext hb0_2 e1_7
    have := Ext.size e1_7
    replace eB := Ext.trans eB e1_7
    replace cJ2 := Ext.trans cJ2 e1_7
    have hfhb1_7 : Fresh h1_5.size [h1_5.size] := Fresh.one _
    have hlhb1_7 := one_lt (show h1_5.size < h1_7.size by omega)
    try simp (disch := decide) only [outv_some, outv_none, put_puts]
    refine plK_pres (Ext.pres e1_7) ?_
    try simp -implicitDefEqProofs (disch := first | decide | assumption | omega) only [go_sem, RdS.len hdX sl22, RdS.idx hdX sl22, R1.intB hdX (Ext.pres eB), RdS.cells hdX, RdS.len hmX sl23, RdS.idx hmX sl23, RdS.cellB hmX (Ext.pres eB), RdS.cells hmX, RdS.len hdY sl22, RdS.idx hdY sl22, R1.intB hdY (Ext.pres eB), RdS.cells hdY, RdS.len hmY sl23, RdS.idx hmY sl23, RdS.cellB hmY (Ext.pres eB), RdS.cells hmY, RdS.len (OS.rd ho1_5) sl23, RdS.idx (OS.rd ho1_5) sl23, RdS.cellN (OS.rd ho1_5), RdS.cells (OS.rd ho1_5), BoxAt.cell hb0_0, BoxAt.cell hb0_1, BoxAt.cell hb0_2, BoxAt.cell hb1_7, wrap_id]
    try simp -implicitDefEqProofs (disch := first | decide | assumption | omega) only [go_sem, RdS.len hdX sl22, RdS.idx hdX sl22, R1.intB hdX (Ext.pres eB), RdS.cells hdX, RdS.len hmX sl23, RdS.idx hmX sl23, RdS.cellB hmX (Ext.pres eB), RdS.cells hmX, RdS.len hdY sl22, RdS.idx hdY sl22, R1.intB hdY (Ext.pres eB), RdS.cells hdY, RdS.len hmY sl23, RdS.idx hmY sl23, RdS.cellB hmY (Ext.pres eB), RdS.cells hmY, RdS.len (OS.rd ho1_5) sl23, RdS.idx (OS.rd ho1_5) sl23, RdS.cellN (OS.rd ho1_5), RdS.cells (OS.rd ho1_5), BoxAt.cell hb0_0, BoxAt.cell hb0_1, BoxAt.cell hb0_2, BoxAt.cell hb1_7, wrap_id]
    refine CallA.mono (sDims_ok _ _ X Y _ ⟨_, _, rfl, (RdS.pres hdX (Ext.pres eB)), (RdS.pres hmX (Ext.pres eB))⟩ ⟨_, _, rfl, (RdS.pres hdY (Ext.pres eB)), (RdS.pres hmY (Ext.pres eB))⟩ (hX) (hY)) ?_
    intro vw1_4_0 h1_4
    rintro ⟨zvw1_4_0, fw1_4_0, rfl, how1_4_0, hfw1_4_0, e1_4⟩
    replace ho1_5 := OS.ext ho1_5 e1_4
    replace hb0_0 := BoxAt.ext hb0_0 e1_4
    replace hb0_1 := BoxAt.ext hb0_1 e1_4
    replace hb0_2 := BoxAt.ext hb0_2 e1_4
    replace hb1_7 := BoxAt.ext hb1_7 e1_4
    have := Ext.size e1_4
    replace eB := Ext.trans eB e1_4
    replace cJ2 := Ext.trans cJ2 e1_4
    have hlhow1_4_0 := OS.lt how1_4_0
    try simp (disch := decide) only [outv_some, outv_none, put_puts]
    refine plK_pres (Ext.pres e1_4) ?_
    try simp -implicitDefEqProofs (disch := first | decide | assumption | omega) only [go_sem, RdS.len hdX sl22, RdS.idx hdX sl22, R1.intB hdX (Ext.pres eB), RdS.cells hdX, RdS.len hmX sl23, RdS.idx hmX sl23, RdS.cellB hmX (Ext.pres eB), RdS.cells hmX, RdS.len hdY sl22, RdS.idx hdY sl22, R1.intB hdY (Ext.pres eB), RdS.cells hdY, RdS.len hmY sl23, RdS.idx hmY sl23, RdS.cellB hmY (Ext.pres eB), RdS.cells hmY, RdS.len (OS.rd ho1_5) sl23, RdS.idx (OS.rd ho1_5) sl23, RdS.cellN (OS.rd ho1_5), RdS.cells (OS.rd ho1_5), RdS.len (OS.rd how1_4_0) sl22, RdS.idx (OS.rd how1_4_0) sl22, R1.intN (OS.rd how1_4_0), RdS.cells (OS.rd how1_4_0), BoxAt.cell hb0_0, BoxAt.cell hb0_1, BoxAt.cell hb0_2, BoxAt.cell hb1_7, wrap_id, bC3 (OS.isSl how1_4_0) (OS.isSl ho1_5)]
    refine op_storeB (cs' := #[.int .i64 (X.p), vw1_4_0, v1_5]) st30 hb1_7 rfl rfl rfl (by simp) (allOne_mem (l := [.int .i64 (X.p), vw1_4_0, v1_5]) ⟨rfl, (OS.one how1_4_0).1, (OS.one ho1_5).1, trivial⟩) rfl ?_
    intro h1_8 hb1_7 c1_8
    replace ho1_5 := OS.chg ho1_5 c1_8 (apart_lt hlho1_5 hfhb1_7 (by omega))
    replace how1_4_0 := OS.chg how1_4_0 c1_8 (apart_gt hfw1_4_0 hlhb1_7 (by omega))
    replace hb0_0 := BoxAt.chgA hb0_0 c1_8 (apart_lt hlhb0_0 hfhb1_7 (by omega))
    replace hb0_1 := BoxAt.chgA hb0_1 c1_8 (apart_lt hlhb0_1 hfhb1_7 (by omega))
    replace hb0_2 := BoxAt.chgA hb0_2 c1_8 (apart_lt hlhb0_2 hfhb1_7 (by omega))
    have := c1_8.size
    replace eB := Ext.then eB c1_8 (ge_of hfhb1_7 (by omega))
    replace cJ2 := Ext.then cJ2 c1_8 (ge_of hfhb1_7 (by omega))
    try simp (disch := decide) only [outv_some, outv_none, put_puts]
    refine plK_last (by decide) ?_
    try simp -implicitDefEqProofs (disch := first | decide | assumption | omega) only [go_sem, RdS.len hdX sl22, RdS.idx hdX sl22, R1.intB hdX (Ext.pres eB), RdS.cells hdX, RdS.len hmX sl23, RdS.idx hmX sl23, RdS.cellB hmX (Ext.pres eB), RdS.cells hmX, RdS.len hdY sl22, RdS.idx hdY sl22, R1.intB hdY (Ext.pres eB), RdS.cells hdY, RdS.len hmY sl23, RdS.idx hmY sl23, RdS.cellB hmY (Ext.pres eB), RdS.cells hmY, RdS.len (OS.rd ho1_5) sl23, RdS.idx (OS.rd ho1_5) sl23, RdS.cellN (OS.rd ho1_5), RdS.cells (OS.rd ho1_5), RdS.len (OS.rd how1_4_0) sl22, RdS.idx (OS.rd how1_4_0) sl22, R1.intN (OS.rd how1_4_0), RdS.cells (OS.rd how1_4_0), BoxAt.cell hb0_0, BoxAt.cell hb0_1, BoxAt.cell hb0_2, BoxAt.cell hb1_7, wrap_id, bC3 (OS.isSl how1_4_0) (OS.isSl ho1_5)]
    exact hK (vw1_4_0, fw1_4_0, v1_5, [h0_2.size], h1_5.size) _ _ (by simp [HasL, puts_at]) ⟨how1_4_0, (hfw1_4_0.mono (by omega)), ho1_5, (hfho1_5.mono (by omega)), hb1_7, (hfhb1_7.mono (by omega)), (apart_gt hfw1_4_0 hlho1_5 (by omega)), (apart_gt hfw1_4_0 hlhb1_7 (by omega)), (apart_lt hlho1_5 hfhb1_7 (by omega)), cJ2⟩
  ·simp -implicitDefEqProofs (disch := first | decide | assumption | omega) only [go_sem, RdS.len hdX sl22, RdS.idx hdX sl22, R1.intB hdX (Ext.pres eB), RdS.cells hdX, RdS.len hmX sl23, RdS.idx hmX sl23, RdS.cellB hmX (Ext.pres eB), RdS.cells hmX, RdS.len hdY sl22, RdS.idx hdY sl22, R1.intB hdY (Ext.pres eB), RdS.cells hdY, RdS.len hmY sl23, RdS.idx hmY sl23, RdS.cellB hmY (Ext.pres eB), RdS.cells hmY, BoxAt.cell hb0_0, BoxAt.cell hb0_1, BoxAt.cell hb0_2, wrap_id]
   refine op_alloc (cs := #[.int .i64 0, .slice none 0 0, .slice none 0 0]) (by kernel_rfl) ?_
   intro h1_7 e1_7 hb1_7 z1_7
   replace hb0_0 := BoxAt.ext hb0_0 e1_7
   replace hb0_1 := BoxAt.ext hb0_1 e1_7
   replace hb0_2 := BoxAt.ext hb0_2 e1_7
   have := Ext.size e1_7
   replace eB := Ext.trans eB e1_7
   replace cJ2 := Ext.trans cJ2 e1_7
   have hfhb1_7 : Fresh h0_2.size [h0_2.size] := Fresh.one _
   have hlhb1_7 := one_lt (show h0_2.size < h1_7.size by omega)
   try simp (disch := decide) only [outv_some, outv_none, put_puts]
   refine plK_pres (Ext.pres e1_7) ?_
   try simp -implicitDefEqProofs (disch := first | decide | assumption | omega) only [go_sem, RdS.len hdX sl22, RdS.idx hdX sl22, R1.intB hdX (Ext.pres eB), RdS.cells hdX, RdS.len hmX sl23, RdS.idx hmX sl23, RdS.cellB hmX (Ext.pres eB), RdS.cells hmX, RdS.len hdY sl22, RdS.idx hdY sl22, R1.intB hdY (Ext.pres eB), RdS.cells hdY, RdS.len hmY sl23, RdS.idx hmY sl23, RdS.cellB hmY (Ext.pres eB), RdS.cells hmY, BoxAt.cell hb0_0, BoxAt.cell hb0_1, BoxAt.cell hb0_2, BoxAt.cell hb1_7, wrap_id]
   refine And.intro ?_ ?_
   ·simp -implicitDefEqProofs (disch := first | decide | assumption | omega) only [go_sem, RdS.len hdX sl22, RdS.idx hdX sl22, R1.intB hdX (Ext.pres eB), RdS.cells hdX, RdS.len hmX sl23, RdS.idx hmX sl23, RdS.cellB hmX (Ext.pres eB), RdS.cells hmX, RdS.len hdY sl22, RdS.idx hdY sl22, R1.intB hdY (Ext.pres eB), RdS.cells hdY, RdS.len hmY sl23, RdS.idx hmY sl23, RdS.cellB hmY (Ext.pres eB), RdS.cells hmY, BoxAt.cell hb0_0, BoxAt.cell hb0_1, BoxAt.cell hb0_2, BoxAt.cell hb1_7, wrap_id]
    try simp -implicitDefEqProofs (disch := first | decide | assumption | omega) only [go_sem, RdS.len hdX sl22, RdS.idx hdX sl22, R1.intB hdX (Ext.pres eB), RdS.cells hdX, RdS.len hmX sl23, RdS.idx hmX sl23, RdS.cellB hmX (Ext.pres eB), RdS.cells hmX, RdS.len hdY sl22, RdS.idx hdY sl22, R1.intB hdY (Ext.pres eB), RdS.cells hdY, RdS.len hmY sl23, RdS.idx hmY sl23, RdS.cellB hmY (Ext.pres eB), RdS.cells hmY, BoxAt.cell hb0_0, BoxAt.cell hb0_1, BoxAt.cell hb0_2, BoxAt.cell hb1_7, wrap_id]
    refine CallA.mono (sDims_ok _ _ X Y _ ⟨_, _, rfl, (RdS.pres hdX (Ext.pres eB)), (RdS.pres hmX (Ext.pres eB))⟩ ⟨_, _, rfl, (RdS.pres hdY (Ext.pres eB)), (RdS.pres hmY (Ext.pres eB))⟩ (hX) (hY)) ?_
    intro vw1_4_0 h1_4
    rintro ⟨zvw1_4_0, fw1_4_0, rfl, how1_4_0, hfw1_4_0, e1_4⟩
    replace hb0_0 := BoxAt.ext hb0_0 e1_4
    replace hb0_1 := BoxAt.ext hb0_1 e1_4
    replace hb0_2 := BoxAt.ext hb0_2 e1_4
    replace hb1_7 := BoxAt.ext hb1_7 e1_4
    have := Ext.size e1_4
    replace eB := Ext.trans eB e1_4
    replace cJ2 := Ext.trans cJ2 e1_4
    have hlhow1_4_0 := OS.lt how1_4_0
    try simp (disch := decide) only [outv_some, outv_none, put_puts]
    refine plK_pres (Ext.pres e1_4) ?_
    try simp -implicitDefEqProofs (disch := first | decide | assumption | omega) only [go_sem, RdS.len hdX sl22, RdS.idx hdX sl22, R1.intB hdX (Ext.pres eB), RdS.cells hdX, RdS.len hmX sl23, RdS.idx hmX sl23, RdS.cellB hmX (Ext.pres eB), RdS.cells hmX, RdS.len hdY sl22, RdS.idx hdY sl22, R1.intB hdY (Ext.pres eB), RdS.cells hdY, RdS.len hmY sl23, RdS.idx hmY sl23, RdS.cellB hmY (Ext.pres eB), RdS.cells hmY, RdS.len (OS.rd how1_4_0) sl22, RdS.idx (OS.rd how1_4_0) sl22, R1.intN (OS.rd how1_4_0), RdS.cells (OS.rd how1_4_0), BoxAt.cell hb0_0, BoxAt.cell hb0_1, BoxAt.cell hb0_2, BoxAt.cell hb1_7, wrap_id]
    refine op_bs0 sz23 O2 ?_
    intro v1_5 h1_5 ho1_5 e1_5
    replace how1_4_0 := OS.ext how1_4_0 e1_5
    replace hb0_0 := BoxAt.ext hb0_0 e1_5
    replace hb0_1 := BoxAt.ext hb0_1 e1_5
    replace hb0_2 := BoxAt.ext hb0_2 e1_5
    replace hb1_7 := BoxAt.ext hb1_7 e1_5
    have := Ext.size e1_5
    replace eB := Ext.trans eB e1_5
    replace cJ2 := Ext.trans cJ2 e1_5
    have hfho1_5 : Fresh h1_4.size [h1_4.size] := Fresh.one _
    have hlho1_5 := OS.lt ho1_5
    try simp (disch := decide) only [outv_some, outv_none, put_puts]
    refine plK_pres (Ext.pres e1_5) ?_
    try simp -implicitDefEqProofs (disch := first | decide | assumption | omega) only [go_sem, RdS.len hdX sl22, RdS.idx hdX sl22, R1.intB hdX (Ext.pres eB), RdS.cells hdX, RdS.len hmX sl23, RdS.idx hmX sl23, RdS.cellB hmX (Ext.pres eB), RdS.cells hmX, RdS.len hdY sl22, RdS.idx hdY sl22, R1.intB hdY (Ext.pres eB), RdS.cells hdY, RdS.len hmY sl23, RdS.idx hmY sl23, RdS.cellB hmY (Ext.pres eB), RdS.cells hmY, RdS.len (OS.rd how1_4_0) sl22, RdS.idx (OS.rd how1_4_0) sl22, R1.intN (OS.rd how1_4_0), RdS.cells (OS.rd how1_4_0), RdS.len (OS.rd ho1_5) sl23, RdS.idx (OS.rd ho1_5) sl23, RdS.cellN (OS.rd ho1_5), RdS.cells (OS.rd ho1_5), BoxAt.cell hb0_0, BoxAt.cell hb0_1, BoxAt.cell hb0_2, BoxAt.cell hb1_7, wrap_id, bC3 (OS.isSl how1_4_0) (OS.isSl ho1_5)]
    refine op_storeB (cs' := #[.int .i64 (X.p), vw1_4_0, v1_5]) st30 hb1_7 rfl rfl rfl (by simp) (allOne_mem (l := [.int .i64 (X.p), vw1_4_0, v1_5]) ⟨rfl, (OS.one how1_4_0).1, (OS.one ho1_5).1, trivial⟩) rfl ?_
    intro h1_8 hb1_7 c1_8
    replace how1_4_0 := OS.chg how1_4_0 c1_8 (apart_gt hfw1_4_0 hlhb1_7 (by omega))
    replace ho1_5 := OS.chg ho1_5 c1_8 (apart_gt hfho1_5 hlhb1_7 (by omega))
    replace hb0_0 := BoxAt.chgA hb0_0 c1_8 (apart_lt hlhb0_0 hfhb1_7 (by omega))
    replace hb0_1 := BoxAt.chgA hb0_1 c1_8 (apart_lt hlhb0_1 hfhb1_7 (by omega))
    replace hb0_2 := BoxAt.chgA hb0_2 c1_8 (apart_lt hlhb0_2 hfhb1_7 (by omega))
    have := c1_8.size
    replace eB := Ext.then eB c1_8 (ge_of hfhb1_7 (by omega))
    replace cJ2 := Ext.then cJ2 c1_8 (ge_of hfhb1_7 (by omega))
    try simp (disch := decide) only [outv_some, outv_none, put_puts]
    refine plK_last (by decide) ?_
    try simp -implicitDefEqProofs (disch := first | decide | assumption | omega) only [go_sem, RdS.len hdX sl22, RdS.idx hdX sl22, R1.intB hdX (Ext.pres eB), RdS.cells hdX, RdS.len hmX sl23, RdS.idx hmX sl23, RdS.cellB hmX (Ext.pres eB), RdS.cells hmX, RdS.len hdY sl22, RdS.idx hdY sl22, R1.intB hdY (Ext.pres eB), RdS.cells hdY, RdS.len hmY sl23, RdS.idx hmY sl23, RdS.cellB hmY (Ext.pres eB), RdS.cells hmY, RdS.len (OS.rd how1_4_0) sl22, RdS.idx (OS.rd how1_4_0) sl22, R1.intN (OS.rd how1_4_0), RdS.cells (OS.rd how1_4_0), RdS.len (OS.rd ho1_5) sl23, RdS.idx (OS.rd ho1_5) sl23, RdS.cellN (OS.rd ho1_5), RdS.cells (OS.rd ho1_5), BoxAt.cell hb0_0, BoxAt.cell hb0_1, BoxAt.cell hb0_2, BoxAt.cell hb1_7, wrap_id, bC3 (OS.isSl how1_4_0) (OS.isSl ho1_5)]
    exact hK (vw1_4_0, fw1_4_0, v1_5, [h1_4.size], h0_2.size) _ _ (by simp [HasL, puts_at]) ⟨how1_4_0, (hfw1_4_0.mono (by omega)), ho1_5, (hfho1_5.mono (by omega)), hb1_7, (hfhb1_7.mono (by omega)), (apart_lt hlhow1_4_0 hfho1_5 (by omega)), (apart_gt hfw1_4_0 hlhb1_7 (by omega)), (apart_gt hfho1_5 hlhb1_7 (by omega)), cJ2⟩
   ·simp -implicitDefEqProofs (disch := first | decide | assumption | omega) only [go_sem, RdS.len hdX sl22, RdS.idx hdX sl22, R1.intB hdX (Ext.pres eB), RdS.cells hdX, RdS.len hmX sl23, RdS.idx hmX sl23, RdS.cellB hmX (Ext.pres eB), RdS.cells hmX, RdS.len hdY sl22, RdS.idx hdY sl22, R1.intB hdY (Ext.pres eB), RdS.cells hdY, RdS.len hmY sl23, RdS.idx hmY sl23, RdS.cellB hmY (Ext.pres eB), RdS.cells hmY, BoxAt.cell hb0_0, BoxAt.cell hb0_1, BoxAt.cell hb0_2, BoxAt.cell hb1_7, wrap_id]
    refine op_bs0 sz23 O2 ?_
    intro v1_5 h1_5 ho1_5 e1_5
    replace hb0_0 := BoxAt.ext hb0_0 e1_5
    replace hb0_1 := BoxAt.ext hb0_1 e1_5
    replace hb0_2 := BoxAt.ext hb0_2 e1_5
    replace hb1_7 := BoxAt.ext hb1_7 e1_5
    have := Ext.size e1_5
    replace eB := Ext.trans eB e1_5
    replace cJ2 := Ext.trans cJ2 e1_5
    have hfho1_5 : Fresh h1_7.size [h1_7.size] := Fresh.one _
    have hlho1_5 := OS.lt ho1_5
    try simp (disch := decide) only [outv_some, outv_none, put_puts]
    refine plK_pres (Ext.pres e1_5) ?_
    try simp -implicitDefEqProofs (disch := first | decide | assumption | omega) only [go_sem, RdS.len hdX sl22, RdS.idx hdX sl22, R1.intB hdX (Ext.pres eB), RdS.cells hdX, RdS.len hmX sl23, RdS.idx hmX sl23, RdS.cellB hmX (Ext.pres eB), RdS.cells hmX, RdS.len hdY sl22, RdS.idx hdY sl22, R1.intB hdY (Ext.pres eB), RdS.cells hdY, RdS.len hmY sl23, RdS.idx hmY sl23, RdS.cellB hmY (Ext.pres eB), RdS.cells hmY, RdS.len (OS.rd ho1_5) sl23, RdS.idx (OS.rd ho1_5) sl23, RdS.cellN (OS.rd ho1_5), RdS.cells (OS.rd ho1_5), BoxAt.cell hb0_0, BoxAt.cell hb0_1, BoxAt.cell hb0_2, BoxAt.cell hb1_7, wrap_id]
    try simp -implicitDefEqProofs (disch := first | decide | assumption | omega) only [go_sem, RdS.len hdX sl22, RdS.idx hdX sl22, R1.intB hdX (Ext.pres eB), RdS.cells hdX, RdS.len hmX sl23, RdS.idx hmX sl23, RdS.cellB hmX (Ext.pres eB), RdS.cells hmX, RdS.len hdY sl22, RdS.idx hdY sl22, R1.intB hdY (Ext.pres eB), RdS.cells hdY, RdS.len hmY sl23, RdS.idx hmY sl23, RdS.cellB hmY (Ext.pres eB), RdS.cells hmY, RdS.len (OS.rd ho1_5) sl23, RdS.idx (OS.rd ho1_5) sl23, RdS.cellN (OS.rd ho1_5), RdS.cells (OS.rd ho1_5), BoxAt.cell hb0_0, BoxAt.cell hb0_1, BoxAt.cell hb0_2, BoxAt.cell hb1_7, wrap_id]
    refine CallA.mono (sDims_ok _ _ X Y _ ⟨_, _, rfl, (RdS.pres hdX (Ext.pres eB)), (RdS.pres hmX (Ext.pres eB))⟩ ⟨_, _, rfl, (RdS.pres hdY (Ext.pres eB)), (RdS.pres hmY (Ext.pres eB))⟩ (hX) (hY)) ?_
    intro vw1_4_0 h1_4
    rintro ⟨zvw1_4_0, fw1_4_0, rfl, how1_4_0, hfw1_4_0, e1_4⟩
    replace ho1_5 := OS.ext ho1_5 e1_4
    replace hb0_0 := BoxAt.ext hb0_0 e1_4
    replace hb0_1 := BoxAt.ext hb0_1 e1_4
    replace hb0_2 := BoxAt.ext hb0_2 e1_4
    replace hb1_7 := BoxAt.ext hb1_7 e1_4
    have := Ext.size e1_4
    replace eB := Ext.trans eB e1_4
    replace cJ2 := Ext.trans cJ2 e1_4
    have hlhow1_4_0 := OS.lt how1_4_0
    try simp (disch := decide) only [outv_some, outv_none, put_puts]
    refine plK_pres (Ext.pres e1_4) ?_
    try simp -implicitDefEqProofs (disch := first | decide | assumption | omega) only [go_sem, RdS.len hdX sl22, RdS.idx hdX sl22, R1.intB hdX (Ext.pres eB), RdS.cells hdX, RdS.len hmX sl23, RdS.idx hmX sl23, RdS.cellB hmX (Ext.pres eB), RdS.cells hmX, RdS.len hdY sl22, RdS.idx hdY sl22, R1.intB hdY (Ext.pres eB), RdS.cells hdY, RdS.len hmY sl23, RdS.idx hmY sl23, RdS.cellB hmY (Ext.pres eB), RdS.cells hmY, RdS.len (OS.rd ho1_5) sl23, RdS.idx (OS.rd ho1_5) sl23, RdS.cellN (OS.rd ho1_5), RdS.cells (OS.rd ho1_5), RdS.len (OS.rd how1_4_0) sl22, RdS.idx (OS.rd how1_4_0) sl22, R1.intN (OS.rd how1_4_0), RdS.cells (OS.rd how1_4_0), BoxAt.cell hb0_0, BoxAt.cell hb0_1, BoxAt.cell hb0_2, BoxAt.cell hb1_7, wrap_id, bC3 (OS.isSl how1_4_0) (OS.isSl ho1_5)]
    refine op_storeB (cs' := #[.int .i64 (X.p), vw1_4_0, v1_5]) st30 hb1_7 rfl rfl rfl (by simp) (allOne_mem (l := [.int .i64 (X.p), vw1_4_0, v1_5]) ⟨rfl, (OS.one how1_4_0).1, (OS.one ho1_5).1, trivial⟩) rfl ?_
    intro h1_8 hb1_7 c1_8
    replace ho1_5 := OS.chg ho1_5 c1_8 (apart_gt hfho1_5 hlhb1_7 (by omega))
    replace how1_4_0 := OS.chg how1_4_0 c1_8 (apart_gt hfw1_4_0 hlhb1_7 (by omega))
    replace hb0_0 := BoxAt.chgA hb0_0 c1_8 (apart_lt hlhb0_0 hfhb1_7 (by omega))
    replace hb0_1 := BoxAt.chgA hb0_1 c1_8 (apart_lt hlhb0_1 hfhb1_7 (by omega))
    replace hb0_2 := BoxAt.chgA hb0_2 c1_8 (apart_lt hlhb0_2 hfhb1_7 (by omega))
    have := c1_8.size
    replace eB := Ext.then eB c1_8 (ge_of hfhb1_7 (by omega))
    replace cJ2 := Ext.then cJ2 c1_8 (ge_of hfhb1_7 (by omega))
    try simp (disch := decide) only [outv_some, outv_none, put_puts]
    refine plK_last (by decide) ?_
    try simp -implicitDefEqProofs (disch := first | decide | assumption | omega) only [go_sem, RdS.len hdX sl22, RdS.idx hdX sl22, R1.intB hdX (Ext.pres eB), RdS.cells hdX, RdS.len hmX sl23, RdS.idx hmX sl23, RdS.cellB hmX (Ext.pres eB), RdS.cells hmX, RdS.len hdY sl22, RdS.idx hdY sl22, R1.intB hdY (Ext.pres eB), RdS.cells hdY, RdS.len hmY sl23, RdS.idx hmY sl23, RdS.cellB hmY (Ext.pres eB), RdS.cells hmY, RdS.len (OS.rd ho1_5) sl23, RdS.idx (OS.rd ho1_5) sl23, RdS.cellN (OS.rd ho1_5), RdS.cells (OS.rd ho1_5), RdS.len (OS.rd how1_4_0) sl22, RdS.idx (OS.rd how1_4_0) sl22, R1.intN (OS.rd how1_4_0), RdS.cells (OS.rd how1_4_0), BoxAt.cell hb0_0, BoxAt.cell hb0_1, BoxAt.cell hb0_2, BoxAt.cell hb1_7, wrap_id, bC3 (OS.isSl how1_4_0) (OS.isSl ho1_5)]
    exact hK (vw1_4_0, fw1_4_0, v1_5, [h1_7.size], h0_2.size) _ _ (by simp [HasL, puts_at]) ⟨how1_4_0, (hfw1_4_0.mono (by omega)), ho1_5, (hfho1_5.mono (by omega)), hb1_7, (hfhb1_7.mono (by omega)), (apart_gt hfw1_4_0 hlho1_5 (by omega)), (apart_gt hfw1_4_0 hlhb1_7 (by omega)), (apart_gt hfho1_5 hlhb1_7 (by omega)), cJ2⟩
 ·rintro ⟨vw1_4_0, fpJhow1_4_0, v1_5, fpJho1_5, bJhb1_7⟩ hj3 ee5 ⟨how1_4_0, hfhow1_4_0, ho1_5, hfho1_5, hb1_7, hfhb1_7, apJ_how1_4_0_ho1_5, apJ_how1_4_0_hb1_7, apJ_ho1_5_hb1_7, eJ4⟩
  dsimp only at how1_4_0 hfhow1_4_0 ho1_5 hfho1_5 hb1_7 hfhb1_7 apJ_how1_4_0_ho1_5 apJ_how1_4_0_hb1_7 apJ_ho1_5_hb1_7 eJ4
  replace hb0_0 := BoxAt.ext hb0_0 eJ4
  replace hb0_1 := BoxAt.ext hb0_1 eJ4
  replace hb0_2 := BoxAt.ext hb0_2 eJ4
  have := Ext.size eJ4
  replace eB := Ext.trans eB eJ4
  have hlhow1_4_0 := OS.lt how1_4_0
  have hlho1_5 := OS.lt ho1_5
  have hlhb1_7 := one_lt hb1_7.lt
  simp only [List.cons_append, List.nil_append]
  refine den_seq ?_
  refine den_seq ?_
  refine den_region TTok ?_
  intro K hK
  simp -implicitDefEqProofs (disch := first | decide | assumption | omega) only [go_sem, RdS.len hdX sl22, RdS.idx hdX sl22, R1.intB hdX (Ext.pres eB), RdS.cells hdX, RdS.len hmX sl23, RdS.idx hmX sl23, RdS.cellB hmX (Ext.pres eB), RdS.cells hmX, RdS.len hdY sl22, RdS.idx hdY sl22, R1.intB hdY (Ext.pres eB), RdS.cells hdY, RdS.len hmY sl23, RdS.idx hmY sl23, RdS.cellB hmY (Ext.pres eB), RdS.cells hmY, RdS.len (OS.rd how1_4_0) sl22, RdS.idx (OS.rd how1_4_0) sl22, R1.intN (OS.rd how1_4_0), RdS.cells (OS.rd how1_4_0), RdS.len (OS.rd ho1_5) sl23, RdS.idx (OS.rd ho1_5) sl23, RdS.cellN (OS.rd ho1_5), RdS.cells (OS.rd ho1_5), BoxAt.cell hb0_0, BoxAt.cell hb0_1, BoxAt.cell hb0_2, BoxAt.cell hb1_7, wrap_id]
  refine hK _ _ ?_
  clear hK K
  refine den_block ?_
  refine den_sel [6, 2, 3, 4, 5] ?_
  intro env_6
  simp only [go_sem]
  refine den_loopS (σ := Nat × Value × List Nat) (fun st_ => [(6, .int .i64 (st_.1 : Int))]) (fun st_ H => (1 ≤ st_.1) ∧ (st_.1 ≤ (tdP X Y).length) ∧ (O3 H st_.2.1 ((tT X Y).take (st_.1 - 1)) st_.2.2) ∧ (Fresh (h0_2.size) st_.2.2) ∧ (Sub (fpJho1_5 ++ ([bJhb1_7])) hj3.size st_.2.2) ∧ (BoxAt H (bJhb1_7) #[.int .i64 (X.p), vw1_4_0, st_.2.1] 30) ∧ (Apart st_.2.2 [bJhb1_7]) ∧ (Chg (fpJho1_5 ++ ([bJhb1_7])) hj3 H)) (fun st_ => (tdP X Y).length - st_.1) (1, v1_5, fpJho1_5) ?_ ?_
  ·exact ⟨by omega, by omega, by rw [show (1 : Nat) - 1 = 0 from rfl, List.take_zero]; exact ho1_5, hfho1_5, (Sub.left Sub.refl), by simpa using hb1_7, apJ_ho1_5_hb1_7, Chg.refl _ _⟩
  ·rintro ⟨n, vhM, fphM⟩ h9 ee8 ⟨hi0, hi1, hM, hfhM, sbhM, hbx5, ap_hM_hbx5, cL7⟩
   dsimp only at hi0 hi1 hM hfhM sbhM hbx5 ap_hM_hbx5 cL7
   replace how1_4_0 := OS.chg how1_4_0 cL7 (Apart.app apJ_how1_4_0_ho1_5 apJ_how1_4_0_hb1_7)
   replace hb0_0 := BoxAt.chgA hb0_0 cL7 (Apart.app (apart_lt hlhb0_0 hfho1_5 (by omega)) (apart_lt hlhb0_0 hfhb1_7 (by omega)))
   replace hb0_1 := BoxAt.chgA hb0_1 cL7 (Apart.app (apart_lt hlhb0_1 hfho1_5 (by omega)) (apart_lt hlhb0_1 hfhb1_7 (by omega)))
   replace hb0_2 := BoxAt.chgA hb0_2 cL7 (Apart.app (apart_lt hlhb0_2 hfho1_5 (by omega)) (apart_lt hlhb0_2 hfhb1_7 (by omega)))
   have := cL7.size
   replace eB := Ext.then eB cL7 (ge_app (ge_of hfho1_5 (by omega)) (ge_of hfhb1_7 (by omega)))
   have ap10 : Apart fpJhow1_4_0 fphM := Apart.sub_ hlhow1_4_0 (by omega) (Apart.app apJ_how1_4_0_ho1_5 apJ_how1_4_0_hb1_7) sbhM
   have hlhM := OS.lt hM
   have hfhbx5 := hfhb1_7
   have hlhbx5 := hlhb1_7
   simp only [List.cons_append, List.nil_append]
   refine den_seq ?_
   refine den_seq ?_
   refine den_region TTok ?_
   intro K hK
   simp -implicitDefEqProofs (disch := first | decide | assumption | omega) only [go_sem, fa30_1, ld22, RdS.len hdX sl22, RdS.idx hdX sl22, R1.intB hdX (Ext.pres eB), RdS.cells hdX, RdS.len hmX sl23, RdS.idx hmX sl23, RdS.cellB hmX (Ext.pres eB), RdS.cells hmX, RdS.len hdY sl22, RdS.idx hdY sl22, R1.intB hdY (Ext.pres eB), RdS.cells hdY, RdS.len hmY sl23, RdS.idx hmY sl23, RdS.cellB hmY (Ext.pres eB), RdS.cells hmY, RdS.len (OS.rd how1_4_0) sl22, RdS.idx (OS.rd how1_4_0) sl22, R1.intN (OS.rd how1_4_0), RdS.cells (OS.rd how1_4_0), RdS.len (OS.rd hM) sl23, RdS.idx (OS.rd hM) sl23, RdS.cellN (OS.rd hM), RdS.cells (OS.rd hM), BoxAt.cell hb0_0, BoxAt.cell hb0_1, BoxAt.cell hb0_2, BoxAt.cell hbx5, wrap_id]
   refine hK _ _ ?_
   clear hK K
   refine den_cond rfl (fun c0 => ?_) (fun c0 => ?_)
   ·try simp only [decide_eq_true_eq, decide_eq_false_iff_not, beq_iff_eq, beq_eq_false_iff_ne, bne_iff_ne, ne_eq, Bool.not_eq_true', Bool.not_eq_false', Bool.and_eq_true, Bool.or_eq_true, bne_eq_false_iff_eq] at c0
    refine den_skip ?_
    refine den_seq ?_
    refine den_block ?_
    refine den_seq ?_
    have htr := tT_rows hX hY (n := n) (by omega) (by omega)
    have htb := tdP_bnd hX hY (n := n) (by omega)
    have htg := tdP_get X Y (n := n) (by omega)
    refine den_region TTok ?_
    intro K hK
    simp -implicitDefEqProofs (disch := first | decide | assumption | omega) only [go_sem, RdS.len hdX sl22, RdS.idx hdX sl22, R1.intB hdX (Ext.pres eB), RdS.cells hdX, RdS.len hmX sl23, RdS.idx hmX sl23, RdS.cellB hmX (Ext.pres eB), RdS.cells hmX, RdS.len hdY sl22, RdS.idx hdY sl22, R1.intB hdY (Ext.pres eB), RdS.cells hdY, RdS.len hmY sl23, RdS.idx hmY sl23, RdS.cellB hmY (Ext.pres eB), RdS.cells hmY, RdS.len (OS.rd how1_4_0) sl22, RdS.idx (OS.rd how1_4_0) sl22, R1.intN (OS.rd how1_4_0), RdS.cells (OS.rd how1_4_0), RdS.len (OS.rd hM) sl23, RdS.idx (OS.rd hM) sl23, RdS.cellN (OS.rd hM), RdS.cells (OS.rd hM), BoxAt.cell hb0_0, BoxAt.cell hb0_1, BoxAt.cell hb0_2, BoxAt.cell hbx5, wrap_id]
    refine op_bs0 sz56 O1 ?_
    intro v5_0 h5_0 ho5_0 e5_0
    replace how1_4_0 := OS.ext how1_4_0 e5_0
    replace hM := OS.ext hM e5_0
    replace hb0_0 := BoxAt.ext hb0_0 e5_0
    replace hb0_1 := BoxAt.ext hb0_1 e5_0
    replace hb0_2 := BoxAt.ext hb0_2 e5_0
    replace hbx5 := BoxAt.ext hbx5 e5_0
    have := Ext.size e5_0
    replace eB := Ext.trans eB e5_0
    replace cL7 := Chg.stepE cL7 e5_0
    have hfho5_0 : Fresh h9.size [h9.size] := Fresh.one _
    have hlho5_0 := OS.lt ho5_0
    try simp -implicitDefEqProofs (disch := first | decide | assumption | omega) only [go_sem, RdS.len hdX sl22, RdS.idx hdX sl22, R1.intB hdX (Ext.pres eB), RdS.cells hdX, RdS.len hmX sl23, RdS.idx hmX sl23, RdS.cellB hmX (Ext.pres eB), RdS.cells hmX, RdS.len hdY sl22, RdS.idx hdY sl22, R1.intB hdY (Ext.pres eB), RdS.cells hdY, RdS.len hmY sl23, RdS.idx hmY sl23, RdS.cellB hmY (Ext.pres eB), RdS.cells hmY, RdS.len (OS.rd how1_4_0) sl22, RdS.idx (OS.rd how1_4_0) sl22, R1.intN (OS.rd how1_4_0), RdS.cells (OS.rd how1_4_0), RdS.len (OS.rd hM) sl23, RdS.idx (OS.rd hM) sl23, RdS.cellN (OS.rd hM), RdS.cells (OS.rd hM), RdS.len (OS.rd ho5_0) sl56, RdS.idx (OS.rd ho5_0) sl56, RdS.cellN (OS.rd ho5_0), RdS.cells (OS.rd ho5_0), BoxAt.cell hb0_0, BoxAt.cell hb0_1, BoxAt.cell hb0_2, BoxAt.cell hbx5, wrap_id]
    refine hK _ _ ?_
    clear hK K
    refine den_seq ?_
    refine den_seq ?_
    refine den_region TTok ?_
    intro K hK
    simp -implicitDefEqProofs (disch := first | decide | assumption | omega) only [go_sem, RdS.len hdX sl22, RdS.idx hdX sl22, R1.intB hdX (Ext.pres eB), RdS.cells hdX, RdS.len hmX sl23, RdS.idx hmX sl23, RdS.cellB hmX (Ext.pres eB), RdS.cells hmX, RdS.len hdY sl22, RdS.idx hdY sl22, R1.intB hdY (Ext.pres eB), RdS.cells hdY, RdS.len hmY sl23, RdS.idx hmY sl23, RdS.cellB hmY (Ext.pres eB), RdS.cells hmY, RdS.len (OS.rd how1_4_0) sl22, RdS.idx (OS.rd how1_4_0) sl22, R1.intN (OS.rd how1_4_0), RdS.cells (OS.rd how1_4_0), RdS.len (OS.rd hM) sl23, RdS.idx (OS.rd hM) sl23, RdS.cellN (OS.rd hM), RdS.cells (OS.rd hM), RdS.len (OS.rd ho5_0) sl56, RdS.idx (OS.rd ho5_0) sl56, RdS.cellN (OS.rd ho5_0), RdS.cells (OS.rd ho5_0), BoxAt.cell hb0_0, BoxAt.cell hb0_1, BoxAt.cell hb0_2, BoxAt.cell hbx5, wrap_id]
    refine hK _ _ ?_
    clear hK K
    refine den_block ?_
    refine den_sel [7, 8, 2, 3, 4, 5, 6] ?_
    intro env_11
    simp only [go_sem]
    refine den_loopS (σ := Nat × Value × List Nat) (fun st_ => [(7, st_.2.1), (8, .int .i64 (st_.1 : Int))]) (fun st_ H => (st_.1 ≤ n + 1) ∧ (O2 H st_.2.1 (((tT X Y).getD (n - 1) default).take (sumP X Y n st_.1).toNat) st_.2.2) ∧ (Fresh (h9.size) st_.2.2) ∧ (Sub [h9.size] h5_0.size st_.2.2) ∧ (Chg [h9.size] h5_0 H)) (fun st_ => n + 1 - st_.1) (0, v5_0, [h9.size]) ?_ ?_
    ·exact ⟨by first | (simp; done) | (dsimp only; omega) | (simp; omega), by rw [sumP, Int.toNat_zero, List.take_zero]; exact ho5_0, hfho5_0, Sub.refl, Chg.refl _ _⟩
    ·rintro ⟨i, vhR, fphR⟩ h14 ee13 ⟨hi0, hR, hfhR, sbhR, cL12⟩
     dsimp only at hi0 hR hfhR sbhR cL12
     replace how1_4_0 := OS.chg how1_4_0 cL12 (apart_lt hlhow1_4_0 hfho5_0 (by omega))
     replace hM := OS.chg hM cL12 (apart_lt hlhM hfho5_0 (by omega))
     replace hb0_0 := BoxAt.chgA hb0_0 cL12 (apart_lt hlhb0_0 hfho5_0 (by omega))
     replace hb0_1 := BoxAt.chgA hb0_1 cL12 (apart_lt hlhb0_1 hfho5_0 (by omega))
     replace hb0_2 := BoxAt.chgA hb0_2 cL12 (apart_lt hlhb0_2 hfho5_0 (by omega))
     replace hbx5 := BoxAt.chgA hbx5 cL12 (apart_lt hlhbx5 hfho5_0 (by omega))
     have := cL12.size
     replace eB := Ext.then eB cL12 (ge_of hfho5_0 (by omega))
     replace cL7 := Chg.step cL7 cL12 (Sub.fresh hfho5_0 (by omega))
     have hlhR := OS.lt hR
     simp only [List.cons_append, List.nil_append]
     refine den_seq ?_
     refine den_seq ?_
     refine den_region TTok ?_
     intro K hK
     simp -implicitDefEqProofs (disch := first | decide | assumption | omega) only [go_sem, RdS.len hdX sl22, RdS.idx hdX sl22, R1.intB hdX (Ext.pres eB), RdS.cells hdX, RdS.len hmX sl23, RdS.idx hmX sl23, RdS.cellB hmX (Ext.pres eB), RdS.cells hmX, RdS.len hdY sl22, RdS.idx hdY sl22, R1.intB hdY (Ext.pres eB), RdS.cells hdY, RdS.len hmY sl23, RdS.idx hmY sl23, RdS.cellB hmY (Ext.pres eB), RdS.cells hmY, RdS.len (OS.rd how1_4_0) sl22, RdS.idx (OS.rd how1_4_0) sl22, R1.intN (OS.rd how1_4_0), RdS.cells (OS.rd how1_4_0), RdS.len (OS.rd hM) sl23, RdS.idx (OS.rd hM) sl23, RdS.cellN (OS.rd hM), RdS.cells (OS.rd hM), RdS.len (OS.rd hR) sl56, RdS.idx (OS.rd hR) sl56, RdS.cellN (OS.rd hR), RdS.cells (OS.rd hR), BoxAt.cell hb0_0, BoxAt.cell hb0_1, BoxAt.cell hb0_2, BoxAt.cell hbx5, wrap_id]
     refine hK _ _ ?_
     clear hK K
     refine den_cond rfl (fun c1 => ?_) (fun c1 => ?_)
     ·try simp only [decide_eq_true_eq, decide_eq_false_iff_not, beq_iff_eq, beq_eq_false_iff_ne, bne_iff_ne, ne_eq, Bool.not_eq_true', Bool.not_eq_false', Bool.and_eq_true, Bool.or_eq_true, bne_eq_false_iff_eq] at c1
      refine den_skip ?_
      refine den_seq ?_
      refine den_block ?_
      refine den_seq ?_
      refine den_region TTok ?_
      intro K hK
      simp -implicitDefEqProofs (disch := first | decide | assumption | omega) only [go_sem, RdS.len hdX sl22, RdS.idx hdX sl22, R1.intB hdX (Ext.pres eB), RdS.cells hdX, RdS.len hmX sl23, RdS.idx hmX sl23, RdS.cellB hmX (Ext.pres eB), RdS.cells hmX, RdS.len hdY sl22, RdS.idx hdY sl22, R1.intB hdY (Ext.pres eB), RdS.cells hdY, RdS.len hmY sl23, RdS.idx hmY sl23, RdS.cellB hmY (Ext.pres eB), RdS.cells hmY, RdS.len (OS.rd how1_4_0) sl22, RdS.idx (OS.rd how1_4_0) sl22, R1.intN (OS.rd how1_4_0), RdS.cells (OS.rd how1_4_0), RdS.len (OS.rd hM) sl23, RdS.idx (OS.rd hM) sl23, RdS.cellN (OS.rd hM), RdS.cells (OS.rd hM), RdS.len (OS.rd hR) sl56, RdS.idx (OS.rd hR) sl56, RdS.cellN (OS.rd hR), RdS.cells (OS.rd hR), BoxAt.cell hb0_0, BoxAt.cell hb0_1, BoxAt.cell hb0_2, BoxAt.cell hbx5, wrap_id]
      refine hK _ _ ?_
      clear hK K
      refine den_block ?_
      refine den_sel [7, 9, 2, 3, 4, 5, 6, 8] ?_
      intro env_15
      simp only [go_sem]
      refine den_loopS (σ := Nat × Value × List Nat) (fun st_ => [(7, st_.2.1), (9, .int .i64 (st_.1 : Int))]) (fun st_ H => ((st_.1 : Int) ≤ dimP X i) ∧ (O2 H st_.2.1 (((tT X Y).getD (n - 1) default).take (placeP X Y i st_.1 ((n : Int) - i) 0).toNat) st_.2.2) ∧ (Fresh (h9.size) st_.2.2) ∧ (Sub fphR h14.size st_.2.2) ∧ (Chg fphR h14 H)) (fun st_ => (dimP X i).toNat - st_.1) (0, vhR, fphR) ?_ ?_
      ·exact ⟨by have := dimP_bnd hX (i : Int); omega, by rw [show placeP X Y i ((0 : Nat) : Int) ((n : Int) - i) 0 = sumP X Y n i by have h := (place_next X Y i 0 ((n : Int) - i) 0 (by omega)).2.2.1; rw [show (i : Int) + ((n : Int) - i) = n by omega, Int.toNat_natCast] at h; exact h]; exact hR, hfhR, Sub.refl, Chg.refl _ _⟩
      ·rintro ⟨a, vhA, fphA⟩ h18 ee17 ⟨hi0, hA, hfhA, sbhA, cL16⟩
       dsimp only at hi0 hA hfhA sbhA cL16
       replace how1_4_0 := OS.chg how1_4_0 cL16 (apart_lt hlhow1_4_0 hfhR (by omega))
       replace hM := OS.chg hM cL16 (apart_lt hlhM hfhR (by omega))
       replace hb0_0 := BoxAt.chgA hb0_0 cL16 (apart_lt hlhb0_0 hfhR (by omega))
       replace hb0_1 := BoxAt.chgA hb0_1 cL16 (apart_lt hlhb0_1 hfhR (by omega))
       replace hb0_2 := BoxAt.chgA hb0_2 cL16 (apart_lt hlhb0_2 hfhR (by omega))
       replace hbx5 := BoxAt.chgA hbx5 cL16 (apart_lt hlhbx5 hfhR (by omega))
       have := cL16.size
       replace eB := Ext.then eB cL16 (ge_of hfhR (by omega))
       replace cL7 := Chg.step cL7 cL16 (Sub.fresh hfhR (by omega))
       replace cL12 := Chg.step cL12 cL16 sbhR
       have sb19 : Sub [h9.size] h5_0.size fphA := Sub.trans sbhA sbhR (by omega)
       have hlhA := OS.lt hA
       simp only [List.cons_append, List.nil_append]
       refine den_seq ?_
       refine den_seq ?_
       have hpn0 := place_next X Y i 0 ((n : Int) - i) 0 (by omega)
       have hbX := dimP_bnd hX (i : Int)
       refine den_region TTok ?_
       intro K hK
       simp -implicitDefEqProofs (disch := first | decide | assumption | omega) only [go_sem, ld30, RdS.len hdX sl22, RdS.idx hdX sl22, R1.intB hdX (Ext.pres eB), RdS.cells hdX, RdS.len hmX sl23, RdS.idx hmX sl23, RdS.cellB hmX (Ext.pres eB), RdS.cells hmX, RdS.len hdY sl22, RdS.idx hdY sl22, R1.intB hdY (Ext.pres eB), RdS.cells hdY, RdS.len hmY sl23, RdS.idx hmY sl23, RdS.cellB hmY (Ext.pres eB), RdS.cells hmY, RdS.len (OS.rd how1_4_0) sl22, RdS.idx (OS.rd how1_4_0) sl22, R1.intN (OS.rd how1_4_0), RdS.cells (OS.rd how1_4_0), RdS.len (OS.rd hM) sl23, RdS.idx (OS.rd hM) sl23, RdS.cellN (OS.rd hM), RdS.cells (OS.rd hM), RdS.len (OS.rd hA) sl56, RdS.idx (OS.rd hA) sl56, RdS.cellN (OS.rd hA), RdS.cells (OS.rd hA), BoxAt.cell hb0_0, BoxAt.cell hb0_1, BoxAt.cell hb0_2, BoxAt.cell hbx5, wrap_id]
       try simp -implicitDefEqProofs (disch := first | decide | assumption | omega) only [go_sem, RdS.len hdX sl22, RdS.idx hdX sl22, R1.intB hdX (Ext.pres eB), RdS.cells hdX, RdS.len hmX sl23, RdS.idx hmX sl23, RdS.cellB hmX (Ext.pres eB), RdS.cells hmX, RdS.len hdY sl22, RdS.idx hdY sl22, R1.intB hdY (Ext.pres eB), RdS.cells hdY, RdS.len hmY sl23, RdS.idx hmY sl23, RdS.cellB hmY (Ext.pres eB), RdS.cells hmY, RdS.len (OS.rd how1_4_0) sl22, RdS.idx (OS.rd how1_4_0) sl22, R1.intN (OS.rd how1_4_0), RdS.cells (OS.rd how1_4_0), RdS.len (OS.rd hM) sl23, RdS.idx (OS.rd hM) sl23, RdS.cellN (OS.rd hM), RdS.cells (OS.rd hM), RdS.len (OS.rd hA) sl56, RdS.idx (OS.rd hA) sl56, RdS.cellN (OS.rd hA), RdS.cells (OS.rd hA), BoxAt.cell hb0_0, BoxAt.cell hb0_1, BoxAt.cell hb0_2, BoxAt.cell hbx5, wrap_id]
       refine CallA.mono (sDim_ok _ X _ _ ⟨_, _, rfl, (RdS.pres hdX (Ext.pres eB)), (RdS.pres hmX (Ext.pres eB))⟩) ?_
       intro v_ h10_3
       rintro ⟨rfl, e10_3⟩
       replace how1_4_0 := OS.ext how1_4_0 e10_3
       replace hM := OS.ext hM e10_3
       replace hA := OS.ext hA e10_3
       replace hb0_0 := BoxAt.ext hb0_0 e10_3
       replace hb0_1 := BoxAt.ext hb0_1 e10_3
       replace hb0_2 := BoxAt.ext hb0_2 e10_3
       replace hbx5 := BoxAt.ext hbx5 e10_3
       have := Ext.size e10_3
       replace eB := Ext.trans eB e10_3
       replace cL7 := Chg.stepE cL7 e10_3
       replace cL12 := Chg.stepE cL12 e10_3
       replace cL16 := Chg.stepE cL16 e10_3
       try simp -implicitDefEqProofs (disch := first | decide | assumption | omega) only [go_sem, RdS.len hdX sl22, RdS.idx hdX sl22, R1.intB hdX (Ext.pres eB), RdS.cells hdX, RdS.len hmX sl23, RdS.idx hmX sl23, RdS.cellB hmX (Ext.pres eB), RdS.cells hmX, RdS.len hdY sl22, RdS.idx hdY sl22, R1.intB hdY (Ext.pres eB), RdS.cells hdY, RdS.len hmY sl23, RdS.idx hmY sl23, RdS.cellB hmY (Ext.pres eB), RdS.cells hmY, RdS.len (OS.rd how1_4_0) sl22, RdS.idx (OS.rd how1_4_0) sl22, R1.intN (OS.rd how1_4_0), RdS.cells (OS.rd how1_4_0), RdS.len (OS.rd hM) sl23, RdS.idx (OS.rd hM) sl23, RdS.cellN (OS.rd hM), RdS.cells (OS.rd hM), RdS.len (OS.rd hA) sl56, RdS.idx (OS.rd hA) sl56, RdS.cellN (OS.rd hA), RdS.cells (OS.rd hA), BoxAt.cell hb0_0, BoxAt.cell hb0_1, BoxAt.cell hb0_2, BoxAt.cell hbx5, wrap_id]
       refine hK _ _ ?_
       clear hK K
       refine den_cond rfl (fun c2 => ?_) (fun c2 => ?_)
       ·try simp only [decide_eq_true_eq, decide_eq_false_iff_not, beq_iff_eq, beq_eq_false_iff_ne, bne_iff_ne, ne_eq, Bool.not_eq_true', Bool.not_eq_false', Bool.and_eq_true, Bool.or_eq_true, bne_eq_false_iff_eq] at c2
        refine den_skip ?_
        refine den_seq ?_
        refine den_block ?_
        refine den_seq ?_
        refine den_region TTok ?_
        intro K hK
        simp -implicitDefEqProofs (disch := first | decide | assumption | omega) only [go_sem, RdS.len hdX sl22, RdS.idx hdX sl22, R1.intB hdX (Ext.pres eB), RdS.cells hdX, RdS.len hmX sl23, RdS.idx hmX sl23, RdS.cellB hmX (Ext.pres eB), RdS.cells hmX, RdS.len hdY sl22, RdS.idx hdY sl22, R1.intB hdY (Ext.pres eB), RdS.cells hdY, RdS.len hmY sl23, RdS.idx hmY sl23, RdS.cellB hmY (Ext.pres eB), RdS.cells hmY, RdS.len (OS.rd how1_4_0) sl22, RdS.idx (OS.rd how1_4_0) sl22, R1.intN (OS.rd how1_4_0), RdS.cells (OS.rd how1_4_0), RdS.len (OS.rd hM) sl23, RdS.idx (OS.rd hM) sl23, RdS.cellN (OS.rd hM), RdS.cells (OS.rd hM), RdS.len (OS.rd hA) sl56, RdS.idx (OS.rd hA) sl56, RdS.cellN (OS.rd hA), RdS.cells (OS.rd hA), BoxAt.cell hb0_0, BoxAt.cell hb0_1, BoxAt.cell hb0_2, BoxAt.cell hbx5, wrap_id]
        refine hK _ _ ?_
        clear hK K
        refine den_block ?_
        refine den_sel [7, 10, 2, 3, 4, 5, 6, 8, 9] ?_
        intro env_20
        simp only [go_sem]
        refine den_loopS (σ := Nat × Value × List Nat) (fun st_ => [(7, st_.2.1), (10, .int .i64 (st_.1 : Int))]) (fun st_ H => ((st_.1 : Int) ≤ dimP Y ((n : Int) - i)) ∧ (O2 H st_.2.1 (((tT X Y).getD (n - 1) default).take (placeP X Y i a ((n : Int) - i) st_.1).toNat) st_.2.2) ∧ (Fresh (h9.size) st_.2.2) ∧ (Sub fphA h10_3.size st_.2.2) ∧ (Chg fphA h10_3 H)) (fun st_ => (dimP Y ((n : Int) - i)).toNat - st_.1) (0, vhA, fphA) ?_ ?_
        ·exact ⟨by have := dimP_bnd hY ((n : Int) - i); omega, by exact hA, hfhA, Sub.refl, Chg.refl _ _⟩
        ·rintro ⟨b, vhB, fphB⟩ h23 ee22 ⟨hi0, hB, hfhB, sbhB, cL21⟩
         dsimp only at hi0 hB hfhB sbhB cL21
         replace how1_4_0 := OS.chg how1_4_0 cL21 (apart_lt hlhow1_4_0 hfhA (by omega))
         replace hM := OS.chg hM cL21 (apart_lt hlhM hfhA (by omega))
         replace hb0_0 := BoxAt.chgA hb0_0 cL21 (apart_lt hlhb0_0 hfhA (by omega))
         replace hb0_1 := BoxAt.chgA hb0_1 cL21 (apart_lt hlhb0_1 hfhA (by omega))
         replace hb0_2 := BoxAt.chgA hb0_2 cL21 (apart_lt hlhb0_2 hfhA (by omega))
         replace hbx5 := BoxAt.chgA hbx5 cL21 (apart_lt hlhbx5 hfhA (by omega))
         have := cL21.size
         replace eB := Ext.then eB cL21 (ge_of hfhA (by omega))
         replace cL7 := Chg.step cL7 cL21 (Sub.fresh hfhA (by omega))
         replace cL12 := Chg.step cL12 cL21 sb19
         replace cL16 := Chg.step cL16 cL21 sbhA
         have sb24 : Sub [h9.size] h5_0.size fphB := Sub.trans sbhB sb19 (by omega)
         have sb25 : Sub fphR h14.size fphB := Sub.trans sbhB sbhA (by omega)
         have hlhB := OS.lt hB
         simp only [List.cons_append, List.nil_append]
         refine den_seq ?_
         refine den_seq ?_
         have hbY := dimP_bnd hY ((n : Int) - i)
         refine den_region TTok ?_
         intro K hK
         simp -implicitDefEqProofs (disch := first | decide | assumption | omega) only [go_sem, ld30, RdS.len hdX sl22, RdS.idx hdX sl22, R1.intB hdX (Ext.pres eB), RdS.cells hdX, RdS.len hmX sl23, RdS.idx hmX sl23, RdS.cellB hmX (Ext.pres eB), RdS.cells hmX, RdS.len hdY sl22, RdS.idx hdY sl22, R1.intB hdY (Ext.pres eB), RdS.cells hdY, RdS.len hmY sl23, RdS.idx hmY sl23, RdS.cellB hmY (Ext.pres eB), RdS.cells hmY, RdS.len (OS.rd how1_4_0) sl22, RdS.idx (OS.rd how1_4_0) sl22, R1.intN (OS.rd how1_4_0), RdS.cells (OS.rd how1_4_0), RdS.len (OS.rd hM) sl23, RdS.idx (OS.rd hM) sl23, RdS.cellN (OS.rd hM), RdS.cells (OS.rd hM), RdS.len (OS.rd hB) sl56, RdS.idx (OS.rd hB) sl56, RdS.cellN (OS.rd hB), RdS.cells (OS.rd hB), BoxAt.cell hb0_0, BoxAt.cell hb0_1, BoxAt.cell hb0_2, BoxAt.cell hbx5, wrap_id]
         try simp -implicitDefEqProofs (disch := first | decide | assumption | omega) only [go_sem, RdS.len hdX sl22, RdS.idx hdX sl22, R1.intB hdX (Ext.pres eB), RdS.cells hdX, RdS.len hmX sl23, RdS.idx hmX sl23, RdS.cellB hmX (Ext.pres eB), RdS.cells hmX, RdS.len hdY sl22, RdS.idx hdY sl22, R1.intB hdY (Ext.pres eB), RdS.cells hdY, RdS.len hmY sl23, RdS.idx hmY sl23, RdS.cellB hmY (Ext.pres eB), RdS.cells hmY, RdS.len (OS.rd how1_4_0) sl22, RdS.idx (OS.rd how1_4_0) sl22, R1.intN (OS.rd how1_4_0), RdS.cells (OS.rd how1_4_0), RdS.len (OS.rd hM) sl23, RdS.idx (OS.rd hM) sl23, RdS.cellN (OS.rd hM), RdS.cells (OS.rd hM), RdS.len (OS.rd hB) sl56, RdS.idx (OS.rd hB) sl56, RdS.cellN (OS.rd hB), RdS.cells (OS.rd hB), BoxAt.cell hb0_0, BoxAt.cell hb0_1, BoxAt.cell hb0_2, BoxAt.cell hbx5, wrap_id]
         refine CallA.mono (sDim_ok _ Y _ _ ⟨_, _, rfl, (RdS.pres hdY (Ext.pres eB)), (RdS.pres hmY (Ext.pres eB))⟩) ?_
         intro v_ h13_5
         rintro ⟨rfl, e13_5⟩
         replace how1_4_0 := OS.ext how1_4_0 e13_5
         replace hM := OS.ext hM e13_5
         replace hB := OS.ext hB e13_5
         replace hb0_0 := BoxAt.ext hb0_0 e13_5
         replace hb0_1 := BoxAt.ext hb0_1 e13_5
         replace hb0_2 := BoxAt.ext hb0_2 e13_5
         replace hbx5 := BoxAt.ext hbx5 e13_5
         have := Ext.size e13_5
         replace eB := Ext.trans eB e13_5
         replace cL7 := Chg.stepE cL7 e13_5
         replace cL12 := Chg.stepE cL12 e13_5
         replace cL16 := Chg.stepE cL16 e13_5
         replace cL21 := Chg.stepE cL21 e13_5
         try simp -implicitDefEqProofs (disch := first | decide | assumption | omega) only [go_sem, RdS.len hdX sl22, RdS.idx hdX sl22, R1.intB hdX (Ext.pres eB), RdS.cells hdX, RdS.len hmX sl23, RdS.idx hmX sl23, RdS.cellB hmX (Ext.pres eB), RdS.cells hmX, RdS.len hdY sl22, RdS.idx hdY sl22, R1.intB hdY (Ext.pres eB), RdS.cells hdY, RdS.len hmY sl23, RdS.idx hmY sl23, RdS.cellB hmY (Ext.pres eB), RdS.cells hmY, RdS.len (OS.rd how1_4_0) sl22, RdS.idx (OS.rd how1_4_0) sl22, R1.intN (OS.rd how1_4_0), RdS.cells (OS.rd how1_4_0), RdS.len (OS.rd hM) sl23, RdS.idx (OS.rd hM) sl23, RdS.cellN (OS.rd hM), RdS.cells (OS.rd hM), RdS.len (OS.rd hB) sl56, RdS.idx (OS.rd hB) sl56, RdS.cellN (OS.rd hB), RdS.cells (OS.rd hB), BoxAt.cell hb0_0, BoxAt.cell hb0_1, BoxAt.cell hb0_2, BoxAt.cell hbx5, wrap_id]
         refine hK _ _ ?_
         clear hK K
         refine den_cond rfl (fun c3 => ?_) (fun c3 => ?_)
         ·try simp only [decide_eq_true_eq, decide_eq_false_iff_not, beq_iff_eq, beq_eq_false_iff_ne, bne_iff_ne, ne_eq, Bool.not_eq_true', Bool.not_eq_false', Bool.and_eq_true, Bool.or_eq_true, bne_eq_false_iff_eq] at c3
          refine den_skip ?_
          refine den_seq ?_
          refine den_block ?_
          have hri := tRow_int hX hY hpp (n := n) (i := i) (a := a) (b := b) (by omega) (by omega) (by omega) (by omega)
          have hil := dim_lt (X := X) (k := i) (i := a) (by omega)
          have hjl : (n : Int) - i ≤ (Y.dims.length : Int) - 1 := by
           by_cases hq : (Y.dims.length : Int) ≤ (n : Int) - i
           ·have := dimP_big (Y := Y) hq; omega
           ·omega
          have hwq : (tdP X Y).getD ((n : Int) - 1).toNat 0 = (tdP X Y).getD ((i : Int) + ((n : Int) - (i : Int)) - 1).toNat 0 := by rw [show (i : Int) + ((n : Int) - (i : Int)) - 1 = (n : Int) - 1 by omega]
          have hlt : (((tT X Y).getD (n - 1) default).take (placeP X Y i a ((n : Int) - i) b).toNat).length ≤ 704 := by rw [List.length_take]; omega
          refine den_draw TTok mixed [17] [(0, true), (1, true), (2, true), (3, true), (4, true), (5, true), (6, true), (7, true), (8, true), (9, true), (10, true), (11, true), (12, true), (13, true), (14, true), (15, false), (16, false), (17, false), (18, true)] (by kernel_rfl) ?_
          intro K hK
          simp -implicitDefEqProofs (disch := first | decide | assumption | omega) only [go_sem, fa30_1, ld22, ld2, ld30, RdS.len hdX sl22, RdS.idx hdX sl22, R1.intB hdX (Ext.pres eB), RdS.cells hdX, RdS.len hmX sl23, RdS.idx hmX sl23, RdS.cellB hmX (Ext.pres eB), RdS.cells hmX, RdS.len hdY sl22, RdS.idx hdY sl22, R1.intB hdY (Ext.pres eB), RdS.cells hdY, RdS.len hmY sl23, RdS.idx hmY sl23, RdS.cellB hmY (Ext.pres eB), RdS.cells hmY, RdS.len (OS.rd how1_4_0) sl22, RdS.idx (OS.rd how1_4_0) sl22, R1.intN (OS.rd how1_4_0), RdS.cells (OS.rd how1_4_0), RdS.len (OS.rd hM) sl23, RdS.idx (OS.rd hM) sl23, RdS.cellN (OS.rd hM), RdS.cells (OS.rd hM), RdS.len (OS.rd hB) sl56, RdS.idx (OS.rd hB) sl56, RdS.cellN (OS.rd hB), RdS.cells (OS.rd hB), BoxAt.cell hb0_0, BoxAt.cell hb0_1, BoxAt.cell hb0_2, BoxAt.cell hbx5, wrap_id]
          try simp -implicitDefEqProofs (disch := first | decide | assumption | omega) only [go_sem, RdS.len hdX sl22, RdS.idx hdX sl22, R1.intB hdX (Ext.pres eB), RdS.cells hdX, RdS.len hmX sl23, RdS.idx hmX sl23, RdS.cellB hmX (Ext.pres eB), RdS.cells hmX, RdS.len hdY sl22, RdS.idx hdY sl22, R1.intB hdY (Ext.pres eB), RdS.cells hdY, RdS.len hmY sl23, RdS.idx hmY sl23, RdS.cellB hmY (Ext.pres eB), RdS.cells hmY, RdS.len (OS.rd how1_4_0) sl22, RdS.idx (OS.rd how1_4_0) sl22, R1.intN (OS.rd how1_4_0), RdS.cells (OS.rd how1_4_0), RdS.len (OS.rd hM) sl23, RdS.idx (OS.rd hM) sl23, RdS.cellN (OS.rd hM), RdS.cells (OS.rd hM), RdS.len (OS.rd hB) sl56, RdS.idx (OS.rd hB) sl56, RdS.cellN (OS.rd hB), RdS.cells (OS.rd hB), BoxAt.cell hb0_0, BoxAt.cell hb0_1, BoxAt.cell hb0_2, BoxAt.cell hbx5, wrap_id]
          refine CallA.mono (sRow_ok _ _ X Y (i : Int) (a : Int) ((n : Int) - (i : Int)) (b : Int) ((tdP X Y).getD (((n : Int) - (1 : Int))).toNat 0) _ ⟨_, _, rfl, (RdS.pres hdX (Ext.pres eB)), (RdS.pres hmX (Ext.pres eB))⟩ ⟨_, _, rfl, (RdS.pres hdY (Ext.pres eB)), (RdS.pres hmY (Ext.pres eB))⟩ hX hY (by omega) (by omega) (by omega) (by omega) (by omega) (by assumption)) ?_
          intro vw15_15_0 h15_15
          rintro ⟨zvw15_15_0, fw15_15_0, rfl, how15_15_0, hfw15_15_0, e15_15⟩
          replace how1_4_0 := OS.ext how1_4_0 e15_15
          replace hM := OS.ext hM e15_15
          replace hB := OS.ext hB e15_15
          replace hb0_0 := BoxAt.ext hb0_0 e15_15
          replace hb0_1 := BoxAt.ext hb0_1 e15_15
          replace hb0_2 := BoxAt.ext hb0_2 e15_15
          replace hbx5 := BoxAt.ext hbx5 e15_15
          have := Ext.size e15_15
          replace eB := Ext.trans eB e15_15
          replace cL7 := Chg.stepE cL7 e15_15
          replace cL12 := Chg.stepE cL12 e15_15
          replace cL16 := Chg.stepE cL16 e15_15
          replace cL21 := Chg.stepE cL21 e15_15
          have hlhow15_15_0 := OS.lt how15_15_0
          try simp (disch := decide) only [outv_some, outv_none, put_puts]
          refine plK_pres (Ext.pres e15_15) ?_
          try simp -implicitDefEqProofs (disch := first | decide | assumption | omega) only [go_sem, RdS.len hdX sl22, RdS.idx hdX sl22, R1.intB hdX (Ext.pres eB), RdS.cells hdX, RdS.len hmX sl23, RdS.idx hmX sl23, RdS.cellB hmX (Ext.pres eB), RdS.cells hmX, RdS.len hdY sl22, RdS.idx hdY sl22, R1.intB hdY (Ext.pres eB), RdS.cells hdY, RdS.len hmY sl23, RdS.idx hmY sl23, RdS.cellB hmY (Ext.pres eB), RdS.cells hmY, RdS.len (OS.rd how1_4_0) sl22, RdS.idx (OS.rd how1_4_0) sl22, R1.intN (OS.rd how1_4_0), RdS.cells (OS.rd how1_4_0), RdS.len (OS.rd hM) sl23, RdS.idx (OS.rd hM) sl23, RdS.cellN (OS.rd hM), RdS.cells (OS.rd hM), RdS.len (OS.rd hB) sl56, RdS.idx (OS.rd hB) sl56, RdS.cellN (OS.rd hB), RdS.cells (OS.rd hB), RdS.len (OS.rd how15_15_0) sl22, RdS.idx (OS.rd how15_15_0) sl22, R1.intN (OS.rd how15_15_0), RdS.cells (OS.rd how15_15_0), BoxAt.cell hb0_0, BoxAt.cell hb0_1, BoxAt.cell hb0_2, BoxAt.cell hbx5, wrap_id]
          refine op_bs1 sz56 rfl (OS.one how15_15_0).2 ?_
          try simp (disch := decide) only [outv_some, outv_none, put_puts]
          refine plK_pres (Ext.pres (Ext.push _ _)) ?_
          try simp -implicitDefEqProofs (disch := first | decide | assumption | omega) only [go_sem, RdS.len hdX sl22, RdS.idx hdX sl22, R1.intB hdX (Ext.pres eB), RdS.cells hdX, RdS.len hmX sl23, RdS.idx hmX sl23, RdS.cellB hmX (Ext.pres eB), RdS.cells hmX, RdS.len hdY sl22, RdS.idx hdY sl22, R1.intB hdY (Ext.pres eB), RdS.cells hdY, RdS.len hmY sl23, RdS.idx hmY sl23, RdS.cellB hmY (Ext.pres eB), RdS.cells hmY, RdS.len (OS.rd how1_4_0) sl22, RdS.idx (OS.rd how1_4_0) sl22, R1.intN (OS.rd how1_4_0), RdS.cells (OS.rd how1_4_0), RdS.len (OS.rd hM) sl23, RdS.idx (OS.rd hM) sl23, RdS.cellN (OS.rd hM), RdS.cells (OS.rd hM), RdS.len (OS.rd hB) sl56, RdS.idx (OS.rd hB) sl56, RdS.cellN (OS.rd hB), RdS.cells (OS.rd hB), RdS.len (OS.rd how15_15_0) sl22, RdS.idx (OS.rd how15_15_0) sl22, R1.intN (OS.rd how15_15_0), RdS.cells (OS.rd how15_15_0), BoxAt.cell hb0_0, BoxAt.cell hb0_1, BoxAt.cell hb0_2, BoxAt.cell hbx5, wrap_id]
          refine op_append1 sz56 hB hfhB.nodup how15_15_0 hfw15_15_0.nodup (apart_lt hlhB hfw15_15_0 (by omega)) (by first | omega | (simp; omega)) rfl rfl ?_
          intro v15_17 h15_17 fp15_17 ho15_17 hn15_17 hs15_17 c15_17
          have hsz15_17 := c15_17.size
          have hfho15_17 : Fresh h9.size fp15_17 := Fresh.appd hfhB hfw15_15_0 (by omega) (by omega) hn15_17 hs15_17
          have sb26 : Sub [h9.size] h5_0.size fp15_17 := Sub.grow sb24 (Sub.fresh hfw15_15_0 (by omega)) (by omega) hs15_17
          have sb27 : Sub fphR h14.size fp15_17 := Sub.grow sb25 (Sub.fresh hfw15_15_0 (by omega)) (by omega) hs15_17
          have sb28 : Sub fphA h10_3.size fp15_17 := Sub.grow sbhB (Sub.fresh hfw15_15_0 (by omega)) (by omega) hs15_17
          replace how1_4_0 := OS.chg how1_4_0 c15_17 (apart_lt hlhow1_4_0 hfhB (by omega))
          replace hM := OS.chg hM c15_17 (apart_lt hlhM hfhB (by omega))
          replace hb0_0 := BoxAt.chgA hb0_0 c15_17 (apart_lt hlhb0_0 hfhB (by omega))
          replace hb0_1 := BoxAt.chgA hb0_1 c15_17 (apart_lt hlhb0_1 hfhB (by omega))
          replace hb0_2 := BoxAt.chgA hb0_2 c15_17 (apart_lt hlhb0_2 hfhB (by omega))
          replace hbx5 := BoxAt.chgA hbx5 c15_17 (apart_lt hlhbx5 hfhB (by omega))
          have := c15_17.size
          replace eB := Ext.then eB c15_17 (ge_of hfhB (by omega))
          replace cL7 := Chg.step cL7 c15_17 (Sub.fresh hfhB (by omega))
          replace cL12 := Chg.step cL12 c15_17 sb24
          replace cL16 := Chg.step cL16 c15_17 sb25
          replace cL21 := Chg.step cL21 c15_17 sbhB
          have hlho15_17 := OS.lt ho15_17
          try simp (disch := decide) only [outv_some, outv_none, put_puts]
          refine plK_last (by decide) ?_
          try simp -implicitDefEqProofs (disch := first | decide | assumption | omega) only [go_sem, RdS.len hdX sl22, RdS.idx hdX sl22, R1.intB hdX (Ext.pres eB), RdS.cells hdX, RdS.len hmX sl23, RdS.idx hmX sl23, RdS.cellB hmX (Ext.pres eB), RdS.cells hmX, RdS.len hdY sl22, RdS.idx hdY sl22, R1.intB hdY (Ext.pres eB), RdS.cells hdY, RdS.len hmY sl23, RdS.idx hmY sl23, RdS.cellB hmY (Ext.pres eB), RdS.cells hmY, RdS.len (OS.rd how1_4_0) sl22, RdS.idx (OS.rd how1_4_0) sl22, R1.intN (OS.rd how1_4_0), RdS.cells (OS.rd how1_4_0), RdS.len (OS.rd hM) sl23, RdS.idx (OS.rd hM) sl23, RdS.cellN (OS.rd hM), RdS.cells (OS.rd hM), RdS.len (OS.rd ho15_17) sl56, RdS.idx (OS.rd ho15_17) sl56, RdS.cellN (OS.rd ho15_17), RdS.cells (OS.rd ho15_17), BoxAt.cell hb0_0, BoxAt.cell hb0_1, BoxAt.cell hb0_2, BoxAt.cell hbx5, wrap_id]
          refine hK _ _ ?_
          clear hK K
          refine den_blk ?_
          refine den_region TTok ?_
          intro K hK
          simp -implicitDefEqProofs (disch := first | decide | assumption | omega) only [go_sem, RdS.len hdX sl22, RdS.idx hdX sl22, R1.intB hdX (Ext.pres eB), RdS.cells hdX, RdS.len hmX sl23, RdS.idx hmX sl23, RdS.cellB hmX (Ext.pres eB), RdS.cells hmX, RdS.len hdY sl22, RdS.idx hdY sl22, R1.intB hdY (Ext.pres eB), RdS.cells hdY, RdS.len hmY sl23, RdS.idx hmY sl23, RdS.cellB hmY (Ext.pres eB), RdS.cells hmY, RdS.len (OS.rd how1_4_0) sl22, RdS.idx (OS.rd how1_4_0) sl22, R1.intN (OS.rd how1_4_0), RdS.cells (OS.rd how1_4_0), RdS.len (OS.rd hM) sl23, RdS.idx (OS.rd hM) sl23, RdS.cellN (OS.rd hM), RdS.cells (OS.rd hM), RdS.len (OS.rd ho15_17) sl56, RdS.idx (OS.rd ho15_17) sl56, RdS.cellN (OS.rd ho15_17), RdS.cells (OS.rd ho15_17), BoxAt.cell hb0_0, BoxAt.cell hb0_1, BoxAt.cell hb0_2, BoxAt.cell hbx5, wrap_id]
          refine hK _ _ ?_
          clear hK K
          refine den_stop ?_
          rw [hri.1, take_stepG hri.2.1, show (placeP X Y i a ((n : Int) - i) b).toNat + 1 = (placeP X Y i a ((n : Int) - i) ((b + 1 : Nat) : Int)).toNat by have h := (place_next X Y i a ((n : Int) - i) b (by omega)).2.1; rw [show ((b + 1 : Nat) : Int) = (b : Int) + 1 by omega, h]; have := hri.2.2; omega] at ho15_17
          exact ⟨(b + 1, v15_17, fp15_17), by simp [HasL, puts_at], ⟨by first | omega | (dsimp only; omega), ho15_17, hfho15_17, sb28, cL21⟩, by first | omega | (dsimp only; omega)⟩
         ·try simp only [decide_eq_true_eq, decide_eq_false_iff_not, beq_iff_eq, beq_eq_false_iff_ne, bne_iff_ne, ne_eq, Bool.not_eq_true', Bool.not_eq_false', Bool.and_eq_true, Bool.or_eq_true, bne_eq_false_iff_eq] at c3
          refine den_exit ?_
          refine denX_code ?_
          refine denX_stop ?_
          refine denX_hit ?_
          refine den_blk ?_
          refine den_region TTok ?_
          intro K hK
          simp -implicitDefEqProofs (disch := first | decide | assumption | omega) only [go_sem, RdS.len hdX sl22, RdS.idx hdX sl22, R1.intB hdX (Ext.pres eB), RdS.cells hdX, RdS.len hmX sl23, RdS.idx hmX sl23, RdS.cellB hmX (Ext.pres eB), RdS.cells hmX, RdS.len hdY sl22, RdS.idx hdY sl22, R1.intB hdY (Ext.pres eB), RdS.cells hdY, RdS.len hmY sl23, RdS.idx hmY sl23, RdS.cellB hmY (Ext.pres eB), RdS.cells hmY, RdS.len (OS.rd how1_4_0) sl22, RdS.idx (OS.rd how1_4_0) sl22, R1.intN (OS.rd how1_4_0), RdS.cells (OS.rd how1_4_0), RdS.len (OS.rd hM) sl23, RdS.idx (OS.rd hM) sl23, RdS.cellN (OS.rd hM), RdS.cells (OS.rd hM), RdS.len (OS.rd hB) sl56, RdS.idx (OS.rd hB) sl56, RdS.cellN (OS.rd hB), RdS.cells (OS.rd hB), BoxAt.cell hb0_0, BoxAt.cell hb0_1, BoxAt.cell hb0_2, BoxAt.cell hbx5, wrap_id]
          refine hK _ _ ?_
          clear hK K
          refine den_stop ?_
          rw [show placeP X Y i a ((n : Int) - i) b = placeP X Y i ((a + 1 : Nat) : Int) ((n : Int) - i) 0 by rw [show (b : Int) = dimP Y ((n : Int) - i) by omega]; exact (place_next X Y i a ((n : Int) - i) 0 (by omega)).1] at hB
          exact ⟨(a + 1, vhB, fphB), by simp [HasL, puts_at], ⟨by first | omega | (dsimp only; omega), hB, hfhB, sb25, cL16⟩, by first | omega | (dsimp only; omega)⟩
       ·try simp only [decide_eq_true_eq, decide_eq_false_iff_not, beq_iff_eq, beq_eq_false_iff_ne, bne_iff_ne, ne_eq, Bool.not_eq_true', Bool.not_eq_false', Bool.and_eq_true, Bool.or_eq_true, bne_eq_false_iff_eq] at c2
        refine den_exit ?_
        refine denX_code ?_
        refine denX_stop ?_
        refine denX_hit ?_
        refine den_blk ?_
        refine den_region TTok ?_
        intro K hK
        simp -implicitDefEqProofs (disch := first | decide | assumption | omega) only [go_sem, RdS.len hdX sl22, RdS.idx hdX sl22, R1.intB hdX (Ext.pres eB), RdS.cells hdX, RdS.len hmX sl23, RdS.idx hmX sl23, RdS.cellB hmX (Ext.pres eB), RdS.cells hmX, RdS.len hdY sl22, RdS.idx hdY sl22, R1.intB hdY (Ext.pres eB), RdS.cells hdY, RdS.len hmY sl23, RdS.idx hmY sl23, RdS.cellB hmY (Ext.pres eB), RdS.cells hmY, RdS.len (OS.rd how1_4_0) sl22, RdS.idx (OS.rd how1_4_0) sl22, R1.intN (OS.rd how1_4_0), RdS.cells (OS.rd how1_4_0), RdS.len (OS.rd hM) sl23, RdS.idx (OS.rd hM) sl23, RdS.cellN (OS.rd hM), RdS.cells (OS.rd hM), RdS.len (OS.rd hA) sl56, RdS.idx (OS.rd hA) sl56, RdS.cellN (OS.rd hA), RdS.cells (OS.rd hA), BoxAt.cell hb0_0, BoxAt.cell hb0_1, BoxAt.cell hb0_2, BoxAt.cell hbx5, wrap_id]
        refine hK _ _ ?_
        clear hK K
        refine den_stop ?_
        rw [show placeP X Y i a ((n : Int) - i) 0 = sumP X Y n (i + 1) by have h := (place_next X Y i 0 ((n : Int) - i) 0 (by omega)).2.2.2; rw [show (a : Int) = dimP X i by omega, h, show (i : Int) + ((n : Int) - i) = n by omega, Int.toNat_natCast]] at hA
        exact ⟨(i + 1, vhA, fphA), by simp [HasL, puts_at], ⟨by first | omega | (dsimp only; omega), hA, hfhA, sb19, cL12⟩, by first | omega | (dsimp only; omega)⟩
     ·try simp only [decide_eq_true_eq, decide_eq_false_iff_not, beq_iff_eq, beq_eq_false_iff_ne, bne_iff_ne, ne_eq, Bool.not_eq_true', Bool.not_eq_false', Bool.and_eq_true, Bool.or_eq_true, bne_eq_false_iff_eq] at c1
      refine den_exit ?_
      refine denX_code ?_
      refine denX_stop ?_
      refine denX_hit ?_
      have hlm : ((tT X Y).take (n - 1)).length ≤ 11 := by rw [List.length_take]; omega
      refine den_region TTok ?_
      intro K hK
      simp -implicitDefEqProofs (disch := first | decide | assumption | omega) only [go_sem, fa30_2, ld23, RdS.len hdX sl22, RdS.idx hdX sl22, R1.intB hdX (Ext.pres eB), RdS.cells hdX, RdS.len hmX sl23, RdS.idx hmX sl23, RdS.cellB hmX (Ext.pres eB), RdS.cells hmX, RdS.len hdY sl22, RdS.idx hdY sl22, R1.intB hdY (Ext.pres eB), RdS.cells hdY, RdS.len hmY sl23, RdS.idx hmY sl23, RdS.cellB hmY (Ext.pres eB), RdS.cells hmY, RdS.len (OS.rd how1_4_0) sl22, RdS.idx (OS.rd how1_4_0) sl22, R1.intN (OS.rd how1_4_0), RdS.cells (OS.rd how1_4_0), RdS.len (OS.rd hM) sl23, RdS.idx (OS.rd hM) sl23, RdS.cellN (OS.rd hM), RdS.cells (OS.rd hM), RdS.len (OS.rd hR) sl56, RdS.idx (OS.rd hR) sl56, RdS.cellN (OS.rd hR), RdS.cells (OS.rd hR), BoxAt.cell hb0_0, BoxAt.cell hb0_1, BoxAt.cell hb0_2, BoxAt.cell hbx5, wrap_id]
      refine op_bs1 sz23 rfl (OS.one hR).2 ?_
      try simp -implicitDefEqProofs (disch := first | decide | assumption | omega) only [go_sem, RdS.len hdX sl22, RdS.idx hdX sl22, R1.intB hdX (Ext.pres eB), RdS.cells hdX, RdS.len hmX sl23, RdS.idx hmX sl23, RdS.cellB hmX (Ext.pres eB), RdS.cells hmX, RdS.len hdY sl22, RdS.idx hdY sl22, R1.intB hdY (Ext.pres eB), RdS.cells hdY, RdS.len hmY sl23, RdS.idx hmY sl23, RdS.cellB hmY (Ext.pres eB), RdS.cells hmY, RdS.len (OS.rd how1_4_0) sl22, RdS.idx (OS.rd how1_4_0) sl22, R1.intN (OS.rd how1_4_0), RdS.cells (OS.rd how1_4_0), RdS.len (OS.rd hM) sl23, RdS.idx (OS.rd hM) sl23, RdS.cellN (OS.rd hM), RdS.cells (OS.rd hM), RdS.len (OS.rd hR) sl56, RdS.idx (OS.rd hR) sl56, RdS.cellN (OS.rd hR), RdS.cells (OS.rd hR), BoxAt.cell hb0_0, BoxAt.cell hb0_1, BoxAt.cell hb0_2, BoxAt.cell hbx5, wrap_id]
      refine op_append1 sz23 hM hfhM.nodup hR hfhR.nodup (apart_lt hlhM hfhR (by omega)) (by first | omega | (simp; omega)) rfl rfl ?_
      intro v16_4 h16_4 fp16_4 ho16_4 hn16_4 hs16_4 c16_4
      have hsz16_4 := c16_4.size
      have hfho16_4 : Fresh h0_2.size fp16_4 := Fresh.appd hfhM hfhR (by omega) (by omega) hn16_4 hs16_4
      have sb29 : Sub (fpJho1_5 ++ ([bJhb1_7])) hj3.size fp16_4 := Sub.grow sbhM (Sub.fresh hfhR (by omega)) (by omega) hs16_4
      replace how1_4_0 := OS.chg how1_4_0 c16_4 ap10
      replace hb0_0 := BoxAt.chgA hb0_0 c16_4 (apart_lt hlhb0_0 hfhM (by omega))
      replace hb0_1 := BoxAt.chgA hb0_1 c16_4 (apart_lt hlhb0_1 hfhM (by omega))
      replace hb0_2 := BoxAt.chgA hb0_2 c16_4 (apart_lt hlhb0_2 hfhM (by omega))
      replace hbx5 := BoxAt.chgA hbx5 c16_4 (Apart.symm ap_hM_hbx5)
      have := c16_4.size
      replace eB := Ext.then eB c16_4 (ge_of hfhM (by omega))
      replace cL7 := Chg.step cL7 c16_4 sbhM
      have ap30 : Apart fpJhow1_4_0 fp16_4 := Apart.grow hlhow1_4_0 (by omega) ap10 (apart_lt hlhow1_4_0 hfhR (by omega)) hs16_4
      have ap31 : Apart [bJhb1_7] fp16_4 := Apart.grow hlhbx5 (by omega) (Apart.symm ap_hM_hbx5) (apart_lt hlhbx5 hfhR (by omega)) hs16_4
      have hlho16_4 := OS.lt ho16_4
      try simp -implicitDefEqProofs (disch := first | decide | assumption | omega) only [go_sem, fa30_2, RdS.len hdX sl22, RdS.idx hdX sl22, R1.intB hdX (Ext.pres eB), RdS.cells hdX, RdS.len hmX sl23, RdS.idx hmX sl23, RdS.cellB hmX (Ext.pres eB), RdS.cells hmX, RdS.len hdY sl22, RdS.idx hdY sl22, R1.intB hdY (Ext.pres eB), RdS.cells hdY, RdS.len hmY sl23, RdS.idx hmY sl23, RdS.cellB hmY (Ext.pres eB), RdS.cells hmY, RdS.len (OS.rd how1_4_0) sl22, RdS.idx (OS.rd how1_4_0) sl22, R1.intN (OS.rd how1_4_0), RdS.cells (OS.rd how1_4_0), RdS.len (OS.rd ho16_4) sl23, RdS.idx (OS.rd ho16_4) sl23, RdS.cellN (OS.rd ho16_4), RdS.cells (OS.rd ho16_4), BoxAt.cell hb0_0, BoxAt.cell hb0_1, BoxAt.cell hb0_2, BoxAt.cell hbx5, wrap_id]
      refine op_storeB (cs' := #[.int .i64 (X.p), vw1_4_0, v16_4]) st23 hbx5 rfl (OS.one ho16_4).2 rfl (by simp) (allOne_mem (l := [v16_4]) ⟨(OS.one ho16_4).1, trivial⟩) rfl ?_
      intro h16_6 hbx5 c16_6
      replace how1_4_0 := OS.chg how1_4_0 c16_6 apJ_how1_4_0_hb1_7
      replace ho16_4 := OS.chg ho16_4 c16_6 (Apart.symm ap31)
      replace hb0_0 := BoxAt.chgA hb0_0 c16_6 (apart_lt hlhb0_0 hfhbx5 (by omega))
      replace hb0_1 := BoxAt.chgA hb0_1 c16_6 (apart_lt hlhb0_1 hfhbx5 (by omega))
      replace hb0_2 := BoxAt.chgA hb0_2 c16_6 (apart_lt hlhb0_2 hfhbx5 (by omega))
      have := c16_6.size
      replace eB := Ext.then eB c16_6 (ge_of hfhbx5 (by omega))
      replace cL7 := Chg.step cL7 c16_6 (Sub.right Sub.refl)
      try simp -implicitDefEqProofs (disch := first | decide | assumption | omega) only [go_sem, RdS.len hdX sl22, RdS.idx hdX sl22, R1.intB hdX (Ext.pres eB), RdS.cells hdX, RdS.len hmX sl23, RdS.idx hmX sl23, RdS.cellB hmX (Ext.pres eB), RdS.cells hmX, RdS.len hdY sl22, RdS.idx hdY sl22, R1.intB hdY (Ext.pres eB), RdS.cells hdY, RdS.len hmY sl23, RdS.idx hmY sl23, RdS.cellB hmY (Ext.pres eB), RdS.cells hmY, RdS.len (OS.rd how1_4_0) sl22, RdS.idx (OS.rd how1_4_0) sl22, R1.intN (OS.rd how1_4_0), RdS.cells (OS.rd how1_4_0), RdS.len (OS.rd ho16_4) sl23, RdS.idx (OS.rd ho16_4) sl23, RdS.cellN (OS.rd ho16_4), RdS.cells (OS.rd ho16_4), BoxAt.cell hb0_0, BoxAt.cell hb0_1, BoxAt.cell hb0_2, BoxAt.cell hbx5, wrap_id]
      refine hK _ _ ?_
      clear hK K
      refine den_blk ?_
      refine den_region TTok ?_
      intro K hK
      simp -implicitDefEqProofs (disch := first | decide | assumption | omega) only [go_sem, RdS.len hdX sl22, RdS.idx hdX sl22, R1.intB hdX (Ext.pres eB), RdS.cells hdX, RdS.len hmX sl23, RdS.idx hmX sl23, RdS.cellB hmX (Ext.pres eB), RdS.cells hmX, RdS.len hdY sl22, RdS.idx hdY sl22, R1.intB hdY (Ext.pres eB), RdS.cells hdY, RdS.len hmY sl23, RdS.idx hmY sl23, RdS.cellB hmY (Ext.pres eB), RdS.cells hmY, RdS.len (OS.rd how1_4_0) sl22, RdS.idx (OS.rd how1_4_0) sl22, R1.intN (OS.rd how1_4_0), RdS.cells (OS.rd how1_4_0), RdS.len (OS.rd ho16_4) sl23, RdS.idx (OS.rd ho16_4) sl23, RdS.cellN (OS.rd ho16_4), RdS.cells (OS.rd ho16_4), BoxAt.cell hb0_0, BoxAt.cell hb0_1, BoxAt.cell hb0_2, BoxAt.cell hbx5, wrap_id]
      refine hK _ _ ?_
      clear hK K
      refine den_stop ?_
      rw [show ((tT X Y).getD (n - 1) default).take (sumP X Y n i).toNat = ((tT X Y).getD (n - 1) default) from List.take_of_length_le (by rw [show i = n + 1 by omega]; omega), take_stepG (by omega), show n - 1 + 1 = n + 1 - 1 by omega] at ho16_4
      exact ⟨(n + 1, v16_4, fp16_4), by simp [HasL, puts_at], ⟨by omega, by omega, ho16_4, hfho16_4, sb29, hbx5, (Apart.symm ap31), cL7⟩, by first | omega | (dsimp only; omega)⟩
   ·try simp only [decide_eq_true_eq, decide_eq_false_iff_not, beq_iff_eq, beq_eq_false_iff_ne, bne_iff_ne, ne_eq, Bool.not_eq_true', Bool.not_eq_false', Bool.and_eq_true, Bool.or_eq_true, bne_eq_false_iff_eq] at c0
    refine den_exit ?_
    refine denX_code ?_
    refine denX_stop ?_
    refine denX_hit ?_
    refine den_seq ?_
    refine den_region TTok ?_
    intro K hK
    simp -implicitDefEqProofs (disch := first | decide | assumption | omega) only [go_sem, ld30, RdS.len hdX sl22, RdS.idx hdX sl22, R1.intB hdX (Ext.pres eB), RdS.cells hdX, RdS.len hmX sl23, RdS.idx hmX sl23, RdS.cellB hmX (Ext.pres eB), RdS.cells hmX, RdS.len hdY sl22, RdS.idx hdY sl22, R1.intB hdY (Ext.pres eB), RdS.cells hdY, RdS.len hmY sl23, RdS.idx hmY sl23, RdS.cellB hmY (Ext.pres eB), RdS.cells hmY, RdS.len (OS.rd how1_4_0) sl22, RdS.idx (OS.rd how1_4_0) sl22, R1.intN (OS.rd how1_4_0), RdS.cells (OS.rd how1_4_0), RdS.len (OS.rd hM) sl23, RdS.idx (OS.rd hM) sl23, RdS.cellN (OS.rd hM), RdS.cells (OS.rd hM), BoxAt.cell hb0_2, BoxAt.cell hbx5, wrap_id]
    refine op_storeB (cs' := #[.int .i64 (X.p), vw1_4_0, vhM]) st30 hb0_2 rfl rfl rfl (by simp) (allOne_mem (l := [.int .i64 (X.p), vw1_4_0, vhM]) ⟨rfl, (OS.one how1_4_0).1, (OS.one hM).1, trivial⟩) rfl ?_
    intro h17_1 hb0_2 c17_1
    replace how1_4_0 := OS.chg how1_4_0 c17_1 (apart_gt hfhow1_4_0 hlhb0_2 (by omega))
    replace hM := OS.chg hM c17_1 (apart_gt hfhM hlhb0_2 (by omega))
    replace hbx5 := BoxAt.chgA hbx5 c17_1 (apart_gt hfhbx5 hlhb0_2 (by omega))
    have := c17_1.size
    replace eB := Ext.then eB c17_1 (ge_of hfhb0_2 (by omega))
    try simp -implicitDefEqProofs (disch := first | decide | assumption | omega) only [go_sem, RdS.len hdX sl22, RdS.idx hdX sl22, R1.intB hdX (Ext.pres eB), RdS.cells hdX, RdS.len hmX sl23, RdS.idx hmX sl23, RdS.cellB hmX (Ext.pres eB), RdS.cells hmX, RdS.len hdY sl22, RdS.idx hdY sl22, R1.intB hdY (Ext.pres eB), RdS.cells hdY, RdS.len hmY sl23, RdS.idx hmY sl23, RdS.cellB hmY (Ext.pres eB), RdS.cells hmY, RdS.len (OS.rd how1_4_0) sl22, RdS.idx (OS.rd how1_4_0) sl22, R1.intN (OS.rd how1_4_0), RdS.cells (OS.rd how1_4_0), RdS.len (OS.rd hM) sl23, RdS.idx (OS.rd hM) sl23, RdS.cellN (OS.rd hM), RdS.cells (OS.rd hM), BoxAt.cell hb0_2, BoxAt.cell hbx5, wrap_id]
    refine hK _ _ ?_
    clear hK K
    refine den_ret ?_
    simp -implicitDefEqProofs (disch := first | decide | assumption | omega) only [go_sem, RdS.len hdX sl22, RdS.idx hdX sl22, R1.intB hdX (Ext.pres eB), RdS.cells hdX, RdS.len hmX sl23, RdS.idx hmX sl23, RdS.cellB hmX (Ext.pres eB), RdS.cells hmX, RdS.len hdY sl22, RdS.idx hdY sl22, R1.intB hdY (Ext.pres eB), RdS.cells hdY, RdS.len hmY sl23, RdS.idx hmY sl23, RdS.cellB hmY (Ext.pres eB), RdS.cells hmY, RdS.len (OS.rd how1_4_0) sl22, RdS.idx (OS.rd how1_4_0) sl22, R1.intN (OS.rd how1_4_0), RdS.cells (OS.rd how1_4_0), RdS.len (OS.rd hM) sl23, RdS.idx (OS.rd hM) sl23, RdS.cellN (OS.rd hM), RdS.cells (OS.rd hM), BoxAt.cell hb0_2, BoxAt.cell hbx5, wrap_id, resP_c1, ld30]
    have hM2 := hM
    rw [List.take_of_length_le (by omega)] at hM2
    exact ⟨_, _, _, _, rfl, how1_4_0, hM2, Fresh.two hfhow1_4_0 hfhM ap10 (by omega) (by omega), eB⟩
end Go.Proofs.Ytffggocjkhcgeaa

namespace Go.Proofs.Ytffggocjkhcgeaa
open Go
set_option maxRecDepth 100000 in
theorem iTns_ok (vX vY : Value) (X : Cx) (Y : Cx) (h : Heap) (rX : RC h vX X) (rY : RC h vY Y) (hX : IsC X) (hY : IsC Y) (hpp : X.p = Y.p) : CallA Try.prog 104 #[vX, vY] h fun v' h' => ∃ wd0 wm0 fd0 fm0, v' = .tuple #[.agg #[.int .i64 ((teP X Y).1).p, wd0, wm0], .int .i64 ((teP X Y).2)] ∧ O1 h' wd0 ((teP X Y).1).dims fd0 ∧ O3 h' wm0 ((teP X Y).1).maps fm0 ∧ Fresh h.size (fd0 ++ fm0) ∧ Ext h h' := by
 obtain ⟨vdX, vmX, rfl, hdX, hmX⟩ := rX
 have hledX := RdS.le hdX
 have hlemX := RdS.le hmX
 obtain ⟨vdY, vmY, rfl, hdY, hmY⟩ := rY
 have hledY := RdS.le hdY
 have hlemY := RdS.le hmY
 have hlX := hX.len
 have hlY := hY.len
 have hpb := isP_bnd hX.p
 have htl := tdP_len X Y
 have hTs := tT_sh hX hY
 have hTl := hTs.len
 have hzb := t_zb X Y hpb.1
 refine callA_intro TTok (args := [_, _]) Try.func104 (by kernel_rfl) rfl 31 rfl (by simp) [.cell 4 30, .tmp 5] rfl ?_
 simp only [idxs, Nat.reduceAdd]
 refine den_seq ?_
 refine den_region TTok ?_
 intro K hK
 simp -implicitDefEqProofs (disch := first | decide | assumption | omega) only [go_sem, RdS.len hdX sl22, RdS.idx hdX sl22, R1.intB hdX (HPres.refl _), RdS.cells hdX, RdS.len hmX sl23, RdS.idx hmX sl23, RdS.cellB hmX (HPres.refl _), RdS.cells hmX, RdS.len hdY sl22, RdS.idx hdY sl22, R1.intB hdY (HPres.refl _), RdS.cells hdY, RdS.len hmY sl23, RdS.idx hmY sl23, RdS.cellB hmY (HPres.refl _), RdS.cells hmY, wrap_id, bC0]
 refine op_box (cs := #[.int .i64 (X.p), vdX, vmX]) rfl ?_
 intro h0_0 e0_0 hb0_0 z0_0
 have := Ext.size e0_0
 have eB := e0_0
 have hfhb0_0 : Fresh h.size [h.size] := Fresh.one _
 have hlhb0_0 := one_lt (show h.size < h0_0.size by omega)
 try simp -implicitDefEqProofs (disch := first | decide | assumption | omega) only [go_sem, RdS.len hdX sl22, RdS.idx hdX sl22, R1.intB hdX (Ext.pres eB), RdS.cells hdX, RdS.len hmX sl23, RdS.idx hmX sl23, RdS.cellB hmX (Ext.pres eB), RdS.cells hmX, RdS.len hdY sl22, RdS.idx hdY sl22, R1.intB hdY (Ext.pres eB), RdS.cells hdY, RdS.len hmY sl23, RdS.idx hmY sl23, RdS.cellB hmY (Ext.pres eB), RdS.cells hmY, BoxAt.cell hb0_0, wrap_id, bC0]
 refine op_box (cs := #[.int .i64 (Y.p), vdY, vmY]) rfl ?_
 intro h0_1 e0_1 hb0_1 z0_1
 replace hb0_0 := BoxAt.ext hb0_0 e0_1
 have := Ext.size e0_1
 replace eB := Ext.trans eB e0_1
 have hfhb0_1 : Fresh h0_0.size [h0_0.size] := Fresh.one _
 have hlhb0_1 := one_lt (show h0_0.size < h0_1.size by omega)
 try simp -implicitDefEqProofs (disch := first | decide | assumption | omega) only [go_sem, RdS.len hdX sl22, RdS.idx hdX sl22, R1.intB hdX (Ext.pres eB), RdS.cells hdX, RdS.len hmX sl23, RdS.idx hmX sl23, RdS.cellB hmX (Ext.pres eB), RdS.cells hmX, RdS.len hdY sl22, RdS.idx hdY sl22, R1.intB hdY (Ext.pres eB), RdS.cells hdY, RdS.len hmY sl23, RdS.idx hmY sl23, RdS.cellB hmY (Ext.pres eB), RdS.cells hmY, BoxAt.cell hb0_0, BoxAt.cell hb0_1, wrap_id, bC0]
 refine op_alloc (cs := #[.int .i64 0, .slice none 0 0, .slice none 0 0]) (by kernel_rfl) ?_
 intro h0_2 e0_2 hb0_2 z0_2
 replace hb0_0 := BoxAt.ext hb0_0 e0_2
 replace hb0_1 := BoxAt.ext hb0_1 e0_2
 have := Ext.size e0_2
 replace eB := Ext.trans eB e0_2
 have hfhb0_2 : Fresh h0_1.size [h0_1.size] := Fresh.one _
 have hlhb0_2 := one_lt (show h0_1.size < h0_2.size by omega)
 try simp -implicitDefEqProofs (disch := first | decide | assumption | omega) only [go_sem, RdS.len hdX sl22, RdS.idx hdX sl22, R1.intB hdX (Ext.pres eB), RdS.cells hdX, RdS.len hmX sl23, RdS.idx hmX sl23, RdS.cellB hmX (Ext.pres eB), RdS.cells hmX, RdS.len hdY sl22, RdS.idx hdY sl22, R1.intB hdY (Ext.pres eB), RdS.cells hdY, RdS.len hmY sl23, RdS.idx hmY sl23, RdS.cellB hmY (Ext.pres eB), RdS.cells hmY, BoxAt.cell hb0_0, BoxAt.cell hb0_1, BoxAt.cell hb0_2, wrap_id, bC0]
 refine hK _ _ ?_
 clear hK K
 refine den_seq ?_
 refine den_region TTok ?_
 intro K hK
 simp -implicitDefEqProofs (disch := first | decide | assumption | omega) only [go_sem, ld30, RdS.len hdX sl22, RdS.idx hdX sl22, R1.intB hdX (Ext.pres eB), RdS.cells hdX, RdS.len hmX sl23, RdS.idx hmX sl23, RdS.cellB hmX (Ext.pres eB), RdS.cells hmX, RdS.len hdY sl22, RdS.idx hdY sl22, R1.intB hdY (Ext.pres eB), RdS.cells hdY, RdS.len hmY sl23, RdS.idx hmY sl23, RdS.cellB hmY (Ext.pres eB), RdS.cells hmY, BoxAt.cell hb0_0, BoxAt.cell hb0_1, BoxAt.cell hb0_2, wrap_id, bC0]
 try simp -implicitDefEqProofs (disch := first | decide | assumption | omega) only [go_sem, RdS.len hdX sl22, RdS.idx hdX sl22, R1.intB hdX (Ext.pres eB), RdS.cells hdX, RdS.len hmX sl23, RdS.idx hmX sl23, RdS.cellB hmX (Ext.pres eB), RdS.cells hmX, RdS.len hdY sl22, RdS.idx hdY sl22, R1.intB hdY (Ext.pres eB), RdS.cells hdY, RdS.len hmY sl23, RdS.idx hmY sl23, RdS.cellB hmY (Ext.pres eB), RdS.cells hmY, BoxAt.cell hb0_0, BoxAt.cell hb0_1, BoxAt.cell hb0_2, wrap_id, bC0]
 refine CallA.mono (iDims_ok _ _ X Y _ ⟨_, _, rfl, (RdS.pres hdX (Ext.pres eB)), (RdS.pres hmX (Ext.pres eB))⟩ ⟨_, _, rfl, (RdS.pres hdY (Ext.pres eB)), (RdS.pres hmY (Ext.pres eB))⟩ (hX) (hY)) ?_
 intro vw1_2_0 h1_2
 rintro ⟨zvw1_2_0, fw1_2_0, rfl, how1_2_0, hfw1_2_0, e1_2⟩
 replace hb0_0 := BoxAt.ext hb0_0 e1_2
 replace hb0_1 := BoxAt.ext hb0_1 e1_2
 replace hb0_2 := BoxAt.ext hb0_2 e1_2
 have := Ext.size e1_2
 replace eB := Ext.trans eB e1_2
 have hlhow1_2_0 := OS.lt how1_2_0
 try simp -implicitDefEqProofs (disch := first | decide | assumption | omega) only [go_sem, RdS.len hdX sl22, RdS.idx hdX sl22, R1.intB hdX (Ext.pres eB), RdS.cells hdX, RdS.len hmX sl23, RdS.idx hmX sl23, RdS.cellB hmX (Ext.pres eB), RdS.cells hmX, RdS.len hdY sl22, RdS.idx hdY sl22, R1.intB hdY (Ext.pres eB), RdS.cells hdY, RdS.len hmY sl23, RdS.idx hmY sl23, RdS.cellB hmY (Ext.pres eB), RdS.cells hmY, RdS.len (OS.rd how1_2_0) sl22, RdS.idx (OS.rd how1_2_0) sl22, R1.intN (OS.rd how1_2_0), RdS.cells (OS.rd how1_2_0), BoxAt.cell hb0_0, BoxAt.cell hb0_1, BoxAt.cell hb0_2, wrap_id, bC0]
 refine hK _ _ ?_
 clear hK K
 refine den_seq ?_
 refine den_seq ?_
 refine den_merge [(18, .bool (((decide ((6 : Int) < ((tdP X Y).length : Int))) || (!((!(tdP X Y).any (fun x => decide (8 < x))))))))] [2, 3, 4, 6] (fun H => Ext h1_2 H) ?_ ?_
  -- a way
 ·refine den_region TTok ?_
  intro K hK
  simp -implicitDefEqProofs (disch := first | decide | assumption | (simp (disch := decide) only [slotOf_zero, slotOf_succ, Option.map_some, puts_same, puts_ne, gv_bool, gv_undef, tt, tf, ft, ff, eq_self, if_true, if_false, Bool.false_eq_true, Bool.not_true, Bool.not_false]; done) | omega) only [go_sem, RdS.len hdX sl22, RdS.idx hdX sl22, R1.intB hdX (Ext.pres eB), RdS.cells hdX, RdS.len hmX sl23, RdS.idx hmX sl23, RdS.cellB hmX (Ext.pres eB), RdS.cells hmX, RdS.len hdY sl22, RdS.idx hdY sl22, R1.intB hdY (Ext.pres eB), RdS.cells hdY, RdS.len hmY sl23, RdS.idx hmY sl23, RdS.cellB hmY (Ext.pres eB), RdS.cells hmY, RdS.len (OS.rd how1_2_0) sl22, RdS.idx (OS.rd how1_2_0) sl22, R1.intN (OS.rd how1_2_0), RdS.cells (OS.rd how1_2_0), BoxAt.cell hb0_0, BoxAt.cell hb0_1, BoxAt.cell hb0_2, wrap_id, bC0]
  refine opsP_F (by simp (disch := decide) only [slotOf_zero, slotOf_succ, Option.map_some, puts_same, puts_ne, gv_bool, gv_undef, tt, tf, ft, ff, eq_self, if_true, if_false, Bool.false_eq_true, Bool.not_true, Bool.not_false]; rfl) (fun g1 => ?_) (fun g1 => ?_)
  ·try simp -implicitDefEqProofs (disch := first | decide | assumption | (simp (disch := decide) only [slotOf_zero, slotOf_succ, Option.map_some, puts_same, puts_ne, gv_bool, gv_undef, tt, tf, ft, ff, eq_self, if_true, if_false, Bool.false_eq_true, Bool.not_true, Bool.not_false, g1]; done) | omega) only [go_sem, RdS.len hdX sl22, RdS.idx hdX sl22, R1.intB hdX (Ext.pres eB), RdS.cells hdX, RdS.len hmX sl23, RdS.idx hmX sl23, RdS.cellB hmX (Ext.pres eB), RdS.cells hmX, RdS.len hdY sl22, RdS.idx hdY sl22, R1.intB hdY (Ext.pres eB), RdS.cells hdY, RdS.len hmY sl23, RdS.idx hmY sl23, RdS.cellB hmY (Ext.pres eB), RdS.cells hmY, RdS.len (OS.rd how1_2_0) sl22, RdS.idx (OS.rd how1_2_0) sl22, R1.intN (OS.rd how1_2_0), RdS.cells (OS.rd how1_2_0), BoxAt.cell hb0_0, BoxAt.cell hb0_1, BoxAt.cell hb0_2, wrap_id, bC0, g1, eq_self, if_true, if_false, Bool.false_eq_true]
   try simp -implicitDefEqProofs (disch := first | decide | assumption | omega) only [go_sem, RdS.len hdX sl22, RdS.idx hdX sl22, R1.intB hdX (Ext.pres eB), RdS.cells hdX, RdS.len hmX sl23, RdS.idx hmX sl23, RdS.cellB hmX (Ext.pres eB), RdS.cells hmX, RdS.len hdY sl22, RdS.idx hdY sl22, R1.intB hdY (Ext.pres eB), RdS.cells hdY, RdS.len hmY sl23, RdS.idx hmY sl23, RdS.cellB hmY (Ext.pres eB), RdS.cells hmY, RdS.len (OS.rd how1_2_0) sl22, RdS.idx (OS.rd how1_2_0) sl22, R1.intN (OS.rd how1_2_0), RdS.cells (OS.rd how1_2_0), BoxAt.cell hb0_0, BoxAt.cell hb0_1, BoxAt.cell hb0_2, wrap_id, bC0]
   refine CallA.mono (arS_ok _ _ _ (OS.rd how1_2_0)) ?_
   intro v_ h2_5
   rintro ⟨rfl, e2_5⟩
   replace how1_2_0 := OS.ext how1_2_0 e2_5
   replace hb0_0 := BoxAt.ext hb0_0 e2_5
   replace hb0_1 := BoxAt.ext hb0_1 e2_5
   replace hb0_2 := BoxAt.ext hb0_2 e2_5
   have := Ext.size e2_5
   replace eB := Ext.trans eB e2_5
   try simp -implicitDefEqProofs (disch := first | decide | assumption | (simp (disch := decide) only [slotOf_zero, slotOf_succ, Option.map_some, puts_same, puts_ne, gv_bool, gv_undef, tt, tf, ft, ff, eq_self, if_true, if_false, Bool.false_eq_true, Bool.not_true, Bool.not_false, g1]; done) | omega) only [go_sem, RdS.len hdX sl22, RdS.idx hdX sl22, R1.intB hdX (Ext.pres eB), RdS.cells hdX, RdS.len hmX sl23, RdS.idx hmX sl23, RdS.cellB hmX (Ext.pres eB), RdS.cells hmX, RdS.len hdY sl22, RdS.idx hdY sl22, R1.intB hdY (Ext.pres eB), RdS.cells hdY, RdS.len hmY sl23, RdS.idx hmY sl23, RdS.cellB hmY (Ext.pres eB), RdS.cells hmY, RdS.len (OS.rd how1_2_0) sl22, RdS.idx (OS.rd how1_2_0) sl22, R1.intN (OS.rd how1_2_0), RdS.cells (OS.rd how1_2_0), BoxAt.cell hb0_0, BoxAt.cell hb0_1, BoxAt.cell hb0_2, wrap_id, bC0, g1, eq_self, if_true, if_false, Bool.false_eq_true]
   refine hK _ _ ?_
   clear hK K
   refine den_stop ?_
   refine ⟨?_, e2_5⟩
   first | (simp (disch := decide) only [go_sem, g1, eq_self, Bool.true_and, Bool.and_true, Bool.false_and, Bool.and_false, Bool.true_or, Bool.or_true, Bool.false_or, Bool.or_false, if_true, if_false, Bool.false_eq_true]; done) | simp [HasL, sel, puts_at, g1]
  ·try simp -implicitDefEqProofs (disch := first | decide | assumption | (simp (disch := decide) only [slotOf_zero, slotOf_succ, Option.map_some, puts_same, puts_ne, gv_bool, gv_undef, tt, tf, ft, ff, eq_self, if_true, if_false, Bool.false_eq_true, Bool.not_true, Bool.not_false, g1]; done) | omega) only [go_sem, RdS.len hdX sl22, RdS.idx hdX sl22, R1.intB hdX (Ext.pres eB), RdS.cells hdX, RdS.len hmX sl23, RdS.idx hmX sl23, RdS.cellB hmX (Ext.pres eB), RdS.cells hmX, RdS.len hdY sl22, RdS.idx hdY sl22, R1.intB hdY (Ext.pres eB), RdS.cells hdY, RdS.len hmY sl23, RdS.idx hmY sl23, RdS.cellB hmY (Ext.pres eB), RdS.cells hmY, RdS.len (OS.rd how1_2_0) sl22, RdS.idx (OS.rd how1_2_0) sl22, R1.intN (OS.rd how1_2_0), RdS.cells (OS.rd how1_2_0), BoxAt.cell hb0_0, BoxAt.cell hb0_1, BoxAt.cell hb0_2, wrap_id, bC0, g1, eq_self, if_true, if_false, Bool.false_eq_true]
   refine hK _ _ ?_
   clear hK K
   refine den_stop ?_
   refine ⟨?_, Ext.refl _⟩
   first | (simp (disch := decide) only [go_sem, g1, eq_self, Bool.true_and, Bool.and_true, Bool.false_and, Bool.and_false, Bool.true_or, Bool.or_true, Bool.false_or, Bool.or_false, if_true, if_false, Bool.false_eq_true]; done) | simp [HasL, sel, puts_at, g1]
 intro en2 h3 e4
 replace how1_2_0 := OS.ext how1_2_0 e4
 replace hb0_0 := BoxAt.ext hb0_0 e4
 replace hb0_1 := BoxAt.ext hb0_1 e4
 replace hb0_2 := BoxAt.ext hb0_2 e4
 have := Ext.size e4
 replace eB := Ext.trans eB e4
 simp (disch := decide) only [go_sem]
 refine den_cond rfl (fun c0 => ?_) (fun c0 => ?_)
 ·try simp only [decide_eq_true_eq, decide_eq_false_iff_not, beq_iff_eq, beq_eq_false_iff_ne, bne_iff_ne, ne_eq, Bool.not_eq_true', Bool.not_eq_false', Bool.and_eq_true, Bool.or_eq_true, bne_eq_false_iff_eq, Bool.or_eq_false_iff, Bool.and_eq_false_iff] at c0
  have hnf : ¬ fitP (tdP X Y) = true := fit_no (by simpa using c0)
  refine den_seq ?_
  refine den_region TTok ?_
  intro K hK
  simp -implicitDefEqProofs (disch := first | decide | assumption | omega) only [go_sem, RdS.len hdX sl22, RdS.idx hdX sl22, R1.intB hdX (Ext.pres eB), RdS.cells hdX, RdS.len hmX sl23, RdS.idx hmX sl23, RdS.cellB hmX (Ext.pres eB), RdS.cells hmX, RdS.len hdY sl22, RdS.idx hdY sl22, R1.intB hdY (Ext.pres eB), RdS.cells hdY, RdS.len hmY sl23, RdS.idx hmY sl23, RdS.cellB hmY (Ext.pres eB), RdS.cells hmY, BoxAt.cell hb0_2, wrap_id, bC0]
  refine op_storeB (cs' := #[.int .i64 ((0 : Int)), .slice none 0 0, .slice none 0 0]) st30 hb0_2 rfl rfl rfl (by simp) (allOne_mem (l := [.int .i64 ((0 : Int)), .slice none 0 0, .slice none 0 0]) ⟨rfl, rfl, rfl, trivial⟩) rfl ?_
  intro h3_1 hb0_2 c3_1
  have := c3_1.size
  replace eB := Ext.then eB c3_1 (ge_of hfhb0_2 (by omega))
  try simp -implicitDefEqProofs (disch := first | decide | assumption | omega) only [go_sem, RdS.len hdX sl22, RdS.idx hdX sl22, R1.intB hdX (Ext.pres eB), RdS.cells hdX, RdS.len hmX sl23, RdS.idx hmX sl23, RdS.cellB hmX (Ext.pres eB), RdS.cells hmX, RdS.len hdY sl22, RdS.idx hdY sl22, R1.intB hdY (Ext.pres eB), RdS.cells hdY, RdS.len hmY sl23, RdS.idx hmY sl23, RdS.cellB hmY (Ext.pres eB), RdS.cells hmY, BoxAt.cell hb0_2, wrap_id, bC0]
  refine hK _ _ ?_
  clear hK K
  refine den_ret ?_
  simp -implicitDefEqProofs (disch := first | decide | assumption | omega) only [go_sem, RdS.len hdX sl22, RdS.idx hdX sl22, R1.intB hdX (Ext.pres eB), RdS.cells hdX, RdS.len hmX sl23, RdS.idx hmX sl23, RdS.cellB hmX (Ext.pres eB), RdS.cells hmX, RdS.len hdY sl22, RdS.idx hdY sl22, R1.intB hdY (Ext.pres eB), RdS.cells hdY, RdS.len hmY sl23, RdS.idx hmY sl23, RdS.cellB hmY (Ext.pres eB), RdS.cells hmY, BoxAt.cell hb0_2, wrap_id, bC0, resP_ct, ld30]
  have hz : teP X Y = (⟨0, [], []⟩, 3) := by rw [teP, if_neg hnf]
  rw [hz]
  exact ⟨.slice none 0 0, .slice none 0 0, [], [], rfl, OS.nil, OS.nil, Fresh.nil _, eB⟩
 ·try simp only [decide_eq_true_eq, decide_eq_false_iff_not, beq_iff_eq, beq_eq_false_iff_ne, bne_iff_ne, ne_eq, Bool.not_eq_true', Bool.not_eq_false', Bool.and_eq_true, Bool.or_eq_true, bne_eq_false_iff_eq, Bool.or_eq_false_iff, Bool.and_eq_false_iff] at c0
  have hnf : fitP (tdP X Y) = true := fit_yes (by have := c0; omega) (by simpa using c0.2)
  have hbD := fit_all hX hY hnf
  have hbL : (tdP X Y).length ≤ 16 := by have := fit_len hnf; omega
  refine den_skip ?_
  refine den_seq ?_
  refine den_region TTok ?_
  intro K hK
  simp -implicitDefEqProofs (disch := first | decide | assumption | omega) only [go_sem, fa30_0, ld2, RdS.len hdX sl22, RdS.idx hdX sl22, R1.intB hdX (Ext.pres eB), RdS.cells hdX, RdS.len hmX sl23, RdS.idx hmX sl23, RdS.cellB hmX (Ext.pres eB), RdS.cells hmX, RdS.len hdY sl22, RdS.idx hdY sl22, R1.intB hdY (Ext.pres eB), RdS.cells hdY, RdS.len hmY sl23, RdS.idx hmY sl23, RdS.cellB hmY (Ext.pres eB), RdS.cells hmY, RdS.len (OS.rd how1_2_0) sl22, RdS.idx (OS.rd how1_2_0) sl22, R1.intN (OS.rd how1_2_0), RdS.cells (OS.rd how1_2_0), BoxAt.cell hb0_0, BoxAt.cell hb0_1, BoxAt.cell hb0_2, wrap_id, bC0]
  try simp -implicitDefEqProofs (disch := first | decide | assumption | omega) only [go_sem, RdS.len hdX sl22, RdS.idx hdX sl22, R1.intB hdX (Ext.pres eB), RdS.cells hdX, RdS.len hmX sl23, RdS.idx hmX sl23, RdS.cellB hmX (Ext.pres eB), RdS.cells hmX, RdS.len hdY sl22, RdS.idx hdY sl22, R1.intB hdY (Ext.pres eB), RdS.cells hdY, RdS.len hmY sl23, RdS.idx hmY sl23, RdS.cellB hmY (Ext.pres eB), RdS.cells hmY, RdS.len (OS.rd how1_2_0) sl22, RdS.idx (OS.rd how1_2_0) sl22, R1.intN (OS.rd how1_2_0), RdS.cells (OS.rd how1_2_0), BoxAt.cell hb0_0, BoxAt.cell hb0_1, BoxAt.cell hb0_2, wrap_id, bC0]
  refine CallA.mono (blank_ok _ _ (tdP X Y) _ (OS.rd how1_2_0) hbD hbL) ?_
  intro v_ h4_3
  rintro ⟨vw4_3, fw4_3, rfl, how4_3, hfw4_3, e4_3⟩
  replace how1_2_0 := OS.ext how1_2_0 e4_3
  replace hb0_0 := BoxAt.ext hb0_0 e4_3
  replace hb0_1 := BoxAt.ext hb0_1 e4_3
  replace hb0_2 := BoxAt.ext hb0_2 e4_3
  have := Ext.size e4_3
  replace eB := Ext.trans eB e4_3
  have hlhow4_3 := OS.lt how4_3
  try simp -implicitDefEqProofs (disch := first | decide | assumption | omega) only [go_sem, RdS.len hdX sl22, RdS.idx hdX sl22, R1.intB hdX (Ext.pres eB), RdS.cells hdX, RdS.len hmX sl23, RdS.idx hmX sl23, RdS.cellB hmX (Ext.pres eB), RdS.cells hmX, RdS.len hdY sl22, RdS.idx hdY sl22, R1.intB hdY (Ext.pres eB), RdS.cells hdY, RdS.len hmY sl23, RdS.idx hmY sl23, RdS.cellB hmY (Ext.pres eB), RdS.cells hmY, RdS.len (OS.rd how1_2_0) sl22, RdS.idx (OS.rd how1_2_0) sl22, R1.intN (OS.rd how1_2_0), RdS.cells (OS.rd how1_2_0), RdS.len (OS.rd how4_3) sl23, RdS.idx (OS.rd how4_3) sl23, RdS.cellN (OS.rd how4_3), RdS.cells (OS.rd how4_3), BoxAt.cell hb0_0, BoxAt.cell hb0_1, BoxAt.cell hb0_2, wrap_id, bC0]
  refine op_alloc (cs := #[.int .i64 0, .slice none 0 0, .slice none 0 0]) (by kernel_rfl) ?_
  intro h4_4 e4_4 hb4_4 z4_4
  replace how1_2_0 := OS.ext how1_2_0 e4_4
  replace how4_3 := OS.ext how4_3 e4_4
  replace hb0_0 := BoxAt.ext hb0_0 e4_4
  replace hb0_1 := BoxAt.ext hb0_1 e4_4
  replace hb0_2 := BoxAt.ext hb0_2 e4_4
  have := Ext.size e4_4
  replace eB := Ext.trans eB e4_4
  have hfhb4_4 : Fresh h4_3.size [h4_3.size] := Fresh.one _
  have hlhb4_4 := one_lt (show h4_3.size < h4_4.size by omega)
  try simp -implicitDefEqProofs (disch := first | decide | assumption | omega) only [go_sem, RdS.len hdX sl22, RdS.idx hdX sl22, R1.intB hdX (Ext.pres eB), RdS.cells hdX, RdS.len hmX sl23, RdS.idx hmX sl23, RdS.cellB hmX (Ext.pres eB), RdS.cells hmX, RdS.len hdY sl22, RdS.idx hdY sl22, R1.intB hdY (Ext.pres eB), RdS.cells hdY, RdS.len hmY sl23, RdS.idx hmY sl23, RdS.cellB hmY (Ext.pres eB), RdS.cells hmY, RdS.len (OS.rd how1_2_0) sl22, RdS.idx (OS.rd how1_2_0) sl22, R1.intN (OS.rd how1_2_0), RdS.cells (OS.rd how1_2_0), RdS.len (OS.rd how4_3) sl23, RdS.idx (OS.rd how4_3) sl23, RdS.cellN (OS.rd how4_3), RdS.cells (OS.rd how4_3), BoxAt.cell hb0_0, BoxAt.cell hb0_1, BoxAt.cell hb0_2, BoxAt.cell hb4_4, wrap_id, bC0]
  refine op_storeB (cs' := #[.int .i64 (X.p), vw1_2_0, vw4_3]) st30 hb4_4 rfl rfl rfl (by simp) (allOne_mem (l := [.int .i64 (X.p), vw1_2_0, vw4_3]) ⟨rfl, (OS.one how1_2_0).1, (OS.one how4_3).1, trivial⟩) rfl ?_
  intro h4_5 hb4_4 c4_5
  replace how1_2_0 := OS.chg how1_2_0 c4_5 (apart_lt hlhow1_2_0 hfhb4_4 (by omega))
  replace how4_3 := OS.chg how4_3 c4_5 (apart_lt hlhow4_3 hfhb4_4 (by omega))
  replace hb0_0 := BoxAt.chgA hb0_0 c4_5 (apart_lt hlhb0_0 hfhb4_4 (by omega))
  replace hb0_1 := BoxAt.chgA hb0_1 c4_5 (apart_lt hlhb0_1 hfhb4_4 (by omega))
  replace hb0_2 := BoxAt.chgA hb0_2 c4_5 (apart_lt hlhb0_2 hfhb4_4 (by omega))
  have := c4_5.size
  replace eB := Ext.then eB c4_5 (ge_of hfhb4_4 (by omega))
  try simp -implicitDefEqProofs (disch := first | decide | assumption | omega) only [go_sem, RdS.len hdX sl22, RdS.idx hdX sl22, R1.intB hdX (Ext.pres eB), RdS.cells hdX, RdS.len hmX sl23, RdS.idx hmX sl23, RdS.cellB hmX (Ext.pres eB), RdS.cells hmX, RdS.len hdY sl22, RdS.idx hdY sl22, R1.intB hdY (Ext.pres eB), RdS.cells hdY, RdS.len hmY sl23, RdS.idx hmY sl23, RdS.cellB hmY (Ext.pres eB), RdS.cells hmY, RdS.len (OS.rd how1_2_0) sl22, RdS.idx (OS.rd how1_2_0) sl22, R1.intN (OS.rd how1_2_0), RdS.cells (OS.rd how1_2_0), RdS.len (OS.rd how4_3) sl23, RdS.idx (OS.rd how4_3) sl23, RdS.cellN (OS.rd how4_3), RdS.cells (OS.rd how4_3), BoxAt.cell hb0_0, BoxAt.cell hb0_1, BoxAt.cell hb0_2, BoxAt.cell hb4_4, wrap_id, bC0]
  refine hK _ _ ?_
  clear hK K
  refine den_seq ?_
  refine den_region TTok ?_
  intro K hK
  simp -implicitDefEqProofs (disch := first | decide | assumption | omega) only [go_sem, ld30, RdS.len hdX sl22, RdS.idx hdX sl22, R1.intB hdX (Ext.pres eB), RdS.cells hdX, RdS.len hmX sl23, RdS.idx hmX sl23, RdS.cellB hmX (Ext.pres eB), RdS.cells hmX, RdS.len hdY sl22, RdS.idx hdY sl22, R1.intB hdY (Ext.pres eB), RdS.cells hdY, RdS.len hmY sl23, RdS.idx hmY sl23, RdS.cellB hmY (Ext.pres eB), RdS.cells hmY, RdS.len (OS.rd how1_2_0) sl22, RdS.idx (OS.rd how1_2_0) sl22, R1.intN (OS.rd how1_2_0), RdS.cells (OS.rd how1_2_0), RdS.len (OS.rd how4_3) sl23, RdS.idx (OS.rd how4_3) sl23, RdS.cellN (OS.rd how4_3), RdS.cells (OS.rd how4_3), BoxAt.cell hb0_0, BoxAt.cell hb0_1, BoxAt.cell hb0_2, BoxAt.cell hb4_4, wrap_id, bC0]
  try simp -implicitDefEqProofs (disch := first | decide | assumption | omega) only [go_sem, RdS.len hdX sl22, RdS.idx hdX sl22, R1.intB hdX (Ext.pres eB), RdS.cells hdX, RdS.len hmX sl23, RdS.idx hmX sl23, RdS.cellB hmX (Ext.pres eB), RdS.cells hmX, RdS.len hdY sl22, RdS.idx hdY sl22, R1.intB hdY (Ext.pres eB), RdS.cells hdY, RdS.len hmY sl23, RdS.idx hmY sl23, RdS.cellB hmY (Ext.pres eB), RdS.cells hmY, RdS.len (OS.rd how1_2_0) sl22, RdS.idx (OS.rd how1_2_0) sl22, R1.intN (OS.rd how1_2_0), RdS.cells (OS.rd how1_2_0), RdS.len (OS.rd how4_3) sl23, RdS.idx (OS.rd how4_3) sl23, RdS.cellN (OS.rd how4_3), RdS.cells (OS.rd how4_3), BoxAt.cell hb0_0, BoxAt.cell hb0_1, BoxAt.cell hb0_2, BoxAt.cell hb4_4, wrap_id, bC0]
  refine CallA.mono (each_upd (X := X) (s0 := (zblk (tdP X Y) ((tdP X Y).length - 1))) (p := X.p) (L := (tdP X Y).length - 1) (A := tA X Y) (B := tB X Y) (U := tU1 X Y) (Ot := (fun H => BoxAt H (h4_3.size) #[.int .i64 X.p, vw1_2_0, vw4_3] 30 ∧ BoxAt H (h0_0.size) #[.int .i64 Y.p, vdY, vmY] 30 ∧ BoxAt H (h.size) #[.int .i64 X.p, vdX, vmX] 30 ∧ O1 H vw1_2_0 (tdP X Y) fw1_2_0)) hpb.1 hdX hmX ⟨how4_3, hzb.1, hzb.2, eB, hb4_4, hb0_1, hb0_0, how1_2_0⟩ (fun H H' c o => ⟨BoxAt.chgA o.1 c (apart_gt hfhb4_4 hlhow4_3 (by omega)), BoxAt.chgA o.2.1 c (apart_lt hlhb0_1 hfw4_3 (by omega)), BoxAt.chgA o.2.2.1 c (apart_lt hlhb0_0 hfw4_3 (by omega)), OS.chg o.2.2.2 c (apart_lt hlhow1_2_0 hfw4_3 (by omega))⟩) (ge_of hfw4_3 (by omega)) (t_u1 hX hY) (fun s H k i j hk hi hj r => by
  simp only [List.append_toArray, List.cons_append, List.nil_append]
  have hnm := hX.num hk hi hj
  exact (ten1_ok X Y vdX vmX vdY vmY _ _ s _ k i j _ _ _ _ (fun H => BoxAt H (h4_3.size) #[.int .i64 X.p, vw1_2_0, vw4_3] 30 ∧ BoxAt H (h0_0.size) #[.int .i64 Y.p, vdY, vmY] 30 ∧ BoxAt H (h.size) #[.int .i64 X.p, vdX, vmX] 30 ∧ O1 H vw1_2_0 (tdP X Y) fw1_2_0) h H hdX hmX hdY hmY hX hY hi hj (by omega) r.o r.sh r.i3 hfw4_3.nodup r.e (ge_of hfw4_3 (by omega)) r.ot (fun H H' c o => ⟨BoxAt.chgA o.1 c (apart_gt hfhb4_4 hlhow4_3 (by omega)), BoxAt.chgA o.2.1 c (apart_lt hlhb0_1 hfw4_3 (by omega)), BoxAt.chgA o.2.2.1 c (apart_lt hlhb0_0 hfw4_3 (by omega)), OS.chg o.2.2.2 c (apart_lt hlhow1_2_0 hfw4_3 (by omega))⟩) (fun H o => ⟨o.1, o.2.1, o.2.2.1, OS.rd o.2.2.2⟩)).mono (fun u H' q => q.2))) ?_
  intro v_ h5_2
  rintro ⟨rfl, hog5_2, cg5_2⟩
  replace how1_2_0 := OS.chg how1_2_0 cg5_2 (apart_lt hlhow1_2_0 hfw4_3 (by omega))
  replace hb0_0 := BoxAt.chgA hb0_0 cg5_2 (apart_lt hlhb0_0 hfw4_3 (by omega))
  replace hb0_1 := BoxAt.chgA hb0_1 cg5_2 (apart_lt hlhb0_1 hfw4_3 (by omega))
  replace hb0_2 := BoxAt.chgA hb0_2 cg5_2 (apart_lt hlhb0_2 hfw4_3 (by omega))
  replace hb4_4 := BoxAt.chgA hb4_4 cg5_2 (apart_gt hfhb4_4 hlhow4_3 (by omega))
  have := cg5_2.size
  replace eB := Ext.then eB cg5_2 (ge_of hfw4_3 (by omega))
  have hlhog5_2 := hlhow4_3
  try simp -implicitDefEqProofs (disch := first | decide | assumption | omega) only [go_sem, RdS.len hdX sl22, RdS.idx hdX sl22, R1.intB hdX (Ext.pres eB), RdS.cells hdX, RdS.len hmX sl23, RdS.idx hmX sl23, RdS.cellB hmX (Ext.pres eB), RdS.cells hmX, RdS.len hdY sl22, RdS.idx hdY sl22, R1.intB hdY (Ext.pres eB), RdS.cells hdY, RdS.len hmY sl23, RdS.idx hmY sl23, RdS.cellB hmY (Ext.pres eB), RdS.cells hmY, RdS.len (OS.rd how1_2_0) sl22, RdS.idx (OS.rd how1_2_0) sl22, R1.intN (OS.rd how1_2_0), RdS.cells (OS.rd how1_2_0), RdS.len (OS.rd hog5_2) sl23, RdS.idx (OS.rd hog5_2) sl23, RdS.cellN (OS.rd hog5_2), RdS.cells (OS.rd hog5_2), BoxAt.cell hb0_0, BoxAt.cell hb0_1, BoxAt.cell hb0_2, BoxAt.cell hb4_4, wrap_id, bC0]
  refine hK _ _ ?_
  clear hK K
  refine den_seq ?_
  refine den_region TTok ?_
  intro K hK
  simp -implicitDefEqProofs (disch := first | decide | assumption | omega) only [go_sem, ld30, RdS.len hdX sl22, RdS.idx hdX sl22, R1.intB hdX (Ext.pres eB), RdS.cells hdX, RdS.len hmX sl23, RdS.idx hmX sl23, RdS.cellB hmX (Ext.pres eB), RdS.cells hmX, RdS.len hdY sl22, RdS.idx hdY sl22, R1.intB hdY (Ext.pres eB), RdS.cells hdY, RdS.len hmY sl23, RdS.idx hmY sl23, RdS.cellB hmY (Ext.pres eB), RdS.cells hmY, RdS.len (OS.rd how1_2_0) sl22, RdS.idx (OS.rd how1_2_0) sl22, R1.intN (OS.rd how1_2_0), RdS.cells (OS.rd how1_2_0), RdS.len (OS.rd hog5_2) sl23, RdS.idx (OS.rd hog5_2) sl23, RdS.cellN (OS.rd hog5_2), RdS.cells (OS.rd hog5_2), BoxAt.cell hb0_0, BoxAt.cell hb0_1, BoxAt.cell hb0_2, BoxAt.cell hb4_4, wrap_id, bC0]
  try simp -implicitDefEqProofs (disch := first | decide | assumption | omega) only [go_sem, RdS.len hdX sl22, RdS.idx hdX sl22, R1.intB hdX (Ext.pres eB), RdS.cells hdX, RdS.len hmX sl23, RdS.idx hmX sl23, RdS.cellB hmX (Ext.pres eB), RdS.cells hmX, RdS.len hdY sl22, RdS.idx hdY sl22, R1.intB hdY (Ext.pres eB), RdS.cells hdY, RdS.len hmY sl23, RdS.idx hmY sl23, RdS.cellB hmY (Ext.pres eB), RdS.cells hmY, RdS.len (OS.rd how1_2_0) sl22, RdS.idx (OS.rd how1_2_0) sl22, R1.intN (OS.rd how1_2_0), RdS.cells (OS.rd how1_2_0), RdS.len (OS.rd hog5_2) sl23, RdS.idx (OS.rd hog5_2) sl23, RdS.cellN (OS.rd hog5_2), RdS.cells (OS.rd hog5_2), BoxAt.cell hb0_0, BoxAt.cell hb0_1, BoxAt.cell hb0_2, BoxAt.cell hb4_4, wrap_id, bC0]
  refine CallA.mono (each_upd (X := Y) (s0 := (tT1 X Y)) (p := X.p) (L := (tdP X Y).length - 1) (A := tA X Y) (B := tB X Y) (U := tU2 X Y) (Ot := (fun H => BoxAt H (h4_3.size) #[.int .i64 X.p, vw1_2_0, vw4_3] 30 ∧ BoxAt H (h0_0.size) #[.int .i64 Y.p, vdY, vmY] 30 ∧ BoxAt H (h.size) #[.int .i64 X.p, vdX, vmX] 30 ∧ O1 H vw1_2_0 (tdP X Y) fw1_2_0)) hpb.1 hdY hmY ⟨hog5_2, (tT1_sh hX hY).1, (tT1_sh hX hY).2, eB, hb4_4, hb0_1, hb0_0, how1_2_0⟩ (fun H H' c o => ⟨BoxAt.chgA o.1 c (apart_gt hfhb4_4 hlhog5_2 (by omega)), BoxAt.chgA o.2.1 c (apart_lt hlhb0_1 hfw4_3 (by omega)), BoxAt.chgA o.2.2.1 c (apart_lt hlhb0_0 hfw4_3 (by omega)), OS.chg o.2.2.2 c (apart_lt hlhow1_2_0 hfw4_3 (by omega))⟩) (ge_of hfw4_3 (by omega)) (t_u2 hX hY) (fun s H k i j hk hi hj r => by
  simp only [List.append_toArray, List.cons_append, List.nil_append]
  have hnm := hY.num hk hi hj
  exact (ten2_ok X Y vdX vmX vdY vmY _ _ s _ k i j _ _ _ _ (fun H => BoxAt H (h4_3.size) #[.int .i64 X.p, vw1_2_0, vw4_3] 30 ∧ BoxAt H (h0_0.size) #[.int .i64 Y.p, vdY, vmY] 30 ∧ BoxAt H (h.size) #[.int .i64 X.p, vdX, vmX] 30 ∧ O1 H vw1_2_0 (tdP X Y) fw1_2_0) h H hdX hmX hdY hmY hX hY hi hj (by omega) r.o r.sh r.i3 hfw4_3.nodup r.e (ge_of hfw4_3 (by omega)) r.ot (fun H H' c o => ⟨BoxAt.chgA o.1 c (apart_gt hfhb4_4 hlhog5_2 (by omega)), BoxAt.chgA o.2.1 c (apart_lt hlhb0_1 hfw4_3 (by omega)), BoxAt.chgA o.2.2.1 c (apart_lt hlhb0_0 hfw4_3 (by omega)), OS.chg o.2.2.2 c (apart_lt hlhow1_2_0 hfw4_3 (by omega))⟩) (fun H o => ⟨o.1, o.2.1, o.2.2.1, OS.rd o.2.2.2⟩)).mono (fun u H' q => q.2))) ?_
  intro v_ h6_2
  rintro ⟨rfl, hog6_2, cg6_2⟩
  replace how1_2_0 := OS.chg how1_2_0 cg6_2 (apart_lt hlhow1_2_0 hfw4_3 (by omega))
  replace hb0_0 := BoxAt.chgA hb0_0 cg6_2 (apart_lt hlhb0_0 hfw4_3 (by omega))
  replace hb0_1 := BoxAt.chgA hb0_1 cg6_2 (apart_lt hlhb0_1 hfw4_3 (by omega))
  replace hb0_2 := BoxAt.chgA hb0_2 cg6_2 (apart_lt hlhb0_2 hfw4_3 (by omega))
  replace hb4_4 := BoxAt.chgA hb4_4 cg6_2 (apart_gt hfhb4_4 hlhog5_2 (by omega))
  have := cg6_2.size
  replace eB := Ext.then eB cg6_2 (ge_of hfw4_3 (by omega))
  have hlhog6_2 := hlhog5_2
  try simp -implicitDefEqProofs (disch := first | decide | assumption | omega) only [go_sem, RdS.len hdX sl22, RdS.idx hdX sl22, R1.intB hdX (Ext.pres eB), RdS.cells hdX, RdS.len hmX sl23, RdS.idx hmX sl23, RdS.cellB hmX (Ext.pres eB), RdS.cells hmX, RdS.len hdY sl22, RdS.idx hdY sl22, R1.intB hdY (Ext.pres eB), RdS.cells hdY, RdS.len hmY sl23, RdS.idx hmY sl23, RdS.cellB hmY (Ext.pres eB), RdS.cells hmY, RdS.len (OS.rd how1_2_0) sl22, RdS.idx (OS.rd how1_2_0) sl22, R1.intN (OS.rd how1_2_0), RdS.cells (OS.rd how1_2_0), RdS.len (OS.rd hog6_2) sl23, RdS.idx (OS.rd hog6_2) sl23, RdS.cellN (OS.rd hog6_2), RdS.cells (OS.rd hog6_2), BoxAt.cell hb0_0, BoxAt.cell hb0_1, BoxAt.cell hb0_2, BoxAt.cell hb4_4, wrap_id, bC0]
  refine hK _ _ ?_
  clear hK K
  refine den_seq ?_
  refine den_region TTok ?_
  intro K hK
  simp -implicitDefEqProofs (disch := first | decide | assumption | omega) only [go_sem, ld30, RdS.len hdX sl22, RdS.idx hdX sl22, R1.intB hdX (Ext.pres eB), RdS.cells hdX, RdS.len hmX sl23, RdS.idx hmX sl23, RdS.cellB hmX (Ext.pres eB), RdS.cells hmX, RdS.len hdY sl22, RdS.idx hdY sl22, R1.intB hdY (Ext.pres eB), RdS.cells hdY, RdS.len hmY sl23, RdS.idx hmY sl23, RdS.cellB hmY (Ext.pres eB), RdS.cells hmY, RdS.len (OS.rd how1_2_0) sl22, RdS.idx (OS.rd how1_2_0) sl22, R1.intN (OS.rd how1_2_0), RdS.cells (OS.rd how1_2_0), RdS.len (OS.rd hog6_2) sl23, RdS.idx (OS.rd hog6_2) sl23, RdS.cellN (OS.rd hog6_2), RdS.cells (OS.rd hog6_2), BoxAt.cell hb0_2, BoxAt.cell hb4_4, wrap_id, bC0]
  refine op_storeB (cs' := #[.int .i64 (X.p), vw1_2_0, vw4_3]) st30 hb0_2 rfl rfl rfl (by simp) (allOne_mem (l := [.int .i64 (X.p), vw1_2_0, vw4_3]) ⟨rfl, (OS.one how1_2_0).1, (OS.one hog6_2).1, trivial⟩) rfl ?_
  intro h7_1 hb0_2 c7_1
  replace how1_2_0 := OS.chg how1_2_0 c7_1 (apart_gt hfw1_2_0 hlhb0_2 (by omega))
  replace hog6_2 := OS.chg hog6_2 c7_1 (apart_gt hfw4_3 hlhb0_2 (by omega))
  replace hb4_4 := BoxAt.chgA hb4_4 c7_1 (apart_gt hfhb4_4 hlhb0_2 (by omega))
  have := c7_1.size
  replace eB := Ext.then eB c7_1 (ge_of hfhb0_2 (by omega))
  try simp -implicitDefEqProofs (disch := first | decide | assumption | omega) only [go_sem, RdS.len hdX sl22, RdS.idx hdX sl22, R1.intB hdX (Ext.pres eB), RdS.cells hdX, RdS.len hmX sl23, RdS.idx hmX sl23, RdS.cellB hmX (Ext.pres eB), RdS.cells hmX, RdS.len hdY sl22, RdS.idx hdY sl22, R1.intB hdY (Ext.pres eB), RdS.cells hdY, RdS.len hmY sl23, RdS.idx hmY sl23, RdS.cellB hmY (Ext.pres eB), RdS.cells hmY, RdS.len (OS.rd how1_2_0) sl22, RdS.idx (OS.rd how1_2_0) sl22, R1.intN (OS.rd how1_2_0), RdS.cells (OS.rd how1_2_0), RdS.len (OS.rd hog6_2) sl23, RdS.idx (OS.rd hog6_2) sl23, RdS.cellN (OS.rd hog6_2), RdS.cells (OS.rd hog6_2), BoxAt.cell hb0_2, BoxAt.cell hb4_4, wrap_id, bC0]
  refine hK _ _ ?_
  clear hK K
  refine den_ret ?_
  simp -implicitDefEqProofs (disch := first | decide | assumption | omega) only [go_sem, RdS.len hdX sl22, RdS.idx hdX sl22, R1.intB hdX (Ext.pres eB), RdS.cells hdX, RdS.len hmX sl23, RdS.idx hmX sl23, RdS.cellB hmX (Ext.pres eB), RdS.cells hmX, RdS.len hdY sl22, RdS.idx hdY sl22, R1.intB hdY (Ext.pres eB), RdS.cells hdY, RdS.len hmY sl23, RdS.idx hmY sl23, RdS.cellB hmY (Ext.pres eB), RdS.cells hmY, RdS.len (OS.rd how1_2_0) sl22, RdS.idx (OS.rd how1_2_0) sl22, R1.intN (OS.rd how1_2_0), RdS.cells (OS.rd how1_2_0), RdS.len (OS.rd hog6_2) sl23, RdS.idx (OS.rd hog6_2) sl23, RdS.cellN (OS.rd hog6_2), RdS.cells (OS.rd hog6_2), BoxAt.cell hb0_2, BoxAt.cell hb4_4, wrap_id, bC0, resP_ct, ld30]
  have hz : teP X Y = (⟨X.p, tdP X Y, tT X Y⟩, 0) := by rw [teP, if_pos hnf]
  rw [hz]
  exact ⟨_, _, _, _, rfl, how1_2_0, hog6_2, Fresh.two hfw1_2_0 hfw4_3 (apart_lt hlhow1_2_0 hfw4_3 (by omega)) (by omega) (by omega), eB⟩
end Go.Proofs.Ytffggocjkhcgeaa

namespace Go.Proofs.Ytffggocjkhcgeaa
open Go
set_option maxRecDepth 100000 in
theorem sTC_ok (vX vY : Value) (X : Cx) (Y : Cx) (h : Heap) (rX : RC h vX X) (rY : RC h vY Y)  : CallA Try.prog 43 #[vX, vY] h fun v' h' => ∃ wd0 wm0 fd0 fm0, v' = .tuple #[.agg #[.int .i64 ((tcP X Y).1).p, wd0, wm0], .int .i64 ((tcP X Y).2)] ∧ O1 h' wd0 ((tcP X Y).1).dims fd0 ∧ O3 h' wm0 ((tcP X Y).1).maps fm0 ∧ Fresh h.size (fd0 ++ fm0) ∧ Ext h h' := by
 obtain ⟨vdX, vmX, rfl, hdX, hmX⟩ := rX
 have hledX := RdS.le hdX
 have hlemX := RdS.le hmX
 obtain ⟨vdY, vmY, rfl, hdY, hmY⟩ := rY
 have hledY := RdS.le hdY
 have hlemY := RdS.le hmY
 refine callA_intro TTok (args := [_, _]) Try.func43 (by kernel_rfl) rfl 23 rfl (by simp) [.cell 4 30, .tmp 5] rfl ?_
 simp only [idxs, Nat.reduceAdd]
 refine den_seq ?_
 refine den_region TTok ?_
 intro K hK
 simp -implicitDefEqProofs (disch := first | decide | assumption | omega) only [go_sem, RdS.len hdX sl22, RdS.idx hdX sl22, R1.intB hdX (HPres.refl _), RdS.cells hdX, RdS.len hmX sl23, RdS.idx hmX sl23, RdS.cellB hmX (HPres.refl _), RdS.cells hmX, RdS.len hdY sl22, RdS.idx hdY sl22, R1.intB hdY (HPres.refl _), RdS.cells hdY, RdS.len hmY sl23, RdS.idx hmY sl23, RdS.cellB hmY (HPres.refl _), RdS.cells hmY, wrap_id, bC0]
 refine op_box (cs := #[.int .i64 (X.p), vdX, vmX]) rfl ?_
 intro h0_0 e0_0 hb0_0 z0_0
 have := Ext.size e0_0
 have eB := e0_0
 have hfhb0_0 : Fresh h.size [h.size] := Fresh.one _
 have hlhb0_0 := one_lt (show h.size < h0_0.size by omega)
 try simp -implicitDefEqProofs (disch := first | decide | assumption | omega) only [go_sem, RdS.len hdX sl22, RdS.idx hdX sl22, R1.intB hdX (Ext.pres eB), RdS.cells hdX, RdS.len hmX sl23, RdS.idx hmX sl23, RdS.cellB hmX (Ext.pres eB), RdS.cells hmX, RdS.len hdY sl22, RdS.idx hdY sl22, R1.intB hdY (Ext.pres eB), RdS.cells hdY, RdS.len hmY sl23, RdS.idx hmY sl23, RdS.cellB hmY (Ext.pres eB), RdS.cells hmY, BoxAt.cell hb0_0, wrap_id, bC0]
 refine op_box (cs := #[.int .i64 (Y.p), vdY, vmY]) rfl ?_
 intro h0_1 e0_1 hb0_1 z0_1
 replace hb0_0 := BoxAt.ext hb0_0 e0_1
 have := Ext.size e0_1
 replace eB := Ext.trans eB e0_1
 have hfhb0_1 : Fresh h0_0.size [h0_0.size] := Fresh.one _
 have hlhb0_1 := one_lt (show h0_0.size < h0_1.size by omega)
 try simp -implicitDefEqProofs (disch := first | decide | assumption | omega) only [go_sem, RdS.len hdX sl22, RdS.idx hdX sl22, R1.intB hdX (Ext.pres eB), RdS.cells hdX, RdS.len hmX sl23, RdS.idx hmX sl23, RdS.cellB hmX (Ext.pres eB), RdS.cells hmX, RdS.len hdY sl22, RdS.idx hdY sl22, R1.intB hdY (Ext.pres eB), RdS.cells hdY, RdS.len hmY sl23, RdS.idx hmY sl23, RdS.cellB hmY (Ext.pres eB), RdS.cells hmY, BoxAt.cell hb0_0, BoxAt.cell hb0_1, wrap_id, bC0]
 refine op_alloc (cs := #[.int .i64 0, .slice none 0 0, .slice none 0 0]) (by kernel_rfl) ?_
 intro h0_2 e0_2 hb0_2 z0_2
 replace hb0_0 := BoxAt.ext hb0_0 e0_2
 replace hb0_1 := BoxAt.ext hb0_1 e0_2
 have := Ext.size e0_2
 replace eB := Ext.trans eB e0_2
 have hfhb0_2 : Fresh h0_1.size [h0_1.size] := Fresh.one _
 have hlhb0_2 := one_lt (show h0_1.size < h0_2.size by omega)
 try simp -implicitDefEqProofs (disch := first | decide | assumption | omega) only [go_sem, RdS.len hdX sl22, RdS.idx hdX sl22, R1.intB hdX (Ext.pres eB), RdS.cells hdX, RdS.len hmX sl23, RdS.idx hmX sl23, RdS.cellB hmX (Ext.pres eB), RdS.cells hmX, RdS.len hdY sl22, RdS.idx hdY sl22, R1.intB hdY (Ext.pres eB), RdS.cells hdY, RdS.len hmY sl23, RdS.idx hmY sl23, RdS.cellB hmY (Ext.pres eB), RdS.cells hmY, BoxAt.cell hb0_0, BoxAt.cell hb0_1, BoxAt.cell hb0_2, wrap_id, bC0]
 refine hK _ _ ?_
 clear hK K
 refine den_seq ?_
 refine den_seq ?_
 refine den_region TTok ?_
 intro K hK
 simp -implicitDefEqProofs (disch := first | decide | assumption | omega) only [go_sem, ld30, RdS.len hdX sl22, RdS.idx hdX sl22, R1.intB hdX (Ext.pres eB), RdS.cells hdX, RdS.len hmX sl23, RdS.idx hmX sl23, RdS.cellB hmX (Ext.pres eB), RdS.cells hmX, RdS.len hdY sl22, RdS.idx hdY sl22, R1.intB hdY (Ext.pres eB), RdS.cells hdY, RdS.len hmY sl23, RdS.idx hmY sl23, RdS.cellB hmY (Ext.pres eB), RdS.cells hmY, BoxAt.cell hb0_0, BoxAt.cell hb0_1, BoxAt.cell hb0_2, wrap_id, bC0]
 try simp -implicitDefEqProofs (disch := first | decide | assumption | omega) only [go_sem, RdS.len hdX sl22, RdS.idx hdX sl22, R1.intB hdX (Ext.pres eB), RdS.cells hdX, RdS.len hmX sl23, RdS.idx hmX sl23, RdS.cellB hmX (Ext.pres eB), RdS.cells hmX, RdS.len hdY sl22, RdS.idx hdY sl22, R1.intB hdY (Ext.pres eB), RdS.cells hdY, RdS.len hmY sl23, RdS.idx hmY sl23, RdS.cellB hmY (Ext.pres eB), RdS.cells hmY, BoxAt.cell hb0_0, BoxAt.cell hb0_1, BoxAt.cell hb0_2, wrap_id, bC0]
 refine CallA.mono (two_ok _ _ X Y _ ⟨_, _, rfl, (RdS.pres hdX (Ext.pres eB)), (RdS.pres hmX (Ext.pres eB))⟩ ⟨_, _, rfl, (RdS.pres hdY (Ext.pres eB)), (RdS.pres hmY (Ext.pres eB))⟩) ?_
 intro v_ h1_2
 rintro ⟨rfl, e1_2⟩
 replace hb0_0 := BoxAt.ext hb0_0 e1_2
 replace hb0_1 := BoxAt.ext hb0_1 e1_2
 replace hb0_2 := BoxAt.ext hb0_2 e1_2
 have := Ext.size e1_2
 replace eB := Ext.trans eB e1_2
 try simp -implicitDefEqProofs (disch := first | decide | assumption | omega) only [go_sem, RdS.len hdX sl22, RdS.idx hdX sl22, R1.intB hdX (Ext.pres eB), RdS.cells hdX, RdS.len hmX sl23, RdS.idx hmX sl23, RdS.cellB hmX (Ext.pres eB), RdS.cells hmX, RdS.len hdY sl22, RdS.idx hdY sl22, R1.intB hdY (Ext.pres eB), RdS.cells hdY, RdS.len hmY sl23, RdS.idx hmY sl23, RdS.cellB hmY (Ext.pres eB), RdS.cells hmY, BoxAt.cell hb0_0, BoxAt.cell hb0_1, BoxAt.cell hb0_2, wrap_id, bC0]
 refine hK _ _ ?_
 clear hK K
 refine den_seq ?_
 refine den_region TTok ?_
 intro K hK
 simp -implicitDefEqProofs (disch := first | decide | assumption | omega) only [go_sem, RdS.len hdX sl22, RdS.idx hdX sl22, R1.intB hdX (Ext.pres eB), RdS.cells hdX, RdS.len hmX sl23, RdS.idx hmX sl23, RdS.cellB hmX (Ext.pres eB), RdS.cells hmX, RdS.len hdY sl22, RdS.idx hdY sl22, R1.intB hdY (Ext.pres eB), RdS.cells hdY, RdS.len hmY sl23, RdS.idx hmY sl23, RdS.cellB hmY (Ext.pres eB), RdS.cells hmY, BoxAt.cell hb0_0, BoxAt.cell hb0_1, BoxAt.cell hb0_2, wrap_id, bC0]
 refine hK _ _ ?_
 clear hK K
 refine den_cond rfl (fun c0 => ?_) (fun c0 => ?_)
 ·try simp only [decide_eq_true_eq, decide_eq_false_iff_not, beq_iff_eq, beq_eq_false_iff_ne, bne_iff_ne, ne_eq, Bool.not_eq_true', Bool.not_eq_false', Bool.and_eq_true, Bool.or_eq_true, bne_eq_false_iff_eq] at c0
  refine den_seq ?_
  refine den_region TTok ?_
  intro K hK
  simp -implicitDefEqProofs (disch := first | decide | assumption | omega) only [go_sem, RdS.len hdX sl22, RdS.idx hdX sl22, R1.intB hdX (Ext.pres eB), RdS.cells hdX, RdS.len hmX sl23, RdS.idx hmX sl23, RdS.cellB hmX (Ext.pres eB), RdS.cells hmX, RdS.len hdY sl22, RdS.idx hdY sl22, R1.intB hdY (Ext.pres eB), RdS.cells hdY, RdS.len hmY sl23, RdS.idx hmY sl23, RdS.cellB hmY (Ext.pres eB), RdS.cells hmY, BoxAt.cell hb0_2, wrap_id, bC0]
  refine op_storeB (cs' := #[.int .i64 ((0 : Int)), .slice none 0 0, .slice none 0 0]) st30 hb0_2 rfl rfl rfl (by simp) (allOne_mem (l := [.int .i64 ((0 : Int)), .slice none 0 0, .slice none 0 0]) ⟨rfl, rfl, rfl, trivial⟩) rfl ?_
  intro h3_2 hb0_2 c3_2
  have := c3_2.size
  replace eB := Ext.then eB c3_2 (ge_of hfhb0_2 (by omega))
  try simp -implicitDefEqProofs (disch := first | decide | assumption | omega) only [go_sem, RdS.len hdX sl22, RdS.idx hdX sl22, R1.intB hdX (Ext.pres eB), RdS.cells hdX, RdS.len hmX sl23, RdS.idx hmX sl23, RdS.cellB hmX (Ext.pres eB), RdS.cells hmX, RdS.len hdY sl22, RdS.idx hdY sl22, R1.intB hdY (Ext.pres eB), RdS.cells hdY, RdS.len hmY sl23, RdS.idx hmY sl23, RdS.cellB hmY (Ext.pres eB), RdS.cells hmY, BoxAt.cell hb0_2, wrap_id, bC0]
  refine hK _ _ ?_
  clear hK K
  refine den_ret ?_
  simp -implicitDefEqProofs (disch := first | decide | assumption | omega) only [go_sem, RdS.len hdX sl22, RdS.idx hdX sl22, R1.intB hdX (Ext.pres eB), RdS.cells hdX, RdS.len hmX sl23, RdS.idx hmX sl23, RdS.cellB hmX (Ext.pres eB), RdS.cells hmX, RdS.len hdY sl22, RdS.idx hdY sl22, R1.intB hdY (Ext.pres eB), RdS.cells hdY, RdS.len hmY sl23, RdS.idx hmY sl23, RdS.cellB hmY (Ext.pres eB), RdS.cells hmY, BoxAt.cell hb0_2, wrap_id, bC0, resP_ct, ld30]
  have hz : tcP X Y = (⟨0, [], []⟩, twoP X Y) := by rw [tcP, if_neg c0]
  rw [hz]
  exact ⟨.slice none 0 0, .slice none 0 0, [], [], rfl, OS.nil, OS.nil, Fresh.nil _, eB⟩
 ·try simp only [decide_eq_true_eq, decide_eq_false_iff_not, beq_iff_eq, beq_eq_false_iff_ne, bne_iff_ne, ne_eq, Bool.not_eq_true', Bool.not_eq_false', Bool.and_eq_true, Bool.or_eq_true, bne_eq_false_iff_eq] at c0
  have hXY := twoP_0 c0
  obtain ⟨hX, hY, hpp⟩ := hXY
  have htl := tdP_len X Y
  have hlX := hX.len
  have hlY := hY.len
  refine den_skip ?_
  refine den_seq ?_
  refine den_seq ?_
  refine den_region TTok ?_
  intro K hK
  simp -implicitDefEqProofs (disch := first | decide | assumption | omega) only [go_sem, ld30, RdS.len hdX sl22, RdS.idx hdX sl22, R1.intB hdX (Ext.pres eB), RdS.cells hdX, RdS.len hmX sl23, RdS.idx hmX sl23, RdS.cellB hmX (Ext.pres eB), RdS.cells hmX, RdS.len hdY sl22, RdS.idx hdY sl22, R1.intB hdY (Ext.pres eB), RdS.cells hdY, RdS.len hmY sl23, RdS.idx hmY sl23, RdS.cellB hmY (Ext.pres eB), RdS.cells hmY, BoxAt.cell hb0_0, BoxAt.cell hb0_1, BoxAt.cell hb0_2, wrap_id, bC0]
  try simp -implicitDefEqProofs (disch := first | decide | assumption | omega) only [go_sem, RdS.len hdX sl22, RdS.idx hdX sl22, R1.intB hdX (Ext.pres eB), RdS.cells hdX, RdS.len hmX sl23, RdS.idx hmX sl23, RdS.cellB hmX (Ext.pres eB), RdS.cells hmX, RdS.len hdY sl22, RdS.idx hdY sl22, R1.intB hdY (Ext.pres eB), RdS.cells hdY, RdS.len hmY sl23, RdS.idx hmY sl23, RdS.cellB hmY (Ext.pres eB), RdS.cells hmY, BoxAt.cell hb0_0, BoxAt.cell hb0_1, BoxAt.cell hb0_2, wrap_id, bC0]
  refine CallA.mono (sDims_ok _ _ X Y _ ⟨_, _, rfl, (RdS.pres hdX (Ext.pres eB)), (RdS.pres hmX (Ext.pres eB))⟩ ⟨_, _, rfl, (RdS.pres hdY (Ext.pres eB)), (RdS.pres hmY (Ext.pres eB))⟩ (hX) (hY)) ?_
  intro vw4_2_0 h4_2
  rintro ⟨zvw4_2_0, fw4_2_0, rfl, how4_2_0, hfw4_2_0, e4_2⟩
  replace hb0_0 := BoxAt.ext hb0_0 e4_2
  replace hb0_1 := BoxAt.ext hb0_1 e4_2
  replace hb0_2 := BoxAt.ext hb0_2 e4_2
  have := Ext.size e4_2
  replace eB := Ext.trans eB e4_2
  have hlhow4_2_0 := OS.lt how4_2_0
  try simp -implicitDefEqProofs (disch := first | decide | assumption | omega) only [go_sem, RdS.len hdX sl22, RdS.idx hdX sl22, R1.intB hdX (Ext.pres eB), RdS.cells hdX, RdS.len hmX sl23, RdS.idx hmX sl23, RdS.cellB hmX (Ext.pres eB), RdS.cells hmX, RdS.len hdY sl22, RdS.idx hdY sl22, R1.intB hdY (Ext.pres eB), RdS.cells hdY, RdS.len hmY sl23, RdS.idx hmY sl23, RdS.cellB hmY (Ext.pres eB), RdS.cells hmY, RdS.len (OS.rd how4_2_0) sl22, RdS.idx (OS.rd how4_2_0) sl22, R1.intN (OS.rd how4_2_0), RdS.cells (OS.rd how4_2_0), BoxAt.cell hb0_0, BoxAt.cell hb0_1, BoxAt.cell hb0_2, wrap_id, bC0]
  try simp -implicitDefEqProofs (disch := first | decide | assumption | omega) only [go_sem, RdS.len hdX sl22, RdS.idx hdX sl22, R1.intB hdX (Ext.pres eB), RdS.cells hdX, RdS.len hmX sl23, RdS.idx hmX sl23, RdS.cellB hmX (Ext.pres eB), RdS.cells hmX, RdS.len hdY sl22, RdS.idx hdY sl22, R1.intB hdY (Ext.pres eB), RdS.cells hdY, RdS.len hmY sl23, RdS.idx hmY sl23, RdS.cellB hmY (Ext.pres eB), RdS.cells hmY, RdS.len (OS.rd how4_2_0) sl22, RdS.idx (OS.rd how4_2_0) sl22, R1.intN (OS.rd how4_2_0), RdS.cells (OS.rd how4_2_0), BoxAt.cell hb0_0, BoxAt.cell hb0_1, BoxAt.cell hb0_2, wrap_id, bC0]
  refine CallA.mono (sFits_ok _ (tdP X Y) _ (OS.rd how4_2_0) ) ?_
  intro v_ h4_3
  rintro ⟨rfl, e4_3⟩
  replace how4_2_0 := OS.ext how4_2_0 e4_3
  replace hb0_0 := BoxAt.ext hb0_0 e4_3
  replace hb0_1 := BoxAt.ext hb0_1 e4_3
  replace hb0_2 := BoxAt.ext hb0_2 e4_3
  have := Ext.size e4_3
  replace eB := Ext.trans eB e4_3
  try simp -implicitDefEqProofs (disch := first | decide | assumption | omega) only [go_sem, RdS.len hdX sl22, RdS.idx hdX sl22, R1.intB hdX (Ext.pres eB), RdS.cells hdX, RdS.len hmX sl23, RdS.idx hmX sl23, RdS.cellB hmX (Ext.pres eB), RdS.cells hmX, RdS.len hdY sl22, RdS.idx hdY sl22, R1.intB hdY (Ext.pres eB), RdS.cells hdY, RdS.len hmY sl23, RdS.idx hmY sl23, RdS.cellB hmY (Ext.pres eB), RdS.cells hmY, RdS.len (OS.rd how4_2_0) sl22, RdS.idx (OS.rd how4_2_0) sl22, R1.intN (OS.rd how4_2_0), RdS.cells (OS.rd how4_2_0), BoxAt.cell hb0_0, BoxAt.cell hb0_1, BoxAt.cell hb0_2, wrap_id, bC0]
  refine hK _ _ ?_
  clear hK K
  refine den_cond rfl (fun c1 => ?_) (fun c1 => ?_)
  ·try simp only [decide_eq_true_eq, decide_eq_false_iff_not, beq_iff_eq, beq_eq_false_iff_ne, bne_iff_ne, ne_eq, Bool.not_eq_true', Bool.not_eq_false', Bool.and_eq_true, Bool.or_eq_true, bne_eq_false_iff_eq] at c1
   refine den_seq ?_
   refine den_region TTok ?_
   intro K hK
   simp -implicitDefEqProofs (disch := first | decide | assumption | omega) only [go_sem, RdS.len hdX sl22, RdS.idx hdX sl22, R1.intB hdX (Ext.pres eB), RdS.cells hdX, RdS.len hmX sl23, RdS.idx hmX sl23, RdS.cellB hmX (Ext.pres eB), RdS.cells hmX, RdS.len hdY sl22, RdS.idx hdY sl22, R1.intB hdY (Ext.pres eB), RdS.cells hdY, RdS.len hmY sl23, RdS.idx hmY sl23, RdS.cellB hmY (Ext.pres eB), RdS.cells hmY, BoxAt.cell hb0_2, wrap_id, bC0]
   refine op_storeB (cs' := #[.int .i64 ((0 : Int)), .slice none 0 0, .slice none 0 0]) st30 hb0_2 rfl rfl rfl (by simp) (allOne_mem (l := [.int .i64 ((0 : Int)), .slice none 0 0, .slice none 0 0]) ⟨rfl, rfl, rfl, trivial⟩) rfl ?_
   intro h5_1 hb0_2 c5_1
   have := c5_1.size
   replace eB := Ext.then eB c5_1 (ge_of hfhb0_2 (by omega))
   try simp -implicitDefEqProofs (disch := first | decide | assumption | omega) only [go_sem, RdS.len hdX sl22, RdS.idx hdX sl22, R1.intB hdX (Ext.pres eB), RdS.cells hdX, RdS.len hmX sl23, RdS.idx hmX sl23, RdS.cellB hmX (Ext.pres eB), RdS.cells hmX, RdS.len hdY sl22, RdS.idx hdY sl22, R1.intB hdY (Ext.pres eB), RdS.cells hdY, RdS.len hmY sl23, RdS.idx hmY sl23, RdS.cellB hmY (Ext.pres eB), RdS.cells hmY, BoxAt.cell hb0_2, wrap_id, bC0]
   refine hK _ _ ?_
   clear hK K
   refine den_ret ?_
   simp -implicitDefEqProofs (disch := first | decide | assumption | omega) only [go_sem, RdS.len hdX sl22, RdS.idx hdX sl22, R1.intB hdX (Ext.pres eB), RdS.cells hdX, RdS.len hmX sl23, RdS.idx hmX sl23, RdS.cellB hmX (Ext.pres eB), RdS.cells hmX, RdS.len hdY sl22, RdS.idx hdY sl22, R1.intB hdY (Ext.pres eB), RdS.cells hdY, RdS.len hmY sl23, RdS.idx hmY sl23, RdS.cellB hmY (Ext.pres eB), RdS.cells hmY, BoxAt.cell hb0_2, wrap_id, bC0, resP_ct, ld30]
   have hz : tcP X Y = (⟨0, [], []⟩, 3) := by rw [tcP, if_pos c0, teP, if_neg (by simpa using c1)]
   rw [hz]
   exact ⟨.slice none 0 0, .slice none 0 0, [], [], rfl, OS.nil, OS.nil, Fresh.nil _, eB⟩
  ·try simp only [decide_eq_true_eq, decide_eq_false_iff_not, beq_iff_eq, beq_eq_false_iff_ne, bne_iff_ne, ne_eq, Bool.not_eq_true', Bool.not_eq_false', Bool.and_eq_true, Bool.or_eq_true, bne_eq_false_iff_eq] at c1
   refine den_skip ?_
   refine den_seq ?_
   refine den_region TTok ?_
   intro K hK
   simp -implicitDefEqProofs (disch := first | decide | assumption | omega) only [go_sem, ld30, RdS.len hdX sl22, RdS.idx hdX sl22, R1.intB hdX (Ext.pres eB), RdS.cells hdX, RdS.len hmX sl23, RdS.idx hmX sl23, RdS.cellB hmX (Ext.pres eB), RdS.cells hmX, RdS.len hdY sl22, RdS.idx hdY sl22, R1.intB hdY (Ext.pres eB), RdS.cells hdY, RdS.len hmY sl23, RdS.idx hmY sl23, RdS.cellB hmY (Ext.pres eB), RdS.cells hmY, BoxAt.cell hb0_0, BoxAt.cell hb0_1, BoxAt.cell hb0_2, wrap_id, bC0]
   try simp -implicitDefEqProofs (disch := first | decide | assumption | omega) only [go_sem, RdS.len hdX sl22, RdS.idx hdX sl22, R1.intB hdX (Ext.pres eB), RdS.cells hdX, RdS.len hmX sl23, RdS.idx hmX sl23, RdS.cellB hmX (Ext.pres eB), RdS.cells hmX, RdS.len hdY sl22, RdS.idx hdY sl22, R1.intB hdY (Ext.pres eB), RdS.cells hdY, RdS.len hmY sl23, RdS.idx hmY sl23, RdS.cellB hmY (Ext.pres eB), RdS.cells hmY, BoxAt.cell hb0_0, BoxAt.cell hb0_1, BoxAt.cell hb0_2, wrap_id, bC0]
   refine CallA.mono (sTns_ok _ _ X Y _ ⟨_, _, rfl, (RdS.pres hdX (Ext.pres eB)), (RdS.pres hmX (Ext.pres eB))⟩ ⟨_, _, rfl, (RdS.pres hdY (Ext.pres eB)), (RdS.pres hmY (Ext.pres eB))⟩ hX hY (by first | exact hpp | omega)) ?_
   intro v_ h6_2
   rintro ⟨vd6_2_0, vm6_2_0, fd6_2_0, fm6_2_0, rfl, hod6_2_0, hom6_2_0, hf6_2_0, e6_2⟩
   replace hb0_0 := BoxAt.ext hb0_0 e6_2
   replace hb0_1 := BoxAt.ext hb0_1 e6_2
   replace hb0_2 := BoxAt.ext hb0_2 e6_2
   have := Ext.size e6_2
   replace eB := Ext.trans eB e6_2
   have hfd6_2_0 := hf6_2_0.left
   have hfm6_2_0 := hf6_2_0.right
   have hlhod6_2_0 := OS.lt hod6_2_0
   have hlhom6_2_0 := OS.lt hom6_2_0
   have ap1 : Apart fd6_2_0 fm6_2_0 := apart_nodup hf6_2_0
   try simp -implicitDefEqProofs (disch := first | decide | assumption | omega) only [go_sem, RdS.len hdX sl22, RdS.idx hdX sl22, R1.intB hdX (Ext.pres eB), RdS.cells hdX, RdS.len hmX sl23, RdS.idx hmX sl23, RdS.cellB hmX (Ext.pres eB), RdS.cells hmX, RdS.len hdY sl22, RdS.idx hdY sl22, R1.intB hdY (Ext.pres eB), RdS.cells hdY, RdS.len hmY sl23, RdS.idx hmY sl23, RdS.cellB hmY (Ext.pres eB), RdS.cells hmY, RdS.len (OS.rd hod6_2_0) sl22, RdS.idx (OS.rd hod6_2_0) sl22, R1.intN (OS.rd hod6_2_0), RdS.cells (OS.rd hod6_2_0), RdS.len (OS.rd hom6_2_0) sl23, RdS.idx (OS.rd hom6_2_0) sl23, RdS.cellN (OS.rd hom6_2_0), RdS.cells (OS.rd hom6_2_0), BoxAt.cell hb0_0, BoxAt.cell hb0_1, BoxAt.cell hb0_2, wrap_id, bC0]
   refine op_storeB (cs' := #[.int .i64 (((⟨X.p, tdP X Y, tT X Y⟩ : Cx).p)), vd6_2_0, vm6_2_0]) st30 hb0_2 rfl rfl rfl (by simp) (allOne_mem (l := [.int .i64 (((⟨X.p, tdP X Y, tT X Y⟩ : Cx).p)), vd6_2_0, vm6_2_0]) ⟨rfl, (OS.one hod6_2_0).1, (OS.one hom6_2_0).1, trivial⟩) rfl ?_
   intro h6_3 hb0_2 c6_3
   replace hod6_2_0 := OS.chg hod6_2_0 c6_3 (apart_gt hfd6_2_0 hlhb0_2 (by omega))
   replace hom6_2_0 := OS.chg hom6_2_0 c6_3 (apart_gt hfm6_2_0 hlhb0_2 (by omega))
   replace hb0_0 := BoxAt.chgA hb0_0 c6_3 (apart_lt hlhb0_0 hfhb0_2 (by omega))
   replace hb0_1 := BoxAt.chgA hb0_1 c6_3 (apart_lt hlhb0_1 hfhb0_2 (by omega))
   have := c6_3.size
   replace eB := Ext.then eB c6_3 (ge_of hfhb0_2 (by omega))
   try simp -implicitDefEqProofs (disch := first | decide | assumption | omega) only [go_sem, RdS.len hdX sl22, RdS.idx hdX sl22, R1.intB hdX (Ext.pres eB), RdS.cells hdX, RdS.len hmX sl23, RdS.idx hmX sl23, RdS.cellB hmX (Ext.pres eB), RdS.cells hmX, RdS.len hdY sl22, RdS.idx hdY sl22, R1.intB hdY (Ext.pres eB), RdS.cells hdY, RdS.len hmY sl23, RdS.idx hmY sl23, RdS.cellB hmY (Ext.pres eB), RdS.cells hmY, RdS.len (OS.rd hod6_2_0) sl22, RdS.idx (OS.rd hod6_2_0) sl22, R1.intN (OS.rd hod6_2_0), RdS.cells (OS.rd hod6_2_0), RdS.len (OS.rd hom6_2_0) sl23, RdS.idx (OS.rd hom6_2_0) sl23, RdS.cellN (OS.rd hom6_2_0), RdS.cells (OS.rd hom6_2_0), BoxAt.cell hb0_0, BoxAt.cell hb0_1, BoxAt.cell hb0_2, wrap_id, bC0]
   refine hK _ _ ?_
   clear hK K
   refine den_ret ?_
   simp -implicitDefEqProofs (disch := first | decide | assumption | omega) only [go_sem, RdS.len hdX sl22, RdS.idx hdX sl22, R1.intB hdX (Ext.pres eB), RdS.cells hdX, RdS.len hmX sl23, RdS.idx hmX sl23, RdS.cellB hmX (Ext.pres eB), RdS.cells hmX, RdS.len hdY sl22, RdS.idx hdY sl22, R1.intB hdY (Ext.pres eB), RdS.cells hdY, RdS.len hmY sl23, RdS.idx hmY sl23, RdS.cellB hmY (Ext.pres eB), RdS.cells hmY, RdS.len (OS.rd hod6_2_0) sl22, RdS.idx (OS.rd hod6_2_0) sl22, R1.intN (OS.rd hod6_2_0), RdS.cells (OS.rd hod6_2_0), RdS.len (OS.rd hom6_2_0) sl23, RdS.idx (OS.rd hom6_2_0) sl23, RdS.cellN (OS.rd hom6_2_0), RdS.cells (OS.rd hom6_2_0), BoxAt.cell hb0_0, BoxAt.cell hb0_1, BoxAt.cell hb0_2, wrap_id, bC0, resP_ct, ld30]
   have hz : tcP X Y = (⟨X.p, tdP X Y, tT X Y⟩, 0) := by rw [tcP, if_pos c0, teP, if_pos (by simpa using c1)]
   rw [hz]
   exact ⟨_, _, _, _, rfl, hod6_2_0, hom6_2_0, hf6_2_0.mono (by omega), eB⟩

set_option maxRecDepth 100000 in
theorem iTC_ok (vX vY : Value) (X : Cx) (Y : Cx) (h : Heap) (rX : RC h vX X) (rY : RC h vY Y)  : CallA Try.prog 44 #[vX, vY] h fun v' h' => ∃ wd0 wm0 fd0 fm0, v' = .tuple #[.agg #[.int .i64 ((tcP X Y).1).p, wd0, wm0], .int .i64 ((tcP X Y).2)] ∧ O1 h' wd0 ((tcP X Y).1).dims fd0 ∧ O3 h' wm0 ((tcP X Y).1).maps fm0 ∧ Fresh h.size (fd0 ++ fm0) ∧ Ext h h' := by
 obtain ⟨vdX, vmX, rfl, hdX, hmX⟩ := rX
 have hledX := RdS.le hdX
 have hlemX := RdS.le hmX
 obtain ⟨vdY, vmY, rfl, hdY, hmY⟩ := rY
 have hledY := RdS.le hdY
 have hlemY := RdS.le hmY
 refine callA_intro TTok (args := [_, _]) Try.func44 (by kernel_rfl) rfl 20 rfl (by simp) [.cell 4 30, .tmp 5] rfl ?_
 simp only [idxs, Nat.reduceAdd]
 refine den_seq ?_
 refine den_region TTok ?_
 intro K hK
 simp -implicitDefEqProofs (disch := first | decide | assumption | omega) only [go_sem, RdS.len hdX sl22, RdS.idx hdX sl22, R1.intB hdX (HPres.refl _), RdS.cells hdX, RdS.len hmX sl23, RdS.idx hmX sl23, RdS.cellB hmX (HPres.refl _), RdS.cells hmX, RdS.len hdY sl22, RdS.idx hdY sl22, R1.intB hdY (HPres.refl _), RdS.cells hdY, RdS.len hmY sl23, RdS.idx hmY sl23, RdS.cellB hmY (HPres.refl _), RdS.cells hmY, wrap_id, bC0]
 refine op_box (cs := #[.int .i64 (X.p), vdX, vmX]) rfl ?_
 intro h0_0 e0_0 hb0_0 z0_0
 have := Ext.size e0_0
 have eB := e0_0
 have hfhb0_0 : Fresh h.size [h.size] := Fresh.one _
 have hlhb0_0 := one_lt (show h.size < h0_0.size by omega)
 try simp -implicitDefEqProofs (disch := first | decide | assumption | omega) only [go_sem, RdS.len hdX sl22, RdS.idx hdX sl22, R1.intB hdX (Ext.pres eB), RdS.cells hdX, RdS.len hmX sl23, RdS.idx hmX sl23, RdS.cellB hmX (Ext.pres eB), RdS.cells hmX, RdS.len hdY sl22, RdS.idx hdY sl22, R1.intB hdY (Ext.pres eB), RdS.cells hdY, RdS.len hmY sl23, RdS.idx hmY sl23, RdS.cellB hmY (Ext.pres eB), RdS.cells hmY, BoxAt.cell hb0_0, wrap_id, bC0]
 refine op_box (cs := #[.int .i64 (Y.p), vdY, vmY]) rfl ?_
 intro h0_1 e0_1 hb0_1 z0_1
 replace hb0_0 := BoxAt.ext hb0_0 e0_1
 have := Ext.size e0_1
 replace eB := Ext.trans eB e0_1
 have hfhb0_1 : Fresh h0_0.size [h0_0.size] := Fresh.one _
 have hlhb0_1 := one_lt (show h0_0.size < h0_1.size by omega)
 try simp -implicitDefEqProofs (disch := first | decide | assumption | omega) only [go_sem, RdS.len hdX sl22, RdS.idx hdX sl22, R1.intB hdX (Ext.pres eB), RdS.cells hdX, RdS.len hmX sl23, RdS.idx hmX sl23, RdS.cellB hmX (Ext.pres eB), RdS.cells hmX, RdS.len hdY sl22, RdS.idx hdY sl22, R1.intB hdY (Ext.pres eB), RdS.cells hdY, RdS.len hmY sl23, RdS.idx hmY sl23, RdS.cellB hmY (Ext.pres eB), RdS.cells hmY, BoxAt.cell hb0_0, BoxAt.cell hb0_1, wrap_id, bC0]
 refine op_alloc (cs := #[.int .i64 0, .slice none 0 0, .slice none 0 0]) (by kernel_rfl) ?_
 intro h0_2 e0_2 hb0_2 z0_2
 replace hb0_0 := BoxAt.ext hb0_0 e0_2
 replace hb0_1 := BoxAt.ext hb0_1 e0_2
 have := Ext.size e0_2
 replace eB := Ext.trans eB e0_2
 have hfhb0_2 : Fresh h0_1.size [h0_1.size] := Fresh.one _
 have hlhb0_2 := one_lt (show h0_1.size < h0_2.size by omega)
 try simp -implicitDefEqProofs (disch := first | decide | assumption | omega) only [go_sem, RdS.len hdX sl22, RdS.idx hdX sl22, R1.intB hdX (Ext.pres eB), RdS.cells hdX, RdS.len hmX sl23, RdS.idx hmX sl23, RdS.cellB hmX (Ext.pres eB), RdS.cells hmX, RdS.len hdY sl22, RdS.idx hdY sl22, R1.intB hdY (Ext.pres eB), RdS.cells hdY, RdS.len hmY sl23, RdS.idx hmY sl23, RdS.cellB hmY (Ext.pres eB), RdS.cells hmY, BoxAt.cell hb0_0, BoxAt.cell hb0_1, BoxAt.cell hb0_2, wrap_id, bC0]
 refine hK _ _ ?_
 clear hK K
 refine den_seq ?_
 refine den_seq ?_
 refine den_region TTok ?_
 intro K hK
 simp -implicitDefEqProofs (disch := first | decide | assumption | omega) only [go_sem, ld30, RdS.len hdX sl22, RdS.idx hdX sl22, R1.intB hdX (Ext.pres eB), RdS.cells hdX, RdS.len hmX sl23, RdS.idx hmX sl23, RdS.cellB hmX (Ext.pres eB), RdS.cells hmX, RdS.len hdY sl22, RdS.idx hdY sl22, R1.intB hdY (Ext.pres eB), RdS.cells hdY, RdS.len hmY sl23, RdS.idx hmY sl23, RdS.cellB hmY (Ext.pres eB), RdS.cells hmY, BoxAt.cell hb0_0, BoxAt.cell hb0_1, BoxAt.cell hb0_2, wrap_id, bC0]
 refine op_bs2C (X := X) (Y := Y) ⟨_, _, rfl, (RdS.pres hdX (Ext.pres eB)), (RdS.pres hmX (Ext.pres eB))⟩ ⟨_, _, rfl, (RdS.pres hdY (Ext.pres eB)), (RdS.pres hmY (Ext.pres eB))⟩ ?_
 intro v1_2 h1_2 ho1_2 e1_2
 replace hb0_0 := BoxAt.ext hb0_0 e1_2
 replace hb0_1 := BoxAt.ext hb0_1 e1_2
 replace hb0_2 := BoxAt.ext hb0_2 e1_2
 have := Ext.size e1_2
 replace eB := Ext.trans eB e1_2
 try simp -implicitDefEqProofs (disch := first | decide | assumption | omega) only [go_sem, RdS.len hdX sl22, RdS.idx hdX sl22, R1.intB hdX (Ext.pres eB), RdS.cells hdX, RdS.len hmX sl23, RdS.idx hmX sl23, RdS.cellB hmX (Ext.pres eB), RdS.cells hmX, RdS.len hdY sl22, RdS.idx hdY sl22, R1.intB hdY (Ext.pres eB), RdS.cells hdY, RdS.len hmY sl23, RdS.idx hmY sl23, RdS.cellB hmY (Ext.pres eB), RdS.cells hmY, BoxAt.cell hb0_0, BoxAt.cell hb0_1, BoxAt.cell hb0_2, wrap_id, bC0]
 try simp -implicitDefEqProofs (disch := first | decide | assumption | omega) only [go_sem, RdS.len hdX sl22, RdS.idx hdX sl22, R1.intB hdX (Ext.pres eB), RdS.cells hdX, RdS.len hmX sl23, RdS.idx hmX sl23, RdS.cellB hmX (Ext.pres eB), RdS.cells hmX, RdS.len hdY sl22, RdS.idx hdY sl22, R1.intB hdY (Ext.pres eB), RdS.cells hdY, RdS.len hmY sl23, RdS.idx hmY sl23, RdS.cellB hmY (Ext.pres eB), RdS.cells hmY, BoxAt.cell hb0_0, BoxAt.cell hb0_1, BoxAt.cell hb0_2, wrap_id, bC0]
 refine CallA.mono (same2_ok _ _ _ _ ho1_2) ?_
 intro v_ h1_3
 rintro ⟨rfl, e1_3⟩
 replace hb0_0 := BoxAt.ext hb0_0 e1_3
 replace hb0_1 := BoxAt.ext hb0_1 e1_3
 replace hb0_2 := BoxAt.ext hb0_2 e1_3
 replace ho1_2 := RdA.pres ho1_2 (Ext.pres e1_3)
 have := Ext.size e1_3
 replace eB := Ext.trans eB e1_3
 try simp -implicitDefEqProofs (disch := first | decide | assumption | omega) only [go_sem, RdS.len hdX sl22, RdS.idx hdX sl22, R1.intB hdX (Ext.pres eB), RdS.cells hdX, RdS.len hmX sl23, RdS.idx hmX sl23, RdS.cellB hmX (Ext.pres eB), RdS.cells hmX, RdS.len hdY sl22, RdS.idx hdY sl22, R1.intB hdY (Ext.pres eB), RdS.cells hdY, RdS.len hmY sl23, RdS.idx hmY sl23, RdS.cellB hmY (Ext.pres eB), RdS.cells hmY, BoxAt.cell hb0_0, BoxAt.cell hb0_1, BoxAt.cell hb0_2, wrap_id, bC0]
 refine hK _ _ ?_
 clear hK K
 refine den_seq ?_
 refine den_region TTok ?_
 intro K hK
 simp -implicitDefEqProofs (disch := first | decide | assumption | omega) only [go_sem, RdS.len hdX sl22, RdS.idx hdX sl22, R1.intB hdX (Ext.pres eB), RdS.cells hdX, RdS.len hmX sl23, RdS.idx hmX sl23, RdS.cellB hmX (Ext.pres eB), RdS.cells hmX, RdS.len hdY sl22, RdS.idx hdY sl22, R1.intB hdY (Ext.pres eB), RdS.cells hdY, RdS.len hmY sl23, RdS.idx hmY sl23, RdS.cellB hmY (Ext.pres eB), RdS.cells hmY, BoxAt.cell hb0_0, BoxAt.cell hb0_1, BoxAt.cell hb0_2, wrap_id, bC0]
 refine hK _ _ ?_
 clear hK K
 refine den_cond rfl (fun c0 => ?_) (fun c0 => ?_)
 ·try simp only [decide_eq_true_eq, decide_eq_false_iff_not, beq_iff_eq, beq_eq_false_iff_ne, bne_iff_ne, ne_eq, Bool.not_eq_true', Bool.not_eq_false', Bool.and_eq_true, Bool.or_eq_true, bne_eq_false_iff_eq] at c0
  refine den_seq ?_
  refine den_region TTok ?_
  intro K hK
  simp -implicitDefEqProofs (disch := first | decide | assumption | omega) only [go_sem, RdS.len hdX sl22, RdS.idx hdX sl22, R1.intB hdX (Ext.pres eB), RdS.cells hdX, RdS.len hmX sl23, RdS.idx hmX sl23, RdS.cellB hmX (Ext.pres eB), RdS.cells hmX, RdS.len hdY sl22, RdS.idx hdY sl22, R1.intB hdY (Ext.pres eB), RdS.cells hdY, RdS.len hmY sl23, RdS.idx hmY sl23, RdS.cellB hmY (Ext.pres eB), RdS.cells hmY, BoxAt.cell hb0_2, wrap_id, bC0]
  refine op_storeB (cs' := #[.int .i64 ((0 : Int)), .slice none 0 0, .slice none 0 0]) st30 hb0_2 rfl rfl rfl (by simp) (allOne_mem (l := [.int .i64 ((0 : Int)), .slice none 0 0, .slice none 0 0]) ⟨rfl, rfl, rfl, trivial⟩) rfl ?_
  intro h3_2 hb0_2 c3_2
  have := c3_2.size
  replace eB := Ext.then eB c3_2 (ge_of hfhb0_2 (by omega))
  try simp -implicitDefEqProofs (disch := first | decide | assumption | omega) only [go_sem, RdS.len hdX sl22, RdS.idx hdX sl22, R1.intB hdX (Ext.pres eB), RdS.cells hdX, RdS.len hmX sl23, RdS.idx hmX sl23, RdS.cellB hmX (Ext.pres eB), RdS.cells hmX, RdS.len hdY sl22, RdS.idx hdY sl22, R1.intB hdY (Ext.pres eB), RdS.cells hdY, RdS.len hmY sl23, RdS.idx hmY sl23, RdS.cellB hmY (Ext.pres eB), RdS.cells hmY, BoxAt.cell hb0_2, wrap_id, bC0]
  refine hK _ _ ?_
  clear hK K
  refine den_ret ?_
  simp -implicitDefEqProofs (disch := first | decide | assumption | omega) only [go_sem, RdS.len hdX sl22, RdS.idx hdX sl22, R1.intB hdX (Ext.pres eB), RdS.cells hdX, RdS.len hmX sl23, RdS.idx hmX sl23, RdS.cellB hmX (Ext.pres eB), RdS.cells hmX, RdS.len hdY sl22, RdS.idx hdY sl22, R1.intB hdY (Ext.pres eB), RdS.cells hdY, RdS.len hmY sl23, RdS.idx hmY sl23, RdS.cellB hmY (Ext.pres eB), RdS.cells hmY, BoxAt.cell hb0_2, wrap_id, bC0, resP_ct, ld30]
  have hz : tcP X Y = (⟨0, [], []⟩, twoP X Y) := by rw [tcP, if_neg c0]
  rw [hz]
  exact ⟨.slice none 0 0, .slice none 0 0, [], [], rfl, OS.nil, OS.nil, Fresh.nil _, eB⟩
 ·try simp only [decide_eq_true_eq, decide_eq_false_iff_not, beq_iff_eq, beq_eq_false_iff_ne, bne_iff_ne, ne_eq, Bool.not_eq_true', Bool.not_eq_false', Bool.and_eq_true, Bool.or_eq_true, bne_eq_false_iff_eq] at c0
  have hXY := twoP_0 c0
  obtain ⟨hX, hY, hpp⟩ := hXY
  have htl := tdP_len X Y
  have hlX := hX.len
  have hlY := hY.len
  refine den_skip ?_
  refine den_seq ?_
  refine den_region TTok ?_
  intro K hK
  simp -implicitDefEqProofs (disch := first | decide | assumption | omega) only [go_sem, ld30, RdS.len hdX sl22, RdS.idx hdX sl22, R1.intB hdX (Ext.pres eB), RdS.cells hdX, RdS.len hmX sl23, RdS.idx hmX sl23, RdS.cellB hmX (Ext.pres eB), RdS.cells hmX, RdS.len hdY sl22, RdS.idx hdY sl22, R1.intB hdY (Ext.pres eB), RdS.cells hdY, RdS.len hmY sl23, RdS.idx hmY sl23, RdS.cellB hmY (Ext.pres eB), RdS.cells hmY, BoxAt.cell hb0_0, BoxAt.cell hb0_1, BoxAt.cell hb0_2, wrap_id, bC0]
  try simp -implicitDefEqProofs (disch := first | decide | assumption | omega) only [go_sem, RdS.len hdX sl22, RdS.idx hdX sl22, R1.intB hdX (Ext.pres eB), RdS.cells hdX, RdS.len hmX sl23, RdS.idx hmX sl23, RdS.cellB hmX (Ext.pres eB), RdS.cells hmX, RdS.len hdY sl22, RdS.idx hdY sl22, R1.intB hdY (Ext.pres eB), RdS.cells hdY, RdS.len hmY sl23, RdS.idx hmY sl23, RdS.cellB hmY (Ext.pres eB), RdS.cells hmY, BoxAt.cell hb0_0, BoxAt.cell hb0_1, BoxAt.cell hb0_2, wrap_id, bC0]
  refine CallA.mono (iTns_ok _ _ X Y _ ⟨_, _, rfl, (RdS.pres hdX (Ext.pres eB)), (RdS.pres hmX (Ext.pres eB))⟩ ⟨_, _, rfl, (RdS.pres hdY (Ext.pres eB)), (RdS.pres hmY (Ext.pres eB))⟩ hX hY (by first | exact hpp | omega)) ?_
  intro v_ h4_2
  rintro ⟨vd4_2_0, vm4_2_0, fd4_2_0, fm4_2_0, rfl, hod4_2_0, hom4_2_0, hf4_2_0, e4_2⟩
  replace hb0_0 := BoxAt.ext hb0_0 e4_2
  replace hb0_1 := BoxAt.ext hb0_1 e4_2
  replace hb0_2 := BoxAt.ext hb0_2 e4_2
  replace ho1_2 := RdA.pres ho1_2 (Ext.pres e4_2)
  have := Ext.size e4_2
  replace eB := Ext.trans eB e4_2
  have hfd4_2_0 := hf4_2_0.left
  have hfm4_2_0 := hf4_2_0.right
  have hlhod4_2_0 := OS.lt hod4_2_0
  have hlhom4_2_0 := OS.lt hom4_2_0
  have ap1 : Apart fd4_2_0 fm4_2_0 := apart_nodup hf4_2_0
  try simp -implicitDefEqProofs (disch := first | decide | assumption | omega) only [go_sem, RdS.len hdX sl22, RdS.idx hdX sl22, R1.intB hdX (Ext.pres eB), RdS.cells hdX, RdS.len hmX sl23, RdS.idx hmX sl23, RdS.cellB hmX (Ext.pres eB), RdS.cells hmX, RdS.len hdY sl22, RdS.idx hdY sl22, R1.intB hdY (Ext.pres eB), RdS.cells hdY, RdS.len hmY sl23, RdS.idx hmY sl23, RdS.cellB hmY (Ext.pres eB), RdS.cells hmY, RdS.len (OS.rd hod4_2_0) sl22, RdS.idx (OS.rd hod4_2_0) sl22, R1.intN (OS.rd hod4_2_0), RdS.cells (OS.rd hod4_2_0), RdS.len (OS.rd hom4_2_0) sl23, RdS.idx (OS.rd hom4_2_0) sl23, RdS.cellN (OS.rd hom4_2_0), RdS.cells (OS.rd hom4_2_0), BoxAt.cell hb0_0, BoxAt.cell hb0_1, BoxAt.cell hb0_2, wrap_id, bC0]
  refine op_storeB (cs' := #[.int .i64 ((((teP X Y).1).p)), vd4_2_0, vm4_2_0]) st30 hb0_2 rfl rfl rfl (by simp) (allOne_mem (l := [.int .i64 ((((teP X Y).1).p)), vd4_2_0, vm4_2_0]) ⟨rfl, (OS.one hod4_2_0).1, (OS.one hom4_2_0).1, trivial⟩) rfl ?_
  intro h4_5 hb0_2 c4_5
  replace hod4_2_0 := OS.chg hod4_2_0 c4_5 (apart_gt hfd4_2_0 hlhb0_2 (by omega))
  replace hom4_2_0 := OS.chg hom4_2_0 c4_5 (apart_gt hfm4_2_0 hlhb0_2 (by omega))
  replace hb0_0 := BoxAt.chgA hb0_0 c4_5 (apart_lt hlhb0_0 hfhb0_2 (by omega))
  replace hb0_1 := BoxAt.chgA hb0_1 c4_5 (apart_lt hlhb0_1 hfhb0_2 (by omega))
  have := c4_5.size
  replace eB := Ext.then eB c4_5 (ge_of hfhb0_2 (by omega))
  try simp -implicitDefEqProofs (disch := first | decide | assumption | omega) only [go_sem, RdS.len hdX sl22, RdS.idx hdX sl22, R1.intB hdX (Ext.pres eB), RdS.cells hdX, RdS.len hmX sl23, RdS.idx hmX sl23, RdS.cellB hmX (Ext.pres eB), RdS.cells hmX, RdS.len hdY sl22, RdS.idx hdY sl22, R1.intB hdY (Ext.pres eB), RdS.cells hdY, RdS.len hmY sl23, RdS.idx hmY sl23, RdS.cellB hmY (Ext.pres eB), RdS.cells hmY, RdS.len (OS.rd hod4_2_0) sl22, RdS.idx (OS.rd hod4_2_0) sl22, R1.intN (OS.rd hod4_2_0), RdS.cells (OS.rd hod4_2_0), RdS.len (OS.rd hom4_2_0) sl23, RdS.idx (OS.rd hom4_2_0) sl23, RdS.cellN (OS.rd hom4_2_0), RdS.cells (OS.rd hom4_2_0), BoxAt.cell hb0_0, BoxAt.cell hb0_1, BoxAt.cell hb0_2, wrap_id, bC0]
  refine hK _ _ ?_
  clear hK K
  refine den_ret ?_
  simp -implicitDefEqProofs (disch := first | decide | assumption | omega) only [go_sem, RdS.len hdX sl22, RdS.idx hdX sl22, R1.intB hdX (Ext.pres eB), RdS.cells hdX, RdS.len hmX sl23, RdS.idx hmX sl23, RdS.cellB hmX (Ext.pres eB), RdS.cells hmX, RdS.len hdY sl22, RdS.idx hdY sl22, R1.intB hdY (Ext.pres eB), RdS.cells hdY, RdS.len hmY sl23, RdS.idx hmY sl23, RdS.cellB hmY (Ext.pres eB), RdS.cells hmY, RdS.len (OS.rd hod4_2_0) sl22, RdS.idx (OS.rd hod4_2_0) sl22, R1.intN (OS.rd hod4_2_0), RdS.cells (OS.rd hod4_2_0), RdS.len (OS.rd hom4_2_0) sl23, RdS.idx (OS.rd hom4_2_0) sl23, RdS.cellN (OS.rd hom4_2_0), RdS.cells (OS.rd hom4_2_0), BoxAt.cell hb0_0, BoxAt.cell hb0_1, BoxAt.cell hb0_2, wrap_id, bC0, resP_ct, ld30]
  have hz : tcP X Y = teP X Y := by rw [tcP, if_pos c0]
  rw [hz]
  exact ⟨_, _, _, _, rfl, hod4_2_0, hom4_2_0, hf4_2_0.mono (by omega), eB⟩
end Go.Proofs.Ytffggocjkhcgeaa
