/-
  What the statement FnExactPowerComplex uses of the walks, part 4.
  Conditions: each theorem's own.
-/
import Derived.Test.YtffggocjkhcgeaaG16
import Derived.Test.YtffggocjkhcgeaaG17
import Derived.Test.YtffggocjkhcgeaaG14
import Derived.Test.YtffggocjkhcgeaaG13
import Derived.Test.YtffggocjkhcgeaaG15
import Derived.Test.YtffggocjkhcgeaaG18
import Derived.Test.YtffggocjkhcgeaaG21
import Derived.Test.YtffggocjkhcgeaaZPowerComplex1
import Derived.Test.YtffggocjkhcgeaaZPowerComplex2
import Derived.Test.YtffggocjkhcgeaaZPowerComplex3
set_option linter.unusedVariables false
set_option linter.unusedSimpArgs false
namespace Go.Proofs.Ytffggocjkhcgeaa
open Go
open Go
set_option maxRecDepth 100000 in
set_option maxHeartbeats 4000000 in
theorem sTns_okT (vX vY : Value) (X : Cx) (Y : Cx) (h : Heap) (rX : RC h vX X) (rY : RC h vY Y) (hX : IsT X) (hY : IsT Y) (hpp : X.p = Y.p) : CallA Try.prog 108 #[vX, vY] h fun v' h' => ∃ wd0 wm0 fd0 fm0, v' = .agg #[.int .i64 ((⟨X.p, tdP X Y, tT X Y⟩ : Cx)).p, wd0, wm0] ∧ O1 h' wd0 ((⟨X.p, tdP X Y, tT X Y⟩ : Cx)).dims fd0 ∧ O3 h' wm0 ((⟨X.p, tdP X Y, tT X Y⟩ : Cx)).maps fm0 ∧ Fresh h.size (fd0 ++ fm0) ∧ Ext h h' := by
 obtain ⟨vdX, vmX, rfl, hdX, hmX⟩ := rX
 have hledX := RdS.le hdX
 have hlemX := RdS.le hmX
 obtain ⟨vdY, vmY, rfl, hdY, hmY⟩ := rY
 have hledY := RdS.le hdY
 have hlemY := RdS.le hmY
 have hlX := hX.len
 have hlY := hY.len
 have hpb := isP_bnd hX.p
 have htl := tdP_len X Y
 have hTs := tT_shT hX hY
 have hTl := hTs.len
 refine callA_intro TTok (args := [_, _]) Try.func108 (by kernel_rfl) rfl 72 rfl (by simp) [.cell 4 30] rfl ?_
 simp only [idxs, Nat.reduceAdd]
 refine den_seq ?_
 refine den_region TTok ?_
 intro K hK
 simp -implicitDefEqProofs (disch := first | decide | assumption | omega) only [go_sem, RdS.len hdX sl22, RdS.idx hdX sl22, R1.intB hdX (HPres.refl _), RdS.cells hdX, RdS.len hmX sl23, RdS.idx hmX sl23, RdS.cellB hmX (HPres.refl _), RdS.cells hmX, RdS.len hdY sl22, RdS.idx hdY sl22, R1.intB hdY (HPres.refl _), RdS.cells hdY, RdS.len hmY sl23, RdS.idx hmY sl23, RdS.cellB hmY (HPres.refl _), RdS.cells hmY, wrap_id]
 refine op_box (cs := #[.int .i64 (X.p), vdX, vmX]) rfl ?_
 intro h0_0 e0_0 hb0_0 z0_0
 have := Ext.size e0_0
 have eB := e0_0
 have hfhb0_0 : Fresh h.size [h.size] := Fresh.one _
 have hlhb0_0 := one_lt (show h.size < h0_0.size by omega)
 try simp -implicitDefEqProofs (disch := first | decide | assumption | omega) only [go_sem, RdS.len hdX sl22, RdS.idx hdX sl22, R1.intB hdX (Ext.pres eB), RdS.cells hdX, RdS.len hmX sl23, RdS.idx hmX sl23, RdS.cellB hmX (Ext.pres eB), RdS.cells hmX, RdS.len hdY sl22, RdS.idx hdY sl22, R1.intB hdY (Ext.pres eB), RdS.cells hdY, RdS.len hmY sl23, RdS.idx hmY sl23, RdS.cellB hmY (Ext.pres eB), RdS.cells hmY, BoxAt.cell hb0_0, wrap_id]
 refine op_box (cs := #[.int .i64 (Y.p), vdY, vmY]) rfl ?_
 intro h0_1 e0_1 hb0_1 z0_1
 replace hb0_0 := BoxAt.ext hb0_0 e0_1
 have := Ext.size e0_1
 replace eB := Ext.trans eB e0_1
 have hfhb0_1 : Fresh h0_0.size [h0_0.size] := Fresh.one _
 have hlhb0_1 := one_lt (show h0_0.size < h0_1.size by omega)
 try simp -implicitDefEqProofs (disch := first | decide | assumption | omega) only [go_sem, RdS.len hdX sl22, RdS.idx hdX sl22, R1.intB hdX (Ext.pres eB), RdS.cells hdX, RdS.len hmX sl23, RdS.idx hmX sl23, RdS.cellB hmX (Ext.pres eB), RdS.cells hmX, RdS.len hdY sl22, RdS.idx hdY sl22, R1.intB hdY (Ext.pres eB), RdS.cells hdY, RdS.len hmY sl23, RdS.idx hmY sl23, RdS.cellB hmY (Ext.pres eB), RdS.cells hmY, BoxAt.cell hb0_0, BoxAt.cell hb0_1, wrap_id]
 refine op_alloc (cs := #[.int .i64 0, .slice none 0 0, .slice none 0 0]) (by kernel_rfl) ?_
 intro h0_2 e0_2 hb0_2 z0_2
 replace hb0_0 := BoxAt.ext hb0_0 e0_2
 replace hb0_1 := BoxAt.ext hb0_1 e0_2
 have := Ext.size e0_2
 replace eB := Ext.trans eB e0_2
 have hfhb0_2 : Fresh h0_1.size [h0_1.size] := Fresh.one _
 have hlhb0_2 := one_lt (show h0_1.size < h0_2.size by omega)
 try simp -implicitDefEqProofs (disch := first | decide | assumption | omega) only [go_sem, RdS.len hdX sl22, RdS.idx hdX sl22, R1.intB hdX (Ext.pres eB), RdS.cells hdX, RdS.len hmX sl23, RdS.idx hmX sl23, RdS.cellB hmX (Ext.pres eB), RdS.cells hmX, RdS.len hdY sl22, RdS.idx hdY sl22, R1.intB hdY (Ext.pres eB), RdS.cells hdY, RdS.len hmY sl23, RdS.idx hmY sl23, RdS.cellB hmY (Ext.pres eB), RdS.cells hmY, BoxAt.cell hb0_0, BoxAt.cell hb0_1, BoxAt.cell hb0_2, wrap_id]
 refine hK _ _ ?_
 clear hK K
 refine den_seq ?_
 refine den_sel [2, 3, 4] ?_
 intro env_1
 simp only [go_sem]
 refine den_drawTJ (σ := Value × List Nat × Value × List Nat × Nat) TTok (fun st_ => [(5, .pointer (some ⟨st_.2.2.2.2, 0, none⟩))]) (fun st_ H => (O1 H st_.1 (tdP X Y) st_.2.1) ∧ (Fresh h0_2.size st_.2.1) ∧ (O3 H st_.2.2.1 ([]) st_.2.2.2.1) ∧ (Fresh h0_2.size st_.2.2.2.1) ∧ (BoxAt H st_.2.2.2.2 #[.int .i64 (X.p), st_.1, st_.2.2.1] 30) ∧ (Fresh h0_2.size [st_.2.2.2.2]) ∧ (Apart st_.2.1 st_.2.2.2.1) ∧ (Apart st_.2.1 [st_.2.2.2.2]) ∧ (Apart st_.2.2.2.1 [st_.2.2.2.2]) ∧ (Ext h0_2 H)) mixed [8] [(0, true), (1, true), (2, true), (3, true)] (.fork3 4 [] (.fork 5 [(6, true), (7, false), (8, false)] .fin 7 [(5, false), (6, true), (8, false)] .fin) 5 [] (.fork 4 [(6, true), (7, false), (8, false)] .fin 7 [(4, false), (6, true), (8, false)] .fin) 7 [] (.fork 4 [(5, false), (6, true), (8, false)] .fin 5 [(4, false), (6, true), (8, false)] .fin)) (by kernel_rfl) ?_ ?_
 ·intro K hK
  have cJ2 := Ext.refl h0_2
  simp -implicitDefEqProofs (disch := first | decide | assumption | omega) only [go_sem, fa30_0, ld2, ld30, RdS.len hdX sl22, RdS.idx hdX sl22, R1.intB hdX (Ext.pres eB), RdS.cells hdX, RdS.len hmX sl23, RdS.idx hmX sl23, RdS.cellB hmX (Ext.pres eB), RdS.cells hmX, RdS.len hdY sl22, RdS.idx hdY sl22, R1.intB hdY (Ext.pres eB), RdS.cells hdY, RdS.len hmY sl23, RdS.idx hmY sl23, RdS.cellB hmY (Ext.pres eB), RdS.cells hmY, BoxAt.cell hb0_0, BoxAt.cell hb0_1, BoxAt.cell hb0_2, wrap_id]
  refine And.intro ?_ (And.intro ?_ ?_)
  ·simp -implicitDefEqProofs (disch := first | decide | assumption | omega) only [go_sem, RdS.len hdX sl22, RdS.idx hdX sl22, R1.intB hdX (Ext.pres eB), RdS.cells hdX, RdS.len hmX sl23, RdS.idx hmX sl23, RdS.cellB hmX (Ext.pres eB), RdS.cells hmX, RdS.len hdY sl22, RdS.idx hdY sl22, R1.intB hdY (Ext.pres eB), RdS.cells hdY, RdS.len hmY sl23, RdS.idx hmY sl23, RdS.cellB hmY (Ext.pres eB), RdS.cells hmY, BoxAt.cell hb0_0, BoxAt.cell hb0_1, BoxAt.cell hb0_2, wrap_id]
   try simp -implicitDefEqProofs (disch := first | decide | assumption | omega) only [go_sem, RdS.len hdX sl22, RdS.idx hdX sl22, R1.intB hdX (Ext.pres eB), RdS.cells hdX, RdS.len hmX sl23, RdS.idx hmX sl23, RdS.cellB hmX (Ext.pres eB), RdS.cells hmX, RdS.len hdY sl22, RdS.idx hdY sl22, R1.intB hdY (Ext.pres eB), RdS.cells hdY, RdS.len hmY sl23, RdS.idx hmY sl23, RdS.cellB hmY (Ext.pres eB), RdS.cells hmY, BoxAt.cell hb0_0, BoxAt.cell hb0_1, BoxAt.cell hb0_2, wrap_id]
   refine CallA.mono (sDims_okT _ _ X Y _ ⟨_, _, rfl, (RdS.pres hdX (Ext.pres eB)), (RdS.pres hmX (Ext.pres eB))⟩ ⟨_, _, rfl, (RdS.pres hdY (Ext.pres eB)), (RdS.pres hmY (Ext.pres eB))⟩ (hX) (hY)) ?_
   intro vw1_4_0 h1_4
   rintro ⟨zvw1_4_0, fw1_4_0, rfl, how1_4_0, hfw1_4_0, e1_4⟩
   replace hb0_0 := BoxAt.ext hb0_0 e1_4
   replace hb0_1 := BoxAt.ext hb0_1 e1_4
   replace hb0_2 := BoxAt.ext hb0_2 e1_4
   have := Ext.size e1_4
   replace eB := Ext.trans eB e1_4
   replace cJ2 := Ext.trans cJ2 e1_4
   have hlhow1_4_0 := OS.lt how1_4_0
   try simp (disch := decide) only [outv_some, outv_none, put_puts]
   refine plK_pres (Ext.pres e1_4) ?_
   try simp -implicitDefEqProofs (disch := first | decide | assumption | omega) only [go_sem, RdS.len hdX sl22, RdS.idx hdX sl22, R1.intB hdX (Ext.pres eB), RdS.cells hdX, RdS.len hmX sl23, RdS.idx hmX sl23, RdS.cellB hmX (Ext.pres eB), RdS.cells hmX, RdS.len hdY sl22, RdS.idx hdY sl22, R1.intB hdY (Ext.pres eB), RdS.cells hdY, RdS.len hmY sl23, RdS.idx hmY sl23, RdS.cellB hmY (Ext.pres eB), RdS.cells hmY, RdS.len (OS.rd how1_4_0) sl22, RdS.idx (OS.rd how1_4_0) sl22, R1.intN (OS.rd how1_4_0), RdS.cells (OS.rd how1_4_0), BoxAt.cell hb0_0, BoxAt.cell hb0_1, BoxAt.cell hb0_2, wrap_id]
   refine And.intro ?_ ?_
   ·simp -implicitDefEqProofs (disch := first | decide | assumption | omega) only [go_sem, RdS.len hdX sl22, RdS.idx hdX sl22, R1.intB hdX (Ext.pres eB), RdS.cells hdX, RdS.len hmX sl23, RdS.idx hmX sl23, RdS.cellB hmX (Ext.pres eB), RdS.cells hmX, RdS.len hdY sl22, RdS.idx hdY sl22, R1.intB hdY (Ext.pres eB), RdS.cells hdY, RdS.len hmY sl23, RdS.idx hmY sl23, RdS.cellB hmY (Ext.pres eB), RdS.cells hmY, RdS.len (OS.rd how1_4_0) sl22, RdS.idx (OS.rd how1_4_0) sl22, R1.intN (OS.rd how1_4_0), RdS.cells (OS.rd how1_4_0), BoxAt.cell hb0_0, BoxAt.cell hb0_1, BoxAt.cell hb0_2, wrap_id]
    refine op_bs0 sz23 O2 ?_
    intro v1_5 h1_5 ho1_5 e1_5
    replace how1_4_0 := OS.ext how1_4_0 e1_5
    replace hb0_0 := BoxAt.ext hb0_0 e1_5
    replace hb0_1 := BoxAt.ext hb0_1 e1_5
    replace hb0_2 := BoxAt.ext hb0_2 e1_5
    have := Ext.size e1_5
    replace eB := Ext.trans eB e1_5
    replace cJ2 := Ext.trans cJ2 e1_5
    have hfho1_5 : Fresh h1_4.size [h1_4.size] := Fresh.one _
    have hlho1_5 := OS.lt ho1_5
    try simp (disch := decide) only [outv_some, outv_none, put_puts]
    refine plK_pres (Ext.pres e1_5) ?_
    try simp -implicitDefEqProofs (disch := first | decide | assumption | omega) only [go_sem, RdS.len hdX sl22, RdS.idx hdX sl22, R1.intB hdX (Ext.pres eB), RdS.cells hdX, RdS.len hmX sl23, RdS.idx hmX sl23, RdS.cellB hmX (Ext.pres eB), RdS.cells hmX, RdS.len hdY sl22, RdS.idx hdY sl22, R1.intB hdY (Ext.pres eB), RdS.cells hdY, RdS.len hmY sl23, RdS.idx hmY sl23, RdS.cellB hmY (Ext.pres eB), RdS.cells hmY, RdS.len (OS.rd how1_4_0) sl22, RdS.idx (OS.rd how1_4_0) sl22, R1.intN (OS.rd how1_4_0), RdS.cells (OS.rd how1_4_0), RdS.len (OS.rd ho1_5) sl23, RdS.idx (OS.rd ho1_5) sl23, RdS.cellN (OS.rd ho1_5), RdS.cells (OS.rd ho1_5), BoxAt.cell hb0_0, BoxAt.cell hb0_1, BoxAt.cell hb0_2, wrap_id, bC3 (OS.isSl how1_4_0) (OS.isSl ho1_5)]
    refine op_alloc (cs := #[.int .i64 0, .slice none 0 0, .slice none 0 0]) (by kernel_rfl) ?_
    intro h1_7 e1_7 hb1_7 z1_7
    replace how1_4_0 := OS.ext how1_4_0 e1_7
    replace ho1_5 := OS.ext ho1_5 e1_7
    replace hb0_0 := BoxAt.ext hb0_0 e1_7
    replace hb0_1 := BoxAt.ext hb0_1 e1_7
    replace hb0_2 := BoxAt.ext hb0_2 e1_7
    have := Ext.size e1_7
    replace eB := Ext.trans eB e1_7
    replace cJ2 := Ext.trans cJ2 e1_7
    have hfhb1_7 : Fresh h1_5.size [h1_5.size] := Fresh.one _
    have hlhb1_7 := one_lt (show h1_5.size < h1_7.size by omega)
    try simp (disch := decide) only [outv_some, outv_none, put_puts]
    refine plK_pres (Ext.pres e1_7) ?_
    try simp -implicitDefEqProofs (disch := first | decide | assumption | omega) only [go_sem, RdS.len hdX sl22, RdS.idx hdX sl22, R1.intB hdX (Ext.pres eB), RdS.cells hdX, RdS.len hmX sl23, RdS.idx hmX sl23, RdS.cellB hmX (Ext.pres eB), RdS.cells hmX, RdS.len hdY sl22, RdS.idx hdY sl22, R1.intB hdY (Ext.pres eB), RdS.cells hdY, RdS.len hmY sl23, RdS.idx hmY sl23, RdS.cellB hmY (Ext.pres eB), RdS.cells hmY, RdS.len (OS.rd how1_4_0) sl22, RdS.idx (OS.rd how1_4_0) sl22, R1.intN (OS.rd how1_4_0), RdS.cells (OS.rd how1_4_0), RdS.len (OS.rd ho1_5) sl23, RdS.idx (OS.rd ho1_5) sl23, RdS.cellN (OS.rd ho1_5), RdS.cells (OS.rd ho1_5), BoxAt.cell hb0_0, BoxAt.cell hb0_1, BoxAt.cell hb0_2, BoxAt.cell hb1_7, wrap_id, bC3 (OS.isSl how1_4_0) (OS.isSl ho1_5)]
    refine op_storeB (cs' := #[.int .i64 (X.p), vw1_4_0, v1_5]) st30 hb1_7 rfl rfl rfl (by simp) (allOne_mem (l := [.int .i64 (X.p), vw1_4_0, v1_5]) ⟨rfl, (OS.one how1_4_0).1, (OS.one ho1_5).1, trivial⟩) rfl ?_
    intro h1_8 hb1_7 c1_8
    replace how1_4_0 := OS.chg how1_4_0 c1_8 (apart_lt hlhow1_4_0 hfhb1_7 (by omega))
    replace ho1_5 := OS.chg ho1_5 c1_8 (apart_lt hlho1_5 hfhb1_7 (by omega))
    replace hb0_0 := BoxAt.chgA hb0_0 c1_8 (apart_lt hlhb0_0 hfhb1_7 (by omega))
    replace hb0_1 := BoxAt.chgA hb0_1 c1_8 (apart_lt hlhb0_1 hfhb1_7 (by omega))
    replace hb0_2 := BoxAt.chgA hb0_2 c1_8 (apart_lt hlhb0_2 hfhb1_7 (by omega))
    have := c1_8.size
    replace eB := Ext.then eB c1_8 (ge_of hfhb1_7 (by omega))
    replace cJ2 := Ext.then cJ2 c1_8 (ge_of hfhb1_7 (by omega))
    try simp (disch := decide) only [outv_some, outv_none, put_puts]
    refine plK_last (by decide) ?_
    try simp -implicitDefEqProofs (disch := first | decide | assumption | omega) only [go_sem, RdS.len hdX sl22, RdS.idx hdX sl22, R1.intB hdX (Ext.pres eB), RdS.cells hdX, RdS.len hmX sl23, RdS.idx hmX sl23, RdS.cellB hmX (Ext.pres eB), RdS.cells hmX, RdS.len hdY sl22, RdS.idx hdY sl22, R1.intB hdY (Ext.pres eB), RdS.cells hdY, RdS.len hmY sl23, RdS.idx hmY sl23, RdS.cellB hmY (Ext.pres eB), RdS.cells hmY, RdS.len (OS.rd how1_4_0) sl22, RdS.idx (OS.rd how1_4_0) sl22, R1.intN (OS.rd how1_4_0), RdS.cells (OS.rd how1_4_0), RdS.len (OS.rd ho1_5) sl23, RdS.idx (OS.rd ho1_5) sl23, RdS.cellN (OS.rd ho1_5), RdS.cells (OS.rd ho1_5), BoxAt.cell hb0_0, BoxAt.cell hb0_1, BoxAt.cell hb0_2, BoxAt.cell hb1_7, wrap_id, bC3 (OS.isSl how1_4_0) (OS.isSl ho1_5)]
    exact hK (vw1_4_0, fw1_4_0, v1_5, [h1_4.size], h1_5.size) _ _ (by simp [HasL, puts_at]) ⟨how1_4_0, (hfw1_4_0.mono (by omega)), ho1_5, (hfho1_5.mono (by omega)), hb1_7, (hfhb1_7.mono (by omega)), (apart_lt hlhow1_4_0 hfho1_5 (by omega)), (apart_lt hlhow1_4_0 hfhb1_7 (by omega)), (apart_lt hlho1_5 hfhb1_7 (by omega)), cJ2⟩
   ·simp -implicitDefEqProofs (disch := first | decide | assumption | omega) only [go_sem, RdS.len hdX sl22, RdS.idx hdX sl22, R1.intB hdX (Ext.pres eB), RdS.cells hdX, RdS.len hmX sl23, RdS.idx hmX sl23, RdS.cellB hmX (Ext.pres eB), RdS.cells hmX, RdS.len hdY sl22, RdS.idx hdY sl22, R1.intB hdY (Ext.pres eB), RdS.cells hdY, RdS.len hmY sl23, RdS.idx hmY sl23, RdS.cellB hmY (Ext.pres eB), RdS.cells hmY, RdS.len (OS.rd how1_4_0) sl22, RdS.idx (OS.rd how1_4_0) sl22, R1.intN (OS.rd how1_4_0), RdS.cells (OS.rd how1_4_0), BoxAt.cell hb0_0, BoxAt.cell hb0_1, BoxAt.cell hb0_2, wrap_id]
    refine op_alloc (cs := #[.int .i64 0, .slice none 0 0, .slice none 0 0]) (by kernel_rfl) ?_
    intro h1_7 e1_7 hb1_7 z1_7
    replace how1_4_0 := OS.ext how1_4_0 e1_7
    replace hb0_0 := BoxAt.ext hb0_0 e1_7
    replace hb0_1 := BoxAt.ext hb0_1 e1_7
    replace hb0_2 := BoxAt.ext hb0_2 e1_7
    have := Ext.size e1_7
    replace eB := Ext.trans eB e1_7
    replace cJ2 := Ext.trans cJ2 e1_7
    have hfhb1_7 : Fresh h1_4.size [h1_4.size] := Fresh.one _
    have hlhb1_7 := one_lt (show h1_4.size < h1_7.size by omega)
    try simp (disch := decide) only [outv_some, outv_none, put_puts]
    refine plK_pres (Ext.pres e1_7) ?_
    try simp -implicitDefEqProofs (disch := first | decide | assumption | omega) only [go_sem, RdS.len hdX sl22, RdS.idx hdX sl22, R1.intB hdX (Ext.pres eB), RdS.cells hdX, RdS.len hmX sl23, RdS.idx hmX sl23, RdS.cellB hmX (Ext.pres eB), RdS.cells hmX, RdS.len hdY sl22, RdS.idx hdY sl22, R1.intB hdY (Ext.pres eB), RdS.cells hdY, RdS.len hmY sl23, RdS.idx hmY sl23, RdS.cellB hmY (Ext.pres eB), RdS.cells hmY, RdS.len (OS.rd how1_4_0) sl22, RdS.idx (OS.rd how1_4_0) sl22, R1.intN (OS.rd how1_4_0), RdS.cells (OS.rd how1_4_0), BoxAt.cell hb0_0, BoxAt.cell hb0_1, BoxAt.cell hb0_2, BoxAt.cell hb1_7, wrap_id]
    refine op_bs0 sz23 O2 ?_
    intro v1_5 h1_5 ho1_5 e1_5
    replace how1_4_0 := OS.ext how1_4_0 e1_5
    replace hb0_0 := BoxAt.ext hb0_0 e1_5
    replace hb0_1 := BoxAt.ext hb0_1 e1_5
    replace hb0_2 := BoxAt.ext hb0_2 e1_5
    replace hb1_7 := BoxAt.ext hb1_7 e1_5
    have := Ext.size e1_5
    replace eB := Ext.trans eB e1_5
    replace cJ2 := Ext.trans cJ2 e1_5
    have hfho1_5 : Fresh h1_7.size [h1_7.size] := Fresh.one _
    have hlho1_5 := OS.lt ho1_5
    try simp (disch := decide) only [outv_some, outv_none, put_puts]
    refine plK_pres (Ext.pres e1_5) ?_
    try simp -implicitDefEqProofs (disch := first | decide | assumption | omega) only [go_sem, RdS.len hdX sl22, RdS.idx hdX sl22, R1.intB hdX (Ext.pres eB), RdS.cells hdX, RdS.len hmX sl23, RdS.idx hmX sl23, RdS.cellB hmX (Ext.pres eB), RdS.cells hmX, RdS.len hdY sl22, RdS.idx hdY sl22, R1.intB hdY (Ext.pres eB), RdS.cells hdY, RdS.len hmY sl23, RdS.idx hmY sl23, RdS.cellB hmY (Ext.pres eB), RdS.cells hmY, RdS.len (OS.rd how1_4_0) sl22, RdS.idx (OS.rd how1_4_0) sl22, R1.intN (OS.rd how1_4_0), RdS.cells (OS.rd how1_4_0), RdS.len (OS.rd ho1_5) sl23, RdS.idx (OS.rd ho1_5) sl23, RdS.cellN (OS.rd ho1_5), RdS.cells (OS.rd ho1_5), BoxAt.cell hb0_0, BoxAt.cell hb0_1, BoxAt.cell hb0_2, BoxAt.cell hb1_7, wrap_id, bC3 (OS.isSl how1_4_0) (OS.isSl ho1_5)]
    refine op_storeB (cs' := #[.int .i64 (X.p), vw1_4_0, v1_5]) st30 hb1_7 rfl rfl rfl (by simp) (allOne_mem (l := [.int .i64 (X.p), vw1_4_0, v1_5]) ⟨rfl, (OS.one how1_4_0).1, (OS.one ho1_5).1, trivial⟩) rfl ?_
    intro h1_8 hb1_7 c1_8
    replace how1_4_0 := OS.chg how1_4_0 c1_8 (apart_lt hlhow1_4_0 hfhb1_7 (by omega))
    replace ho1_5 := OS.chg ho1_5 c1_8 (apart_gt hfho1_5 hlhb1_7 (by omega))
    replace hb0_0 := BoxAt.chgA hb0_0 c1_8 (apart_lt hlhb0_0 hfhb1_7 (by omega))
    replace hb0_1 := BoxAt.chgA hb0_1 c1_8 (apart_lt hlhb0_1 hfhb1_7 (by omega))
    replace hb0_2 := BoxAt.chgA hb0_2 c1_8 (apart_lt hlhb0_2 hfhb1_7 (by omega))
    have := c1_8.size
    replace eB := Ext.then eB c1_8 (ge_of hfhb1_7 (by omega))
    replace cJ2 := Ext.then cJ2 c1_8 (ge_of hfhb1_7 (by omega))
    try simp (disch := decide) only [outv_some, outv_none, put_puts]
    refine plK_last (by decide) ?_
    try simp -implicitDefEqProofs (disch := first | decide | assumption | omega) only [go_sem, RdS.len hdX sl22, RdS.idx hdX sl22, R1.intB hdX (Ext.pres eB), RdS.cells hdX, RdS.len hmX sl23, RdS.idx hmX sl23, RdS.cellB hmX (Ext.pres eB), RdS.cells hmX, RdS.len hdY sl22, RdS.idx hdY sl22, R1.intB hdY (Ext.pres eB), RdS.cells hdY, RdS.len hmY sl23, RdS.idx hmY sl23, RdS.cellB hmY (Ext.pres eB), RdS.cells hmY, RdS.len (OS.rd how1_4_0) sl22, RdS.idx (OS.rd how1_4_0) sl22, R1.intN (OS.rd how1_4_0), RdS.cells (OS.rd how1_4_0), RdS.len (OS.rd ho1_5) sl23, RdS.idx (OS.rd ho1_5) sl23, RdS.cellN (OS.rd ho1_5), RdS.cells (OS.rd ho1_5), BoxAt.cell hb0_0, BoxAt.cell hb0_1, BoxAt.cell hb0_2, BoxAt.cell hb1_7, wrap_id, bC3 (OS.isSl how1_4_0) (OS.isSl ho1_5)]
    exact hK (vw1_4_0, fw1_4_0, v1_5, [h1_7.size], h1_4.size) _ _ (by simp [HasL, puts_at]) ⟨how1_4_0, (hfw1_4_0.mono (by omega)), ho1_5, (hfho1_5.mono (by omega)), hb1_7, (hfhb1_7.mono (by omega)), (apart_lt hlhow1_4_0 hfho1_5 (by omega)), (apart_lt hlhow1_4_0 hfhb1_7 (by omega)), (apart_gt hfho1_5 hlhb1_7 (by omega)), cJ2⟩
  ·simp -implicitDefEqProofs (disch := first | decide | assumption | omega) only [go_sem, RdS.len hdX sl22, RdS.idx hdX sl22, R1.intB hdX (Ext.pres eB), RdS.cells hdX, RdS.len hmX sl23, RdS.idx hmX sl23, RdS.cellB hmX (Ext.pres eB), RdS.cells hmX, RdS.len hdY sl22, RdS.idx hdY sl22, R1.intB hdY (Ext.pres eB), RdS.cells hdY, RdS.len hmY sl23, RdS.idx hmY sl23, RdS.cellB hmY (Ext.pres eB), RdS.cells hmY, BoxAt.cell hb0_0, BoxAt.cell hb0_1, BoxAt.cell hb0_2, wrap_id]
   refine op_bs0 sz23 O2 ?_
   intro v1_5 h1_5 ho1_5 e1_5
   replace hb0_0 := BoxAt.ext hb0_0 e1_5
   replace hb0_1 := BoxAt.ext hb0_1 e1_5
   replace hb0_2 := BoxAt.ext hb0_2 e1_5
   have := Ext.size e1_5
   replace eB := Ext.trans eB e1_5
   replace cJ2 := Ext.trans cJ2 e1_5
   have hfho1_5 : Fresh h0_2.size [h0_2.size] := Fresh.one _
   have hlho1_5 := OS.lt ho1_5
   try simp (disch := decide) only [outv_some, outv_none, put_puts]
   refine plK_pres (Ext.pres e1_5) ?_
   try simp -implicitDefEqProofs (disch := first | decide | assumption | omega) only [go_sem, RdS.len hdX sl22, RdS.idx hdX sl22, R1.intB hdX (Ext.pres eB), RdS.cells hdX, RdS.len hmX sl23, RdS.idx hmX sl23, RdS.cellB hmX (Ext.pres eB), RdS.cells hmX, RdS.len hdY sl22, RdS.idx hdY sl22, R1.intB hdY (Ext.pres eB), RdS.cells hdY, RdS.len hmY sl23, RdS.idx hmY sl23, RdS.cellB hmY (Ext.pres eB), RdS.cells hmY, RdS.len (OS.rd ho1_5) sl23, RdS.idx (OS.rd ho1_5) sl23, RdS.cellN (OS.rd ho1_5), RdS.cells (OS.rd ho1_5), BoxAt.cell hb0_0, BoxAt.cell hb0_1, BoxAt.cell hb0_2, wrap_id]
   refine And.intro ?_ ?_
   ·simp -implicitDefEqProofs (disch := first | decide | assumption | omega) only [go_sem, RdS.len hdX sl22, RdS.idx hdX sl22, R1.intB hdX (Ext.pres eB), RdS.cells hdX, RdS.len hmX sl23, RdS.idx hmX sl23, RdS.cellB hmX (Ext.pres eB), RdS.cells hmX, RdS.len hdY sl22, RdS.idx hdY sl22, R1.intB hdY (Ext.pres eB), RdS.cells hdY, RdS.len hmY sl23, RdS.idx hmY sl23, RdS.cellB hmY (Ext.pres eB), RdS.cells hmY, RdS.len (OS.rd ho1_5) sl23, RdS.idx (OS.rd ho1_5) sl23, RdS.cellN (OS.rd ho1_5), RdS.cells (OS.rd ho1_5), BoxAt.cell hb0_0, BoxAt.cell hb0_1, BoxAt.cell hb0_2, wrap_id]
    try simp -implicitDefEqProofs (disch := first | decide | assumption | omega) only [go_sem, RdS.len hdX sl22, RdS.idx hdX sl22, R1.intB hdX (Ext.pres eB), RdS.cells hdX, RdS.len hmX sl23, RdS.idx hmX sl23, RdS.cellB hmX (Ext.pres eB), RdS.cells hmX, RdS.len hdY sl22, RdS.idx hdY sl22, R1.intB hdY (Ext.pres eB), RdS.cells hdY, RdS.len hmY sl23, RdS.idx hmY sl23, RdS.cellB hmY (Ext.pres eB), RdS.cells hmY, RdS.len (OS.rd ho1_5) sl23, RdS.idx (OS.rd ho1_5) sl23, RdS.cellN (OS.rd ho1_5), RdS.cells (OS.rd ho1_5), BoxAt.cell hb0_0, BoxAt.cell hb0_1, BoxAt.cell hb0_2, wrap_id]
    refine CallA.mono (sDims_okT _ _ X Y _ ⟨_, _, rfl, (RdS.pres hdX (Ext.pres eB)), (RdS.pres hmX (Ext.pres eB))⟩ ⟨_, _, rfl, (RdS.pres hdY (Ext.pres eB)), (RdS.pres hmY (Ext.pres eB))⟩ (hX) (hY)) ?_
    intro vw1_4_0 h1_4
    rintro ⟨zvw1_4_0, fw1_4_0, rfl, how1_4_0, hfw1_4_0, e1_4⟩
    replace ho1_5 := OS.ext ho1_5 e1_4
    replace hb0_0 := BoxAt.ext hb0_0 e1_4
    replace hb0_1 := BoxAt.ext hb0_1 e1_4
    replace hb0_2 := BoxAt.ext hb0_2 e1_4
    have := Ext.size e1_4
    replace eB := Ext.trans eB e1_4
    replace cJ2 := Ext.trans cJ2 e1_4
    have hlhow1_4_0 := OS.lt how1_4_0
    try simp (disch := decide) only [outv_some, outv_none, put_puts]
    refine plK_pres (Ext.pres e1_4) ?_
    try simp -implicitDefEqProofs (disch := first | decide | assumption | omega) only [go_sem, RdS.len hdX sl22, RdS.idx hdX sl22, R1.intB hdX (Ext.pres eB), RdS.cells hdX, RdS.len hmX sl23, RdS.idx hmX sl23, RdS.cellB hmX (Ext.pres eB), RdS.cells hmX, RdS.len hdY sl22, RdS.idx hdY sl22, R1.intB hdY (Ext.pres eB), RdS.cells hdY, RdS.len hmY sl23, RdS.idx hmY sl23, RdS.cellB hmY (Ext.pres eB), RdS.cells hmY, RdS.len (OS.rd ho1_5) sl23, RdS.idx (OS.rd ho1_5) sl23, RdS.cellN (OS.rd ho1_5), RdS.cells (OS.rd ho1_5), RdS.len (OS.rd how1_4_0) sl22, RdS.idx (OS.rd how1_4_0) sl22, R1.intN (OS.rd how1_4_0), RdS.cells (OS.rd how1_4_0), BoxAt.cell hb0_0, BoxAt.cell hb0_1, BoxAt.cell hb0_2, wrap_id, bC3 (OS.isSl how1_4_0) (OS.isSl ho1_5)]
    refine op_alloc (cs := #[.int .i64 0, .slice none 0 0, .slice none 0 0]) (by kernel_rfl) ?_
    intro h1_7 e1_7 hb1_7 z1_7
    replace ho1_5 := OS.ext ho1_5 e1_7
    replace how1_4_0 := OS.ext how1_4_0 e1_7
    replace hb0_0 := BoxAt.ext hb0_0 e1_7
    replace hb0_1 := BoxAt.ext hb0_1 e1_7
    replace hb0_2 := BoxAt.ext hb0_2 e1_7
    have := Ext.size e1_7
    replace eB := Ext.trans eB e1_7
    replace cJ2 := Ext.trans cJ2 e1_7
    have hfhb1_7 : Fresh h1_4.size [h1_4.size] := Fresh.one _
    have hlhb1_7 := one_lt (show h1_4.size < h1_7.size by omega)
    try simp (disch := decide) only [outv_some, outv_none, put_puts]
    refine plK_pres (Ext.pres e1_7) ?_
    try simp -implicitDefEqProofs (disch := first | decide | assumption | omega) only [go_sem, RdS.len hdX sl22, RdS.idx hdX sl22, R1.intB hdX (Ext.pres eB), RdS.cells hdX, RdS.len hmX sl23, RdS.idx hmX sl23, RdS.cellB hmX (Ext.pres eB), RdS.cells hmX, RdS.len hdY sl22, RdS.idx hdY sl22, R1.intB hdY (Ext.pres eB), RdS.cells hdY, RdS.len hmY sl23, RdS.idx hmY sl23, RdS.cellB hmY (Ext.pres eB), RdS.cells hmY, RdS.len (OS.rd ho1_5) sl23, RdS.idx (OS.rd ho1_5) sl23, RdS.cellN (OS.rd ho1_5), RdS.cells (OS.rd ho1_5), RdS.len (OS.rd how1_4_0) sl22, RdS.idx (OS.rd how1_4_0) sl22, R1.intN (OS.rd how1_4_0), RdS.cells (OS.rd how1_4_0), BoxAt.cell hb0_0, BoxAt.cell hb0_1, BoxAt.cell hb0_2, BoxAt.cell hb1_7, wrap_id, bC3 (OS.isSl how1_4_0) (OS.isSl ho1_5)]
    refine op_storeB (cs' := #[.int .i64 (X.p), vw1_4_0, v1_5]) st30 hb1_7 rfl rfl rfl (by simp) (allOne_mem (l := [.int .i64 (X.p), vw1_4_0, v1_5]) ⟨rfl, (OS.one how1_4_0).1, (OS.one ho1_5).1, trivial⟩) rfl ?_
    intro h1_8 hb1_7 c1_8
    replace ho1_5 := OS.chg ho1_5 c1_8 (apart_lt hlho1_5 hfhb1_7 (by omega))
    replace how1_4_0 := OS.chg how1_4_0 c1_8 (apart_lt hlhow1_4_0 hfhb1_7 (by omega))
    replace hb0_0 := BoxAt.chgA hb0_0 c1_8 (apart_lt hlhb0_0 hfhb1_7 (by omega))
    replace hb0_1 := BoxAt.chgA hb0_1 c1_8 (apart_lt hlhb0_1 hfhb1_7 (by omega))
    replace hb0_2 := BoxAt.chgA hb0_2 c1_8 (apart_lt hlhb0_2 hfhb1_7 (by omega))
    have := c1_8.size
    replace eB := Ext.then eB c1_8 (ge_of hfhb1_7 (by omega))
    replace cJ2 := Ext.then cJ2 c1_8 (ge_of hfhb1_7 (by omega))
    try simp (disch := decide) only [outv_some, outv_none, put_puts]
    refine plK_last (by decide) ?_
    try simp -implicitDefEqProofs (disch := first | decide | assumption | omega) only [go_sem, RdS.len hdX sl22, RdS.idx hdX sl22, R1.intB hdX (Ext.pres eB), RdS.cells hdX, RdS.len hmX sl23, RdS.idx hmX sl23, RdS.cellB hmX (Ext.pres eB), RdS.cells hmX, RdS.len hdY sl22, RdS.idx hdY sl22, R1.intB hdY (Ext.pres eB), RdS.cells hdY, RdS.len hmY sl23, RdS.idx hmY sl23, RdS.cellB hmY (Ext.pres eB), RdS.cells hmY, RdS.len (OS.rd ho1_5) sl23, RdS.idx (OS.rd ho1_5) sl23, RdS.cellN (OS.rd ho1_5), RdS.cells (OS.rd ho1_5), RdS.len (OS.rd how1_4_0) sl22, RdS.idx (OS.rd how1_4_0) sl22, R1.intN (OS.rd how1_4_0), RdS.cells (OS.rd how1_4_0), BoxAt.cell hb0_0, BoxAt.cell hb0_1, BoxAt.cell hb0_2, BoxAt.cell hb1_7, wrap_id, bC3 (OS.isSl how1_4_0) (OS.isSl ho1_5)]
    exact hK (vw1_4_0, fw1_4_0, v1_5, [h0_2.size], h1_4.size) _ _ (by simp [HasL, puts_at]) ⟨how1_4_0, (hfw1_4_0.mono (by omega)), ho1_5, (hfho1_5.mono (by omega)), hb1_7, (hfhb1_7.mono (by omega)), (apart_gt hfw1_4_0 hlho1_5 (by omega)), (apart_lt hlhow1_4_0 hfhb1_7 (by omega)), (apart_lt hlho1_5 hfhb1_7 (by omega)), cJ2⟩
   ·simp -implicitDefEqProofs (disch := first | decide | assumption | omega) only [go_sem, RdS.len hdX sl22, RdS.idx hdX sl22, R1.intB hdX (Ext.pres eB), RdS.cells hdX, RdS.len hmX sl23, RdS.idx hmX sl23, RdS.cellB hmX (Ext.pres eB), RdS.cells hmX, RdS.len hdY sl22, RdS.idx hdY sl22, R1.intB hdY (Ext.pres eB), RdS.cells hdY, RdS.len hmY sl23, RdS.idx hmY sl23, RdS.cellB hmY (Ext.pres eB), RdS.cells hmY, RdS.len (OS.rd ho1_5) sl23, RdS.idx (OS.rd ho1_5) sl23, RdS.cellN (OS.rd ho1_5), RdS.cells (OS.rd ho1_5), BoxAt.cell hb0_0, BoxAt.cell hb0_1, BoxAt.cell hb0_2, wrap_id]
    refine op_alloc (cs := #[.int .i64 0, .slice none 0 0, .slice none 0 0]) (by kernel_rfl) ?_
    intro h1_7 e1_7 hb1_7 z1_7
    replace ho1_5 := OS.ext ho1_5 e1_7
    replace hb0_0 := BoxAt.ext hb0_0 e1_7
    replace hb0_1 := BoxAt.ext hb0_1 e1_7
    replace hb0_2 := BoxAt.ext hb0_2 e1_7
    have := Ext.size e1_7
    replace eB := Ext.trans eB e1_7
    replace cJ2 := Ext.trans cJ2 e1_7
    have hfhb1_7 : Fresh h1_5.size [h1_5.size] := Fresh.one _
    have hlhb1_7 := one_lt (show h1_5.size < h1_7.size by omega)
    try simp (disch := decide) only [outv_some, outv_none, put_puts]
    refine plK_pres (Ext.pres e1_7) ?_
    try simp -implicitDefEqProofs (disch := first | decide | assumption | omega) only [go_sem, RdS.len hdX sl22, RdS.idx hdX sl22, R1.intB hdX (Ext.pres eB), RdS.cells hdX, RdS.len hmX sl23, RdS.idx hmX sl23, RdS.cellB hmX (Ext.pres eB), RdS.cells hmX, RdS.len hdY sl22, RdS.idx hdY sl22, R1.intB hdY (Ext.pres eB), RdS.cells hdY, RdS.len hmY sl23, RdS.idx hmY sl23, RdS.cellB hmY (Ext.pres eB), RdS.cells hmY, RdS.len (OS.rd ho1_5) sl23, RdS.idx (OS.rd ho1_5) sl23, RdS.cellN (OS.rd ho1_5), RdS.cells (OS.rd ho1_5), BoxAt.cell hb0_0, BoxAt.cell hb0_1, BoxAt.cell hb0_2, BoxAt.cell hb1_7, wrap_id]
    try simp -implicitDefEqProofs (disch := first | decide | assumption | omega) only [go_sem, RdS.len hdX sl22, RdS.idx hdX sl22, R1.intB hdX (Ext.pres eB), RdS.cells hdX, RdS.len hmX sl23, RdS.idx hmX sl23, RdS.cellB hmX (Ext.pres eB), RdS.cells hmX, RdS.len hdY sl22, RdS.idx hdY sl22, R1.intB hdY (Ext.pres eB), RdS.cells hdY, RdS.len hmY sl23, RdS.idx hmY sl23, RdS.cellB hmY (Ext.pres eB), RdS.cells hmY, RdS.len (OS.rd ho1_5) sl23, RdS.idx (OS.rd ho1_5) sl23, RdS.cellN (OS.rd ho1_5), RdS.cells (OS.rd ho1_5), BoxAt.cell hb0_0, BoxAt.cell hb0_1, BoxAt.cell hb0_2, BoxAt.cell hb1_7, wrap_id]
    refine CallA.mono (sDims_okT _ _ X Y _ ⟨_, _, rfl, (RdS.pres hdX (Ext.pres eB)), (RdS.pres hmX (Ext.pres eB))⟩ ⟨_, _, rfl, (RdS.pres hdY (Ext.pres eB)), (RdS.pres hmY (Ext.pres eB))⟩ (hX) (hY)) ?_
    intro vw1_4_0 h1_4
    rintro ⟨zvw1_4_0, fw1_4_0, rfl, how1_4_0, hfw1_4_0, e1_4⟩
    replace ho1_5 := OS.ext ho1_5 e1_4
    replace hb0_0 := BoxAt.ext hb0_0 e1_4
    replace hb0_1 := BoxAt.ext hb0_1 e1_4
    replace hb0_2 := BoxAt.ext hb0_2 e1_4
    replace hb1_7 := BoxAt.ext hb1_7 e1_4
    have := Ext.size e1_4
    replace eB := Ext.trans eB e1_4
    replace cJ2 := Ext.trans cJ2 e1_4
    have hlhow1_4_0 := OS.lt how1_4_0
    try simp (disch := decide) only [outv_some, outv_none, put_puts]
    refine plK_pres (Ext.pres e1_4) ?_
    try simp -implicitDefEqProofs (disch := first | decide | assumption | omega) only [go_sem, RdS.len hdX sl22, RdS.idx hdX sl22, R1.intB hdX (Ext.pres eB), RdS.cells hdX, RdS.len hmX sl23, RdS.idx hmX sl23, RdS.cellB hmX (Ext.pres eB), RdS.cells hmX, RdS.len hdY sl22, RdS.idx hdY sl22, R1.intB hdY (Ext.pres eB), RdS.cells hdY, RdS.len hmY sl23, RdS.idx hmY sl23, RdS.cellB hmY (Ext.pres eB), RdS.cells hmY, RdS.len (OS.rd ho1_5) sl23, RdS.idx (OS.rd ho1_5) sl23, RdS.cellN (OS.rd ho1_5), RdS.cells (OS.rd ho1_5), RdS.len (OS.rd how1_4_0) sl22, RdS.idx (OS.rd how1_4_0) sl22, R1.intN (OS.rd how1_4_0), RdS.cells (OS.rd how1_4_0), BoxAt.cell hb0_0, BoxAt.cell hb0_1, BoxAt.cell hb0_2, BoxAt.cell hb1_7, wrap_id, bC3 (OS.isSl how1_4_0) (OS.isSl ho1_5)]
    refine op_storeB (cs' := #[.int .i64 (X.p), vw1_4_0, v1_5]) st30 hb1_7 rfl rfl rfl (by simp) (allOne_mem (l := [.int .i64 (X.p), vw1_4_0, v1_5]) ⟨rfl, (OS.one how1_4_0).1, (OS.one ho1_5).1, trivial⟩) rfl ?_
    intro h1_8 hb1_7 c1_8
    replace ho1_5 := OS.chg ho1_5 c1_8 (apart_lt hlho1_5 hfhb1_7 (by omega))
    replace how1_4_0 := OS.chg how1_4_0 c1_8 (apart_gt hfw1_4_0 hlhb1_7 (by omega))
    replace hb0_0 := BoxAt.chgA hb0_0 c1_8 (apart_lt hlhb0_0 hfhb1_7 (by omega))
    replace hb0_1 := BoxAt.chgA hb0_1 c1_8 (apart_lt hlhb0_1 hfhb1_7 (by omega))
    replace hb0_2 := BoxAt.chgA hb0_2 c1_8 (apart_lt hlhb0_2 hfhb1_7 (by omega))
    have := c1_8.size
    replace eB := Ext.then eB c1_8 (ge_of hfhb1_7 (by omega))
    replace cJ2 := Ext.then cJ2 c1_8 (ge_of hfhb1_7 (by omega))
    try simp (disch := decide) only [outv_some, outv_none, put_puts]
    refine plK_last (by decide) ?_
    try simp -implicitDefEqProofs (disch := first | decide | assumption | omega) only [go_sem, RdS.len hdX sl22, RdS.idx hdX sl22, R1.intB hdX (Ext.pres eB), RdS.cells hdX, RdS.len hmX sl23, RdS.idx hmX sl23, RdS.cellB hmX (Ext.pres eB), RdS.cells hmX, RdS.len hdY sl22, RdS.idx hdY sl22, R1.intB hdY (Ext.pres eB), RdS.cells hdY, RdS.len hmY sl23, RdS.idx hmY sl23, RdS.cellB hmY (Ext.pres eB), RdS.cells hmY, RdS.len (OS.rd ho1_5) sl23, RdS.idx (OS.rd ho1_5) sl23, RdS.cellN (OS.rd ho1_5), RdS.cells (OS.rd ho1_5), RdS.len (OS.rd how1_4_0) sl22, RdS.idx (OS.rd how1_4_0) sl22, R1.intN (OS.rd how1_4_0), RdS.cells (OS.rd how1_4_0), BoxAt.cell hb0_0, BoxAt.cell hb0_1, BoxAt.cell hb0_2, BoxAt.cell hb1_7, wrap_id, bC3 (OS.isSl how1_4_0) (OS.isSl ho1_5)]
    exact hK (vw1_4_0, fw1_4_0, v1_5, [h0_2.size], h1_5.size) _ _ (by simp [HasL, puts_at]) ⟨how1_4_0, (hfw1_4_0.mono (by omega)), ho1_5, (hfho1_5.mono (by omega)), hb1_7, (hfhb1_7.mono (by omega)), (apart_gt hfw1_4_0 hlho1_5 (by omega)), (apart_gt hfw1_4_0 hlhb1_7 (by omega)), (apart_lt hlho1_5 hfhb1_7 (by omega)), cJ2⟩
  ·simp -implicitDefEqProofs (disch := first | decide | assumption | omega) only [go_sem, RdS.len hdX sl22, RdS.idx hdX sl22, R1.intB hdX (Ext.pres eB), RdS.cells hdX, RdS.len hmX sl23, RdS.idx hmX sl23, RdS.cellB hmX (Ext.pres eB), RdS.cells hmX, RdS.len hdY sl22, RdS.idx hdY sl22, R1.intB hdY (Ext.pres eB), RdS.cells hdY, RdS.len hmY sl23, RdS.idx hmY sl23, RdS.cellB hmY (Ext.pres eB), RdS.cells hmY, BoxAt.cell hb0_0, BoxAt.cell hb0_1, BoxAt.cell hb0_2, wrap_id]
   refine op_alloc (cs := #[.int .i64 0, .slice none 0 0, .slice none 0 0]) (by kernel_rfl) ?_
   intro h1_7 e1_7 hb1_7 z1_7
   replace hb0_0 := BoxAt.ext hb0_0 e1_7
   replace hb0_1 := BoxAt.ext hb0_1 e1_7
   replace hb0_2 := BoxAt.ext hb0_2 e1_7
   have := Ext.size e1_7
   replace eB := Ext.trans eB e1_7
   replace cJ2 := Ext.trans cJ2 e1_7
   have hfhb1_7 : Fresh h0_2.size [h0_2.size] := Fresh.one _
   have hlhb1_7 := one_lt (show h0_2.size < h1_7.size by omega)
   try simp (disch := decide) only [outv_some, outv_none, put_puts]
   refine plK_pres (Ext.pres e1_7) ?_
   try simp -implicitDefEqProofs (disch := first | decide | assumption | omega) only [go_sem, RdS.len hdX sl22, RdS.idx hdX sl22, R1.intB hdX (Ext.pres eB), RdS.cells hdX, RdS.len hmX sl23, RdS.idx hmX sl23, RdS.cellB hmX (Ext.pres eB), RdS.cells hmX, RdS.len hdY sl22, RdS.idx hdY sl22, R1.intB hdY (Ext.pres eB), RdS.cells hdY, RdS.len hmY sl23, RdS.idx hmY sl23, RdS.cellB hmY (Ext.pres eB), RdS.cells hmY, BoxAt.cell hb0_0, BoxAt.cell hb0_1, BoxAt.cell hb0_2, BoxAt.cell hb1_7, wrap_id]
   refine And.intro ?_ ?_
   ·simp -implicitDefEqProofs (disch := first | decide | assumption | omega) only [go_sem, RdS.len hdX sl22, RdS.idx hdX sl22, R1.intB hdX (Ext.pres eB), RdS.cells hdX, RdS.len hmX sl23, RdS.idx hmX sl23, RdS.cellB hmX (Ext.pres eB), RdS.cells hmX, RdS.len hdY sl22, RdS.idx hdY sl22, R1.intB hdY (Ext.pres eB), RdS.cells hdY, RdS.len hmY sl23, RdS.idx hmY sl23, RdS.cellB hmY (Ext.pres eB), RdS.cells hmY, BoxAt.cell hb0_0, BoxAt.cell hb0_1, BoxAt.cell hb0_2, BoxAt.cell hb1_7, wrap_id]
    try simp -implicitDefEqProofs (disch := first | decide | assumption | omega) only [go_sem, RdS.len hdX sl22, RdS.idx hdX sl22, R1.intB hdX (Ext.pres eB), RdS.cells hdX, RdS.len hmX sl23, RdS.idx hmX sl23, RdS.cellB hmX (Ext.pres eB), RdS.cells hmX, RdS.len hdY sl22, RdS.idx hdY sl22, R1.intB hdY (Ext.pres eB), RdS.cells hdY, RdS.len hmY sl23, RdS.idx hmY sl23, RdS.cellB hmY (Ext.pres eB), RdS.cells hmY, BoxAt.cell hb0_0, BoxAt.cell hb0_1, BoxAt.cell hb0_2, BoxAt.cell hb1_7, wrap_id]
    refine CallA.mono (sDims_okT _ _ X Y _ ⟨_, _, rfl, (RdS.pres hdX (Ext.pres eB)), (RdS.pres hmX (Ext.pres eB))⟩ ⟨_, _, rfl, (RdS.pres hdY (Ext.pres eB)), (RdS.pres hmY (Ext.pres eB))⟩ (hX) (hY)) ?_
    intro vw1_4_0 h1_4
    rintro ⟨zvw1_4_0, fw1_4_0, rfl, how1_4_0, hfw1_4_0, e1_4⟩
    replace hb0_0 := BoxAt.ext hb0_0 e1_4
    replace hb0_1 := BoxAt.ext hb0_1 e1_4
    replace hb0_2 := BoxAt.ext hb0_2 e1_4
    replace hb1_7 := BoxAt.ext hb1_7 e1_4
    have := Ext.size e1_4
    replace eB := Ext.trans eB e1_4
    replace cJ2 := Ext.trans cJ2 e1_4
    have hlhow1_4_0 := OS.lt how1_4_0
    try simp (disch := decide) only [outv_some, outv_none, put_puts]
    refine plK_pres (Ext.pres e1_4) ?_
    try simp -implicitDefEqProofs (disch := first | decide | assumption | omega) only [go_sem, RdS.len hdX sl22, RdS.idx hdX sl22, R1.intB hdX (Ext.pres eB), RdS.cells hdX, RdS.len hmX sl23, RdS.idx hmX sl23, RdS.cellB hmX (Ext.pres eB), RdS.cells hmX, RdS.len hdY sl22, RdS.idx hdY sl22, R1.intB hdY (Ext.pres eB), RdS.cells hdY, RdS.len hmY sl23, RdS.idx hmY sl23, RdS.cellB hmY (Ext.pres eB), RdS.cells hmY, RdS.len (OS.rd how1_4_0) sl22, RdS.idx (OS.rd how1_4_0) sl22, R1.intN (OS.rd how1_4_0), RdS.cells (OS.rd how1_4_0), BoxAt.cell hb0_0, BoxAt.cell hb0_1, BoxAt.cell hb0_2, BoxAt.cell hb1_7, wrap_id]
    refine op_bs0 sz23 O2 ?_
    intro v1_5 h1_5 ho1_5 e1_5
    replace how1_4_0 := OS.ext how1_4_0 e1_5
    replace hb0_0 := BoxAt.ext hb0_0 e1_5
    replace hb0_1 := BoxAt.ext hb0_1 e1_5
    replace hb0_2 := BoxAt.ext hb0_2 e1_5
    replace hb1_7 := BoxAt.ext hb1_7 e1_5
    have := Ext.size e1_5
    replace eB := Ext.trans eB e1_5
    replace cJ2 := Ext.trans cJ2 e1_5
    have hfho1_5 : Fresh h1_4.size [h1_4.size] := Fresh.one _
    have hlho1_5 := OS.lt ho1_5
    try simp (disch := decide) only [outv_some, outv_none, put_puts]
    refine plK_pres (Ext.pres e1_5) ?_
    try simp -implicitDefEqProofs (disch := first | decide | assumption | omega) only [go_sem, RdS.len hdX sl22, RdS.idx hdX sl22, R1.intB hdX (Ext.pres eB), RdS.cells hdX, RdS.len hmX sl23, RdS.idx hmX sl23, RdS.cellB hmX (Ext.pres eB), RdS.cells hmX, RdS.len hdY sl22, RdS.idx hdY sl22, R1.intB hdY (Ext.pres eB), RdS.cells hdY, RdS.len hmY sl23, RdS.idx hmY sl23, RdS.cellB hmY (Ext.pres eB), RdS.cells hmY, RdS.len (OS.rd how1_4_0) sl22, RdS.idx (OS.rd how1_4_0) sl22, R1.intN (OS.rd how1_4_0), RdS.cells (OS.rd how1_4_0), RdS.len (OS.rd ho1_5) sl23, RdS.idx (OS.rd ho1_5) sl23, RdS.cellN (OS.rd ho1_5), RdS.cells (OS.rd ho1_5), BoxAt.cell hb0_0, BoxAt.cell hb0_1, BoxAt.cell hb0_2, BoxAt.cell hb1_7, wrap_id, bC3 (OS.isSl how1_4_0) (OS.isSl ho1_5)]
    refine op_storeB (cs' := #[.int .i64 (X.p), vw1_4_0, v1_5]) st30 hb1_7 rfl rfl rfl (by simp) (allOne_mem (l := [.int .i64 (X.p), vw1_4_0, v1_5]) ⟨rfl, (OS.one how1_4_0).1, (OS.one ho1_5).1, trivial⟩) rfl ?_
    intro h1_8 hb1_7 c1_8
    replace how1_4_0 := OS.chg how1_4_0 c1_8 (apart_gt hfw1_4_0 hlhb1_7 (by omega))
    replace ho1_5 := OS.chg ho1_5 c1_8 (apart_gt hfho1_5 hlhb1_7 (by omega))
    replace hb0_0 := BoxAt.chgA hb0_0 c1_8 (apart_lt hlhb0_0 hfhb1_7 (by omega))
    replace hb0_1 := BoxAt.chgA hb0_1 c1_8 (apart_lt hlhb0_1 hfhb1_7 (by omega))
    replace hb0_2 := BoxAt.chgA hb0_2 c1_8 (apart_lt hlhb0_2 hfhb1_7 (by omega))
    have := c1_8.size
    replace eB := Ext.then eB c1_8 (ge_of hfhb1_7 (by omega))
    replace cJ2 := Ext.then cJ2 c1_8 (ge_of hfhb1_7 (by omega))
    try simp (disch := decide) only [outv_some, outv_none, put_puts]
    refine plK_last (by decide) ?_
    try simp -implicitDefEqProofs (disch := first | decide | assumption | omega) only [go_sem, RdS.len hdX sl22, RdS.idx hdX sl22, R1.intB hdX (Ext.pres eB), RdS.cells hdX, RdS.len hmX sl23, RdS.idx hmX sl23, RdS.cellB hmX (Ext.pres eB), RdS.cells hmX, RdS.len hdY sl22, RdS.idx hdY sl22, R1.intB hdY (Ext.pres eB), RdS.cells hdY, RdS.len hmY sl23, RdS.idx hmY sl23, RdS.cellB hmY (Ext.pres eB), RdS.cells hmY, RdS.len (OS.rd how1_4_0) sl22, RdS.idx (OS.rd how1_4_0) sl22, R1.intN (OS.rd how1_4_0), RdS.cells (OS.rd how1_4_0), RdS.len (OS.rd ho1_5) sl23, RdS.idx (OS.rd ho1_5) sl23, RdS.cellN (OS.rd ho1_5), RdS.cells (OS.rd ho1_5), BoxAt.cell hb0_0, BoxAt.cell hb0_1, BoxAt.cell hb0_2, BoxAt.cell hb1_7, wrap_id, bC3 (OS.isSl how1_4_0) (OS.isSl ho1_5)]
    exact hK (vw1_4_0, fw1_4_0, v1_5, [h1_4.size], h0_2.size) _ _ (by simp [HasL, puts_at]) ⟨how1_4_0, (hfw1_4_0.mono (by omega)), ho1_5, (hfho1_5.mono (by omega)), hb1_7, (hfhb1_7.mono (by omega)), (apart_lt hlhow1_4_0 hfho1_5 (by omega)), (apart_gt hfw1_4_0 hlhb1_7 (by omega)), (apart_gt hfho1_5 hlhb1_7 (by omega)), cJ2⟩
   ·simp -implicitDefEqProofs (disch := first | decide | assumption | omega) only [go_sem, RdS.len hdX sl22, RdS.idx hdX sl22, R1.intB hdX (Ext.pres eB), RdS.cells hdX, RdS.len hmX sl23, RdS.idx hmX sl23, RdS.cellB hmX (Ext.pres eB), RdS.cells hmX, RdS.len hdY sl22, RdS.idx hdY sl22, R1.intB hdY (Ext.pres eB), RdS.cells hdY, RdS.len hmY sl23, RdS.idx hmY sl23, RdS.cellB hmY (Ext.pres eB), RdS.cells hmY, BoxAt.cell hb0_0, BoxAt.cell hb0_1, BoxAt.cell hb0_2, BoxAt.cell hb1_7, wrap_id]
    refine op_bs0 sz23 O2 ?_
    intro v1_5 h1_5 ho1_5 e1_5
    replace hb0_0 := BoxAt.ext hb0_0 e1_5
    replace hb0_1 := BoxAt.ext hb0_1 e1_5
    replace hb0_2 := BoxAt.ext hb0_2 e1_5
    replace hb1_7 := BoxAt.ext hb1_7 e1_5
    have := Ext.size e1_5
    replace eB := Ext.trans eB e1_5
    replace cJ2 := Ext.trans cJ2 e1_5
    have hfho1_5 : Fresh h1_7.size [h1_7.size] := Fresh.one _
    have hlho1_5 := OS.lt ho1_5
    try simp (disch := decide) only [outv_some, outv_none, put_puts]
    refine plK_pres (Ext.pres e1_5) ?_
    try simp -implicitDefEqProofs (disch := first | decide | assumption | omega) only [go_sem, RdS.len hdX sl22, RdS.idx hdX sl22, R1.intB hdX (Ext.pres eB), RdS.cells hdX, RdS.len hmX sl23, RdS.idx hmX sl23, RdS.cellB hmX (Ext.pres eB), RdS.cells hmX, RdS.len hdY sl22, RdS.idx hdY sl22, R1.intB hdY (Ext.pres eB), RdS.cells hdY, RdS.len hmY sl23, RdS.idx hmY sl23, RdS.cellB hmY (Ext.pres eB), RdS.cells hmY, RdS.len (OS.rd ho1_5) sl23, RdS.idx (OS.rd ho1_5) sl23, RdS.cellN (OS.rd ho1_5), RdS.cells (OS.rd ho1_5), BoxAt.cell hb0_0, BoxAt.cell hb0_1, BoxAt.cell hb0_2, BoxAt.cell hb1_7, wrap_id]
    try simp -implicitDefEqProofs (disch := first | decide | assumption | omega) only [go_sem, RdS.len hdX sl22, RdS.idx hdX sl22, R1.intB hdX (Ext.pres eB), RdS.cells hdX, RdS.len hmX sl23, RdS.idx hmX sl23, RdS.cellB hmX (Ext.pres eB), RdS.cells hmX, RdS.len hdY sl22, RdS.idx hdY sl22, R1.intB hdY (Ext.pres eB), RdS.cells hdY, RdS.len hmY sl23, RdS.idx hmY sl23, RdS.cellB hmY (Ext.pres eB), RdS.cells hmY, RdS.len (OS.rd ho1_5) sl23, RdS.idx (OS.rd ho1_5) sl23, RdS.cellN (OS.rd ho1_5), RdS.cells (OS.rd ho1_5), BoxAt.cell hb0_0, BoxAt.cell hb0_1, BoxAt.cell hb0_2, BoxAt.cell hb1_7, wrap_id]
    refine CallA.mono (sDims_okT _ _ X Y _ ⟨_, _, rfl, (RdS.pres hdX (Ext.pres eB)), (RdS.pres hmX (Ext.pres eB))⟩ ⟨_, _, rfl, (RdS.pres hdY (Ext.pres eB)), (RdS.pres hmY (Ext.pres eB))⟩ (hX) (hY)) ?_
    intro vw1_4_0 h1_4
    rintro ⟨zvw1_4_0, fw1_4_0, rfl, how1_4_0, hfw1_4_0, e1_4⟩
    replace ho1_5 := OS.ext ho1_5 e1_4
    replace hb0_0 := BoxAt.ext hb0_0 e1_4
    replace hb0_1 := BoxAt.ext hb0_1 e1_4
    replace hb0_2 := BoxAt.ext hb0_2 e1_4
    replace hb1_7 := BoxAt.ext hb1_7 e1_4
    have := Ext.size e1_4
    replace eB := Ext.trans eB e1_4
    replace cJ2 := Ext.trans cJ2 e1_4
    have hlhow1_4_0 := OS.lt how1_4_0
    try simp (disch := decide) only [outv_some, outv_none, put_puts]
    refine plK_pres (Ext.pres e1_4) ?_
    try simp -implicitDefEqProofs (disch := first | decide | assumption | omega) only [go_sem, RdS.len hdX sl22, RdS.idx hdX sl22, R1.intB hdX (Ext.pres eB), RdS.cells hdX, RdS.len hmX sl23, RdS.idx hmX sl23, RdS.cellB hmX (Ext.pres eB), RdS.cells hmX, RdS.len hdY sl22, RdS.idx hdY sl22, R1.intB hdY (Ext.pres eB), RdS.cells hdY, RdS.len hmY sl23, RdS.idx hmY sl23, RdS.cellB hmY (Ext.pres eB), RdS.cells hmY, RdS.len (OS.rd ho1_5) sl23, RdS.idx (OS.rd ho1_5) sl23, RdS.cellN (OS.rd ho1_5), RdS.cells (OS.rd ho1_5), RdS.len (OS.rd how1_4_0) sl22, RdS.idx (OS.rd how1_4_0) sl22, R1.intN (OS.rd how1_4_0), RdS.cells (OS.rd how1_4_0), BoxAt.cell hb0_0, BoxAt.cell hb0_1, BoxAt.cell hb0_2, BoxAt.cell hb1_7, wrap_id, bC3 (OS.isSl how1_4_0) (OS.isSl ho1_5)]
    refine op_storeB (cs' := #[.int .i64 (X.p), vw1_4_0, v1_5]) st30 hb1_7 rfl rfl rfl (by simp) (allOne_mem (l := [.int .i64 (X.p), vw1_4_0, v1_5]) ⟨rfl, (OS.one how1_4_0).1, (OS.one ho1_5).1, trivial⟩) rfl ?_
    intro h1_8 hb1_7 c1_8
    replace ho1_5 := OS.chg ho1_5 c1_8 (apart_gt hfho1_5 hlhb1_7 (by omega))
    replace how1_4_0 := OS.chg how1_4_0 c1_8 (apart_gt hfw1_4_0 hlhb1_7 (by omega))
    replace hb0_0 := BoxAt.chgA hb0_0 c1_8 (apart_lt hlhb0_0 hfhb1_7 (by omega))
    replace hb0_1 := BoxAt.chgA hb0_1 c1_8 (apart_lt hlhb0_1 hfhb1_7 (by omega))
    replace hb0_2 := BoxAt.chgA hb0_2 c1_8 (apart_lt hlhb0_2 hfhb1_7 (by omega))
    have := c1_8.size
    replace eB := Ext.then eB c1_8 (ge_of hfhb1_7 (by omega))
    replace cJ2 := Ext.then cJ2 c1_8 (ge_of hfhb1_7 (by omega))
    try simp (disch := decide) only [outv_some, outv_none, put_puts]
    refine plK_last (by decide) ?_
    try simp -implicitDefEqProofs (disch := first | decide | assumption | omega) only [go_sem, RdS.len hdX sl22, RdS.idx hdX sl22, R1.intB hdX (Ext.pres eB), RdS.cells hdX, RdS.len hmX sl23, RdS.idx hmX sl23, RdS.cellB hmX (Ext.pres eB), RdS.cells hmX, RdS.len hdY sl22, RdS.idx hdY sl22, R1.intB hdY (Ext.pres eB), RdS.cells hdY, RdS.len hmY sl23, RdS.idx hmY sl23, RdS.cellB hmY (Ext.pres eB), RdS.cells hmY, RdS.len (OS.rd ho1_5) sl23, RdS.idx (OS.rd ho1_5) sl23, RdS.cellN (OS.rd ho1_5), RdS.cells (OS.rd ho1_5), RdS.len (OS.rd how1_4_0) sl22, RdS.idx (OS.rd how1_4_0) sl22, R1.intN (OS.rd how1_4_0), RdS.cells (OS.rd how1_4_0), BoxAt.cell hb0_0, BoxAt.cell hb0_1, BoxAt.cell hb0_2, BoxAt.cell hb1_7, wrap_id, bC3 (OS.isSl how1_4_0) (OS.isSl ho1_5)]
    exact hK (vw1_4_0, fw1_4_0, v1_5, [h1_7.size], h0_2.size) _ _ (by simp [HasL, puts_at]) ⟨how1_4_0, (hfw1_4_0.mono (by omega)), ho1_5, (hfho1_5.mono (by omega)), hb1_7, (hfhb1_7.mono (by omega)), (apart_gt hfw1_4_0 hlho1_5 (by omega)), (apart_gt hfw1_4_0 hlhb1_7 (by omega)), (apart_gt hfho1_5 hlhb1_7 (by omega)), cJ2⟩
 ·rintro ⟨vw1_4_0, fpJhow1_4_0, v1_5, fpJho1_5, bJhb1_7⟩ hj3 ee5 ⟨how1_4_0, hfhow1_4_0, ho1_5, hfho1_5, hb1_7, hfhb1_7, apJ_how1_4_0_ho1_5, apJ_how1_4_0_hb1_7, apJ_ho1_5_hb1_7, eJ4⟩
  dsimp only at how1_4_0 hfhow1_4_0 ho1_5 hfho1_5 hb1_7 hfhb1_7 apJ_how1_4_0_ho1_5 apJ_how1_4_0_hb1_7 apJ_ho1_5_hb1_7 eJ4
  replace hb0_0 := BoxAt.ext hb0_0 eJ4
  replace hb0_1 := BoxAt.ext hb0_1 eJ4
  replace hb0_2 := BoxAt.ext hb0_2 eJ4
  have := Ext.size eJ4
  replace eB := Ext.trans eB eJ4
  have hlhow1_4_0 := OS.lt how1_4_0
  have hlho1_5 := OS.lt ho1_5
  have hlhb1_7 := one_lt hb1_7.lt
  simp only [List.cons_append, List.nil_append]
  refine den_seq ?_
  refine den_seq ?_
  refine den_region TTok ?_
  intro K hK
  simp -implicitDefEqProofs (disch := first | decide | assumption | omega) only [go_sem, RdS.len hdX sl22, RdS.idx hdX sl22, R1.intB hdX (Ext.pres eB), RdS.cells hdX, RdS.len hmX sl23, RdS.idx hmX sl23, RdS.cellB hmX (Ext.pres eB), RdS.cells hmX, RdS.len hdY sl22, RdS.idx hdY sl22, R1.intB hdY (Ext.pres eB), RdS.cells hdY, RdS.len hmY sl23, RdS.idx hmY sl23, RdS.cellB hmY (Ext.pres eB), RdS.cells hmY, RdS.len (OS.rd how1_4_0) sl22, RdS.idx (OS.rd how1_4_0) sl22, R1.intN (OS.rd how1_4_0), RdS.cells (OS.rd how1_4_0), RdS.len (OS.rd ho1_5) sl23, RdS.idx (OS.rd ho1_5) sl23, RdS.cellN (OS.rd ho1_5), RdS.cells (OS.rd ho1_5), BoxAt.cell hb0_0, BoxAt.cell hb0_1, BoxAt.cell hb0_2, BoxAt.cell hb1_7, wrap_id]
  refine hK _ _ ?_
  clear hK K
  refine den_block ?_
  refine den_sel [6, 2, 3, 4, 5] ?_
  intro env_6
  simp only [go_sem]
  refine den_loopS (σ := Nat × Value × List Nat) (fun st_ => [(6, .int .i64 (st_.1 : Int))]) (fun st_ H => (1 ≤ st_.1) ∧ (st_.1 ≤ (tdP X Y).length) ∧ (O3 H st_.2.1 ((tT X Y).take (st_.1 - 1)) st_.2.2) ∧ (Fresh (h0_2.size) st_.2.2) ∧ (Sub (fpJho1_5 ++ ([bJhb1_7])) hj3.size st_.2.2) ∧ (BoxAt H (bJhb1_7) #[.int .i64 (X.p), vw1_4_0, st_.2.1] 30) ∧ (Apart st_.2.2 [bJhb1_7]) ∧ (Chg (fpJho1_5 ++ ([bJhb1_7])) hj3 H)) (fun st_ => (tdP X Y).length - st_.1) (1, v1_5, fpJho1_5) ?_ ?_
  ·exact ⟨by omega, by omega, by rw [show (1 : Nat) - 1 = 0 from rfl, List.take_zero]; exact ho1_5, hfho1_5, (Sub.left Sub.refl), by simpa using hb1_7, apJ_ho1_5_hb1_7, Chg.refl _ _⟩
  ·rintro ⟨n, vhM, fphM⟩ h9 ee8 ⟨hi0, hi1, hM, hfhM, sbhM, hbx5, ap_hM_hbx5, cL7⟩
   dsimp only at hi0 hi1 hM hfhM sbhM hbx5 ap_hM_hbx5 cL7
   replace how1_4_0 := OS.chg how1_4_0 cL7 (Apart.app apJ_how1_4_0_ho1_5 apJ_how1_4_0_hb1_7)
   replace hb0_0 := BoxAt.chgA hb0_0 cL7 (Apart.app (apart_lt hlhb0_0 hfho1_5 (by omega)) (apart_lt hlhb0_0 hfhb1_7 (by omega)))
   replace hb0_1 := BoxAt.chgA hb0_1 cL7 (Apart.app (apart_lt hlhb0_1 hfho1_5 (by omega)) (apart_lt hlhb0_1 hfhb1_7 (by omega)))
   replace hb0_2 := BoxAt.chgA hb0_2 cL7 (Apart.app (apart_lt hlhb0_2 hfho1_5 (by omega)) (apart_lt hlhb0_2 hfhb1_7 (by omega)))
   have := cL7.size
   replace eB := Ext.then eB cL7 (ge_app (ge_of hfho1_5 (by omega)) (ge_of hfhb1_7 (by omega)))
   have ap10 : Apart fpJhow1_4_0 fphM := Apart.sub_ hlhow1_4_0 (by omega) (Apart.app apJ_how1_4_0_ho1_5 apJ_how1_4_0_hb1_7) sbhM
   have hlhM := OS.lt hM
   have hfhbx5 := hfhb1_7
   have hlhbx5 := hlhb1_7
   simp only [List.cons_append, List.nil_append]
   refine den_seq ?_
   refine den_seq ?_
   refine den_region TTok ?_
   intro K hK
   simp -implicitDefEqProofs (disch := first | decide | assumption | omega) only [go_sem, fa30_1, ld22, RdS.len hdX sl22, RdS.idx hdX sl22, R1.intB hdX (Ext.pres eB), RdS.cells hdX, RdS.len hmX sl23, RdS.idx hmX sl23, RdS.cellB hmX (Ext.pres eB), RdS.cells hmX, RdS.len hdY sl22, RdS.idx hdY sl22, R1.intB hdY (Ext.pres eB), RdS.cells hdY, RdS.len hmY sl23, RdS.idx hmY sl23, RdS.cellB hmY (Ext.pres eB), RdS.cells hmY, RdS.len (OS.rd how1_4_0) sl22, RdS.idx (OS.rd how1_4_0) sl22, R1.intN (OS.rd how1_4_0), RdS.cells (OS.rd how1_4_0), RdS.len (OS.rd hM) sl23, RdS.idx (OS.rd hM) sl23, RdS.cellN (OS.rd hM), RdS.cells (OS.rd hM), BoxAt.cell hb0_0, BoxAt.cell hb0_1, BoxAt.cell hb0_2, BoxAt.cell hbx5, wrap_id]
   refine hK _ _ ?_
   clear hK K
   refine den_cond rfl (fun c0 => ?_) (fun c0 => ?_)
   ·try simp only [decide_eq_true_eq, decide_eq_false_iff_not, beq_iff_eq, beq_eq_false_iff_ne, bne_iff_ne, ne_eq, Bool.not_eq_true', Bool.not_eq_false', Bool.and_eq_true, Bool.or_eq_true, bne_eq_false_iff_eq] at c0
    refine den_skip ?_
    refine den_seq ?_
    refine den_block ?_
    refine den_seq ?_
    have htr := tT_rowsT hX hY (n := n) (by omega) (by omega)
    have htb := tdP_bndT hX hY (n := n) (by omega)
    have htg := tdP_get X Y (n := n) (by omega)
    refine den_region TTok ?_
    intro K hK
    simp -implicitDefEqProofs (disch := first | decide | assumption | omega) only [go_sem, RdS.len hdX sl22, RdS.idx hdX sl22, R1.intB hdX (Ext.pres eB), RdS.cells hdX, RdS.len hmX sl23, RdS.idx hmX sl23, RdS.cellB hmX (Ext.pres eB), RdS.cells hmX, RdS.len hdY sl22, RdS.idx hdY sl22, R1.intB hdY (Ext.pres eB), RdS.cells hdY, RdS.len hmY sl23, RdS.idx hmY sl23, RdS.cellB hmY (Ext.pres eB), RdS.cells hmY, RdS.len (OS.rd how1_4_0) sl22, RdS.idx (OS.rd how1_4_0) sl22, R1.intN (OS.rd how1_4_0), RdS.cells (OS.rd how1_4_0), RdS.len (OS.rd hM) sl23, RdS.idx (OS.rd hM) sl23, RdS.cellN (OS.rd hM), RdS.cells (OS.rd hM), BoxAt.cell hb0_0, BoxAt.cell hb0_1, BoxAt.cell hb0_2, BoxAt.cell hbx5, wrap_id]
    refine op_bs0 sz56 O1 ?_
    intro v5_0 h5_0 ho5_0 e5_0
    replace how1_4_0 := OS.ext how1_4_0 e5_0
    replace hM := OS.ext hM e5_0
    replace hb0_0 := BoxAt.ext hb0_0 e5_0
    replace hb0_1 := BoxAt.ext hb0_1 e5_0
    replace hb0_2 := BoxAt.ext hb0_2 e5_0
    replace hbx5 := BoxAt.ext hbx5 e5_0
    have := Ext.size e5_0
    replace eB := Ext.trans eB e5_0
    replace cL7 := Chg.stepE cL7 e5_0
    have hfho5_0 : Fresh h9.size [h9.size] := Fresh.one _
    have hlho5_0 := OS.lt ho5_0
    try simp -implicitDefEqProofs (disch := first | decide | assumption | omega) only [go_sem, RdS.len hdX sl22, RdS.idx hdX sl22, R1.intB hdX (Ext.pres eB), RdS.cells hdX, RdS.len hmX sl23, RdS.idx hmX sl23, RdS.cellB hmX (Ext.pres eB), RdS.cells hmX, RdS.len hdY sl22, RdS.idx hdY sl22, R1.intB hdY (Ext.pres eB), RdS.cells hdY, RdS.len hmY sl23, RdS.idx hmY sl23, RdS.cellB hmY (Ext.pres eB), RdS.cells hmY, RdS.len (OS.rd how1_4_0) sl22, RdS.idx (OS.rd how1_4_0) sl22, R1.intN (OS.rd how1_4_0), RdS.cells (OS.rd how1_4_0), RdS.len (OS.rd hM) sl23, RdS.idx (OS.rd hM) sl23, RdS.cellN (OS.rd hM), RdS.cells (OS.rd hM), RdS.len (OS.rd ho5_0) sl56, RdS.idx (OS.rd ho5_0) sl56, RdS.cellN (OS.rd ho5_0), RdS.cells (OS.rd ho5_0), BoxAt.cell hb0_0, BoxAt.cell hb0_1, BoxAt.cell hb0_2, BoxAt.cell hbx5, wrap_id]
    refine hK _ _ ?_
    clear hK K
    refine den_seq ?_
    refine den_seq ?_
    refine den_region TTok ?_
    intro K hK
    simp -implicitDefEqProofs (disch := first | decide | assumption | omega) only [go_sem, RdS.len hdX sl22, RdS.idx hdX sl22, R1.intB hdX (Ext.pres eB), RdS.cells hdX, RdS.len hmX sl23, RdS.idx hmX sl23, RdS.cellB hmX (Ext.pres eB), RdS.cells hmX, RdS.len hdY sl22, RdS.idx hdY sl22, R1.intB hdY (Ext.pres eB), RdS.cells hdY, RdS.len hmY sl23, RdS.idx hmY sl23, RdS.cellB hmY (Ext.pres eB), RdS.cells hmY, RdS.len (OS.rd how1_4_0) sl22, RdS.idx (OS.rd how1_4_0) sl22, R1.intN (OS.rd how1_4_0), RdS.cells (OS.rd how1_4_0), RdS.len (OS.rd hM) sl23, RdS.idx (OS.rd hM) sl23, RdS.cellN (OS.rd hM), RdS.cells (OS.rd hM), RdS.len (OS.rd ho5_0) sl56, RdS.idx (OS.rd ho5_0) sl56, RdS.cellN (OS.rd ho5_0), RdS.cells (OS.rd ho5_0), BoxAt.cell hb0_0, BoxAt.cell hb0_1, BoxAt.cell hb0_2, BoxAt.cell hbx5, wrap_id]
    refine hK _ _ ?_
    clear hK K
    refine den_block ?_
    refine den_sel [7, 8, 2, 3, 4, 5, 6] ?_
    intro env_11
    simp only [go_sem]
    refine den_loopS (σ := Nat × Value × List Nat) (fun st_ => [(7, st_.2.1), (8, .int .i64 (st_.1 : Int))]) (fun st_ H => (st_.1 ≤ n + 1) ∧ (O2 H st_.2.1 (((tT X Y).getD (n - 1) default).take (sumP X Y n st_.1).toNat) st_.2.2) ∧ (Fresh (h9.size) st_.2.2) ∧ (Sub [h9.size] h5_0.size st_.2.2) ∧ (Chg [h9.size] h5_0 H)) (fun st_ => n + 1 - st_.1) (0, v5_0, [h9.size]) ?_ ?_
    ·exact ⟨by first | (simp; done) | (dsimp only; omega) | (simp; omega), by rw [sumP, Int.toNat_zero, List.take_zero]; exact ho5_0, hfho5_0, Sub.refl, Chg.refl _ _⟩
    ·rintro ⟨i, vhR, fphR⟩ h14 ee13 ⟨hi0, hR, hfhR, sbhR, cL12⟩
     dsimp only at hi0 hR hfhR sbhR cL12
     replace how1_4_0 := OS.chg how1_4_0 cL12 (apart_lt hlhow1_4_0 hfho5_0 (by omega))
     replace hM := OS.chg hM cL12 (apart_lt hlhM hfho5_0 (by omega))
     replace hb0_0 := BoxAt.chgA hb0_0 cL12 (apart_lt hlhb0_0 hfho5_0 (by omega))
     replace hb0_1 := BoxAt.chgA hb0_1 cL12 (apart_lt hlhb0_1 hfho5_0 (by omega))
     replace hb0_2 := BoxAt.chgA hb0_2 cL12 (apart_lt hlhb0_2 hfho5_0 (by omega))
     replace hbx5 := BoxAt.chgA hbx5 cL12 (apart_lt hlhbx5 hfho5_0 (by omega))
     have := cL12.size
     replace eB := Ext.then eB cL12 (ge_of hfho5_0 (by omega))
     replace cL7 := Chg.step cL7 cL12 (Sub.fresh hfho5_0 (by omega))
     have hlhR := OS.lt hR
     simp only [List.cons_append, List.nil_append]
     refine den_seq ?_
     refine den_seq ?_
     refine den_region TTok ?_
     intro K hK
     simp -implicitDefEqProofs (disch := first | decide | assumption | omega) only [go_sem, RdS.len hdX sl22, RdS.idx hdX sl22, R1.intB hdX (Ext.pres eB), RdS.cells hdX, RdS.len hmX sl23, RdS.idx hmX sl23, RdS.cellB hmX (Ext.pres eB), RdS.cells hmX, RdS.len hdY sl22, RdS.idx hdY sl22, R1.intB hdY (Ext.pres eB), RdS.cells hdY, RdS.len hmY sl23, RdS.idx hmY sl23, RdS.cellB hmY (Ext.pres eB), RdS.cells hmY, RdS.len (OS.rd how1_4_0) sl22, RdS.idx (OS.rd how1_4_0) sl22, R1.intN (OS.rd how1_4_0), RdS.cells (OS.rd how1_4_0), RdS.len (OS.rd hM) sl23, RdS.idx (OS.rd hM) sl23, RdS.cellN (OS.rd hM), RdS.cells (OS.rd hM), RdS.len (OS.rd hR) sl56, RdS.idx (OS.rd hR) sl56, RdS.cellN (OS.rd hR), RdS.cells (OS.rd hR), BoxAt.cell hb0_0, BoxAt.cell hb0_1, BoxAt.cell hb0_2, BoxAt.cell hbx5, wrap_id]
     refine hK _ _ ?_
     clear hK K
     refine den_cond rfl (fun c1 => ?_) (fun c1 => ?_)
     ·try simp only [decide_eq_true_eq, decide_eq_false_iff_not, beq_iff_eq, beq_eq_false_iff_ne, bne_iff_ne, ne_eq, Bool.not_eq_true', Bool.not_eq_false', Bool.and_eq_true, Bool.or_eq_true, bne_eq_false_iff_eq] at c1
      refine den_skip ?_
      refine den_seq ?_
      refine den_block ?_
      refine den_seq ?_
      refine den_region TTok ?_
      intro K hK
      simp -implicitDefEqProofs (disch := first | decide | assumption | omega) only [go_sem, RdS.len hdX sl22, RdS.idx hdX sl22, R1.intB hdX (Ext.pres eB), RdS.cells hdX, RdS.len hmX sl23, RdS.idx hmX sl23, RdS.cellB hmX (Ext.pres eB), RdS.cells hmX, RdS.len hdY sl22, RdS.idx hdY sl22, R1.intB hdY (Ext.pres eB), RdS.cells hdY, RdS.len hmY sl23, RdS.idx hmY sl23, RdS.cellB hmY (Ext.pres eB), RdS.cells hmY, RdS.len (OS.rd how1_4_0) sl22, RdS.idx (OS.rd how1_4_0) sl22, R1.intN (OS.rd how1_4_0), RdS.cells (OS.rd how1_4_0), RdS.len (OS.rd hM) sl23, RdS.idx (OS.rd hM) sl23, RdS.cellN (OS.rd hM), RdS.cells (OS.rd hM), RdS.len (OS.rd hR) sl56, RdS.idx (OS.rd hR) sl56, RdS.cellN (OS.rd hR), RdS.cells (OS.rd hR), BoxAt.cell hb0_0, BoxAt.cell hb0_1, BoxAt.cell hb0_2, BoxAt.cell hbx5, wrap_id]
      refine hK _ _ ?_
      clear hK K
      refine den_block ?_
      refine den_sel [7, 9, 2, 3, 4, 5, 6, 8] ?_
      intro env_15
      simp only [go_sem]
      refine den_loopS (σ := Nat × Value × List Nat) (fun st_ => [(7, st_.2.1), (9, .int .i64 (st_.1 : Int))]) (fun st_ H => ((st_.1 : Int) ≤ dimP X i) ∧ (O2 H st_.2.1 (((tT X Y).getD (n - 1) default).take (placeP X Y i st_.1 ((n : Int) - i) 0).toNat) st_.2.2) ∧ (Fresh (h9.size) st_.2.2) ∧ (Sub fphR h14.size st_.2.2) ∧ (Chg fphR h14 H)) (fun st_ => (dimP X i).toNat - st_.1) (0, vhR, fphR) ?_ ?_
      ·exact ⟨by have := dimP_bndT hX (i : Int); omega, by rw [show placeP X Y i ((0 : Nat) : Int) ((n : Int) - i) 0 = sumP X Y n i by have h := (place_next X Y i 0 ((n : Int) - i) 0 (by omega)).2.2.1; rw [show (i : Int) + ((n : Int) - i) = n by omega, Int.toNat_natCast] at h; exact h]; exact hR, hfhR, Sub.refl, Chg.refl _ _⟩
      ·rintro ⟨a, vhA, fphA⟩ h18 ee17 ⟨hi0, hA, hfhA, sbhA, cL16⟩
       dsimp only at hi0 hA hfhA sbhA cL16
       replace how1_4_0 := OS.chg how1_4_0 cL16 (apart_lt hlhow1_4_0 hfhR (by omega))
       replace hM := OS.chg hM cL16 (apart_lt hlhM hfhR (by omega))
       replace hb0_0 := BoxAt.chgA hb0_0 cL16 (apart_lt hlhb0_0 hfhR (by omega))
       replace hb0_1 := BoxAt.chgA hb0_1 cL16 (apart_lt hlhb0_1 hfhR (by omega))
       replace hb0_2 := BoxAt.chgA hb0_2 cL16 (apart_lt hlhb0_2 hfhR (by omega))
       replace hbx5 := BoxAt.chgA hbx5 cL16 (apart_lt hlhbx5 hfhR (by omega))
       have := cL16.size
       replace eB := Ext.then eB cL16 (ge_of hfhR (by omega))
       replace cL7 := Chg.step cL7 cL16 (Sub.fresh hfhR (by omega))
       replace cL12 := Chg.step cL12 cL16 sbhR
       have sb19 : Sub [h9.size] h5_0.size fphA := Sub.trans sbhA sbhR (by omega)
       have hlhA := OS.lt hA
       simp only [List.cons_append, List.nil_append]
       refine den_seq ?_
       refine den_seq ?_
       have hpn0 := place_next X Y i 0 ((n : Int) - i) 0 (by omega)
       have hbX := dimP_bndT hX (i : Int)
       refine den_region TTok ?_
       intro K hK
       simp -implicitDefEqProofs (disch := first | decide | assumption | omega) only [go_sem, ld30, RdS.len hdX sl22, RdS.idx hdX sl22, R1.intB hdX (Ext.pres eB), RdS.cells hdX, RdS.len hmX sl23, RdS.idx hmX sl23, RdS.cellB hmX (Ext.pres eB), RdS.cells hmX, RdS.len hdY sl22, RdS.idx hdY sl22, R1.intB hdY (Ext.pres eB), RdS.cells hdY, RdS.len hmY sl23, RdS.idx hmY sl23, RdS.cellB hmY (Ext.pres eB), RdS.cells hmY, RdS.len (OS.rd how1_4_0) sl22, RdS.idx (OS.rd how1_4_0) sl22, R1.intN (OS.rd how1_4_0), RdS.cells (OS.rd how1_4_0), RdS.len (OS.rd hM) sl23, RdS.idx (OS.rd hM) sl23, RdS.cellN (OS.rd hM), RdS.cells (OS.rd hM), RdS.len (OS.rd hA) sl56, RdS.idx (OS.rd hA) sl56, RdS.cellN (OS.rd hA), RdS.cells (OS.rd hA), BoxAt.cell hb0_0, BoxAt.cell hb0_1, BoxAt.cell hb0_2, BoxAt.cell hbx5, wrap_id]
       try simp -implicitDefEqProofs (disch := first | decide | assumption | omega) only [go_sem, RdS.len hdX sl22, RdS.idx hdX sl22, R1.intB hdX (Ext.pres eB), RdS.cells hdX, RdS.len hmX sl23, RdS.idx hmX sl23, RdS.cellB hmX (Ext.pres eB), RdS.cells hmX, RdS.len hdY sl22, RdS.idx hdY sl22, R1.intB hdY (Ext.pres eB), RdS.cells hdY, RdS.len hmY sl23, RdS.idx hmY sl23, RdS.cellB hmY (Ext.pres eB), RdS.cells hmY, RdS.len (OS.rd how1_4_0) sl22, RdS.idx (OS.rd how1_4_0) sl22, R1.intN (OS.rd how1_4_0), RdS.cells (OS.rd how1_4_0), RdS.len (OS.rd hM) sl23, RdS.idx (OS.rd hM) sl23, RdS.cellN (OS.rd hM), RdS.cells (OS.rd hM), RdS.len (OS.rd hA) sl56, RdS.idx (OS.rd hA) sl56, RdS.cellN (OS.rd hA), RdS.cells (OS.rd hA), BoxAt.cell hb0_0, BoxAt.cell hb0_1, BoxAt.cell hb0_2, BoxAt.cell hbx5, wrap_id]
       refine CallA.mono (sDim_ok _ X _ _ ⟨_, _, rfl, (RdS.pres hdX (Ext.pres eB)), (RdS.pres hmX (Ext.pres eB))⟩) ?_
       intro v_ h10_3
       rintro ⟨rfl, e10_3⟩
       replace how1_4_0 := OS.ext how1_4_0 e10_3
       replace hM := OS.ext hM e10_3
       replace hA := OS.ext hA e10_3
       replace hb0_0 := BoxAt.ext hb0_0 e10_3
       replace hb0_1 := BoxAt.ext hb0_1 e10_3
       replace hb0_2 := BoxAt.ext hb0_2 e10_3
       replace hbx5 := BoxAt.ext hbx5 e10_3
       have := Ext.size e10_3
       replace eB := Ext.trans eB e10_3
       replace cL7 := Chg.stepE cL7 e10_3
       replace cL12 := Chg.stepE cL12 e10_3
       replace cL16 := Chg.stepE cL16 e10_3
       try simp -implicitDefEqProofs (disch := first | decide | assumption | omega) only [go_sem, RdS.len hdX sl22, RdS.idx hdX sl22, R1.intB hdX (Ext.pres eB), RdS.cells hdX, RdS.len hmX sl23, RdS.idx hmX sl23, RdS.cellB hmX (Ext.pres eB), RdS.cells hmX, RdS.len hdY sl22, RdS.idx hdY sl22, R1.intB hdY (Ext.pres eB), RdS.cells hdY, RdS.len hmY sl23, RdS.idx hmY sl23, RdS.cellB hmY (Ext.pres eB), RdS.cells hmY, RdS.len (OS.rd how1_4_0) sl22, RdS.idx (OS.rd how1_4_0) sl22, R1.intN (OS.rd how1_4_0), RdS.cells (OS.rd how1_4_0), RdS.len (OS.rd hM) sl23, RdS.idx (OS.rd hM) sl23, RdS.cellN (OS.rd hM), RdS.cells (OS.rd hM), RdS.len (OS.rd hA) sl56, RdS.idx (OS.rd hA) sl56, RdS.cellN (OS.rd hA), RdS.cells (OS.rd hA), BoxAt.cell hb0_0, BoxAt.cell hb0_1, BoxAt.cell hb0_2, BoxAt.cell hbx5, wrap_id]
       refine hK _ _ ?_
       clear hK K
       refine den_cond rfl (fun c2 => ?_) (fun c2 => ?_)
       ·try simp only [decide_eq_true_eq, decide_eq_false_iff_not, beq_iff_eq, beq_eq_false_iff_ne, bne_iff_ne, ne_eq, Bool.not_eq_true', Bool.not_eq_false', Bool.and_eq_true, Bool.or_eq_true, bne_eq_false_iff_eq] at c2
        refine den_skip ?_
        refine den_seq ?_
        refine den_block ?_
        refine den_seq ?_
        refine den_region TTok ?_
        intro K hK
        simp -implicitDefEqProofs (disch := first | decide | assumption | omega) only [go_sem, RdS.len hdX sl22, RdS.idx hdX sl22, R1.intB hdX (Ext.pres eB), RdS.cells hdX, RdS.len hmX sl23, RdS.idx hmX sl23, RdS.cellB hmX (Ext.pres eB), RdS.cells hmX, RdS.len hdY sl22, RdS.idx hdY sl22, R1.intB hdY (Ext.pres eB), RdS.cells hdY, RdS.len hmY sl23, RdS.idx hmY sl23, RdS.cellB hmY (Ext.pres eB), RdS.cells hmY, RdS.len (OS.rd how1_4_0) sl22, RdS.idx (OS.rd how1_4_0) sl22, R1.intN (OS.rd how1_4_0), RdS.cells (OS.rd how1_4_0), RdS.len (OS.rd hM) sl23, RdS.idx (OS.rd hM) sl23, RdS.cellN (OS.rd hM), RdS.cells (OS.rd hM), RdS.len (OS.rd hA) sl56, RdS.idx (OS.rd hA) sl56, RdS.cellN (OS.rd hA), RdS.cells (OS.rd hA), BoxAt.cell hb0_0, BoxAt.cell hb0_1, BoxAt.cell hb0_2, BoxAt.cell hbx5, wrap_id]
        refine hK _ _ ?_
        clear hK K
        refine den_block ?_
        refine den_sel [7, 10, 2, 3, 4, 5, 6, 8, 9] ?_
        intro env_20
        simp only [go_sem]
        refine den_loopS (σ := Nat × Value × List Nat) (fun st_ => [(7, st_.2.1), (10, .int .i64 (st_.1 : Int))]) (fun st_ H => ((st_.1 : Int) ≤ dimP Y ((n : Int) - i)) ∧ (O2 H st_.2.1 (((tT X Y).getD (n - 1) default).take (placeP X Y i a ((n : Int) - i) st_.1).toNat) st_.2.2) ∧ (Fresh (h9.size) st_.2.2) ∧ (Sub fphA h10_3.size st_.2.2) ∧ (Chg fphA h10_3 H)) (fun st_ => (dimP Y ((n : Int) - i)).toNat - st_.1) (0, vhA, fphA) ?_ ?_
        ·exact ⟨by have := dimP_bndT hY ((n : Int) - i); omega, by exact hA, hfhA, Sub.refl, Chg.refl _ _⟩
        ·rintro ⟨b, vhB, fphB⟩ h23 ee22 ⟨hi0, hB, hfhB, sbhB, cL21⟩
         dsimp only at hi0 hB hfhB sbhB cL21
         replace how1_4_0 := OS.chg how1_4_0 cL21 (apart_lt hlhow1_4_0 hfhA (by omega))
         replace hM := OS.chg hM cL21 (apart_lt hlhM hfhA (by omega))
         replace hb0_0 := BoxAt.chgA hb0_0 cL21 (apart_lt hlhb0_0 hfhA (by omega))
         replace hb0_1 := BoxAt.chgA hb0_1 cL21 (apart_lt hlhb0_1 hfhA (by omega))
         replace hb0_2 := BoxAt.chgA hb0_2 cL21 (apart_lt hlhb0_2 hfhA (by omega))
         replace hbx5 := BoxAt.chgA hbx5 cL21 (apart_lt hlhbx5 hfhA (by omega))
         have := cL21.size
         replace eB := Ext.then eB cL21 (ge_of hfhA (by omega))
         replace cL7 := Chg.step cL7 cL21 (Sub.fresh hfhA (by omega))
         replace cL12 := Chg.step cL12 cL21 sb19
         replace cL16 := Chg.step cL16 cL21 sbhA
         have sb24 : Sub [h9.size] h5_0.size fphB := Sub.trans sbhB sb19 (by omega)
         have sb25 : Sub fphR h14.size fphB := Sub.trans sbhB sbhA (by omega)
         have hlhB := OS.lt hB
         simp only [List.cons_append, List.nil_append]
         refine den_seq ?_
         refine den_seq ?_
         have hbY := dimP_bndT hY ((n : Int) - i)
         refine den_region TTok ?_
         intro K hK
         simp -implicitDefEqProofs (disch := first | decide | assumption | omega) only [go_sem, ld30, RdS.len hdX sl22, RdS.idx hdX sl22, R1.intB hdX (Ext.pres eB), RdS.cells hdX, RdS.len hmX sl23, RdS.idx hmX sl23, RdS.cellB hmX (Ext.pres eB), RdS.cells hmX, RdS.len hdY sl22, RdS.idx hdY sl22, R1.intB hdY (Ext.pres eB), RdS.cells hdY, RdS.len hmY sl23, RdS.idx hmY sl23, RdS.cellB hmY (Ext.pres eB), RdS.cells hmY, RdS.len (OS.rd how1_4_0) sl22, RdS.idx (OS.rd how1_4_0) sl22, R1.intN (OS.rd how1_4_0), RdS.cells (OS.rd how1_4_0), RdS.len (OS.rd hM) sl23, RdS.idx (OS.rd hM) sl23, RdS.cellN (OS.rd hM), RdS.cells (OS.rd hM), RdS.len (OS.rd hB) sl56, RdS.idx (OS.rd hB) sl56, RdS.cellN (OS.rd hB), RdS.cells (OS.rd hB), BoxAt.cell hb0_0, BoxAt.cell hb0_1, BoxAt.cell hb0_2, BoxAt.cell hbx5, wrap_id]
         try simp -implicitDefEqProofs (disch := first | decide | assumption | omega) only [go_sem, RdS.len hdX sl22, RdS.idx hdX sl22, R1.intB hdX (Ext.pres eB), RdS.cells hdX, RdS.len hmX sl23, RdS.idx hmX sl23, RdS.cellB hmX (Ext.pres eB), RdS.cells hmX, RdS.len hdY sl22, RdS.idx hdY sl22, R1.intB hdY (Ext.pres eB), RdS.cells hdY, RdS.len hmY sl23, RdS.idx hmY sl23, RdS.cellB hmY (Ext.pres eB), RdS.cells hmY, RdS.len (OS.rd how1_4_0) sl22, RdS.idx (OS.rd how1_4_0) sl22, R1.intN (OS.rd how1_4_0), RdS.cells (OS.rd how1_4_0), RdS.len (OS.rd hM) sl23, RdS.idx (OS.rd hM) sl23, RdS.cellN (OS.rd hM), RdS.cells (OS.rd hM), RdS.len (OS.rd hB) sl56, RdS.idx (OS.rd hB) sl56, RdS.cellN (OS.rd hB), RdS.cells (OS.rd hB), BoxAt.cell hb0_0, BoxAt.cell hb0_1, BoxAt.cell hb0_2, BoxAt.cell hbx5, wrap_id]
         refine CallA.mono (sDim_ok _ Y _ _ ⟨_, _, rfl, (RdS.pres hdY (Ext.pres eB)), (RdS.pres hmY (Ext.pres eB))⟩) ?_
         intro v_ h13_5
         rintro ⟨rfl, e13_5⟩
         replace how1_4_0 := OS.ext how1_4_0 e13_5
         replace hM := OS.ext hM e13_5
         replace hB := OS.ext hB e13_5
         replace hb0_0 := BoxAt.ext hb0_0 e13_5
         replace hb0_1 := BoxAt.ext hb0_1 e13_5
         replace hb0_2 := BoxAt.ext hb0_2 e13_5
         replace hbx5 := BoxAt.ext hbx5 e13_5
         have := Ext.size e13_5
         replace eB := Ext.trans eB e13_5
         replace cL7 := Chg.stepE cL7 e13_5
         replace cL12 := Chg.stepE cL12 e13_5
         replace cL16 := Chg.stepE cL16 e13_5
         replace cL21 := Chg.stepE cL21 e13_5
         try simp -implicitDefEqProofs (disch := first | decide | assumption | omega) only [go_sem, RdS.len hdX sl22, RdS.idx hdX sl22, R1.intB hdX (Ext.pres eB), RdS.cells hdX, RdS.len hmX sl23, RdS.idx hmX sl23, RdS.cellB hmX (Ext.pres eB), RdS.cells hmX, RdS.len hdY sl22, RdS.idx hdY sl22, R1.intB hdY (Ext.pres eB), RdS.cells hdY, RdS.len hmY sl23, RdS.idx hmY sl23, RdS.cellB hmY (Ext.pres eB), RdS.cells hmY, RdS.len (OS.rd how1_4_0) sl22, RdS.idx (OS.rd how1_4_0) sl22, R1.intN (OS.rd how1_4_0), RdS.cells (OS.rd how1_4_0), RdS.len (OS.rd hM) sl23, RdS.idx (OS.rd hM) sl23, RdS.cellN (OS.rd hM), RdS.cells (OS.rd hM), RdS.len (OS.rd hB) sl56, RdS.idx (OS.rd hB) sl56, RdS.cellN (OS.rd hB), RdS.cells (OS.rd hB), BoxAt.cell hb0_0, BoxAt.cell hb0_1, BoxAt.cell hb0_2, BoxAt.cell hbx5, wrap_id]
         refine hK _ _ ?_
         clear hK K
         refine den_cond rfl (fun c3 => ?_) (fun c3 => ?_)
         ·try simp only [decide_eq_true_eq, decide_eq_false_iff_not, beq_iff_eq, beq_eq_false_iff_ne, bne_iff_ne, ne_eq, Bool.not_eq_true', Bool.not_eq_false', Bool.and_eq_true, Bool.or_eq_true, bne_eq_false_iff_eq] at c3
          refine den_skip ?_
          refine den_seq ?_
          refine den_block ?_
          have hri := tRow_intT hX hY hpp (n := n) (i := i) (a := a) (b := b) (by omega) (by omega) (by omega) (by omega)
          have hil := dim_lt (X := X) (k := i) (i := a) (by omega)
          have hjl : (n : Int) - i ≤ (Y.dims.length : Int) - 1 := by
           by_cases hq : (Y.dims.length : Int) ≤ (n : Int) - i
           ·have := dimP_big (Y := Y) hq; omega
           ·omega
          have hwq : (tdP X Y).getD ((n : Int) - 1).toNat 0 = (tdP X Y).getD ((i : Int) + ((n : Int) - (i : Int)) - 1).toNat 0 := by rw [show (i : Int) + ((n : Int) - (i : Int)) - 1 = (n : Int) - 1 by omega]
          have hlt : (((tT X Y).getD (n - 1) default).take (placeP X Y i a ((n : Int) - i) b).toNat).length ≤ 704 := by rw [List.length_take]; omega
          refine den_draw TTok mixed [17] [(0, true), (1, true), (2, true), (3, true), (4, true), (5, true), (6, true), (7, true), (8, true), (9, true), (10, true), (11, true), (12, true), (13, true), (14, true), (15, false), (16, false), (17, false), (18, true)] (by kernel_rfl) ?_
          intro K hK
          simp -implicitDefEqProofs (disch := first | decide | assumption | omega) only [go_sem, fa30_1, ld22, ld2, ld30, RdS.len hdX sl22, RdS.idx hdX sl22, R1.intB hdX (Ext.pres eB), RdS.cells hdX, RdS.len hmX sl23, RdS.idx hmX sl23, RdS.cellB hmX (Ext.pres eB), RdS.cells hmX, RdS.len hdY sl22, RdS.idx hdY sl22, R1.intB hdY (Ext.pres eB), RdS.cells hdY, RdS.len hmY sl23, RdS.idx hmY sl23, RdS.cellB hmY (Ext.pres eB), RdS.cells hmY, RdS.len (OS.rd how1_4_0) sl22, RdS.idx (OS.rd how1_4_0) sl22, R1.intN (OS.rd how1_4_0), RdS.cells (OS.rd how1_4_0), RdS.len (OS.rd hM) sl23, RdS.idx (OS.rd hM) sl23, RdS.cellN (OS.rd hM), RdS.cells (OS.rd hM), RdS.len (OS.rd hB) sl56, RdS.idx (OS.rd hB) sl56, RdS.cellN (OS.rd hB), RdS.cells (OS.rd hB), BoxAt.cell hb0_0, BoxAt.cell hb0_1, BoxAt.cell hb0_2, BoxAt.cell hbx5, wrap_id]
          try simp -implicitDefEqProofs (disch := first | decide | assumption | omega) only [go_sem, RdS.len hdX sl22, RdS.idx hdX sl22, R1.intB hdX (Ext.pres eB), RdS.cells hdX, RdS.len hmX sl23, RdS.idx hmX sl23, RdS.cellB hmX (Ext.pres eB), RdS.cells hmX, RdS.len hdY sl22, RdS.idx hdY sl22, R1.intB hdY (Ext.pres eB), RdS.cells hdY, RdS.len hmY sl23, RdS.idx hmY sl23, RdS.cellB hmY (Ext.pres eB), RdS.cells hmY, RdS.len (OS.rd how1_4_0) sl22, RdS.idx (OS.rd how1_4_0) sl22, R1.intN (OS.rd how1_4_0), RdS.cells (OS.rd how1_4_0), RdS.len (OS.rd hM) sl23, RdS.idx (OS.rd hM) sl23, RdS.cellN (OS.rd hM), RdS.cells (OS.rd hM), RdS.len (OS.rd hB) sl56, RdS.idx (OS.rd hB) sl56, RdS.cellN (OS.rd hB), RdS.cells (OS.rd hB), BoxAt.cell hb0_0, BoxAt.cell hb0_1, BoxAt.cell hb0_2, BoxAt.cell hbx5, wrap_id]
          refine CallA.mono (sRow_okT _ _ X Y (i : Int) (a : Int) ((n : Int) - (i : Int)) (b : Int) ((tdP X Y).getD (((n : Int) - (1 : Int))).toNat 0) _ ⟨_, _, rfl, (RdS.pres hdX (Ext.pres eB)), (RdS.pres hmX (Ext.pres eB))⟩ ⟨_, _, rfl, (RdS.pres hdY (Ext.pres eB)), (RdS.pres hmY (Ext.pres eB))⟩ hX hY (by omega) (by omega) (by omega) (by omega) (by omega) (by assumption)) ?_
          intro vw15_15_0 h15_15
          rintro ⟨zvw15_15_0, fw15_15_0, rfl, how15_15_0, hfw15_15_0, e15_15⟩
          replace how1_4_0 := OS.ext how1_4_0 e15_15
          replace hM := OS.ext hM e15_15
          replace hB := OS.ext hB e15_15
          replace hb0_0 := BoxAt.ext hb0_0 e15_15
          replace hb0_1 := BoxAt.ext hb0_1 e15_15
          replace hb0_2 := BoxAt.ext hb0_2 e15_15
          replace hbx5 := BoxAt.ext hbx5 e15_15
          have := Ext.size e15_15
          replace eB := Ext.trans eB e15_15
          replace cL7 := Chg.stepE cL7 e15_15
          replace cL12 := Chg.stepE cL12 e15_15
          replace cL16 := Chg.stepE cL16 e15_15
          replace cL21 := Chg.stepE cL21 e15_15
          have hlhow15_15_0 := OS.lt how15_15_0
          try simp (disch := decide) only [outv_some, outv_none, put_puts]
          refine plK_pres (Ext.pres e15_15) ?_
          try simp -implicitDefEqProofs (disch := first | decide | assumption | omega) only [go_sem, RdS.len hdX sl22, RdS.idx hdX sl22, R1.intB hdX (Ext.pres eB), RdS.cells hdX, RdS.len hmX sl23, RdS.idx hmX sl23, RdS.cellB hmX (Ext.pres eB), RdS.cells hmX, RdS.len hdY sl22, RdS.idx hdY sl22, R1.intB hdY (Ext.pres eB), RdS.cells hdY, RdS.len hmY sl23, RdS.idx hmY sl23, RdS.cellB hmY (Ext.pres eB), RdS.cells hmY, RdS.len (OS.rd how1_4_0) sl22, RdS.idx (OS.rd how1_4_0) sl22, R1.intN (OS.rd how1_4_0), RdS.cells (OS.rd how1_4_0), RdS.len (OS.rd hM) sl23, RdS.idx (OS.rd hM) sl23, RdS.cellN (OS.rd hM), RdS.cells (OS.rd hM), RdS.len (OS.rd hB) sl56, RdS.idx (OS.rd hB) sl56, RdS.cellN (OS.rd hB), RdS.cells (OS.rd hB), RdS.len (OS.rd how15_15_0) sl22, RdS.idx (OS.rd how15_15_0) sl22, R1.intN (OS.rd how15_15_0), RdS.cells (OS.rd how15_15_0), BoxAt.cell hb0_0, BoxAt.cell hb0_1, BoxAt.cell hb0_2, BoxAt.cell hbx5, wrap_id]
          refine op_bs1 sz56 rfl (OS.one how15_15_0).2 ?_
          try simp (disch := decide) only [outv_some, outv_none, put_puts]
          refine plK_pres (Ext.pres (Ext.push _ _)) ?_
          try simp -implicitDefEqProofs (disch := first | decide | assumption | omega) only [go_sem, RdS.len hdX sl22, RdS.idx hdX sl22, R1.intB hdX (Ext.pres eB), RdS.cells hdX, RdS.len hmX sl23, RdS.idx hmX sl23, RdS.cellB hmX (Ext.pres eB), RdS.cells hmX, RdS.len hdY sl22, RdS.idx hdY sl22, R1.intB hdY (Ext.pres eB), RdS.cells hdY, RdS.len hmY sl23, RdS.idx hmY sl23, RdS.cellB hmY (Ext.pres eB), RdS.cells hmY, RdS.len (OS.rd how1_4_0) sl22, RdS.idx (OS.rd how1_4_0) sl22, R1.intN (OS.rd how1_4_0), RdS.cells (OS.rd how1_4_0), RdS.len (OS.rd hM) sl23, RdS.idx (OS.rd hM) sl23, RdS.cellN (OS.rd hM), RdS.cells (OS.rd hM), RdS.len (OS.rd hB) sl56, RdS.idx (OS.rd hB) sl56, RdS.cellN (OS.rd hB), RdS.cells (OS.rd hB), RdS.len (OS.rd how15_15_0) sl22, RdS.idx (OS.rd how15_15_0) sl22, R1.intN (OS.rd how15_15_0), RdS.cells (OS.rd how15_15_0), BoxAt.cell hb0_0, BoxAt.cell hb0_1, BoxAt.cell hb0_2, BoxAt.cell hbx5, wrap_id]
          refine op_append1 sz56 hB hfhB.nodup how15_15_0 hfw15_15_0.nodup (apart_lt hlhB hfw15_15_0 (by omega)) (by first | omega | (simp; omega)) rfl rfl ?_
          intro v15_17 h15_17 fp15_17 ho15_17 hn15_17 hs15_17 c15_17
          have hsz15_17 := c15_17.size
          have hfho15_17 : Fresh h9.size fp15_17 := Fresh.appd hfhB hfw15_15_0 (by omega) (by omega) hn15_17 hs15_17
          have sb26 : Sub [h9.size] h5_0.size fp15_17 := Sub.grow sb24 (Sub.fresh hfw15_15_0 (by omega)) (by omega) hs15_17
          have sb27 : Sub fphR h14.size fp15_17 := Sub.grow sb25 (Sub.fresh hfw15_15_0 (by omega)) (by omega) hs15_17
          have sb28 : Sub fphA h10_3.size fp15_17 := Sub.grow sbhB (Sub.fresh hfw15_15_0 (by omega)) (by omega) hs15_17
          replace how1_4_0 := OS.chg how1_4_0 c15_17 (apart_lt hlhow1_4_0 hfhB (by omega))
          replace hM := OS.chg hM c15_17 (apart_lt hlhM hfhB (by omega))
          replace hb0_0 := BoxAt.chgA hb0_0 c15_17 (apart_lt hlhb0_0 hfhB (by omega))
          replace hb0_1 := BoxAt.chgA hb0_1 c15_17 (apart_lt hlhb0_1 hfhB (by omega))
          replace hb0_2 := BoxAt.chgA hb0_2 c15_17 (apart_lt hlhb0_2 hfhB (by omega))
          replace hbx5 := BoxAt.chgA hbx5 c15_17 (apart_lt hlhbx5 hfhB (by omega))
          have := c15_17.size
          replace eB := Ext.then eB c15_17 (ge_of hfhB (by omega))
          replace cL7 := Chg.step cL7 c15_17 (Sub.fresh hfhB (by omega))
          replace cL12 := Chg.step cL12 c15_17 sb24
          replace cL16 := Chg.step cL16 c15_17 sb25
          replace cL21 := Chg.step cL21 c15_17 sbhB
          have hlho15_17 := OS.lt ho15_17
          try simp (disch := decide) only [outv_some, outv_none, put_puts]
          refine plK_last (by decide) ?_
          try simp -implicitDefEqProofs (disch := first | decide | assumption | omega) only [go_sem, RdS.len hdX sl22, RdS.idx hdX sl22, R1.intB hdX (Ext.pres eB), RdS.cells hdX, RdS.len hmX sl23, RdS.idx hmX sl23, RdS.cellB hmX (Ext.pres eB), RdS.cells hmX, RdS.len hdY sl22, RdS.idx hdY sl22, R1.intB hdY (Ext.pres eB), RdS.cells hdY, RdS.len hmY sl23, RdS.idx hmY sl23, RdS.cellB hmY (Ext.pres eB), RdS.cells hmY, RdS.len (OS.rd how1_4_0) sl22, RdS.idx (OS.rd how1_4_0) sl22, R1.intN (OS.rd how1_4_0), RdS.cells (OS.rd how1_4_0), RdS.len (OS.rd hM) sl23, RdS.idx (OS.rd hM) sl23, RdS.cellN (OS.rd hM), RdS.cells (OS.rd hM), RdS.len (OS.rd ho15_17) sl56, RdS.idx (OS.rd ho15_17) sl56, RdS.cellN (OS.rd ho15_17), RdS.cells (OS.rd ho15_17), BoxAt.cell hb0_0, BoxAt.cell hb0_1, BoxAt.cell hb0_2, BoxAt.cell hbx5, wrap_id]
          refine hK _ _ ?_
          clear hK K
          refine den_blk ?_
          refine den_region TTok ?_
          intro K hK
          simp -implicitDefEqProofs (disch := first | decide | assumption | omega) only [go_sem, RdS.len hdX sl22, RdS.idx hdX sl22, R1.intB hdX (Ext.pres eB), RdS.cells hdX, RdS.len hmX sl23, RdS.idx hmX sl23, RdS.cellB hmX (Ext.pres eB), RdS.cells hmX, RdS.len hdY sl22, RdS.idx hdY sl22, R1.intB hdY (Ext.pres eB), RdS.cells hdY, RdS.len hmY sl23, RdS.idx hmY sl23, RdS.cellB hmY (Ext.pres eB), RdS.cells hmY, RdS.len (OS.rd how1_4_0) sl22, RdS.idx (OS.rd how1_4_0) sl22, R1.intN (OS.rd how1_4_0), RdS.cells (OS.rd how1_4_0), RdS.len (OS.rd hM) sl23, RdS.idx (OS.rd hM) sl23, RdS.cellN (OS.rd hM), RdS.cells (OS.rd hM), RdS.len (OS.rd ho15_17) sl56, RdS.idx (OS.rd ho15_17) sl56, RdS.cellN (OS.rd ho15_17), RdS.cells (OS.rd ho15_17), BoxAt.cell hb0_0, BoxAt.cell hb0_1, BoxAt.cell hb0_2, BoxAt.cell hbx5, wrap_id]
          refine hK _ _ ?_
          clear hK K
          refine den_stop ?_
          rw [hri.1, take_stepG hri.2.1, show (placeP X Y i a ((n : Int) - i) b).toNat + 1 = (placeP X Y i a ((n : Int) - i) ((b + 1 : Nat) : Int)).toNat by have h := (place_next X Y i a ((n : Int) - i) b (by omega)).2.1; rw [show ((b + 1 : Nat) : Int) = (b : Int) + 1 by omega, h]; have := hri.2.2; omega] at ho15_17
          exact ⟨(b + 1, v15_17, fp15_17), by simp [HasL, puts_at], ⟨by first | omega | (dsimp only; omega), ho15_17, hfho15_17, sb28, cL21⟩, by first | omega | (dsimp only; omega)⟩
         ·try simp only [decide_eq_true_eq, decide_eq_false_iff_not, beq_iff_eq, beq_eq_false_iff_ne, bne_iff_ne, ne_eq, Bool.not_eq_true', Bool.not_eq_false', Bool.and_eq_true, Bool.or_eq_true, bne_eq_false_iff_eq] at c3
          refine den_exit ?_
          refine denX_code ?_
          refine denX_stop ?_
          refine denX_hit ?_
          refine den_blk ?_
          refine den_region TTok ?_
          intro K hK
          simp -implicitDefEqProofs (disch := first | decide | assumption | omega) only [go_sem, RdS.len hdX sl22, RdS.idx hdX sl22, R1.intB hdX (Ext.pres eB), RdS.cells hdX, RdS.len hmX sl23, RdS.idx hmX sl23, RdS.cellB hmX (Ext.pres eB), RdS.cells hmX, RdS.len hdY sl22, RdS.idx hdY sl22, R1.intB hdY (Ext.pres eB), RdS.cells hdY, RdS.len hmY sl23, RdS.idx hmY sl23, RdS.cellB hmY (Ext.pres eB), RdS.cells hmY, RdS.len (OS.rd how1_4_0) sl22, RdS.idx (OS.rd how1_4_0) sl22, R1.intN (OS.rd how1_4_0), RdS.cells (OS.rd how1_4_0), RdS.len (OS.rd hM) sl23, RdS.idx (OS.rd hM) sl23, RdS.cellN (OS.rd hM), RdS.cells (OS.rd hM), RdS.len (OS.rd hB) sl56, RdS.idx (OS.rd hB) sl56, RdS.cellN (OS.rd hB), RdS.cells (OS.rd hB), BoxAt.cell hb0_0, BoxAt.cell hb0_1, BoxAt.cell hb0_2, BoxAt.cell hbx5, wrap_id]
          refine hK _ _ ?_
          clear hK K
          refine den_stop ?_
          rw [show placeP X Y i a ((n : Int) - i) b = placeP X Y i ((a + 1 : Nat) : Int) ((n : Int) - i) 0 by rw [show (b : Int) = dimP Y ((n : Int) - i) by omega]; exact (place_next X Y i a ((n : Int) - i) 0 (by omega)).1] at hB
          exact ⟨(a + 1, vhB, fphB), by simp [HasL, puts_at], ⟨by first | omega | (dsimp only; omega), hB, hfhB, sb25, cL16⟩, by first | omega | (dsimp only; omega)⟩
       ·try simp only [decide_eq_true_eq, decide_eq_false_iff_not, beq_iff_eq, beq_eq_false_iff_ne, bne_iff_ne, ne_eq, Bool.not_eq_true', Bool.not_eq_false', Bool.and_eq_true, Bool.or_eq_true, bne_eq_false_iff_eq] at c2
        refine den_exit ?_
        refine denX_code ?_
        refine denX_stop ?_
        refine denX_hit ?_
        refine den_blk ?_
        refine den_region TTok ?_
        intro K hK
        simp -implicitDefEqProofs (disch := first | decide | assumption | omega) only [go_sem, RdS.len hdX sl22, RdS.idx hdX sl22, R1.intB hdX (Ext.pres eB), RdS.cells hdX, RdS.len hmX sl23, RdS.idx hmX sl23, RdS.cellB hmX (Ext.pres eB), RdS.cells hmX, RdS.len hdY sl22, RdS.idx hdY sl22, R1.intB hdY (Ext.pres eB), RdS.cells hdY, RdS.len hmY sl23, RdS.idx hmY sl23, RdS.cellB hmY (Ext.pres eB), RdS.cells hmY, RdS.len (OS.rd how1_4_0) sl22, RdS.idx (OS.rd how1_4_0) sl22, R1.intN (OS.rd how1_4_0), RdS.cells (OS.rd how1_4_0), RdS.len (OS.rd hM) sl23, RdS.idx (OS.rd hM) sl23, RdS.cellN (OS.rd hM), RdS.cells (OS.rd hM), RdS.len (OS.rd hA) sl56, RdS.idx (OS.rd hA) sl56, RdS.cellN (OS.rd hA), RdS.cells (OS.rd hA), BoxAt.cell hb0_0, BoxAt.cell hb0_1, BoxAt.cell hb0_2, BoxAt.cell hbx5, wrap_id]
        refine hK _ _ ?_
        clear hK K
        refine den_stop ?_
        rw [show placeP X Y i a ((n : Int) - i) 0 = sumP X Y n (i + 1) by have h := (place_next X Y i 0 ((n : Int) - i) 0 (by omega)).2.2.2; rw [show (a : Int) = dimP X i by omega, h, show (i : Int) + ((n : Int) - i) = n by omega, Int.toNat_natCast]] at hA
        exact ⟨(i + 1, vhA, fphA), by simp [HasL, puts_at], ⟨by first | omega | (dsimp only; omega), hA, hfhA, sb19, cL12⟩, by first | omega | (dsimp only; omega)⟩
     ·try simp only [decide_eq_true_eq, decide_eq_false_iff_not, beq_iff_eq, beq_eq_false_iff_ne, bne_iff_ne, ne_eq, Bool.not_eq_true', Bool.not_eq_false', Bool.and_eq_true, Bool.or_eq_true, bne_eq_false_iff_eq] at c1
      refine den_exit ?_
      refine denX_code ?_
      refine denX_stop ?_
      refine denX_hit ?_
      have hlm : ((tT X Y).take (n - 1)).length ≤ 11 := by rw [List.length_take]; omega
      refine den_region TTok ?_
      intro K hK
      simp -implicitDefEqProofs (disch := first | decide | assumption | omega) only [go_sem, fa30_2, ld23, RdS.len hdX sl22, RdS.idx hdX sl22, R1.intB hdX (Ext.pres eB), RdS.cells hdX, RdS.len hmX sl23, RdS.idx hmX sl23, RdS.cellB hmX (Ext.pres eB), RdS.cells hmX, RdS.len hdY sl22, RdS.idx hdY sl22, R1.intB hdY (Ext.pres eB), RdS.cells hdY, RdS.len hmY sl23, RdS.idx hmY sl23, RdS.cellB hmY (Ext.pres eB), RdS.cells hmY, RdS.len (OS.rd how1_4_0) sl22, RdS.idx (OS.rd how1_4_0) sl22, R1.intN (OS.rd how1_4_0), RdS.cells (OS.rd how1_4_0), RdS.len (OS.rd hM) sl23, RdS.idx (OS.rd hM) sl23, RdS.cellN (OS.rd hM), RdS.cells (OS.rd hM), RdS.len (OS.rd hR) sl56, RdS.idx (OS.rd hR) sl56, RdS.cellN (OS.rd hR), RdS.cells (OS.rd hR), BoxAt.cell hb0_0, BoxAt.cell hb0_1, BoxAt.cell hb0_2, BoxAt.cell hbx5, wrap_id]
      refine op_bs1 sz23 rfl (OS.one hR).2 ?_
      try simp -implicitDefEqProofs (disch := first | decide | assumption | omega) only [go_sem, RdS.len hdX sl22, RdS.idx hdX sl22, R1.intB hdX (Ext.pres eB), RdS.cells hdX, RdS.len hmX sl23, RdS.idx hmX sl23, RdS.cellB hmX (Ext.pres eB), RdS.cells hmX, RdS.len hdY sl22, RdS.idx hdY sl22, R1.intB hdY (Ext.pres eB), RdS.cells hdY, RdS.len hmY sl23, RdS.idx hmY sl23, RdS.cellB hmY (Ext.pres eB), RdS.cells hmY, RdS.len (OS.rd how1_4_0) sl22, RdS.idx (OS.rd how1_4_0) sl22, R1.intN (OS.rd how1_4_0), RdS.cells (OS.rd how1_4_0), RdS.len (OS.rd hM) sl23, RdS.idx (OS.rd hM) sl23, RdS.cellN (OS.rd hM), RdS.cells (OS.rd hM), RdS.len (OS.rd hR) sl56, RdS.idx (OS.rd hR) sl56, RdS.cellN (OS.rd hR), RdS.cells (OS.rd hR), BoxAt.cell hb0_0, BoxAt.cell hb0_1, BoxAt.cell hb0_2, BoxAt.cell hbx5, wrap_id]
      refine op_append1 sz23 hM hfhM.nodup hR hfhR.nodup (apart_lt hlhM hfhR (by omega)) (by first | omega | (simp; omega)) rfl rfl ?_
      intro v16_4 h16_4 fp16_4 ho16_4 hn16_4 hs16_4 c16_4
      have hsz16_4 := c16_4.size
      have hfho16_4 : Fresh h0_2.size fp16_4 := Fresh.appd hfhM hfhR (by omega) (by omega) hn16_4 hs16_4
      have sb29 : Sub (fpJho1_5 ++ ([bJhb1_7])) hj3.size fp16_4 := Sub.grow sbhM (Sub.fresh hfhR (by omega)) (by omega) hs16_4
      replace how1_4_0 := OS.chg how1_4_0 c16_4 ap10
      replace hb0_0 := BoxAt.chgA hb0_0 c16_4 (apart_lt hlhb0_0 hfhM (by omega))
      replace hb0_1 := BoxAt.chgA hb0_1 c16_4 (apart_lt hlhb0_1 hfhM (by omega))
      replace hb0_2 := BoxAt.chgA hb0_2 c16_4 (apart_lt hlhb0_2 hfhM (by omega))
      replace hbx5 := BoxAt.chgA hbx5 c16_4 (Apart.symm ap_hM_hbx5)
      have := c16_4.size
      replace eB := Ext.then eB c16_4 (ge_of hfhM (by omega))
      replace cL7 := Chg.step cL7 c16_4 sbhM
      have ap30 : Apart fpJhow1_4_0 fp16_4 := Apart.grow hlhow1_4_0 (by omega) ap10 (apart_lt hlhow1_4_0 hfhR (by omega)) hs16_4
      have ap31 : Apart [bJhb1_7] fp16_4 := Apart.grow hlhbx5 (by omega) (Apart.symm ap_hM_hbx5) (apart_lt hlhbx5 hfhR (by omega)) hs16_4
      have hlho16_4 := OS.lt ho16_4
      try simp -implicitDefEqProofs (disch := first | decide | assumption | omega) only [go_sem, fa30_2, RdS.len hdX sl22, RdS.idx hdX sl22, R1.intB hdX (Ext.pres eB), RdS.cells hdX, RdS.len hmX sl23, RdS.idx hmX sl23, RdS.cellB hmX (Ext.pres eB), RdS.cells hmX, RdS.len hdY sl22, RdS.idx hdY sl22, R1.intB hdY (Ext.pres eB), RdS.cells hdY, RdS.len hmY sl23, RdS.idx hmY sl23, RdS.cellB hmY (Ext.pres eB), RdS.cells hmY, RdS.len (OS.rd how1_4_0) sl22, RdS.idx (OS.rd how1_4_0) sl22, R1.intN (OS.rd how1_4_0), RdS.cells (OS.rd how1_4_0), RdS.len (OS.rd ho16_4) sl23, RdS.idx (OS.rd ho16_4) sl23, RdS.cellN (OS.rd ho16_4), RdS.cells (OS.rd ho16_4), BoxAt.cell hb0_0, BoxAt.cell hb0_1, BoxAt.cell hb0_2, BoxAt.cell hbx5, wrap_id]
      refine op_storeB (cs' := #[.int .i64 (X.p), vw1_4_0, v16_4]) st23 hbx5 rfl (OS.one ho16_4).2 rfl (by simp) (allOne_mem (l := [v16_4]) ⟨(OS.one ho16_4).1, trivial⟩) rfl ?_
      intro h16_6 hbx5 c16_6
      replace how1_4_0 := OS.chg how1_4_0 c16_6 apJ_how1_4_0_hb1_7
      replace ho16_4 := OS.chg ho16_4 c16_6 (Apart.symm ap31)
      replace hb0_0 := BoxAt.chgA hb0_0 c16_6 (apart_lt hlhb0_0 hfhbx5 (by omega))
      replace hb0_1 := BoxAt.chgA hb0_1 c16_6 (apart_lt hlhb0_1 hfhbx5 (by omega))
      replace hb0_2 := BoxAt.chgA hb0_2 c16_6 (apart_lt hlhb0_2 hfhbx5 (by omega))
      have := c16_6.size
      replace eB := Ext.then eB c16_6 (ge_of hfhbx5 (by omega))
      replace cL7 := Chg.step cL7 c16_6 (Sub.right Sub.refl)
      try simp -implicitDefEqProofs (disch := first | decide | assumption | omega) only [go_sem, RdS.len hdX sl22, RdS.idx hdX sl22, R1.intB hdX (Ext.pres eB), RdS.cells hdX, RdS.len hmX sl23, RdS.idx hmX sl23, RdS.cellB hmX (Ext.pres eB), RdS.cells hmX, RdS.len hdY sl22, RdS.idx hdY sl22, R1.intB hdY (Ext.pres eB), RdS.cells hdY, RdS.len hmY sl23, RdS.idx hmY sl23, RdS.cellB hmY (Ext.pres eB), RdS.cells hmY, RdS.len (OS.rd how1_4_0) sl22, RdS.idx (OS.rd how1_4_0) sl22, R1.intN (OS.rd how1_4_0), RdS.cells (OS.rd how1_4_0), RdS.len (OS.rd ho16_4) sl23, RdS.idx (OS.rd ho16_4) sl23, RdS.cellN (OS.rd ho16_4), RdS.cells (OS.rd ho16_4), BoxAt.cell hb0_0, BoxAt.cell hb0_1, BoxAt.cell hb0_2, BoxAt.cell hbx5, wrap_id]
      refine hK _ _ ?_
      clear hK K
      refine den_blk ?_
      refine den_region TTok ?_
      intro K hK
      simp -implicitDefEqProofs (disch := first | decide | assumption | omega) only [go_sem, RdS.len hdX sl22, RdS.idx hdX sl22, R1.intB hdX (Ext.pres eB), RdS.cells hdX, RdS.len hmX sl23, RdS.idx hmX sl23, RdS.cellB hmX (Ext.pres eB), RdS.cells hmX, RdS.len hdY sl22, RdS.idx hdY sl22, R1.intB hdY (Ext.pres eB), RdS.cells hdY, RdS.len hmY sl23, RdS.idx hmY sl23, RdS.cellB hmY (Ext.pres eB), RdS.cells hmY, RdS.len (OS.rd how1_4_0) sl22, RdS.idx (OS.rd how1_4_0) sl22, R1.intN (OS.rd how1_4_0), RdS.cells (OS.rd how1_4_0), RdS.len (OS.rd ho16_4) sl23, RdS.idx (OS.rd ho16_4) sl23, RdS.cellN (OS.rd ho16_4), RdS.cells (OS.rd ho16_4), BoxAt.cell hb0_0, BoxAt.cell hb0_1, BoxAt.cell hb0_2, BoxAt.cell hbx5, wrap_id]
      refine hK _ _ ?_
      clear hK K
      refine den_stop ?_
      rw [show ((tT X Y).getD (n - 1) default).take (sumP X Y n i).toNat = ((tT X Y).getD (n - 1) default) from List.take_of_length_le (by rw [show i = n + 1 by omega]; omega), take_stepG (by omega), show n - 1 + 1 = n + 1 - 1 by omega] at ho16_4
      exact ⟨(n + 1, v16_4, fp16_4), by simp [HasL, puts_at], ⟨by omega, by omega, ho16_4, hfho16_4, sb29, hbx5, (Apart.symm ap31), cL7⟩, by first | omega | (dsimp only; omega)⟩
   ·try simp only [decide_eq_true_eq, decide_eq_false_iff_not, beq_iff_eq, beq_eq_false_iff_ne, bne_iff_ne, ne_eq, Bool.not_eq_true', Bool.not_eq_false', Bool.and_eq_true, Bool.or_eq_true, bne_eq_false_iff_eq] at c0
    refine den_exit ?_
    refine denX_code ?_
    refine denX_stop ?_
    refine denX_hit ?_
    refine den_seq ?_
    refine den_region TTok ?_
    intro K hK
    simp -implicitDefEqProofs (disch := first | decide | assumption | omega) only [go_sem, ld30, RdS.len hdX sl22, RdS.idx hdX sl22, R1.intB hdX (Ext.pres eB), RdS.cells hdX, RdS.len hmX sl23, RdS.idx hmX sl23, RdS.cellB hmX (Ext.pres eB), RdS.cells hmX, RdS.len hdY sl22, RdS.idx hdY sl22, R1.intB hdY (Ext.pres eB), RdS.cells hdY, RdS.len hmY sl23, RdS.idx hmY sl23, RdS.cellB hmY (Ext.pres eB), RdS.cells hmY, RdS.len (OS.rd how1_4_0) sl22, RdS.idx (OS.rd how1_4_0) sl22, R1.intN (OS.rd how1_4_0), RdS.cells (OS.rd how1_4_0), RdS.len (OS.rd hM) sl23, RdS.idx (OS.rd hM) sl23, RdS.cellN (OS.rd hM), RdS.cells (OS.rd hM), BoxAt.cell hb0_2, BoxAt.cell hbx5, wrap_id]
    refine op_storeB (cs' := #[.int .i64 (X.p), vw1_4_0, vhM]) st30 hb0_2 rfl rfl rfl (by simp) (allOne_mem (l := [.int .i64 (X.p), vw1_4_0, vhM]) ⟨rfl, (OS.one how1_4_0).1, (OS.one hM).1, trivial⟩) rfl ?_
    intro h17_1 hb0_2 c17_1
    replace how1_4_0 := OS.chg how1_4_0 c17_1 (apart_gt hfhow1_4_0 hlhb0_2 (by omega))
    replace hM := OS.chg hM c17_1 (apart_gt hfhM hlhb0_2 (by omega))
    replace hbx5 := BoxAt.chgA hbx5 c17_1 (apart_gt hfhbx5 hlhb0_2 (by omega))
    have := c17_1.size
    replace eB := Ext.then eB c17_1 (ge_of hfhb0_2 (by omega))
    try simp -implicitDefEqProofs (disch := first | decide | assumption | omega) only [go_sem, RdS.len hdX sl22, RdS.idx hdX sl22, R1.intB hdX (Ext.pres eB), RdS.cells hdX, RdS.len hmX sl23, RdS.idx hmX sl23, RdS.cellB hmX (Ext.pres eB), RdS.cells hmX, RdS.len hdY sl22, RdS.idx hdY sl22, R1.intB hdY (Ext.pres eB), RdS.cells hdY, RdS.len hmY sl23, RdS.idx hmY sl23, RdS.cellB hmY (Ext.pres eB), RdS.cells hmY, RdS.len (OS.rd how1_4_0) sl22, RdS.idx (OS.rd how1_4_0) sl22, R1.intN (OS.rd how1_4_0), RdS.cells (OS.rd how1_4_0), RdS.len (OS.rd hM) sl23, RdS.idx (OS.rd hM) sl23, RdS.cellN (OS.rd hM), RdS.cells (OS.rd hM), BoxAt.cell hb0_2, BoxAt.cell hbx5, wrap_id]
    refine hK _ _ ?_
    clear hK K
    refine den_ret ?_
    simp -implicitDefEqProofs (disch := first | decide | assumption | omega) only [go_sem, RdS.len hdX sl22, RdS.idx hdX sl22, R1.intB hdX (Ext.pres eB), RdS.cells hdX, RdS.len hmX sl23, RdS.idx hmX sl23, RdS.cellB hmX (Ext.pres eB), RdS.cells hmX, RdS.len hdY sl22, RdS.idx hdY sl22, R1.intB hdY (Ext.pres eB), RdS.cells hdY, RdS.len hmY sl23, RdS.idx hmY sl23, RdS.cellB hmY (Ext.pres eB), RdS.cells hmY, RdS.len (OS.rd how1_4_0) sl22, RdS.idx (OS.rd how1_4_0) sl22, R1.intN (OS.rd how1_4_0), RdS.cells (OS.rd how1_4_0), RdS.len (OS.rd hM) sl23, RdS.idx (OS.rd hM) sl23, RdS.cellN (OS.rd hM), RdS.cells (OS.rd hM), BoxAt.cell hb0_2, BoxAt.cell hbx5, wrap_id, resP_c1, ld30]
    have hM2 := hM
    rw [List.take_of_length_le (by omega)] at hM2
    exact ⟨_, _, _, _, rfl, how1_4_0, hM2, Fresh.two hfhow1_4_0 hfhM ap10 (by omega) (by omega), eB⟩
open Go
set_option maxRecDepth 100000 in
theorem iTns_okT (vX vY : Value) (X : Cx) (Y : Cx) (h : Heap) (rX : RC h vX X) (rY : RC h vY Y) (hX : IsT X) (hY : IsT Y) (hpp : X.p = Y.p) : CallA Try.prog 104 #[vX, vY] h fun v' h' => ∃ wd0 wm0 fd0 fm0, v' = .tuple #[.agg #[.int .i64 ((teP X Y).1).p, wd0, wm0], .int .i64 ((teP X Y).2)] ∧ O1 h' wd0 ((teP X Y).1).dims fd0 ∧ O3 h' wm0 ((teP X Y).1).maps fm0 ∧ Fresh h.size (fd0 ++ fm0) ∧ Ext h h' := by
 obtain ⟨vdX, vmX, rfl, hdX, hmX⟩ := rX
 have hledX := RdS.le hdX
 have hlemX := RdS.le hmX
 obtain ⟨vdY, vmY, rfl, hdY, hmY⟩ := rY
 have hledY := RdS.le hdY
 have hlemY := RdS.le hmY
 have hlX := hX.len
 have hlY := hY.len
 have hpb := isP_bnd hX.p
 have htl := tdP_len X Y
 have hTs := tT_shT hX hY
 have hTl := hTs.len
 have hzb := t_zb X Y hpb.1
 refine callA_intro TTok (args := [_, _]) Try.func104 (by kernel_rfl) rfl 31 rfl (by simp) [.cell 4 30, .tmp 5] rfl ?_
 simp only [idxs, Nat.reduceAdd]
 refine den_seq ?_
 refine den_region TTok ?_
 intro K hK
 simp -implicitDefEqProofs (disch := first | decide | assumption | omega) only [go_sem, RdS.len hdX sl22, RdS.idx hdX sl22, R1.intB hdX (HPres.refl _), RdS.cells hdX, RdS.len hmX sl23, RdS.idx hmX sl23, RdS.cellB hmX (HPres.refl _), RdS.cells hmX, RdS.len hdY sl22, RdS.idx hdY sl22, R1.intB hdY (HPres.refl _), RdS.cells hdY, RdS.len hmY sl23, RdS.idx hmY sl23, RdS.cellB hmY (HPres.refl _), RdS.cells hmY, wrap_id, bC0]
 refine op_box (cs := #[.int .i64 (X.p), vdX, vmX]) rfl ?_
 intro h0_0 e0_0 hb0_0 z0_0
 have := Ext.size e0_0
 have eB := e0_0
 have hfhb0_0 : Fresh h.size [h.size] := Fresh.one _
 have hlhb0_0 := one_lt (show h.size < h0_0.size by omega)
 try simp -implicitDefEqProofs (disch := first | decide | assumption | omega) only [go_sem, RdS.len hdX sl22, RdS.idx hdX sl22, R1.intB hdX (Ext.pres eB), RdS.cells hdX, RdS.len hmX sl23, RdS.idx hmX sl23, RdS.cellB hmX (Ext.pres eB), RdS.cells hmX, RdS.len hdY sl22, RdS.idx hdY sl22, R1.intB hdY (Ext.pres eB), RdS.cells hdY, RdS.len hmY sl23, RdS.idx hmY sl23, RdS.cellB hmY (Ext.pres eB), RdS.cells hmY, BoxAt.cell hb0_0, wrap_id, bC0]
 refine op_box (cs := #[.int .i64 (Y.p), vdY, vmY]) rfl ?_
 intro h0_1 e0_1 hb0_1 z0_1
 replace hb0_0 := BoxAt.ext hb0_0 e0_1
 have := Ext.size e0_1
 replace eB := Ext.trans eB e0_1
 have hfhb0_1 : Fresh h0_0.size [h0_0.size] := Fresh.one _
 have hlhb0_1 := one_lt (show h0_0.size < h0_1.size by omega)
 try simp -implicitDefEqProofs (disch := first | decide | assumption | omega) only [go_sem, RdS.len hdX sl22, RdS.idx hdX sl22, R1.intB hdX (Ext.pres eB), RdS.cells hdX, RdS.len hmX sl23, RdS.idx hmX sl23, RdS.cellB hmX (Ext.pres eB), RdS.cells hmX, RdS.len hdY sl22, RdS.idx hdY sl22, R1.intB hdY (Ext.pres eB), RdS.cells hdY, RdS.len hmY sl23, RdS.idx hmY sl23, RdS.cellB hmY (Ext.pres eB), RdS.cells hmY, BoxAt.cell hb0_0, BoxAt.cell hb0_1, wrap_id, bC0]
 refine op_alloc (cs := #[.int .i64 0, .slice none 0 0, .slice none 0 0]) (by kernel_rfl) ?_
 intro h0_2 e0_2 hb0_2 z0_2
 replace hb0_0 := BoxAt.ext hb0_0 e0_2
 replace hb0_1 := BoxAt.ext hb0_1 e0_2
 have := Ext.size e0_2
 replace eB := Ext.trans eB e0_2
 have hfhb0_2 : Fresh h0_1.size [h0_1.size] := Fresh.one _
 have hlhb0_2 := one_lt (show h0_1.size < h0_2.size by omega)
 try simp -implicitDefEqProofs (disch := first | decide | assumption | omega) only [go_sem, RdS.len hdX sl22, RdS.idx hdX sl22, R1.intB hdX (Ext.pres eB), RdS.cells hdX, RdS.len hmX sl23, RdS.idx hmX sl23, RdS.cellB hmX (Ext.pres eB), RdS.cells hmX, RdS.len hdY sl22, RdS.idx hdY sl22, R1.intB hdY (Ext.pres eB), RdS.cells hdY, RdS.len hmY sl23, RdS.idx hmY sl23, RdS.cellB hmY (Ext.pres eB), RdS.cells hmY, BoxAt.cell hb0_0, BoxAt.cell hb0_1, BoxAt.cell hb0_2, wrap_id, bC0]
 refine hK _ _ ?_
 clear hK K
 refine den_seq ?_
 refine den_region TTok ?_
 intro K hK
 simp -implicitDefEqProofs (disch := first | decide | assumption | omega) only [go_sem, ld30, RdS.len hdX sl22, RdS.idx hdX sl22, R1.intB hdX (Ext.pres eB), RdS.cells hdX, RdS.len hmX sl23, RdS.idx hmX sl23, RdS.cellB hmX (Ext.pres eB), RdS.cells hmX, RdS.len hdY sl22, RdS.idx hdY sl22, R1.intB hdY (Ext.pres eB), RdS.cells hdY, RdS.len hmY sl23, RdS.idx hmY sl23, RdS.cellB hmY (Ext.pres eB), RdS.cells hmY, BoxAt.cell hb0_0, BoxAt.cell hb0_1, BoxAt.cell hb0_2, wrap_id, bC0]
 try simp -implicitDefEqProofs (disch := first | decide | assumption | omega) only [go_sem, RdS.len hdX sl22, RdS.idx hdX sl22, R1.intB hdX (Ext.pres eB), RdS.cells hdX, RdS.len hmX sl23, RdS.idx hmX sl23, RdS.cellB hmX (Ext.pres eB), RdS.cells hmX, RdS.len hdY sl22, RdS.idx hdY sl22, R1.intB hdY (Ext.pres eB), RdS.cells hdY, RdS.len hmY sl23, RdS.idx hmY sl23, RdS.cellB hmY (Ext.pres eB), RdS.cells hmY, BoxAt.cell hb0_0, BoxAt.cell hb0_1, BoxAt.cell hb0_2, wrap_id, bC0]
 refine CallA.mono (iDims_okT _ _ X Y _ ⟨_, _, rfl, (RdS.pres hdX (Ext.pres eB)), (RdS.pres hmX (Ext.pres eB))⟩ ⟨_, _, rfl, (RdS.pres hdY (Ext.pres eB)), (RdS.pres hmY (Ext.pres eB))⟩ (hX) (hY)) ?_
 intro vw1_2_0 h1_2
 rintro ⟨zvw1_2_0, fw1_2_0, rfl, how1_2_0, hfw1_2_0, e1_2⟩
 replace hb0_0 := BoxAt.ext hb0_0 e1_2
 replace hb0_1 := BoxAt.ext hb0_1 e1_2
 replace hb0_2 := BoxAt.ext hb0_2 e1_2
 have := Ext.size e1_2
 replace eB := Ext.trans eB e1_2
 have hlhow1_2_0 := OS.lt how1_2_0
 try simp -implicitDefEqProofs (disch := first | decide | assumption | omega) only [go_sem, RdS.len hdX sl22, RdS.idx hdX sl22, R1.intB hdX (Ext.pres eB), RdS.cells hdX, RdS.len hmX sl23, RdS.idx hmX sl23, RdS.cellB hmX (Ext.pres eB), RdS.cells hmX, RdS.len hdY sl22, RdS.idx hdY sl22, R1.intB hdY (Ext.pres eB), RdS.cells hdY, RdS.len hmY sl23, RdS.idx hmY sl23, RdS.cellB hmY (Ext.pres eB), RdS.cells hmY, RdS.len (OS.rd how1_2_0) sl22, RdS.idx (OS.rd how1_2_0) sl22, R1.intN (OS.rd how1_2_0), RdS.cells (OS.rd how1_2_0), BoxAt.cell hb0_0, BoxAt.cell hb0_1, BoxAt.cell hb0_2, wrap_id, bC0]
 refine hK _ _ ?_
 clear hK K
 refine den_seq ?_
 refine den_seq ?_
 refine den_merge [(18, .bool (((decide ((6 : Int) < ((tdP X Y).length : Int))) || (!((!(tdP X Y).any (fun x => decide (8 < x))))))))] [2, 3, 4, 6] (fun H => Ext h1_2 H) ?_ ?_
  -- a way
 ·refine den_region TTok ?_
  intro K hK
  simp -implicitDefEqProofs (disch := first | decide | assumption | (simp (disch := decide) only [slotOf_zero, slotOf_succ, Option.map_some, puts_same, puts_ne, gv_bool, gv_undef, tt, tf, ft, ff, eq_self, if_true, if_false, Bool.false_eq_true, Bool.not_true, Bool.not_false]; done) | omega) only [go_sem, RdS.len hdX sl22, RdS.idx hdX sl22, R1.intB hdX (Ext.pres eB), RdS.cells hdX, RdS.len hmX sl23, RdS.idx hmX sl23, RdS.cellB hmX (Ext.pres eB), RdS.cells hmX, RdS.len hdY sl22, RdS.idx hdY sl22, R1.intB hdY (Ext.pres eB), RdS.cells hdY, RdS.len hmY sl23, RdS.idx hmY sl23, RdS.cellB hmY (Ext.pres eB), RdS.cells hmY, RdS.len (OS.rd how1_2_0) sl22, RdS.idx (OS.rd how1_2_0) sl22, R1.intN (OS.rd how1_2_0), RdS.cells (OS.rd how1_2_0), BoxAt.cell hb0_0, BoxAt.cell hb0_1, BoxAt.cell hb0_2, wrap_id, bC0]
  refine opsP_F (by simp (disch := decide) only [slotOf_zero, slotOf_succ, Option.map_some, puts_same, puts_ne, gv_bool, gv_undef, tt, tf, ft, ff, eq_self, if_true, if_false, Bool.false_eq_true, Bool.not_true, Bool.not_false]; rfl) (fun g1 => ?_) (fun g1 => ?_)
  ·try simp -implicitDefEqProofs (disch := first | decide | assumption | (simp (disch := decide) only [slotOf_zero, slotOf_succ, Option.map_some, puts_same, puts_ne, gv_bool, gv_undef, tt, tf, ft, ff, eq_self, if_true, if_false, Bool.false_eq_true, Bool.not_true, Bool.not_false, g1]; done) | omega) only [go_sem, RdS.len hdX sl22, RdS.idx hdX sl22, R1.intB hdX (Ext.pres eB), RdS.cells hdX, RdS.len hmX sl23, RdS.idx hmX sl23, RdS.cellB hmX (Ext.pres eB), RdS.cells hmX, RdS.len hdY sl22, RdS.idx hdY sl22, R1.intB hdY (Ext.pres eB), RdS.cells hdY, RdS.len hmY sl23, RdS.idx hmY sl23, RdS.cellB hmY (Ext.pres eB), RdS.cells hmY, RdS.len (OS.rd how1_2_0) sl22, RdS.idx (OS.rd how1_2_0) sl22, R1.intN (OS.rd how1_2_0), RdS.cells (OS.rd how1_2_0), BoxAt.cell hb0_0, BoxAt.cell hb0_1, BoxAt.cell hb0_2, wrap_id, bC0, g1, eq_self, if_true, if_false, Bool.false_eq_true]
   try simp -implicitDefEqProofs (disch := first | decide | assumption | omega) only [go_sem, RdS.len hdX sl22, RdS.idx hdX sl22, R1.intB hdX (Ext.pres eB), RdS.cells hdX, RdS.len hmX sl23, RdS.idx hmX sl23, RdS.cellB hmX (Ext.pres eB), RdS.cells hmX, RdS.len hdY sl22, RdS.idx hdY sl22, R1.intB hdY (Ext.pres eB), RdS.cells hdY, RdS.len hmY sl23, RdS.idx hmY sl23, RdS.cellB hmY (Ext.pres eB), RdS.cells hmY, RdS.len (OS.rd how1_2_0) sl22, RdS.idx (OS.rd how1_2_0) sl22, R1.intN (OS.rd how1_2_0), RdS.cells (OS.rd how1_2_0), BoxAt.cell hb0_0, BoxAt.cell hb0_1, BoxAt.cell hb0_2, wrap_id, bC0]
   refine CallA.mono (arS_ok _ _ _ (OS.rd how1_2_0)) ?_
   intro v_ h2_5
   rintro ⟨rfl, e2_5⟩
   replace how1_2_0 := OS.ext how1_2_0 e2_5
   replace hb0_0 := BoxAt.ext hb0_0 e2_5
   replace hb0_1 := BoxAt.ext hb0_1 e2_5
   replace hb0_2 := BoxAt.ext hb0_2 e2_5
   have := Ext.size e2_5
   replace eB := Ext.trans eB e2_5
   try simp -implicitDefEqProofs (disch := first | decide | assumption | (simp (disch := decide) only [slotOf_zero, slotOf_succ, Option.map_some, puts_same, puts_ne, gv_bool, gv_undef, tt, tf, ft, ff, eq_self, if_true, if_false, Bool.false_eq_true, Bool.not_true, Bool.not_false, g1]; done) | omega) only [go_sem, RdS.len hdX sl22, RdS.idx hdX sl22, R1.intB hdX (Ext.pres eB), RdS.cells hdX, RdS.len hmX sl23, RdS.idx hmX sl23, RdS.cellB hmX (Ext.pres eB), RdS.cells hmX, RdS.len hdY sl22, RdS.idx hdY sl22, R1.intB hdY (Ext.pres eB), RdS.cells hdY, RdS.len hmY sl23, RdS.idx hmY sl23, RdS.cellB hmY (Ext.pres eB), RdS.cells hmY, RdS.len (OS.rd how1_2_0) sl22, RdS.idx (OS.rd how1_2_0) sl22, R1.intN (OS.rd how1_2_0), RdS.cells (OS.rd how1_2_0), BoxAt.cell hb0_0, BoxAt.cell hb0_1, BoxAt.cell hb0_2, wrap_id, bC0, g1, eq_self, if_true, if_false, Bool.false_eq_true]
   refine hK _ _ ?_
   clear hK K
   refine den_stop ?_
   refine ⟨?_, e2_5⟩
   first | (simp (disch := decide) only [go_sem, g1, eq_self, Bool.true_and, Bool.and_true, Bool.false_and, Bool.and_false, Bool.true_or, Bool.or_true, Bool.false_or, Bool.or_false, if_true, if_false, Bool.false_eq_true]; done) | simp [HasL, sel, puts_at, g1]
  ·try simp -implicitDefEqProofs (disch := first | decide | assumption | (simp (disch := decide) only [slotOf_zero, slotOf_succ, Option.map_some, puts_same, puts_ne, gv_bool, gv_undef, tt, tf, ft, ff, eq_self, if_true, if_false, Bool.false_eq_true, Bool.not_true, Bool.not_false, g1]; done) | omega) only [go_sem, RdS.len hdX sl22, RdS.idx hdX sl22, R1.intB hdX (Ext.pres eB), RdS.cells hdX, RdS.len hmX sl23, RdS.idx hmX sl23, RdS.cellB hmX (Ext.pres eB), RdS.cells hmX, RdS.len hdY sl22, RdS.idx hdY sl22, R1.intB hdY (Ext.pres eB), RdS.cells hdY, RdS.len hmY sl23, RdS.idx hmY sl23, RdS.cellB hmY (Ext.pres eB), RdS.cells hmY, RdS.len (OS.rd how1_2_0) sl22, RdS.idx (OS.rd how1_2_0) sl22, R1.intN (OS.rd how1_2_0), RdS.cells (OS.rd how1_2_0), BoxAt.cell hb0_0, BoxAt.cell hb0_1, BoxAt.cell hb0_2, wrap_id, bC0, g1, eq_self, if_true, if_false, Bool.false_eq_true]
   refine hK _ _ ?_
   clear hK K
   refine den_stop ?_
   refine ⟨?_, Ext.refl _⟩
   first | (simp (disch := decide) only [go_sem, g1, eq_self, Bool.true_and, Bool.and_true, Bool.false_and, Bool.and_false, Bool.true_or, Bool.or_true, Bool.false_or, Bool.or_false, if_true, if_false, Bool.false_eq_true]; done) | simp [HasL, sel, puts_at, g1]
 intro en2 h3 e4
 replace how1_2_0 := OS.ext how1_2_0 e4
 replace hb0_0 := BoxAt.ext hb0_0 e4
 replace hb0_1 := BoxAt.ext hb0_1 e4
 replace hb0_2 := BoxAt.ext hb0_2 e4
 have := Ext.size e4
 replace eB := Ext.trans eB e4
 simp (disch := decide) only [go_sem]
 refine den_cond rfl (fun c0 => ?_) (fun c0 => ?_)
 ·try simp only [decide_eq_true_eq, decide_eq_false_iff_not, beq_iff_eq, beq_eq_false_iff_ne, bne_iff_ne, ne_eq, Bool.not_eq_true', Bool.not_eq_false', Bool.and_eq_true, Bool.or_eq_true, bne_eq_false_iff_eq, Bool.or_eq_false_iff, Bool.and_eq_false_iff] at c0
  have hnf : ¬ fitP (tdP X Y) = true := fit_no (by simpa using c0)
  refine den_seq ?_
  refine den_region TTok ?_
  intro K hK
  simp -implicitDefEqProofs (disch := first | decide | assumption | omega) only [go_sem, RdS.len hdX sl22, RdS.idx hdX sl22, R1.intB hdX (Ext.pres eB), RdS.cells hdX, RdS.len hmX sl23, RdS.idx hmX sl23, RdS.cellB hmX (Ext.pres eB), RdS.cells hmX, RdS.len hdY sl22, RdS.idx hdY sl22, R1.intB hdY (Ext.pres eB), RdS.cells hdY, RdS.len hmY sl23, RdS.idx hmY sl23, RdS.cellB hmY (Ext.pres eB), RdS.cells hmY, BoxAt.cell hb0_2, wrap_id, bC0]
  refine op_storeB (cs' := #[.int .i64 ((0 : Int)), .slice none 0 0, .slice none 0 0]) st30 hb0_2 rfl rfl rfl (by simp) (allOne_mem (l := [.int .i64 ((0 : Int)), .slice none 0 0, .slice none 0 0]) ⟨rfl, rfl, rfl, trivial⟩) rfl ?_
  intro h3_1 hb0_2 c3_1
  have := c3_1.size
  replace eB := Ext.then eB c3_1 (ge_of hfhb0_2 (by omega))
  try simp -implicitDefEqProofs (disch := first | decide | assumption | omega) only [go_sem, RdS.len hdX sl22, RdS.idx hdX sl22, R1.intB hdX (Ext.pres eB), RdS.cells hdX, RdS.len hmX sl23, RdS.idx hmX sl23, RdS.cellB hmX (Ext.pres eB), RdS.cells hmX, RdS.len hdY sl22, RdS.idx hdY sl22, R1.intB hdY (Ext.pres eB), RdS.cells hdY, RdS.len hmY sl23, RdS.idx hmY sl23, RdS.cellB hmY (Ext.pres eB), RdS.cells hmY, BoxAt.cell hb0_2, wrap_id, bC0]
  refine hK _ _ ?_
  clear hK K
  refine den_ret ?_
  simp -implicitDefEqProofs (disch := first | decide | assumption | omega) only [go_sem, RdS.len hdX sl22, RdS.idx hdX sl22, R1.intB hdX (Ext.pres eB), RdS.cells hdX, RdS.len hmX sl23, RdS.idx hmX sl23, RdS.cellB hmX (Ext.pres eB), RdS.cells hmX, RdS.len hdY sl22, RdS.idx hdY sl22, R1.intB hdY (Ext.pres eB), RdS.cells hdY, RdS.len hmY sl23, RdS.idx hmY sl23, RdS.cellB hmY (Ext.pres eB), RdS.cells hmY, BoxAt.cell hb0_2, wrap_id, bC0, resP_ct, ld30]
  have hz : teP X Y = (⟨0, [], []⟩, 3) := by rw [teP, if_neg hnf]
  rw [hz]
  exact ⟨.slice none 0 0, .slice none 0 0, [], [], rfl, OS.nil, OS.nil, Fresh.nil _, eB⟩
 ·try simp only [decide_eq_true_eq, decide_eq_false_iff_not, beq_iff_eq, beq_eq_false_iff_ne, bne_iff_ne, ne_eq, Bool.not_eq_true', Bool.not_eq_false', Bool.and_eq_true, Bool.or_eq_true, bne_eq_false_iff_eq, Bool.or_eq_false_iff, Bool.and_eq_false_iff] at c0
  have hnf : fitP (tdP X Y) = true := fit_yes (by have := c0; omega) (by simpa using c0.2)
  have hbD := fit_allT hX hY hnf
  have hbL : (tdP X Y).length ≤ 16 := by have := fit_len hnf; omega
  refine den_skip ?_
  refine den_seq ?_
  refine den_region TTok ?_
  intro K hK
  simp -implicitDefEqProofs (disch := first | decide | assumption | omega) only [go_sem, fa30_0, ld2, RdS.len hdX sl22, RdS.idx hdX sl22, R1.intB hdX (Ext.pres eB), RdS.cells hdX, RdS.len hmX sl23, RdS.idx hmX sl23, RdS.cellB hmX (Ext.pres eB), RdS.cells hmX, RdS.len hdY sl22, RdS.idx hdY sl22, R1.intB hdY (Ext.pres eB), RdS.cells hdY, RdS.len hmY sl23, RdS.idx hmY sl23, RdS.cellB hmY (Ext.pres eB), RdS.cells hmY, RdS.len (OS.rd how1_2_0) sl22, RdS.idx (OS.rd how1_2_0) sl22, R1.intN (OS.rd how1_2_0), RdS.cells (OS.rd how1_2_0), BoxAt.cell hb0_0, BoxAt.cell hb0_1, BoxAt.cell hb0_2, wrap_id, bC0]
  try simp -implicitDefEqProofs (disch := first | decide | assumption | omega) only [go_sem, RdS.len hdX sl22, RdS.idx hdX sl22, R1.intB hdX (Ext.pres eB), RdS.cells hdX, RdS.len hmX sl23, RdS.idx hmX sl23, RdS.cellB hmX (Ext.pres eB), RdS.cells hmX, RdS.len hdY sl22, RdS.idx hdY sl22, R1.intB hdY (Ext.pres eB), RdS.cells hdY, RdS.len hmY sl23, RdS.idx hmY sl23, RdS.cellB hmY (Ext.pres eB), RdS.cells hmY, RdS.len (OS.rd how1_2_0) sl22, RdS.idx (OS.rd how1_2_0) sl22, R1.intN (OS.rd how1_2_0), RdS.cells (OS.rd how1_2_0), BoxAt.cell hb0_0, BoxAt.cell hb0_1, BoxAt.cell hb0_2, wrap_id, bC0]
  refine CallA.mono (blank_ok _ _ (tdP X Y) _ (OS.rd how1_2_0) hbD hbL) ?_
  intro v_ h4_3
  rintro ⟨vw4_3, fw4_3, rfl, how4_3, hfw4_3, e4_3⟩
  replace how1_2_0 := OS.ext how1_2_0 e4_3
  replace hb0_0 := BoxAt.ext hb0_0 e4_3
  replace hb0_1 := BoxAt.ext hb0_1 e4_3
  replace hb0_2 := BoxAt.ext hb0_2 e4_3
  have := Ext.size e4_3
  replace eB := Ext.trans eB e4_3
  have hlhow4_3 := OS.lt how4_3
  try simp -implicitDefEqProofs (disch := first | decide | assumption | omega) only [go_sem, RdS.len hdX sl22, RdS.idx hdX sl22, R1.intB hdX (Ext.pres eB), RdS.cells hdX, RdS.len hmX sl23, RdS.idx hmX sl23, RdS.cellB hmX (Ext.pres eB), RdS.cells hmX, RdS.len hdY sl22, RdS.idx hdY sl22, R1.intB hdY (Ext.pres eB), RdS.cells hdY, RdS.len hmY sl23, RdS.idx hmY sl23, RdS.cellB hmY (Ext.pres eB), RdS.cells hmY, RdS.len (OS.rd how1_2_0) sl22, RdS.idx (OS.rd how1_2_0) sl22, R1.intN (OS.rd how1_2_0), RdS.cells (OS.rd how1_2_0), RdS.len (OS.rd how4_3) sl23, RdS.idx (OS.rd how4_3) sl23, RdS.cellN (OS.rd how4_3), RdS.cells (OS.rd how4_3), BoxAt.cell hb0_0, BoxAt.cell hb0_1, BoxAt.cell hb0_2, wrap_id, bC0]
  refine op_alloc (cs := #[.int .i64 0, .slice none 0 0, .slice none 0 0]) (by kernel_rfl) ?_
  intro h4_4 e4_4 hb4_4 z4_4
  replace how1_2_0 := OS.ext how1_2_0 e4_4
  replace how4_3 := OS.ext how4_3 e4_4
  replace hb0_0 := BoxAt.ext hb0_0 e4_4
  replace hb0_1 := BoxAt.ext hb0_1 e4_4
  replace hb0_2 := BoxAt.ext hb0_2 e4_4
  have := Ext.size e4_4
  replace eB := Ext.trans eB e4_4
  have hfhb4_4 : Fresh h4_3.size [h4_3.size] := Fresh.one _
  have hlhb4_4 := one_lt (show h4_3.size < h4_4.size by omega)
  try simp -implicitDefEqProofs (disch := first | decide | assumption | omega) only [go_sem, RdS.len hdX sl22, RdS.idx hdX sl22, R1.intB hdX (Ext.pres eB), RdS.cells hdX, RdS.len hmX sl23, RdS.idx hmX sl23, RdS.cellB hmX (Ext.pres eB), RdS.cells hmX, RdS.len hdY sl22, RdS.idx hdY sl22, R1.intB hdY (Ext.pres eB), RdS.cells hdY, RdS.len hmY sl23, RdS.idx hmY sl23, RdS.cellB hmY (Ext.pres eB), RdS.cells hmY, RdS.len (OS.rd how1_2_0) sl22, RdS.idx (OS.rd how1_2_0) sl22, R1.intN (OS.rd how1_2_0), RdS.cells (OS.rd how1_2_0), RdS.len (OS.rd how4_3) sl23, RdS.idx (OS.rd how4_3) sl23, RdS.cellN (OS.rd how4_3), RdS.cells (OS.rd how4_3), BoxAt.cell hb0_0, BoxAt.cell hb0_1, BoxAt.cell hb0_2, BoxAt.cell hb4_4, wrap_id, bC0]
  refine op_storeB (cs' := #[.int .i64 (X.p), vw1_2_0, vw4_3]) st30 hb4_4 rfl rfl rfl (by simp) (allOne_mem (l := [.int .i64 (X.p), vw1_2_0, vw4_3]) ⟨rfl, (OS.one how1_2_0).1, (OS.one how4_3).1, trivial⟩) rfl ?_
  intro h4_5 hb4_4 c4_5
  replace how1_2_0 := OS.chg how1_2_0 c4_5 (apart_lt hlhow1_2_0 hfhb4_4 (by omega))
  replace how4_3 := OS.chg how4_3 c4_5 (apart_lt hlhow4_3 hfhb4_4 (by omega))
  replace hb0_0 := BoxAt.chgA hb0_0 c4_5 (apart_lt hlhb0_0 hfhb4_4 (by omega))
  replace hb0_1 := BoxAt.chgA hb0_1 c4_5 (apart_lt hlhb0_1 hfhb4_4 (by omega))
  replace hb0_2 := BoxAt.chgA hb0_2 c4_5 (apart_lt hlhb0_2 hfhb4_4 (by omega))
  have := c4_5.size
  replace eB := Ext.then eB c4_5 (ge_of hfhb4_4 (by omega))
  try simp -implicitDefEqProofs (disch := first | decide | assumption | omega) only [go_sem, RdS.len hdX sl22, RdS.idx hdX sl22, R1.intB hdX (Ext.pres eB), RdS.cells hdX, RdS.len hmX sl23, RdS.idx hmX sl23, RdS.cellB hmX (Ext.pres eB), RdS.cells hmX, RdS.len hdY sl22, RdS.idx hdY sl22, R1.intB hdY (Ext.pres eB), RdS.cells hdY, RdS.len hmY sl23, RdS.idx hmY sl23, RdS.cellB hmY (Ext.pres eB), RdS.cells hmY, RdS.len (OS.rd how1_2_0) sl22, RdS.idx (OS.rd how1_2_0) sl22, R1.intN (OS.rd how1_2_0), RdS.cells (OS.rd how1_2_0), RdS.len (OS.rd how4_3) sl23, RdS.idx (OS.rd how4_3) sl23, RdS.cellN (OS.rd how4_3), RdS.cells (OS.rd how4_3), BoxAt.cell hb0_0, BoxAt.cell hb0_1, BoxAt.cell hb0_2, BoxAt.cell hb4_4, wrap_id, bC0]
  refine hK _ _ ?_
  clear hK K
  refine den_seq ?_
  refine den_region TTok ?_
  intro K hK
  simp -implicitDefEqProofs (disch := first | decide | assumption | omega) only [go_sem, ld30, RdS.len hdX sl22, RdS.idx hdX sl22, R1.intB hdX (Ext.pres eB), RdS.cells hdX, RdS.len hmX sl23, RdS.idx hmX sl23, RdS.cellB hmX (Ext.pres eB), RdS.cells hmX, RdS.len hdY sl22, RdS.idx hdY sl22, R1.intB hdY (Ext.pres eB), RdS.cells hdY, RdS.len hmY sl23, RdS.idx hmY sl23, RdS.cellB hmY (Ext.pres eB), RdS.cells hmY, RdS.len (OS.rd how1_2_0) sl22, RdS.idx (OS.rd how1_2_0) sl22, R1.intN (OS.rd how1_2_0), RdS.cells (OS.rd how1_2_0), RdS.len (OS.rd how4_3) sl23, RdS.idx (OS.rd how4_3) sl23, RdS.cellN (OS.rd how4_3), RdS.cells (OS.rd how4_3), BoxAt.cell hb0_0, BoxAt.cell hb0_1, BoxAt.cell hb0_2, BoxAt.cell hb4_4, wrap_id, bC0]
  try simp -implicitDefEqProofs (disch := first | decide | assumption | omega) only [go_sem, RdS.len hdX sl22, RdS.idx hdX sl22, R1.intB hdX (Ext.pres eB), RdS.cells hdX, RdS.len hmX sl23, RdS.idx hmX sl23, RdS.cellB hmX (Ext.pres eB), RdS.cells hmX, RdS.len hdY sl22, RdS.idx hdY sl22, R1.intB hdY (Ext.pres eB), RdS.cells hdY, RdS.len hmY sl23, RdS.idx hmY sl23, RdS.cellB hmY (Ext.pres eB), RdS.cells hmY, RdS.len (OS.rd how1_2_0) sl22, RdS.idx (OS.rd how1_2_0) sl22, R1.intN (OS.rd how1_2_0), RdS.cells (OS.rd how1_2_0), RdS.len (OS.rd how4_3) sl23, RdS.idx (OS.rd how4_3) sl23, RdS.cellN (OS.rd how4_3), RdS.cells (OS.rd how4_3), BoxAt.cell hb0_0, BoxAt.cell hb0_1, BoxAt.cell hb0_2, BoxAt.cell hb4_4, wrap_id, bC0]
  refine CallA.mono (each_upd (X := X) (s0 := (zblk (tdP X Y) ((tdP X Y).length - 1))) (p := X.p) (L := (tdP X Y).length - 1) (A := tA X Y) (B := tB X Y) (U := tU1 X Y) (Ot := (fun H => BoxAt H (h4_3.size) #[.int .i64 X.p, vw1_2_0, vw4_3] 30 ∧ BoxAt H (h0_0.size) #[.int .i64 Y.p, vdY, vmY] 30 ∧ BoxAt H (h.size) #[.int .i64 X.p, vdX, vmX] 30 ∧ O1 H vw1_2_0 (tdP X Y) fw1_2_0)) hpb.1 hdX hmX ⟨how4_3, hzb.1, hzb.2, eB, hb4_4, hb0_1, hb0_0, how1_2_0⟩ (fun H H' c o => ⟨BoxAt.chgA o.1 c (apart_gt hfhb4_4 hlhow4_3 (by omega)), BoxAt.chgA o.2.1 c (apart_lt hlhb0_1 hfw4_3 (by omega)), BoxAt.chgA o.2.2.1 c (apart_lt hlhb0_0 hfw4_3 (by omega)), OS.chg o.2.2.2 c (apart_lt hlhow1_2_0 hfw4_3 (by omega))⟩) (ge_of hfw4_3 (by omega)) (t_u1T hX hY) (fun s H k i j hk hi hj r => by
  simp only [List.append_toArray, List.cons_append, List.nil_append]
  have hnm := hX.num hk hi hj
  exact (ten1_okT X Y vdX vmX vdY vmY _ _ s _ k i j _ _ _ _ (fun H => BoxAt H (h4_3.size) #[.int .i64 X.p, vw1_2_0, vw4_3] 30 ∧ BoxAt H (h0_0.size) #[.int .i64 Y.p, vdY, vmY] 30 ∧ BoxAt H (h.size) #[.int .i64 X.p, vdX, vmX] 30 ∧ O1 H vw1_2_0 (tdP X Y) fw1_2_0) h H hdX hmX hdY hmY hX hY hi hj (by omega) r.o r.sh r.i3 hfw4_3.nodup r.e (ge_of hfw4_3 (by omega)) r.ot (fun H H' c o => ⟨BoxAt.chgA o.1 c (apart_gt hfhb4_4 hlhow4_3 (by omega)), BoxAt.chgA o.2.1 c (apart_lt hlhb0_1 hfw4_3 (by omega)), BoxAt.chgA o.2.2.1 c (apart_lt hlhb0_0 hfw4_3 (by omega)), OS.chg o.2.2.2 c (apart_lt hlhow1_2_0 hfw4_3 (by omega))⟩) (fun H o => ⟨o.1, o.2.1, o.2.2.1, OS.rd o.2.2.2⟩)).mono (fun u H' q => q.2))) ?_
  intro v_ h5_2
  rintro ⟨rfl, hog5_2, cg5_2⟩
  replace how1_2_0 := OS.chg how1_2_0 cg5_2 (apart_lt hlhow1_2_0 hfw4_3 (by omega))
  replace hb0_0 := BoxAt.chgA hb0_0 cg5_2 (apart_lt hlhb0_0 hfw4_3 (by omega))
  replace hb0_1 := BoxAt.chgA hb0_1 cg5_2 (apart_lt hlhb0_1 hfw4_3 (by omega))
  replace hb0_2 := BoxAt.chgA hb0_2 cg5_2 (apart_lt hlhb0_2 hfw4_3 (by omega))
  replace hb4_4 := BoxAt.chgA hb4_4 cg5_2 (apart_gt hfhb4_4 hlhow4_3 (by omega))
  have := cg5_2.size
  replace eB := Ext.then eB cg5_2 (ge_of hfw4_3 (by omega))
  have hlhog5_2 := hlhow4_3
  try simp -implicitDefEqProofs (disch := first | decide | assumption | omega) only [go_sem, RdS.len hdX sl22, RdS.idx hdX sl22, R1.intB hdX (Ext.pres eB), RdS.cells hdX, RdS.len hmX sl23, RdS.idx hmX sl23, RdS.cellB hmX (Ext.pres eB), RdS.cells hmX, RdS.len hdY sl22, RdS.idx hdY sl22, R1.intB hdY (Ext.pres eB), RdS.cells hdY, RdS.len hmY sl23, RdS.idx hmY sl23, RdS.cellB hmY (Ext.pres eB), RdS.cells hmY, RdS.len (OS.rd how1_2_0) sl22, RdS.idx (OS.rd how1_2_0) sl22, R1.intN (OS.rd how1_2_0), RdS.cells (OS.rd how1_2_0), RdS.len (OS.rd hog5_2) sl23, RdS.idx (OS.rd hog5_2) sl23, RdS.cellN (OS.rd hog5_2), RdS.cells (OS.rd hog5_2), BoxAt.cell hb0_0, BoxAt.cell hb0_1, BoxAt.cell hb0_2, BoxAt.cell hb4_4, wrap_id, bC0]
  refine hK _ _ ?_
  clear hK K
  refine den_seq ?_
  refine den_region TTok ?_
  intro K hK
  simp -implicitDefEqProofs (disch := first | decide | assumption | omega) only [go_sem, ld30, RdS.len hdX sl22, RdS.idx hdX sl22, R1.intB hdX (Ext.pres eB), RdS.cells hdX, RdS.len hmX sl23, RdS.idx hmX sl23, RdS.cellB hmX (Ext.pres eB), RdS.cells hmX, RdS.len hdY sl22, RdS.idx hdY sl22, R1.intB hdY (Ext.pres eB), RdS.cells hdY, RdS.len hmY sl23, RdS.idx hmY sl23, RdS.cellB hmY (Ext.pres eB), RdS.cells hmY, RdS.len (OS.rd how1_2_0) sl22, RdS.idx (OS.rd how1_2_0) sl22, R1.intN (OS.rd how1_2_0), RdS.cells (OS.rd how1_2_0), RdS.len (OS.rd hog5_2) sl23, RdS.idx (OS.rd hog5_2) sl23, RdS.cellN (OS.rd hog5_2), RdS.cells (OS.rd hog5_2), BoxAt.cell hb0_0, BoxAt.cell hb0_1, BoxAt.cell hb0_2, BoxAt.cell hb4_4, wrap_id, bC0]
  try simp -implicitDefEqProofs (disch := first | decide | assumption | omega) only [go_sem, RdS.len hdX sl22, RdS.idx hdX sl22, R1.intB hdX (Ext.pres eB), RdS.cells hdX, RdS.len hmX sl23, RdS.idx hmX sl23, RdS.cellB hmX (Ext.pres eB), RdS.cells hmX, RdS.len hdY sl22, RdS.idx hdY sl22, R1.intB hdY (Ext.pres eB), RdS.cells hdY, RdS.len hmY sl23, RdS.idx hmY sl23, RdS.cellB hmY (Ext.pres eB), RdS.cells hmY, RdS.len (OS.rd how1_2_0) sl22, RdS.idx (OS.rd how1_2_0) sl22, R1.intN (OS.rd how1_2_0), RdS.cells (OS.rd how1_2_0), RdS.len (OS.rd hog5_2) sl23, RdS.idx (OS.rd hog5_2) sl23, RdS.cellN (OS.rd hog5_2), RdS.cells (OS.rd hog5_2), BoxAt.cell hb0_0, BoxAt.cell hb0_1, BoxAt.cell hb0_2, BoxAt.cell hb4_4, wrap_id, bC0]
  refine CallA.mono (each_upd (X := Y) (s0 := (tT1 X Y)) (p := X.p) (L := (tdP X Y).length - 1) (A := tA X Y) (B := tB X Y) (U := tU2 X Y) (Ot := (fun H => BoxAt H (h4_3.size) #[.int .i64 X.p, vw1_2_0, vw4_3] 30 ∧ BoxAt H (h0_0.size) #[.int .i64 Y.p, vdY, vmY] 30 ∧ BoxAt H (h.size) #[.int .i64 X.p, vdX, vmX] 30 ∧ O1 H vw1_2_0 (tdP X Y) fw1_2_0)) hpb.1 hdY hmY ⟨hog5_2, (tT1_shT hX hY).1, (tT1_shT hX hY).2, eB, hb4_4, hb0_1, hb0_0, how1_2_0⟩ (fun H H' c o => ⟨BoxAt.chgA o.1 c (apart_gt hfhb4_4 hlhog5_2 (by omega)), BoxAt.chgA o.2.1 c (apart_lt hlhb0_1 hfw4_3 (by omega)), BoxAt.chgA o.2.2.1 c (apart_lt hlhb0_0 hfw4_3 (by omega)), OS.chg o.2.2.2 c (apart_lt hlhow1_2_0 hfw4_3 (by omega))⟩) (ge_of hfw4_3 (by omega)) (t_u2T hX hY) (fun s H k i j hk hi hj r => by
  simp only [List.append_toArray, List.cons_append, List.nil_append]
  have hnm := hY.num hk hi hj
  exact (ten2_okT X Y vdX vmX vdY vmY _ _ s _ k i j _ _ _ _ (fun H => BoxAt H (h4_3.size) #[.int .i64 X.p, vw1_2_0, vw4_3] 30 ∧ BoxAt H (h0_0.size) #[.int .i64 Y.p, vdY, vmY] 30 ∧ BoxAt H (h.size) #[.int .i64 X.p, vdX, vmX] 30 ∧ O1 H vw1_2_0 (tdP X Y) fw1_2_0) h H hdX hmX hdY hmY hX hY hi hj (by omega) r.o r.sh r.i3 hfw4_3.nodup r.e (ge_of hfw4_3 (by omega)) r.ot (fun H H' c o => ⟨BoxAt.chgA o.1 c (apart_gt hfhb4_4 hlhog5_2 (by omega)), BoxAt.chgA o.2.1 c (apart_lt hlhb0_1 hfw4_3 (by omega)), BoxAt.chgA o.2.2.1 c (apart_lt hlhb0_0 hfw4_3 (by omega)), OS.chg o.2.2.2 c (apart_lt hlhow1_2_0 hfw4_3 (by omega))⟩) (fun H o => ⟨o.1, o.2.1, o.2.2.1, OS.rd o.2.2.2⟩)).mono (fun u H' q => q.2))) ?_
  intro v_ h6_2
  rintro ⟨rfl, hog6_2, cg6_2⟩
  replace how1_2_0 := OS.chg how1_2_0 cg6_2 (apart_lt hlhow1_2_0 hfw4_3 (by omega))
  replace hb0_0 := BoxAt.chgA hb0_0 cg6_2 (apart_lt hlhb0_0 hfw4_3 (by omega))
  replace hb0_1 := BoxAt.chgA hb0_1 cg6_2 (apart_lt hlhb0_1 hfw4_3 (by omega))
  replace hb0_2 := BoxAt.chgA hb0_2 cg6_2 (apart_lt hlhb0_2 hfw4_3 (by omega))
  replace hb4_4 := BoxAt.chgA hb4_4 cg6_2 (apart_gt hfhb4_4 hlhog5_2 (by omega))
  have := cg6_2.size
  replace eB := Ext.then eB cg6_2 (ge_of hfw4_3 (by omega))
  have hlhog6_2 := hlhog5_2
  try simp -implicitDefEqProofs (disch := first | decide | assumption | omega) only [go_sem, RdS.len hdX sl22, RdS.idx hdX sl22, R1.intB hdX (Ext.pres eB), RdS.cells hdX, RdS.len hmX sl23, RdS.idx hmX sl23, RdS.cellB hmX (Ext.pres eB), RdS.cells hmX, RdS.len hdY sl22, RdS.idx hdY sl22, R1.intB hdY (Ext.pres eB), RdS.cells hdY, RdS.len hmY sl23, RdS.idx hmY sl23, RdS.cellB hmY (Ext.pres eB), RdS.cells hmY, RdS.len (OS.rd how1_2_0) sl22, RdS.idx (OS.rd how1_2_0) sl22, R1.intN (OS.rd how1_2_0), RdS.cells (OS.rd how1_2_0), RdS.len (OS.rd hog6_2) sl23, RdS.idx (OS.rd hog6_2) sl23, RdS.cellN (OS.rd hog6_2), RdS.cells (OS.rd hog6_2), BoxAt.cell hb0_0, BoxAt.cell hb0_1, BoxAt.cell hb0_2, BoxAt.cell hb4_4, wrap_id, bC0]
  refine hK _ _ ?_
  clear hK K
  refine den_seq ?_
  refine den_region TTok ?_
  intro K hK
  simp -implicitDefEqProofs (disch := first | decide | assumption | omega) only [go_sem, ld30, RdS.len hdX sl22, RdS.idx hdX sl22, R1.intB hdX (Ext.pres eB), RdS.cells hdX, RdS.len hmX sl23, RdS.idx hmX sl23, RdS.cellB hmX (Ext.pres eB), RdS.cells hmX, RdS.len hdY sl22, RdS.idx hdY sl22, R1.intB hdY (Ext.pres eB), RdS.cells hdY, RdS.len hmY sl23, RdS.idx hmY sl23, RdS.cellB hmY (Ext.pres eB), RdS.cells hmY, RdS.len (OS.rd how1_2_0) sl22, RdS.idx (OS.rd how1_2_0) sl22, R1.intN (OS.rd how1_2_0), RdS.cells (OS.rd how1_2_0), RdS.len (OS.rd hog6_2) sl23, RdS.idx (OS.rd hog6_2) sl23, RdS.cellN (OS.rd hog6_2), RdS.cells (OS.rd hog6_2), BoxAt.cell hb0_2, BoxAt.cell hb4_4, wrap_id, bC0]
  refine op_storeB (cs' := #[.int .i64 (X.p), vw1_2_0, vw4_3]) st30 hb0_2 rfl rfl rfl (by simp) (allOne_mem (l := [.int .i64 (X.p), vw1_2_0, vw4_3]) ⟨rfl, (OS.one how1_2_0).1, (OS.one hog6_2).1, trivial⟩) rfl ?_
  intro h7_1 hb0_2 c7_1
  replace how1_2_0 := OS.chg how1_2_0 c7_1 (apart_gt hfw1_2_0 hlhb0_2 (by omega))
  replace hog6_2 := OS.chg hog6_2 c7_1 (apart_gt hfw4_3 hlhb0_2 (by omega))
  replace hb4_4 := BoxAt.chgA hb4_4 c7_1 (apart_gt hfhb4_4 hlhb0_2 (by omega))
  have := c7_1.size
  replace eB := Ext.then eB c7_1 (ge_of hfhb0_2 (by omega))
  try simp -implicitDefEqProofs (disch := first | decide | assumption | omega) only [go_sem, RdS.len hdX sl22, RdS.idx hdX sl22, R1.intB hdX (Ext.pres eB), RdS.cells hdX, RdS.len hmX sl23, RdS.idx hmX sl23, RdS.cellB hmX (Ext.pres eB), RdS.cells hmX, RdS.len hdY sl22, RdS.idx hdY sl22, R1.intB hdY (Ext.pres eB), RdS.cells hdY, RdS.len hmY sl23, RdS.idx hmY sl23, RdS.cellB hmY (Ext.pres eB), RdS.cells hmY, RdS.len (OS.rd how1_2_0) sl22, RdS.idx (OS.rd how1_2_0) sl22, R1.intN (OS.rd how1_2_0), RdS.cells (OS.rd how1_2_0), RdS.len (OS.rd hog6_2) sl23, RdS.idx (OS.rd hog6_2) sl23, RdS.cellN (OS.rd hog6_2), RdS.cells (OS.rd hog6_2), BoxAt.cell hb0_2, BoxAt.cell hb4_4, wrap_id, bC0]
  refine hK _ _ ?_
  clear hK K
  refine den_ret ?_
  simp -implicitDefEqProofs (disch := first | decide | assumption | omega) only [go_sem, RdS.len hdX sl22, RdS.idx hdX sl22, R1.intB hdX (Ext.pres eB), RdS.cells hdX, RdS.len hmX sl23, RdS.idx hmX sl23, RdS.cellB hmX (Ext.pres eB), RdS.cells hmX, RdS.len hdY sl22, RdS.idx hdY sl22, R1.intB hdY (Ext.pres eB), RdS.cells hdY, RdS.len hmY sl23, RdS.idx hmY sl23, RdS.cellB hmY (Ext.pres eB), RdS.cells hmY, RdS.len (OS.rd how1_2_0) sl22, RdS.idx (OS.rd how1_2_0) sl22, R1.intN (OS.rd how1_2_0), RdS.cells (OS.rd how1_2_0), RdS.len (OS.rd hog6_2) sl23, RdS.idx (OS.rd hog6_2) sl23, RdS.cellN (OS.rd hog6_2), RdS.cells (OS.rd hog6_2), BoxAt.cell hb0_2, BoxAt.cell hb4_4, wrap_id, bC0, resP_ct, ld30]
  have hz : teP X Y = (⟨X.p, tdP X Y, tT X Y⟩, 0) := by rw [teP, if_pos hnf]
  rw [hz]
  exact ⟨_, _, _, _, rfl, how1_2_0, hog6_2, Fresh.two hfw1_2_0 hfw4_3 (apart_lt hlhow1_2_0 hfw4_3 (by omega)) (by omega) (by omega), eB⟩
end Go.Proofs.Ytffggocjkhcgeaa

namespace Go.Proofs.Ytffggocjkhcgeaa
open Go
section
variable {P : Program} {n : Nat} {K : Env → Heap → Prop} {env : Env} {h : Heap} {d : Option Tmp} {ty : TypeId} {p : String} {a : Array Edge} {g : Option (Nat × Bool)}
set_option maxRecDepth 100000 in
theorem op_bs1I {x : Operand} {i : Int} (hx : ev env x = .int .i64 i) (hk : ∀ v' h', O1 h' v' [i] [h.size] → Ext h h' → outv n ⟨d, .buildSlice 22 1 #[(0, x)], ty, p, a, g⟩ K env h' v') : opP P TT n ⟨d, .buildSlice 22 1 #[(0, x)], ty, p, a, g⟩ K env h := by
 refine op_bs1 sz22 hx rfl ?_
 exact hk _ _ (OS.ofInts (xs := [i]) (BoxAt.new h #[.int .i64 i] 2) (by simp) (by simp) (by simp [intv])) (Ext.push _ _)
end
def pwS (X : Cx) : Nat → List Int × M3
 | 0 => ([1], [])
 | n + 1 => (tdP ⟨X.p, (pwS X n).1, (pwS X n).2⟩ X, tT ⟨X.p, (pwS X n).1, (pwS X n).2⟩ X)
def pw (X : Cx) (n : Nat) : Cx := ⟨X.p, (pwS X n).1, (pwS X n).2⟩
theorem unit_T {p : Int} (hp : isP p = true) : IsT ⟨p, [1], []⟩ := ⟨hp, ⟨Nat.le_refl 1, by show 1 ≤ 6; decide⟩, rfl, by show ([1] : List Int).all (fun x => in3 x 0 8) = true; decide, fun k hk => by cases hk⟩
theorem tensor_T {X Y : Cx} (hX : IsT X) (hY : IsT Y) (hf : fitP (tdP X Y) = true) : IsT ⟨X.p, tdP X Y, tT X Y⟩ := by
 have hlX := hX.len; have hlY := hY.len
 have hl := fit_len hf
 have htl := tdP_len X Y
 have hS := tT_shT hX hY
 have hSl : (tT X Y).length = (tdP X Y).length - 1 := hS.len
 have hI := applyU_in (isP_bnd hX.p).1 (tT1_shT hX hY).1 (tT1_shT hX hY).2 (uK_all (t_u2T hX hY))
 have ha := fit_allT hX hY hf
 refine ⟨hX.p, ⟨by show 1 ≤ (tdP X Y).length; omega, by show (tdP X Y).length ≤ 6; omega⟩, by show (tT X Y).length + 1 = (tdP X Y).length; omega, ha, fun k hk => ?_⟩
 have hk : k < (tT X Y).length := hk
 have hd : ∀ q, q < (tdP X Y).length → 0 ≤ (tdP X Y).getD q 0 := fun q hq => (in3_iff.1 (all_at (f := fun x => in3 x 0 8) (d := 0) ha (k := q) hq)).1
 have h0 := hd k (by omega); have h1 := hd (k + 1) (by omega)
 have hr : ((tT X Y).getD k default).length = ((tdP X Y).getD (k + 1) 0).toNat := hS.rows k (by omega)
 unfold tbAt
 refine tableP_iff.2 ⟨?_, fun r hr' => ?_⟩
 ·show (((tT X Y).getD k default).length : Int) = (tdP X Y).getD ((k : Int) + 1).toNat 0
  rw [show ((k : Int) + 1).toNat = k + 1 by omega]; omega
 ·obtain ⟨i, hi, rfl⟩ := List.getElem_of_mem hr'
  have hi' : i < ((tT X Y).getD k default).length := hi
  have hc : (((tT X Y).getD k default).getD i default).length = ((tdP X Y).getD k 0).toNat := hS.cols k i (by omega) (by show i < ((tdP X Y).getD (k + 1) 0).toNat; omega)
  have hg : ((tT X Y).getD k default).getD i default = ((tT X Y).getD k default)[i] := by rw [List.getD_eq_getElem?_getD, List.getElem?_eq_getElem hi']; rfl
  refine ⟨by show ((((tT X Y).getD k default)[i]).length : Int) = (tdP X Y).getD k 0; rw [← hg]; omega, fun x hx => ?_⟩
  have hx : x ∈ ((tT X Y).getD k default)[i] := hx
  rw [← hg] at hx
  obtain ⟨c, hcl, rfl⟩ := List.getElem_of_mem hx
  have := hI k i c (by omega) (by show i < ((tdP X Y).getD (k + 1) 0).toNat; omega) (by show c < ((tdP X Y).getD k 0).toNat; omega)
  have e : get3 (tT X Y) k i c = (((tT X Y).getD k default).getD i default)[c] := by rw [get3, List.getD_eq_getElem?_getD, List.getElem?_eq_getElem hcl]; rfl
  rw [← e]
  exact this
theorem pw_T {X : Cx} (hX : IsC X) : ∀ n, (∀ q, q < n → fitP (tdP (pw X q) X) = true) → IsT (pw X n)
 | 0, _ => unit_T hX.p
 | n + 1, h => tensor_T (pw_T hX n (fun q hq => h q (by omega))) hX.toT (h n (by omega))
open Classical in
noncomputable def powP (X : Cx) (k : Int) : Cx × Int := if isC X = true then (if in3 k 0 4 = true then (if ∀ q, q < k.toNat → fitP (tdP (pw X q) X) = true then (pw X k.toNat, 0) else (⟨0, [], []⟩, 3)) else (⟨0, [], []⟩, 2)) else (⟨0, [], []⟩, 1)
theorem te_T {X : Cx} {n : Nat} (h : fitP (tdP (pw X n) X) = true) : teP (pw X n) X = (pw X (n + 1), 0) := by rw [teP, if_pos h]; rfl
theorem cnt_T {X : Cx} (h : IsT X) : 0 ≤ cnt1 X.dims ∧ cnt1 X.dims ≤ 6 ∧ 0 ≤ cntL cnt2 X.maps ∧ cntL cnt2 X.maps ≤ 320 := by
 have hm := h.ml; have hl := h.len
 have hs : Sh X.maps.length (fun q => (X.dims.getD (q + 1) 0).toNat) (fun q => (X.dims.getD q 0).toNat) X.maps := ⟨rfl, fun q _ => (lens_natT h q).1, fun q r _ hr => (lens_natT h q).2 r (by rw [(lens_natT h q).1]; exact hr)⟩
 have hb : ∀ q, (X.dims.getD q 0).toNat ≤ 8 := fun q => by have := dims_natT h q; omega
 have := cnt_sh (m := 5) (a := 8) (b := 8) hs (by omega) (fun q _ => hb _) (fun q _ => hb _)
 exact ⟨cnt1_nn _, by rw [cnt1]; omega, this.1, this.2⟩
theorem cnt_pow (X : Cx) (k : Int) : 0 ≤ cnt1 (powP X k).1.dims ∧ cnt1 (powP X k).1.dims ≤ 6 ∧ 0 ≤ cntL cnt2 (powP X k).1.maps ∧ cntL cnt2 (powP X k).1.maps ≤ 320 := by
 have hz : ∀ n : Int, 0 ≤ cnt1 ((⟨0, [], []⟩, n) : Cx × Int).1.dims ∧ cnt1 ((⟨0, [], []⟩, n) : Cx × Int).1.dims ≤ 6 ∧ 0 ≤ cntL cnt2 ((⟨0, [], []⟩, n) : Cx × Int).1.maps ∧ cntL cnt2 ((⟨0, [], []⟩, n) : Cx × Int).1.maps ≤ 320 := fun n => ⟨cnt1_nn _, by show cnt1 [] ≤ 6; decide, Int.le_refl _, by show (0 : Int) ≤ _; decide⟩
 unfold powP
 split
 ·rename_i hc
  split
  ·split
   ·rename_i hf
    exact cnt_T (pw_T (isC_t.1 hc) _ hf)
   ·exact hz 3
  ·exact hz 2
 ·exact hz 1
end Go.Proofs.Ytffggocjkhcgeaa

namespace Go.Proofs.Ytffggocjkhcgeaa
open Go
set_option maxRecDepth 100000 in
theorem sUnitC_ok (p : Int) (h : Heap)   : CallA Try.prog 109 #[.int .i64 p] h fun v' h' => ∃ wd0 wm0 fd0 fm0, v' = .agg #[.int .i64 ((⟨p, [1], []⟩ : Cx)).p, wd0, wm0] ∧ O1 h' wd0 ((⟨p, [1], []⟩ : Cx)).dims fd0 ∧ O3 h' wm0 ((⟨p, [1], []⟩ : Cx)).maps fm0 ∧ Fresh h.size (fd0 ++ fm0) ∧ Ext h h' := by
 refine callA_intro TTok (args := [_]) Try.func109 (by kernel_rfl) rfl 7 rfl (by simp) [.cell 2 30] rfl ?_
 simp only [idxs, Nat.reduceAdd]
 refine den_seq ?_
 refine den_region TTok ?_
 intro K hK
 simp -implicitDefEqProofs (disch := first | decide | assumption | omega) only [go_sem, wrap_id]
 refine op_alloc (cs := #[.int .i64 0, .slice none 0 0, .slice none 0 0]) (by kernel_rfl) ?_
 intro h0_0 e0_0 hb0_0 z0_0
 have := Ext.size e0_0
 have eB := e0_0
 have hfhb0_0 : Fresh h.size [h.size] := Fresh.one _
 have hlhb0_0 := one_lt (show h.size < h0_0.size by omega)
 try simp -implicitDefEqProofs (disch := first | decide | assumption | omega) only [go_sem, BoxAt.cell hb0_0, wrap_id]
 refine hK _ _ ?_
 clear hK K
 refine den_seq ?_
 refine den_region TTok ?_
 intro K hK
 simp -implicitDefEqProofs (disch := first | decide | assumption | omega) only [go_sem, BoxAt.cell hb0_0, wrap_id]
 refine op_bs1I rfl ?_
 intro v1_1 h1_1 ho1_1 e1_1
 replace hb0_0 := BoxAt.ext hb0_0 e1_1
 have := Ext.size e1_1
 replace eB := Ext.trans eB e1_1
 have hfho1_1 : Fresh h0_0.size [h0_0.size] := Fresh.one _
 have hlho1_1 := OS.lt ho1_1
 try simp -implicitDefEqProofs (disch := first | decide | assumption | omega) only [go_sem, RdS.len (OS.rd ho1_1) sl22, RdS.idx (OS.rd ho1_1) sl22, R1.intN (OS.rd ho1_1), RdS.cells (OS.rd ho1_1), BoxAt.cell hb0_0, wrap_id]
 refine op_bs0 sz23 O2 ?_
 intro v1_2 h1_2 ho1_2 e1_2
 replace ho1_1 := OS.ext ho1_1 e1_2
 replace hb0_0 := BoxAt.ext hb0_0 e1_2
 have := Ext.size e1_2
 replace eB := Ext.trans eB e1_2
 have hfho1_2 : Fresh h1_1.size [h1_1.size] := Fresh.one _
 have hlho1_2 := OS.lt ho1_2
 try simp -implicitDefEqProofs (disch := first | decide | assumption | omega) only [go_sem, RdS.len (OS.rd ho1_1) sl22, RdS.idx (OS.rd ho1_1) sl22, R1.intN (OS.rd ho1_1), RdS.cells (OS.rd ho1_1), RdS.len (OS.rd ho1_2) sl23, RdS.idx (OS.rd ho1_2) sl23, RdS.cellN (OS.rd ho1_2), RdS.cells (OS.rd ho1_2), BoxAt.cell hb0_0, wrap_id, bC3 (OS.isSl ho1_1) (OS.isSl ho1_2)]
 refine op_storeB (cs' := #[.int .i64 (p), v1_1, v1_2]) st30 hb0_0 rfl rfl rfl (by simp) (allOne_mem (l := [.int .i64 (p), v1_1, v1_2]) ⟨rfl, (OS.one ho1_1).1, (OS.one ho1_2).1, trivial⟩) rfl ?_
 intro h1_4 hb0_0 c1_4
 replace ho1_1 := OS.chg ho1_1 c1_4 (apart_gt hfho1_1 hlhb0_0 (by omega))
 replace ho1_2 := OS.chg ho1_2 c1_4 (apart_gt hfho1_2 hlhb0_0 (by omega))
 have := c1_4.size
 replace eB := Ext.then eB c1_4 (ge_of hfhb0_0 (by omega))
 try simp -implicitDefEqProofs (disch := first | decide | assumption | omega) only [go_sem, RdS.len (OS.rd ho1_1) sl22, RdS.idx (OS.rd ho1_1) sl22, R1.intN (OS.rd ho1_1), RdS.cells (OS.rd ho1_1), RdS.len (OS.rd ho1_2) sl23, RdS.idx (OS.rd ho1_2) sl23, RdS.cellN (OS.rd ho1_2), RdS.cells (OS.rd ho1_2), BoxAt.cell hb0_0, wrap_id, bC3 (OS.isSl ho1_1) (OS.isSl ho1_2)]
 refine hK _ _ ?_
 clear hK K
 refine den_ret ?_
 simp -implicitDefEqProofs (disch := first | decide | assumption | omega) only [go_sem, RdS.len (OS.rd ho1_1) sl22, RdS.idx (OS.rd ho1_1) sl22, R1.intN (OS.rd ho1_1), RdS.cells (OS.rd ho1_1), RdS.len (OS.rd ho1_2) sl23, RdS.idx (OS.rd ho1_2) sl23, RdS.cellN (OS.rd ho1_2), RdS.cells (OS.rd ho1_2), BoxAt.cell hb0_0, wrap_id, resP_c1, ld30, bC3 (OS.isSl ho1_1) (OS.isSl ho1_2)]
 exact ⟨_, _, _, _, rfl, ho1_1, ho1_2, Fresh.two hfho1_1 hfho1_2 (apart_lt hlho1_1 hfho1_2 (by omega)) (by omega) (by omega), eB⟩

set_option maxRecDepth 100000 in
theorem iSph_ok (p : Int) (n : Int) (h : Heap)  (hP : isP p = true) (hn : n = 0) : CallA Try.prog 151 #[.int .i64 p, .int .i64 n] h fun v' h' => ∃ wd0 wm0 fd0 fm0, v' = .tuple #[.agg #[.int .i64 ((⟨p, [1], []⟩ : Cx)).p, wd0, wm0], .int .i64 (0)] ∧ O1 h' wd0 ((⟨p, [1], []⟩ : Cx)).dims fd0 ∧ O3 h' wm0 ((⟨p, [1], []⟩ : Cx)).maps fm0 ∧ Fresh h.size (fd0 ++ fm0) ∧ Ext h h' := by
 refine callA_intro TTok (args := [_, _]) Try.func151 (by kernel_rfl) rfl 26 rfl (by simp) [.cell 4 30, .tmp 5] rfl ?_
 simp only [idxs, Nat.reduceAdd]
 refine den_seq ?_
 refine den_region TTok ?_
 intro K hK
 simp -implicitDefEqProofs (disch := first | decide | assumption | omega) only [go_sem, wrap_id, bC0]
 refine op_alloc (cs := #[.int .i64 0, .slice none 0 0, .slice none 0 0]) (by kernel_rfl) ?_
 intro h0_0 e0_0 hb0_0 z0_0
 have := Ext.size e0_0
 have eB := e0_0
 have hfhb0_0 : Fresh h.size [h.size] := Fresh.one _
 have hlhb0_0 := one_lt (show h.size < h0_0.size by omega)
 try simp -implicitDefEqProofs (disch := first | decide | assumption | omega) only [go_sem, BoxAt.cell hb0_0, wrap_id, bC0]
 refine hK _ _ ?_
 clear hK K
 refine den_seq ?_
 refine den_seq ?_
 refine den_mergeH [(14, .bool (((!((isP p))) || (!((in3 n (0 : Int) (5 : Int)))))))] [0, 1, 4] ?_ ?_
  -- a way
 ·refine den_region TTok ?_
  intro K hK
  simp -implicitDefEqProofs (disch := first | decide | assumption | (simp (disch := decide) only [slotOf_zero, slotOf_succ, Option.map_some, puts_same, puts_ne, gv_bool, gv_undef, tt, tf, ft, ff, eq_self, if_true, if_false, Bool.false_eq_true, Bool.not_true, Bool.not_false]; done) | omega) only [go_sem, BoxAt.cell hb0_0, wrap_id, bC0]
  try simp -implicitDefEqProofs (disch := first | decide | assumption | omega) only [go_sem, BoxAt.cell hb0_0, wrap_id, bC0]
  refine CallA.pure (iPrime_ok _ _) ?_
  try simp -implicitDefEqProofs (disch := first | decide | assumption | (simp (disch := decide) only [slotOf_zero, slotOf_succ, Option.map_some, puts_same, puts_ne, gv_bool, gv_undef, tt, tf, ft, ff, eq_self, if_true, if_false, Bool.false_eq_true, Bool.not_true, Bool.not_false]; done) | omega) only [go_sem, BoxAt.cell hb0_0, wrap_id, bC0]
  refine opsP_F (by simp (disch := decide) only [slotOf_zero, slotOf_succ, Option.map_some, puts_same, puts_ne, gv_bool, gv_undef, tt, tf, ft, ff, eq_self, if_true, if_false, Bool.false_eq_true, Bool.not_true, Bool.not_false]; rfl) (fun g1 => ?_) (fun g1 => ?_)
  ·try simp -implicitDefEqProofs (disch := first | decide | assumption | (simp (disch := decide) only [slotOf_zero, slotOf_succ, Option.map_some, puts_same, puts_ne, gv_bool, gv_undef, tt, tf, ft, ff, eq_self, if_true, if_false, Bool.false_eq_true, Bool.not_true, Bool.not_false, g1]; done) | omega) only [go_sem, BoxAt.cell hb0_0, wrap_id, bC0, g1, eq_self, if_true, if_false, Bool.false_eq_true]
   try simp -implicitDefEqProofs (disch := first | decide | assumption | omega) only [go_sem, BoxAt.cell hb0_0, wrap_id, bC0]
   refine CallA.pure (iIn_ok _ _ _ _) ?_
   try simp -implicitDefEqProofs (disch := first | decide | assumption | (simp (disch := decide) only [slotOf_zero, slotOf_succ, Option.map_some, puts_same, puts_ne, gv_bool, gv_undef, tt, tf, ft, ff, eq_self, if_true, if_false, Bool.false_eq_true, Bool.not_true, Bool.not_false, g1]; done) | omega) only [go_sem, BoxAt.cell hb0_0, wrap_id, bC0, g1, eq_self, if_true, if_false, Bool.false_eq_true]
   refine hK _ _ ?_
   clear hK K
   refine den_stop ?_
   refine ⟨?_, rfl⟩
   first | (simp (disch := decide) only [go_sem, g1, eq_self, Bool.true_and, Bool.and_true, Bool.false_and, Bool.and_false, Bool.true_or, Bool.or_true, Bool.false_or, Bool.or_false, if_true, if_false, Bool.false_eq_true]; done) | simp [HasL, sel, puts_at, g1]
  ·try simp -implicitDefEqProofs (disch := first | decide | assumption | (simp (disch := decide) only [slotOf_zero, slotOf_succ, Option.map_some, puts_same, puts_ne, gv_bool, gv_undef, tt, tf, ft, ff, eq_self, if_true, if_false, Bool.false_eq_true, Bool.not_true, Bool.not_false, g1]; done) | omega) only [go_sem, BoxAt.cell hb0_0, wrap_id, bC0, g1, eq_self, if_true, if_false, Bool.false_eq_true]
   refine hK _ _ ?_
   clear hK K
   refine den_stop ?_
   refine ⟨?_, rfl⟩
   first | (simp (disch := decide) only [go_sem, g1, eq_self, Bool.true_and, Bool.and_true, Bool.false_and, Bool.and_false, Bool.true_or, Bool.or_true, Bool.false_or, Bool.or_false, if_true, if_false, Bool.false_eq_true]; done) | simp [HasL, sel, puts_at, g1]
 intro en2
 simp (disch := decide) only [go_sem]
 refine den_cond rfl (fun c0 => ?_) (fun c0 => ?_)
 ·try simp only [decide_eq_true_eq, decide_eq_false_iff_not, beq_iff_eq, beq_eq_false_iff_ne, bne_iff_ne, ne_eq, Bool.not_eq_true', Bool.not_eq_false', Bool.and_eq_true, Bool.or_eq_true, bne_eq_false_iff_eq, Bool.or_eq_false_iff, Bool.and_eq_false_iff] at c0
  exact absurd c0 (by simp [hP, hn, in3])
 ·try simp only [decide_eq_true_eq, decide_eq_false_iff_not, beq_iff_eq, beq_eq_false_iff_ne, bne_iff_ne, ne_eq, Bool.not_eq_true', Bool.not_eq_false', Bool.and_eq_true, Bool.or_eq_true, bne_eq_false_iff_eq, Bool.or_eq_false_iff, Bool.and_eq_false_iff] at c0
  refine den_skip ?_
  refine den_seq ?_
  refine den_region TTok ?_
  intro K hK
  simp -implicitDefEqProofs (disch := first | decide | assumption | omega) only [go_sem, BoxAt.cell hb0_0, wrap_id, bC0]
  refine op_make sz22 rfl rfl (by omega) (by omega) OI 0 (fun _ => ⟨rfl, rfl⟩) ?_
  intro v3_2 h3_2 ho3_2 e3_2
  replace hb0_0 := BoxAt.ext hb0_0 e3_2
  have := Ext.size e3_2
  replace eB := Ext.trans eB e3_2
  have hfho3_2 : Fresh h0_0.size [h0_0.size] := Fresh.one _
  have hlenho3_2 : (List.replicate ((n + (1 : Int))).toNat (0 : Int)).length = ((n + (1 : Int))).toNat := List.length_replicate
  have hlho3_2 := OS.lt ho3_2
  try simp -implicitDefEqProofs (disch := first | decide | assumption | omega) only [go_sem, RdS.len (OS.rd ho3_2) sl22, RdS.idx (OS.rd ho3_2) sl22, R1.intN (OS.rd ho3_2), RdS.cells (OS.rd ho3_2), BoxAt.cell hb0_0, wrap_id, bC0]
  refine hK _ _ ?_
  clear hK K
  refine den_seq ?_
  have hrl : (List.replicate (n + 1).toNat (0 : Int)).length = (n + 1).toNat := List.length_replicate
  refine den_region TTok ?_
  intro K hK
  simp -implicitDefEqProofs (disch := first | decide | assumption | omega) only [go_sem, RdS.len (OS.rd ho3_2) sl22, RdS.idx (OS.rd ho3_2) sl22, R1.intN (OS.rd ho3_2), RdS.cells (OS.rd ho3_2), BoxAt.cell hb0_0, wrap_id, bC0]
  refine op_store1 (j := (n).toNat) st2 ho3_2 hfho3_2.nodup (by first | omega | (simp; omega)) rfl rfl ?_
  intro h4_3 ho4_3 c4_3
  have hsz4_3 := c4_3.size
  replace hb0_0 := BoxAt.chgA hb0_0 c4_3 (apart_lt hlhb0_0 hfho3_2 (by omega))
  have := c4_3.size
  replace eB := Ext.then eB c4_3 (ge_of hfho3_2 (by omega))
  have hlho4_3 := hlho3_2
  have hlenho4_3 : ((List.replicate ((n + (1 : Int))).toNat 0).set ((n).toNat) (1 : Int) : List Int).length = (List.replicate ((n + (1 : Int))).toNat 0 : List Int).length := List.length_set
  try simp -implicitDefEqProofs (disch := first | decide | assumption | omega) only [go_sem, RdS.len (OS.rd ho4_3) sl22, RdS.idx (OS.rd ho4_3) sl22, R1.intN (OS.rd ho4_3), RdS.cells (OS.rd ho4_3), BoxAt.cell hb0_0, wrap_id, bC0]
  refine hK _ _ ?_
  clear hK K
  refine den_seq ?_
  have e1 : (List.replicate ((n + (1 : Int))).toNat 0).set ((n).toNat) (1 : Int) = [1] := by rw [hn]; rfl
  rw [e1] at ho4_3
  have hbD : ([1] : List Int).all (fun x => in3 x 0 8) = true := by decide
  have hbL : ([1] : List Int).length ≤ 16 := by decide
  refine den_region TTok ?_
  intro K hK
  simp -implicitDefEqProofs (disch := first | decide | assumption | omega) only [go_sem, RdS.len (OS.rd ho4_3) sl22, RdS.idx (OS.rd ho4_3) sl22, R1.intN (OS.rd ho4_3), RdS.cells (OS.rd ho4_3), BoxAt.cell hb0_0, wrap_id, bC0]
  try simp -implicitDefEqProofs (disch := first | decide | assumption | omega) only [go_sem, RdS.len (OS.rd ho4_3) sl22, RdS.idx (OS.rd ho4_3) sl22, R1.intN (OS.rd ho4_3), RdS.cells (OS.rd ho4_3), BoxAt.cell hb0_0, wrap_id, bC0]
  refine CallA.mono (clone1_ok _ ([1] : List Int) _ (OS.rd ho4_3) (by omega)) ?_
  intro vw5_2_0 h5_2
  rintro ⟨zvw5_2_0, fw5_2_0, rfl, how5_2_0, hfw5_2_0, e5_2⟩
  replace ho4_3 := OS.ext ho4_3 e5_2
  replace hb0_0 := BoxAt.ext hb0_0 e5_2
  have := Ext.size e5_2
  replace eB := Ext.trans eB e5_2
  have hlhow5_2_0 := OS.lt how5_2_0
  try simp -implicitDefEqProofs (disch := first | decide | assumption | omega) only [go_sem, RdS.len (OS.rd ho4_3) sl22, RdS.idx (OS.rd ho4_3) sl22, R1.intN (OS.rd ho4_3), RdS.cells (OS.rd ho4_3), RdS.len (OS.rd how5_2_0) sl22, RdS.idx (OS.rd how5_2_0) sl22, R1.intN (OS.rd how5_2_0), RdS.cells (OS.rd how5_2_0), BoxAt.cell hb0_0, wrap_id, bC0]
  try simp -implicitDefEqProofs (disch := first | decide | assumption | omega) only [go_sem, RdS.len (OS.rd ho4_3) sl22, RdS.idx (OS.rd ho4_3) sl22, R1.intN (OS.rd ho4_3), RdS.cells (OS.rd ho4_3), RdS.len (OS.rd how5_2_0) sl22, RdS.idx (OS.rd how5_2_0) sl22, R1.intN (OS.rd how5_2_0), RdS.cells (OS.rd how5_2_0), BoxAt.cell hb0_0, wrap_id, bC0]
  refine CallA.mono (blank_ok _ _ ([1] : List Int) _ (OS.rd how5_2_0) hbD hbL) ?_
  intro v_ h5_3
  rintro ⟨vw5_3, fw5_3, rfl, how5_3, hfw5_3, e5_3⟩
  replace ho4_3 := OS.ext ho4_3 e5_3
  replace how5_2_0 := OS.ext how5_2_0 e5_3
  replace hb0_0 := BoxAt.ext hb0_0 e5_3
  have := Ext.size e5_3
  replace eB := Ext.trans eB e5_3
  have hlhow5_3 := OS.lt how5_3
  try simp -implicitDefEqProofs (disch := first | decide | assumption | omega) only [go_sem, RdS.len (OS.rd ho4_3) sl22, RdS.idx (OS.rd ho4_3) sl22, R1.intN (OS.rd ho4_3), RdS.cells (OS.rd ho4_3), RdS.len (OS.rd how5_2_0) sl22, RdS.idx (OS.rd how5_2_0) sl22, R1.intN (OS.rd how5_2_0), RdS.cells (OS.rd how5_2_0), RdS.len (OS.rd how5_3) sl23, RdS.idx (OS.rd how5_3) sl23, RdS.cellN (OS.rd how5_3), RdS.cells (OS.rd how5_3), BoxAt.cell hb0_0, wrap_id, bC0]
  refine op_storeB (cs' := #[.int .i64 (p), vw5_2_0, vw5_3]) st30 hb0_0 rfl rfl rfl (by simp) (allOne_mem (l := [.int .i64 (p), vw5_2_0, vw5_3]) ⟨rfl, (OS.one how5_2_0).1, (OS.one how5_3).1, trivial⟩) rfl ?_
  intro h5_4 hb0_0 c5_4
  replace ho4_3 := OS.chg ho4_3 c5_4 (apart_gt hfho3_2 hlhb0_0 (by omega))
  replace how5_2_0 := OS.chg how5_2_0 c5_4 (apart_gt hfw5_2_0 hlhb0_0 (by omega))
  replace how5_3 := OS.chg how5_3 c5_4 (apart_gt hfw5_3 hlhb0_0 (by omega))
  have := c5_4.size
  replace eB := Ext.then eB c5_4 (ge_of hfhb0_0 (by omega))
  try simp -implicitDefEqProofs (disch := first | decide | assumption | omega) only [go_sem, RdS.len (OS.rd ho4_3) sl22, RdS.idx (OS.rd ho4_3) sl22, R1.intN (OS.rd ho4_3), RdS.cells (OS.rd ho4_3), RdS.len (OS.rd how5_2_0) sl22, RdS.idx (OS.rd how5_2_0) sl22, R1.intN (OS.rd how5_2_0), RdS.cells (OS.rd how5_2_0), RdS.len (OS.rd how5_3) sl23, RdS.idx (OS.rd how5_3) sl23, RdS.cellN (OS.rd how5_3), RdS.cells (OS.rd how5_3), BoxAt.cell hb0_0, wrap_id, bC0]
  refine hK _ _ ?_
  clear hK K
  refine den_ret ?_
  simp -implicitDefEqProofs (disch := first | decide | assumption | omega) only [go_sem, RdS.len (OS.rd ho4_3) sl22, RdS.idx (OS.rd ho4_3) sl22, R1.intN (OS.rd ho4_3), RdS.cells (OS.rd ho4_3), RdS.len (OS.rd how5_2_0) sl22, RdS.idx (OS.rd how5_2_0) sl22, R1.intN (OS.rd how5_2_0), RdS.cells (OS.rd how5_2_0), RdS.len (OS.rd how5_3) sl23, RdS.idx (OS.rd how5_3) sl23, RdS.cellN (OS.rd how5_3), RdS.cells (OS.rd how5_3), BoxAt.cell hb0_0, wrap_id, bC0, resP_ct, ld30]
  exact ⟨_, _, _, _, rfl, how5_2_0, how5_3, Fresh.two hfw5_2_0 hfw5_3 (apart_lt hlhow5_2_0 hfw5_3 (by omega)) (by omega) (by omega), eB⟩

set_option maxRecDepth 100000 in
theorem iUnitC_ok (p : Int) (h : Heap)  (hP : isP p = true) : CallA Try.prog 110 #[.int .i64 p] h fun v' h' => ∃ wd0 wm0 fd0 fm0, v' = .tuple #[.agg #[.int .i64 ((⟨p, [1], []⟩ : Cx)).p, wd0, wm0], .int .i64 (0)] ∧ O1 h' wd0 ((⟨p, [1], []⟩ : Cx)).dims fd0 ∧ O3 h' wm0 ((⟨p, [1], []⟩ : Cx)).maps fm0 ∧ Fresh h.size (fd0 ++ fm0) ∧ Ext h h' := by
 refine callA_intro TTok (args := [_]) Try.func110 (by kernel_rfl) rfl 8 rfl (by simp) [.cell 2 30, .tmp 3] rfl ?_
 simp only [idxs, Nat.reduceAdd]
 refine den_seq ?_
 refine den_region TTok ?_
 intro K hK
 simp -implicitDefEqProofs (disch := first | decide | assumption | omega) only [go_sem, wrap_id, bC0]
 refine op_alloc (cs := #[.int .i64 0, .slice none 0 0, .slice none 0 0]) (by kernel_rfl) ?_
 intro h0_0 e0_0 hb0_0 z0_0
 have := Ext.size e0_0
 have eB := e0_0
 have hfhb0_0 : Fresh h.size [h.size] := Fresh.one _
 have hlhb0_0 := one_lt (show h.size < h0_0.size by omega)
 try simp -implicitDefEqProofs (disch := first | decide | assumption | omega) only [go_sem, BoxAt.cell hb0_0, wrap_id, bC0]
 refine hK _ _ ?_
 clear hK K
 refine den_seq ?_
 refine den_region TTok ?_
 intro K hK
 simp -implicitDefEqProofs (disch := first | decide | assumption | omega) only [go_sem, BoxAt.cell hb0_0, wrap_id, bC0]
 try simp -implicitDefEqProofs (disch := first | decide | assumption | omega) only [go_sem, BoxAt.cell hb0_0, wrap_id, bC0]
 refine CallA.mono (iSph_ok  p (0 : Int) _  (by assumption) rfl) ?_
 intro v_ h1_1
 rintro ⟨vd1_1_0, vm1_1_0, fd1_1_0, fm1_1_0, rfl, hod1_1_0, hom1_1_0, hf1_1_0, e1_1⟩
 replace hb0_0 := BoxAt.ext hb0_0 e1_1
 have := Ext.size e1_1
 replace eB := Ext.trans eB e1_1
 have hfd1_1_0 := hf1_1_0.left
 have hfm1_1_0 := hf1_1_0.right
 have hlhod1_1_0 := OS.lt hod1_1_0
 have hlhom1_1_0 := OS.lt hom1_1_0
 have ap1 : Apart fd1_1_0 fm1_1_0 := apart_nodup hf1_1_0
 try simp -implicitDefEqProofs (disch := first | decide | assumption | omega) only [go_sem, RdS.len (OS.rd hod1_1_0) sl22, RdS.idx (OS.rd hod1_1_0) sl22, R1.intN (OS.rd hod1_1_0), RdS.cells (OS.rd hod1_1_0), RdS.len (OS.rd hom1_1_0) sl23, RdS.idx (OS.rd hom1_1_0) sl23, RdS.cellN (OS.rd hom1_1_0), RdS.cells (OS.rd hom1_1_0), BoxAt.cell hb0_0, wrap_id, bC0]
 refine op_storeB (cs' := #[.int .i64 (((⟨p, [1], []⟩ : Cx).p)), vd1_1_0, vm1_1_0]) st30 hb0_0 rfl rfl rfl (by simp) (allOne_mem (l := [.int .i64 (((⟨p, [1], []⟩ : Cx).p)), vd1_1_0, vm1_1_0]) ⟨rfl, (OS.one hod1_1_0).1, (OS.one hom1_1_0).1, trivial⟩) rfl ?_
 intro h1_4 hb0_0 c1_4
 replace hod1_1_0 := OS.chg hod1_1_0 c1_4 (apart_gt hfd1_1_0 hlhb0_0 (by omega))
 replace hom1_1_0 := OS.chg hom1_1_0 c1_4 (apart_gt hfm1_1_0 hlhb0_0 (by omega))
 have := c1_4.size
 replace eB := Ext.then eB c1_4 (ge_of hfhb0_0 (by omega))
 try simp -implicitDefEqProofs (disch := first | decide | assumption | omega) only [go_sem, RdS.len (OS.rd hod1_1_0) sl22, RdS.idx (OS.rd hod1_1_0) sl22, R1.intN (OS.rd hod1_1_0), RdS.cells (OS.rd hod1_1_0), RdS.len (OS.rd hom1_1_0) sl23, RdS.idx (OS.rd hom1_1_0) sl23, RdS.cellN (OS.rd hom1_1_0), RdS.cells (OS.rd hom1_1_0), BoxAt.cell hb0_0, wrap_id, bC0]
 refine hK _ _ ?_
 clear hK K
 refine den_ret ?_
 simp -implicitDefEqProofs (disch := first | decide | assumption | omega) only [go_sem, RdS.len (OS.rd hod1_1_0) sl22, RdS.idx (OS.rd hod1_1_0) sl22, R1.intN (OS.rd hod1_1_0), RdS.cells (OS.rd hod1_1_0), RdS.len (OS.rd hom1_1_0) sl23, RdS.idx (OS.rd hom1_1_0) sl23, RdS.cellN (OS.rd hom1_1_0), RdS.cells (OS.rd hom1_1_0), BoxAt.cell hb0_0, wrap_id, bC0, resP_ct, ld30]
 exact ⟨_, _, _, _, rfl, hod1_1_0, hom1_1_0, Fresh.two hfd1_1_0 hfm1_1_0 ap1 (by omega) (by omega), eB⟩
end Go.Proofs.Ytffggocjkhcgeaa

namespace Go.Proofs.Ytffggocjkhcgeaa
open Go
theorem te_0 {X Y : Cx} (h : (teP X Y).2 = 0) : fitP (tdP X Y) = true := by
 unfold teP at h
 split at h
 ·assumption
 ·cases h
theorem te_n {X Y : Cx} (h : ¬ (teP X Y).2 = 0) : ¬ fitP (tdP X Y) = true ∧ (teP X Y).2 = 3 := by
 unfold teP at h ⊢
 split
 ·rename_i hf; rw [if_pos hf] at h; exact (h rfl).elim
 ·rename_i hf; exact ⟨hf, rfl⟩
end Go.Proofs.Ytffggocjkhcgeaa

namespace Go.Proofs.Ytffggocjkhcgeaa
open Go
set_option maxRecDepth 100000 in
theorem sPow_ok (vX : Value) (X : Cx) (k : Int) (h : Heap) (rX : RC h vX X)  : CallA Try.prog 45 #[vX, .int .i64 k] h fun v' h' => ∃ wd0 wm0 fd0 fm0, v' = .tuple #[.agg #[.int .i64 ((powP X k).1).p, wd0, wm0], .int .i64 ((powP X k).2)] ∧ O1 h' wd0 ((powP X k).1).dims fd0 ∧ O3 h' wm0 ((powP X k).1).maps fm0 ∧ Fresh h.size (fd0 ++ fm0) ∧ Ext h h' := by
 obtain ⟨vdX, vmX, rfl, hdX, hmX⟩ := rX
 have hledX := RdS.le hdX
 have hlemX := RdS.le hmX
 refine callA_intro TTok (args := [_, _]) Try.func45 (by kernel_rfl) rfl 34 rfl (by simp) [.cell 4 30, .tmp 5] rfl ?_
 simp only [idxs, Nat.reduceAdd]
 refine den_seq ?_
 refine den_region TTok ?_
 intro K hK
 simp -implicitDefEqProofs (disch := first | decide | assumption | omega) only [go_sem, RdS.len hdX sl22, RdS.idx hdX sl22, R1.intB hdX (HPres.refl _), RdS.cells hdX, RdS.len hmX sl23, RdS.idx hmX sl23, RdS.cellB hmX (HPres.refl _), RdS.cells hmX, wrap_id, bC0]
 refine op_box (cs := #[.int .i64 (X.p), vdX, vmX]) rfl ?_
 intro h0_0 e0_0 hb0_0 z0_0
 have := Ext.size e0_0
 have eB := e0_0
 have hfhb0_0 : Fresh h.size [h.size] := Fresh.one _
 have hlhb0_0 := one_lt (show h.size < h0_0.size by omega)
 try simp -implicitDefEqProofs (disch := first | decide | assumption | omega) only [go_sem, RdS.len hdX sl22, RdS.idx hdX sl22, R1.intB hdX (Ext.pres eB), RdS.cells hdX, RdS.len hmX sl23, RdS.idx hmX sl23, RdS.cellB hmX (Ext.pres eB), RdS.cells hmX, BoxAt.cell hb0_0, wrap_id, bC0]
 refine op_alloc (cs := #[.int .i64 0, .slice none 0 0, .slice none 0 0]) (by kernel_rfl) ?_
 intro h0_1 e0_1 hb0_1 z0_1
 replace hb0_0 := BoxAt.ext hb0_0 e0_1
 have := Ext.size e0_1
 replace eB := Ext.trans eB e0_1
 have hfhb0_1 : Fresh h0_0.size [h0_0.size] := Fresh.one _
 have hlhb0_1 := one_lt (show h0_0.size < h0_1.size by omega)
 try simp -implicitDefEqProofs (disch := first | decide | assumption | omega) only [go_sem, RdS.len hdX sl22, RdS.idx hdX sl22, R1.intB hdX (Ext.pres eB), RdS.cells hdX, RdS.len hmX sl23, RdS.idx hmX sl23, RdS.cellB hmX (Ext.pres eB), RdS.cells hmX, BoxAt.cell hb0_0, BoxAt.cell hb0_1, wrap_id, bC0]
 refine hK _ _ ?_
 clear hK K
 refine den_seq ?_
 refine den_block ?_
 refine den_seq ?_
 refine den_region TTok ?_
 intro K hK
 simp -implicitDefEqProofs (disch := first | decide | assumption | omega) only [go_sem, ld30, RdS.len hdX sl22, RdS.idx hdX sl22, R1.intB hdX (Ext.pres eB), RdS.cells hdX, RdS.len hmX sl23, RdS.idx hmX sl23, RdS.cellB hmX (Ext.pres eB), RdS.cells hmX, BoxAt.cell hb0_0, BoxAt.cell hb0_1, wrap_id, bC0]
 try simp -implicitDefEqProofs (disch := first | decide | assumption | omega) only [go_sem, RdS.len hdX sl22, RdS.idx hdX sl22, R1.intB hdX (Ext.pres eB), RdS.cells hdX, RdS.len hmX sl23, RdS.idx hmX sl23, RdS.cellB hmX (Ext.pres eB), RdS.cells hmX, BoxAt.cell hb0_0, BoxAt.cell hb0_1, wrap_id, bC0]
 refine CallA.mono (sIs_ok _ X _ ⟨_, _, rfl, (RdS.pres hdX (Ext.pres eB)), (RdS.pres hmX (Ext.pres eB))⟩) ?_
 intro v_ h1_1
 rintro ⟨rfl, e1_1⟩
 replace hb0_0 := BoxAt.ext hb0_0 e1_1
 replace hb0_1 := BoxAt.ext hb0_1 e1_1
 have := Ext.size e1_1
 replace eB := Ext.trans eB e1_1
 try simp -implicitDefEqProofs (disch := first | decide | assumption | omega) only [go_sem, RdS.len hdX sl22, RdS.idx hdX sl22, R1.intB hdX (Ext.pres eB), RdS.cells hdX, RdS.len hmX sl23, RdS.idx hmX sl23, RdS.cellB hmX (Ext.pres eB), RdS.cells hmX, BoxAt.cell hb0_0, BoxAt.cell hb0_1, wrap_id, bC0]
 refine hK _ _ ?_
 clear hK K
 refine den_cond rfl (fun c0 => ?_) (fun c0 => ?_)
 ·try simp only [decide_eq_true_eq, decide_eq_false_iff_not, beq_iff_eq, beq_eq_false_iff_ne, bne_iff_ne, ne_eq, Bool.not_eq_true', Bool.not_eq_false', Bool.and_eq_true, Bool.or_eq_true, bne_eq_false_iff_eq, Bool.not_eq_true] at c0
  refine den_seq ?_
  refine den_region TTok ?_
  intro K hK
  simp -implicitDefEqProofs (disch := first | decide | assumption | omega) only [go_sem, RdS.len hdX sl22, RdS.idx hdX sl22, R1.intB hdX (Ext.pres eB), RdS.cells hdX, RdS.len hmX sl23, RdS.idx hmX sl23, RdS.cellB hmX (Ext.pres eB), RdS.cells hmX, BoxAt.cell hb0_1, wrap_id, bC0]
  refine op_storeB (cs' := #[.int .i64 ((0 : Int)), .slice none 0 0, .slice none 0 0]) st30 hb0_1 rfl rfl rfl (by simp) (allOne_mem (l := [.int .i64 ((0 : Int)), .slice none 0 0, .slice none 0 0]) ⟨rfl, rfl, rfl, trivial⟩) rfl ?_
  intro h2_1 hb0_1 c2_1
  have := c2_1.size
  replace eB := Ext.then eB c2_1 (ge_of hfhb0_1 (by omega))
  try simp -implicitDefEqProofs (disch := first | decide | assumption | omega) only [go_sem, RdS.len hdX sl22, RdS.idx hdX sl22, R1.intB hdX (Ext.pres eB), RdS.cells hdX, RdS.len hmX sl23, RdS.idx hmX sl23, RdS.cellB hmX (Ext.pres eB), RdS.cells hmX, BoxAt.cell hb0_1, wrap_id, bC0]
  refine hK _ _ ?_
  clear hK K
  refine den_ret ?_
  simp -implicitDefEqProofs (disch := first | decide | assumption | omega) only [go_sem, RdS.len hdX sl22, RdS.idx hdX sl22, R1.intB hdX (Ext.pres eB), RdS.cells hdX, RdS.len hmX sl23, RdS.idx hmX sl23, RdS.cellB hmX (Ext.pres eB), RdS.cells hmX, BoxAt.cell hb0_1, wrap_id, bC0, resP_ct, ld30]
  have hz : powP X k = (⟨0, [], []⟩, 1) := by rw [powP, if_neg (by rw [c0]; decide)]
  rw [hz]
  exact ⟨.slice none 0 0, .slice none 0 0, [], [], rfl, OS.nil, OS.nil, Fresh.nil _, eB⟩
 ·try simp only [decide_eq_true_eq, decide_eq_false_iff_not, beq_iff_eq, beq_eq_false_iff_ne, bne_iff_ne, ne_eq, Bool.not_eq_true', Bool.not_eq_false', Bool.and_eq_true, Bool.or_eq_true, bne_eq_false_iff_eq, Bool.not_eq_true] at c0
  have hX := isC_t.1 c0
  have hP := hX.p
  have hlX := hX.len
  refine den_seq ?_
  refine den_region TTok ?_
  intro K hK
  simp -implicitDefEqProofs (disch := first | decide | assumption | omega) only [go_sem, RdS.len hdX sl22, RdS.idx hdX sl22, R1.intB hdX (Ext.pres eB), RdS.cells hdX, RdS.len hmX sl23, RdS.idx hmX sl23, RdS.cellB hmX (Ext.pres eB), RdS.cells hmX, BoxAt.cell hb0_0, BoxAt.cell hb0_1, wrap_id, bC0]
  try simp -implicitDefEqProofs (disch := first | decide | assumption | omega) only [go_sem, RdS.len hdX sl22, RdS.idx hdX sl22, R1.intB hdX (Ext.pres eB), RdS.cells hdX, RdS.len hmX sl23, RdS.idx hmX sl23, RdS.cellB hmX (Ext.pres eB), RdS.cells hmX, BoxAt.cell hb0_0, BoxAt.cell hb0_1, wrap_id, bC0]
  refine CallA.pure (sIn_ok _ _ _ _) ?_
  try simp -implicitDefEqProofs (disch := first | decide | assumption | omega) only [go_sem, RdS.len hdX sl22, RdS.idx hdX sl22, R1.intB hdX (Ext.pres eB), RdS.cells hdX, RdS.len hmX sl23, RdS.idx hmX sl23, RdS.cellB hmX (Ext.pres eB), RdS.cells hmX, BoxAt.cell hb0_0, BoxAt.cell hb0_1, wrap_id, bC0]
  refine hK _ _ ?_
  clear hK K
  refine den_cond rfl (fun c1 => ?_) (fun c1 => ?_)
  ·try simp only [decide_eq_true_eq, decide_eq_false_iff_not, beq_iff_eq, beq_eq_false_iff_ne, bne_iff_ne, ne_eq, Bool.not_eq_true', Bool.not_eq_false', Bool.and_eq_true, Bool.or_eq_true, bne_eq_false_iff_eq, Bool.not_eq_true] at c1
   refine den_seq ?_
   refine den_region TTok ?_
   intro K hK
   simp -implicitDefEqProofs (disch := first | decide | assumption | omega) only [go_sem, RdS.len hdX sl22, RdS.idx hdX sl22, R1.intB hdX (Ext.pres eB), RdS.cells hdX, RdS.len hmX sl23, RdS.idx hmX sl23, RdS.cellB hmX (Ext.pres eB), RdS.cells hmX, BoxAt.cell hb0_1, wrap_id, bC0]
   refine op_storeB (cs' := #[.int .i64 ((0 : Int)), .slice none 0 0, .slice none 0 0]) st30 hb0_1 rfl rfl rfl (by simp) (allOne_mem (l := [.int .i64 ((0 : Int)), .slice none 0 0, .slice none 0 0]) ⟨rfl, rfl, rfl, trivial⟩) rfl ?_
   intro h4_1 hb0_1 c4_1
   have := c4_1.size
   replace eB := Ext.then eB c4_1 (ge_of hfhb0_1 (by omega))
   try simp -implicitDefEqProofs (disch := first | decide | assumption | omega) only [go_sem, RdS.len hdX sl22, RdS.idx hdX sl22, R1.intB hdX (Ext.pres eB), RdS.cells hdX, RdS.len hmX sl23, RdS.idx hmX sl23, RdS.cellB hmX (Ext.pres eB), RdS.cells hmX, BoxAt.cell hb0_1, wrap_id, bC0]
   refine hK _ _ ?_
   clear hK K
   refine den_ret ?_
   simp -implicitDefEqProofs (disch := first | decide | assumption | omega) only [go_sem, RdS.len hdX sl22, RdS.idx hdX sl22, R1.intB hdX (Ext.pres eB), RdS.cells hdX, RdS.len hmX sl23, RdS.idx hmX sl23, RdS.cellB hmX (Ext.pres eB), RdS.cells hmX, BoxAt.cell hb0_1, wrap_id, bC0, resP_ct, ld30]
   have hz : powP X k = (⟨0, [], []⟩, 2) := by rw [powP, if_pos c0, if_neg (by rw [c1]; decide)]
   rw [hz]
   exact ⟨.slice none 0 0, .slice none 0 0, [], [], rfl, OS.nil, OS.nil, Fresh.nil _, eB⟩
  ·try simp only [decide_eq_true_eq, decide_eq_false_iff_not, beq_iff_eq, beq_eq_false_iff_ne, bne_iff_ne, ne_eq, Bool.not_eq_true', Bool.not_eq_false', Bool.and_eq_true, Bool.or_eq_true, bne_eq_false_iff_eq, Bool.not_eq_true] at c1
   have hk4 := in3_iff.1 c1
   refine den_skip ?_
   refine den_blk ?_
   refine den_seq ?_
   refine den_region TTok ?_
   intro K hK
   simp -implicitDefEqProofs (disch := first | decide | assumption | omega) only [go_sem, fa30_0, ld2, RdS.len hdX sl22, RdS.idx hdX sl22, R1.intB hdX (Ext.pres eB), RdS.cells hdX, RdS.len hmX sl23, RdS.idx hmX sl23, RdS.cellB hmX (Ext.pres eB), RdS.cells hmX, BoxAt.cell hb0_0, BoxAt.cell hb0_1, wrap_id, bC0]
   try simp -implicitDefEqProofs (disch := first | decide | assumption | omega) only [go_sem, RdS.len hdX sl22, RdS.idx hdX sl22, R1.intB hdX (Ext.pres eB), RdS.cells hdX, RdS.len hmX sl23, RdS.idx hmX sl23, RdS.cellB hmX (Ext.pres eB), RdS.cells hmX, BoxAt.cell hb0_0, BoxAt.cell hb0_1, wrap_id, bC0]
   refine CallA.mono (sUnitC_ok  X.p _  ) ?_
   intro v_ h5_2
   rintro ⟨vd5_2_0, vm5_2_0, fd5_2_0, fm5_2_0, rfl, hod5_2_0, hom5_2_0, hf5_2_0, e5_2⟩
   replace hb0_0 := BoxAt.ext hb0_0 e5_2
   replace hb0_1 := BoxAt.ext hb0_1 e5_2
   have := Ext.size e5_2
   replace eB := Ext.trans eB e5_2
   have hfd5_2_0 := hf5_2_0.left
   have hfm5_2_0 := hf5_2_0.right
   have hlhod5_2_0 := OS.lt hod5_2_0
   have hlhom5_2_0 := OS.lt hom5_2_0
   have ap1 : Apart fd5_2_0 fm5_2_0 := apart_nodup hf5_2_0
   try simp -implicitDefEqProofs (disch := first | decide | assumption | omega) only [go_sem, RdS.len hdX sl22, RdS.idx hdX sl22, R1.intB hdX (Ext.pres eB), RdS.cells hdX, RdS.len hmX sl23, RdS.idx hmX sl23, RdS.cellB hmX (Ext.pres eB), RdS.cells hmX, RdS.len (OS.rd hod5_2_0) sl22, RdS.idx (OS.rd hod5_2_0) sl22, R1.intN (OS.rd hod5_2_0), RdS.cells (OS.rd hod5_2_0), RdS.len (OS.rd hom5_2_0) sl23, RdS.idx (OS.rd hom5_2_0) sl23, RdS.cellN (OS.rd hom5_2_0), RdS.cells (OS.rd hom5_2_0), BoxAt.cell hb0_0, BoxAt.cell hb0_1, wrap_id, bC0]
   refine op_alloc (cs := #[.int .i64 0, .slice none 0 0, .slice none 0 0]) (by kernel_rfl) ?_
   intro h5_3 e5_3 hb5_3 z5_3
   replace hod5_2_0 := OS.ext hod5_2_0 e5_3
   replace hom5_2_0 := OS.ext hom5_2_0 e5_3
   replace hb0_0 := BoxAt.ext hb0_0 e5_3
   replace hb0_1 := BoxAt.ext hb0_1 e5_3
   have := Ext.size e5_3
   replace eB := Ext.trans eB e5_3
   have hfhb5_3 : Fresh h5_2.size [h5_2.size] := Fresh.one _
   have hlhb5_3 := one_lt (show h5_2.size < h5_3.size by omega)
   try simp -implicitDefEqProofs (disch := first | decide | assumption | omega) only [go_sem, RdS.len hdX sl22, RdS.idx hdX sl22, R1.intB hdX (Ext.pres eB), RdS.cells hdX, RdS.len hmX sl23, RdS.idx hmX sl23, RdS.cellB hmX (Ext.pres eB), RdS.cells hmX, RdS.len (OS.rd hod5_2_0) sl22, RdS.idx (OS.rd hod5_2_0) sl22, R1.intN (OS.rd hod5_2_0), RdS.cells (OS.rd hod5_2_0), RdS.len (OS.rd hom5_2_0) sl23, RdS.idx (OS.rd hom5_2_0) sl23, RdS.cellN (OS.rd hom5_2_0), RdS.cells (OS.rd hom5_2_0), BoxAt.cell hb0_0, BoxAt.cell hb0_1, BoxAt.cell hb5_3, wrap_id, bC0]
   refine op_storeB (cs' := #[.int .i64 (((⟨X.p, [1], []⟩ : Cx).p)), vd5_2_0, vm5_2_0]) st30 hb5_3 rfl rfl rfl (by simp) (allOne_mem (l := [.int .i64 (((⟨X.p, [1], []⟩ : Cx).p)), vd5_2_0, vm5_2_0]) ⟨rfl, (OS.one hod5_2_0).1, (OS.one hom5_2_0).1, trivial⟩) rfl ?_
   intro h5_4 hb5_3 c5_4
   replace hod5_2_0 := OS.chg hod5_2_0 c5_4 (apart_lt hlhod5_2_0 hfhb5_3 (by omega))
   replace hom5_2_0 := OS.chg hom5_2_0 c5_4 (apart_lt hlhom5_2_0 hfhb5_3 (by omega))
   replace hb0_0 := BoxAt.chgA hb0_0 c5_4 (apart_lt hlhb0_0 hfhb5_3 (by omega))
   replace hb0_1 := BoxAt.chgA hb0_1 c5_4 (apart_lt hlhb0_1 hfhb5_3 (by omega))
   have := c5_4.size
   replace eB := Ext.then eB c5_4 (ge_of hfhb5_3 (by omega))
   try simp -implicitDefEqProofs (disch := first | decide | assumption | omega) only [go_sem, RdS.len hdX sl22, RdS.idx hdX sl22, R1.intB hdX (Ext.pres eB), RdS.cells hdX, RdS.len hmX sl23, RdS.idx hmX sl23, RdS.cellB hmX (Ext.pres eB), RdS.cells hmX, RdS.len (OS.rd hod5_2_0) sl22, RdS.idx (OS.rd hod5_2_0) sl22, R1.intN (OS.rd hod5_2_0), RdS.cells (OS.rd hod5_2_0), RdS.len (OS.rd hom5_2_0) sl23, RdS.idx (OS.rd hom5_2_0) sl23, RdS.cellN (OS.rd hom5_2_0), RdS.cells (OS.rd hom5_2_0), BoxAt.cell hb0_0, BoxAt.cell hb0_1, BoxAt.cell hb5_3, wrap_id, bC0]
   refine hK _ _ ?_
   clear hK K
   refine den_seq ?_
   refine den_block ?_
   refine den_sel [1, 2, 4, 6] ?_
   intro env_2
   simp only [go_sem]
   refine den_loopS (σ := Int × Nat × Value × List Nat × Value × List Nat) (fun st_ => [(1, .int .i64 st_.1)]) (fun st_ H => (st_.1 + (st_.2.1 : Int) = k) ∧ (0 ≤ st_.1) ∧ (∀ q, q < st_.2.1 → fitP (tdP (pw X q) X) = true) ∧ (O1 H st_.2.2.1 ((pw X st_.2.1).dims) st_.2.2.2.1) ∧ (Fresh (h1_1.size) st_.2.2.2.1) ∧ (Sub (fd5_2_0 ++ (fm5_2_0 ++ ([h5_2.size]))) h5_4.size st_.2.2.2.1) ∧ (O3 H st_.2.2.2.2.1 ((pw X st_.2.1).maps) st_.2.2.2.2.2) ∧ (Fresh (h1_1.size) st_.2.2.2.2.2) ∧ (Sub (fd5_2_0 ++ (fm5_2_0 ++ ([h5_2.size]))) h5_4.size st_.2.2.2.2.2) ∧ (BoxAt H (h5_2.size) #[.int .i64 (((⟨X.p, [1], []⟩ : Cx).p)), st_.2.2.1, st_.2.2.2.2.1] 30) ∧ (Apart st_.2.2.2.1 st_.2.2.2.2.2) ∧ (Apart st_.2.2.2.1 [h5_2.size]) ∧ (Apart st_.2.2.2.2.2 [h5_2.size]) ∧ (Chg (fd5_2_0 ++ (fm5_2_0 ++ ([h5_2.size]))) h5_4 H)) (fun st_ => st_.1.toNat) (k, 0, vd5_2_0, fd5_2_0, vm5_2_0, fm5_2_0) ?_ ?_
   ·exact ⟨by simp, by omega, fun q hq => absurd hq (Nat.not_lt_zero _), by exact hod5_2_0, hfd5_2_0, (Sub.left Sub.refl), by exact hom5_2_0, hfm5_2_0, (Sub.right (Sub.left Sub.refl)), by simpa using hb5_3, ap1, (apart_lt hlhod5_2_0 hfhb5_3 (by omega)), (apart_lt hlhom5_2_0 hfhb5_3 (by omega)), Chg.refl _ _⟩
   ·rintro ⟨m, n, vhD, fphD, vhM, fphM⟩ h5 ee4 ⟨hmn, hm0, hfq, hD, hfhD, sbhD, hM, hfhM, sbhM, hbx6, ap_hD_hM, ap_hD_hbx6, ap_hM_hbx6, cL3⟩
    dsimp only at hmn hm0 hfq hD hfhD sbhD hM hfhM sbhM hbx6 ap_hD_hM ap_hD_hbx6 ap_hM_hbx6 cL3
    replace hb0_0 := BoxAt.chgA hb0_0 cL3 (Apart.app (apart_lt hlhb0_0 hfd5_2_0 (by omega)) (Apart.app (apart_lt hlhb0_0 hfm5_2_0 (by omega)) (apart_lt hlhb0_0 hfhb5_3 (by omega))))
    replace hb0_1 := BoxAt.chgA hb0_1 cL3 (Apart.app (apart_lt hlhb0_1 hfd5_2_0 (by omega)) (Apart.app (apart_lt hlhb0_1 hfm5_2_0 (by omega)) (apart_lt hlhb0_1 hfhb5_3 (by omega))))
    have := cL3.size
    replace eB := Ext.then eB cL3 (ge_app (ge_of hfd5_2_0 (by omega)) (ge_app (ge_of hfm5_2_0 (by omega)) (ge_of hfhb5_3 (by omega))))
    have hlhD := OS.lt hD
    have hlhM := OS.lt hM
    have hfhbx6 := hfhb5_3
    have hlhbx6 := hlhb5_3
    simp only [List.cons_append, List.nil_append]
    have hT := pw_T hX n hfq
    have hlT := hT.len
    refine den_seq ?_
    refine den_seq ?_
    refine den_region TTok ?_
    intro K hK
    simp -implicitDefEqProofs (disch := first | decide | assumption | omega) only [go_sem, RdS.len hdX sl22, RdS.idx hdX sl22, R1.intB hdX (Ext.pres eB), RdS.cells hdX, RdS.len hmX sl23, RdS.idx hmX sl23, RdS.cellB hmX (Ext.pres eB), RdS.cells hmX, RdS.len (OS.rd hD) sl22, RdS.idx (OS.rd hD) sl22, R1.intN (OS.rd hD), RdS.cells (OS.rd hD), RdS.len (OS.rd hM) sl23, RdS.idx (OS.rd hM) sl23, RdS.cellN (OS.rd hM), RdS.cells (OS.rd hM), BoxAt.cell hb0_0, BoxAt.cell hb0_1, BoxAt.cell hbx6, wrap_id, bC0]
    refine hK _ _ ?_
    clear hK K
    refine den_cond rfl (fun c2 => ?_) (fun c2 => ?_)
    ·try simp only [decide_eq_true_eq, decide_eq_false_iff_not, beq_iff_eq, beq_eq_false_iff_ne, bne_iff_ne, ne_eq, Bool.not_eq_true', Bool.not_eq_false', Bool.and_eq_true, Bool.or_eq_true, bne_eq_false_iff_eq, Bool.not_eq_true] at c2
     refine den_skip ?_
     refine den_seq ?_
     refine den_block ?_
     refine den_seq ?_
     refine den_seq ?_
     refine den_region TTok ?_
     intro K hK
     simp -implicitDefEqProofs (disch := first | decide | assumption | omega) only [go_sem, ld30, RdS.len hdX sl22, RdS.idx hdX sl22, R1.intB hdX (Ext.pres eB), RdS.cells hdX, RdS.len hmX sl23, RdS.idx hmX sl23, RdS.cellB hmX (Ext.pres eB), RdS.cells hmX, RdS.len (OS.rd hD) sl22, RdS.idx (OS.rd hD) sl22, R1.intN (OS.rd hD), RdS.cells (OS.rd hD), RdS.len (OS.rd hM) sl23, RdS.idx (OS.rd hM) sl23, RdS.cellN (OS.rd hM), RdS.cells (OS.rd hM), BoxAt.cell hb0_0, BoxAt.cell hb0_1, BoxAt.cell hbx6, wrap_id, bC0]
     try simp -implicitDefEqProofs (disch := first | decide | assumption | omega) only [go_sem, RdS.len hdX sl22, RdS.idx hdX sl22, R1.intB hdX (Ext.pres eB), RdS.cells hdX, RdS.len hmX sl23, RdS.idx hmX sl23, RdS.cellB hmX (Ext.pres eB), RdS.cells hmX, RdS.len (OS.rd hD) sl22, RdS.idx (OS.rd hD) sl22, R1.intN (OS.rd hD), RdS.cells (OS.rd hD), RdS.len (OS.rd hM) sl23, RdS.idx (OS.rd hM) sl23, RdS.cellN (OS.rd hM), RdS.cells (OS.rd hM), BoxAt.cell hb0_0, BoxAt.cell hb0_1, BoxAt.cell hbx6, wrap_id, bC0]
     refine CallA.mono (sDims_okT _ _ (pw X n) X _ ⟨_, _, rfl, (OS.rd hD), (OS.rd hM)⟩ ⟨_, _, rfl, (RdS.pres hdX (Ext.pres eB)), (RdS.pres hmX (Ext.pres eB))⟩ hT hX.toT) ?_
     intro vw8_2_0 h8_2
     rintro ⟨zvw8_2_0, fw8_2_0, rfl, how8_2_0, hfw8_2_0, e8_2⟩
     replace hD := OS.ext hD e8_2
     replace hM := OS.ext hM e8_2
     replace hb0_0 := BoxAt.ext hb0_0 e8_2
     replace hb0_1 := BoxAt.ext hb0_1 e8_2
     replace hbx6 := BoxAt.ext hbx6 e8_2
     have := Ext.size e8_2
     replace eB := Ext.trans eB e8_2
     replace cL3 := Chg.stepE cL3 e8_2
     have hlhow8_2_0 := OS.lt how8_2_0
     try simp -implicitDefEqProofs (disch := first | decide | assumption | omega) only [go_sem, RdS.len hdX sl22, RdS.idx hdX sl22, R1.intB hdX (Ext.pres eB), RdS.cells hdX, RdS.len hmX sl23, RdS.idx hmX sl23, RdS.cellB hmX (Ext.pres eB), RdS.cells hmX, RdS.len (OS.rd hD) sl22, RdS.idx (OS.rd hD) sl22, R1.intN (OS.rd hD), RdS.cells (OS.rd hD), RdS.len (OS.rd hM) sl23, RdS.idx (OS.rd hM) sl23, RdS.cellN (OS.rd hM), RdS.cells (OS.rd hM), RdS.len (OS.rd how8_2_0) sl22, RdS.idx (OS.rd how8_2_0) sl22, R1.intN (OS.rd how8_2_0), RdS.cells (OS.rd how8_2_0), BoxAt.cell hb0_0, BoxAt.cell hb0_1, BoxAt.cell hbx6, wrap_id, bC0]
     try simp -implicitDefEqProofs (disch := first | decide | assumption | omega) only [go_sem, RdS.len hdX sl22, RdS.idx hdX sl22, R1.intB hdX (Ext.pres eB), RdS.cells hdX, RdS.len hmX sl23, RdS.idx hmX sl23, RdS.cellB hmX (Ext.pres eB), RdS.cells hmX, RdS.len (OS.rd hD) sl22, RdS.idx (OS.rd hD) sl22, R1.intN (OS.rd hD), RdS.cells (OS.rd hD), RdS.len (OS.rd hM) sl23, RdS.idx (OS.rd hM) sl23, RdS.cellN (OS.rd hM), RdS.cells (OS.rd hM), RdS.len (OS.rd how8_2_0) sl22, RdS.idx (OS.rd how8_2_0) sl22, R1.intN (OS.rd how8_2_0), RdS.cells (OS.rd how8_2_0), BoxAt.cell hb0_0, BoxAt.cell hb0_1, BoxAt.cell hbx6, wrap_id, bC0]
     refine CallA.mono (sFits_ok _ (tdP (pw X n) X) _ (OS.rd how8_2_0) ) ?_
     intro v_ h8_3
     rintro ⟨rfl, e8_3⟩
     replace hD := OS.ext hD e8_3
     replace hM := OS.ext hM e8_3
     replace how8_2_0 := OS.ext how8_2_0 e8_3
     replace hb0_0 := BoxAt.ext hb0_0 e8_3
     replace hb0_1 := BoxAt.ext hb0_1 e8_3
     replace hbx6 := BoxAt.ext hbx6 e8_3
     have := Ext.size e8_3
     replace eB := Ext.trans eB e8_3
     replace cL3 := Chg.stepE cL3 e8_3
     try simp -implicitDefEqProofs (disch := first | decide | assumption | omega) only [go_sem, RdS.len hdX sl22, RdS.idx hdX sl22, R1.intB hdX (Ext.pres eB), RdS.cells hdX, RdS.len hmX sl23, RdS.idx hmX sl23, RdS.cellB hmX (Ext.pres eB), RdS.cells hmX, RdS.len (OS.rd hD) sl22, RdS.idx (OS.rd hD) sl22, R1.intN (OS.rd hD), RdS.cells (OS.rd hD), RdS.len (OS.rd hM) sl23, RdS.idx (OS.rd hM) sl23, RdS.cellN (OS.rd hM), RdS.cells (OS.rd hM), RdS.len (OS.rd how8_2_0) sl22, RdS.idx (OS.rd how8_2_0) sl22, R1.intN (OS.rd how8_2_0), RdS.cells (OS.rd how8_2_0), BoxAt.cell hb0_0, BoxAt.cell hb0_1, BoxAt.cell hbx6, wrap_id, bC0]
     refine hK _ _ ?_
     clear hK K
     refine den_cond rfl (fun c3 => ?_) (fun c3 => ?_)
     ·try simp only [decide_eq_true_eq, decide_eq_false_iff_not, beq_iff_eq, beq_eq_false_iff_ne, bne_iff_ne, ne_eq, Bool.not_eq_true', Bool.not_eq_false', Bool.and_eq_true, Bool.or_eq_true, bne_eq_false_iff_eq, Bool.not_eq_true] at c3
      refine den_seq ?_
      refine den_region TTok ?_
      intro K hK
      simp -implicitDefEqProofs (disch := first | decide | assumption | omega) only [go_sem, RdS.len hdX sl22, RdS.idx hdX sl22, R1.intB hdX (Ext.pres eB), RdS.cells hdX, RdS.len hmX sl23, RdS.idx hmX sl23, RdS.cellB hmX (Ext.pres eB), RdS.cells hmX, BoxAt.cell hb0_1, wrap_id, bC0]
      refine op_storeB (cs' := #[.int .i64 ((0 : Int)), .slice none 0 0, .slice none 0 0]) st30 hb0_1 rfl rfl rfl (by simp) (allOne_mem (l := [.int .i64 ((0 : Int)), .slice none 0 0, .slice none 0 0]) ⟨rfl, rfl, rfl, trivial⟩) rfl ?_
      intro h9_1 hb0_1 c9_1
      have := c9_1.size
      replace eB := Ext.then eB c9_1 (ge_of hfhb0_1 (by omega))
      try simp -implicitDefEqProofs (disch := first | decide | assumption | omega) only [go_sem, RdS.len hdX sl22, RdS.idx hdX sl22, R1.intB hdX (Ext.pres eB), RdS.cells hdX, RdS.len hmX sl23, RdS.idx hmX sl23, RdS.cellB hmX (Ext.pres eB), RdS.cells hmX, BoxAt.cell hb0_1, wrap_id, bC0]
      refine hK _ _ ?_
      clear hK K
      refine den_ret ?_
      simp -implicitDefEqProofs (disch := first | decide | assumption | omega) only [go_sem, RdS.len hdX sl22, RdS.idx hdX sl22, R1.intB hdX (Ext.pres eB), RdS.cells hdX, RdS.len hmX sl23, RdS.idx hmX sl23, RdS.cellB hmX (Ext.pres eB), RdS.cells hmX, BoxAt.cell hb0_1, wrap_id, bC0, resP_ct, ld30]
      have hz : powP X k = (⟨0, [], []⟩, 3) := by rw [powP, if_pos c0, if_pos c1, if_neg (fun h => absurd (h n (by omega)) (by simpa using c3))]
      rw [hz]
      exact ⟨.slice none 0 0, .slice none 0 0, [], [], rfl, OS.nil, OS.nil, Fresh.nil _, eB⟩
     ·try simp only [decide_eq_true_eq, decide_eq_false_iff_not, beq_iff_eq, beq_eq_false_iff_ne, bne_iff_ne, ne_eq, Bool.not_eq_true', Bool.not_eq_false', Bool.and_eq_true, Bool.or_eq_true, bne_eq_false_iff_eq, Bool.not_eq_true] at c3
      have hft : fitP (tdP (pw X n) X) = true := by simpa using c3
      refine den_skip ?_
      refine den_region TTok ?_
      intro K hK
      simp -implicitDefEqProofs (disch := first | decide | assumption | omega) only [go_sem, ld30, RdS.len hdX sl22, RdS.idx hdX sl22, R1.intB hdX (Ext.pres eB), RdS.cells hdX, RdS.len hmX sl23, RdS.idx hmX sl23, RdS.cellB hmX (Ext.pres eB), RdS.cells hmX, RdS.len (OS.rd hD) sl22, RdS.idx (OS.rd hD) sl22, R1.intN (OS.rd hD), RdS.cells (OS.rd hD), RdS.len (OS.rd hM) sl23, RdS.idx (OS.rd hM) sl23, RdS.cellN (OS.rd hM), RdS.cells (OS.rd hM), BoxAt.cell hb0_0, BoxAt.cell hb0_1, BoxAt.cell hbx6, wrap_id, bC0]
      try simp -implicitDefEqProofs (disch := first | decide | assumption | omega) only [go_sem, RdS.len hdX sl22, RdS.idx hdX sl22, R1.intB hdX (Ext.pres eB), RdS.cells hdX, RdS.len hmX sl23, RdS.idx hmX sl23, RdS.cellB hmX (Ext.pres eB), RdS.cells hmX, RdS.len (OS.rd hD) sl22, RdS.idx (OS.rd hD) sl22, R1.intN (OS.rd hD), RdS.cells (OS.rd hD), RdS.len (OS.rd hM) sl23, RdS.idx (OS.rd hM) sl23, RdS.cellN (OS.rd hM), RdS.cells (OS.rd hM), BoxAt.cell hb0_0, BoxAt.cell hb0_1, BoxAt.cell hbx6, wrap_id, bC0]
      refine CallA.mono (sTns_okT _ _ (pw X n) X _ ⟨_, _, rfl, (OS.rd hD), (OS.rd hM)⟩ ⟨_, _, rfl, (RdS.pres hdX (Ext.pres eB)), (RdS.pres hmX (Ext.pres eB))⟩ hT hX.toT rfl) ?_
      intro v_ h10_2
      rintro ⟨vd10_2_0, vm10_2_0, fd10_2_0, fm10_2_0, rfl, hod10_2_0, hom10_2_0, hf10_2_0, e10_2⟩
      replace hD := OS.ext hD e10_2
      replace hM := OS.ext hM e10_2
      replace hb0_0 := BoxAt.ext hb0_0 e10_2
      replace hb0_1 := BoxAt.ext hb0_1 e10_2
      replace hbx6 := BoxAt.ext hbx6 e10_2
      have := Ext.size e10_2
      replace eB := Ext.trans eB e10_2
      replace cL3 := Chg.stepE cL3 e10_2
      have hfd10_2_0 := hf10_2_0.left
      have hfm10_2_0 := hf10_2_0.right
      have hlhod10_2_0 := OS.lt hod10_2_0
      have hlhom10_2_0 := OS.lt hom10_2_0
      have ap6 : Apart fd10_2_0 fm10_2_0 := apart_nodup hf10_2_0
      try simp -implicitDefEqProofs (disch := first | decide | assumption | omega) only [go_sem, RdS.len hdX sl22, RdS.idx hdX sl22, R1.intB hdX (Ext.pres eB), RdS.cells hdX, RdS.len hmX sl23, RdS.idx hmX sl23, RdS.cellB hmX (Ext.pres eB), RdS.cells hmX, RdS.len (OS.rd hD) sl22, RdS.idx (OS.rd hD) sl22, R1.intN (OS.rd hD), RdS.cells (OS.rd hD), RdS.len (OS.rd hM) sl23, RdS.idx (OS.rd hM) sl23, RdS.cellN (OS.rd hM), RdS.cells (OS.rd hM), RdS.len (OS.rd hod10_2_0) sl22, RdS.idx (OS.rd hod10_2_0) sl22, R1.intN (OS.rd hod10_2_0), RdS.cells (OS.rd hod10_2_0), RdS.len (OS.rd hom10_2_0) sl23, RdS.idx (OS.rd hom10_2_0) sl23, RdS.cellN (OS.rd hom10_2_0), RdS.cells (OS.rd hom10_2_0), BoxAt.cell hb0_0, BoxAt.cell hb0_1, BoxAt.cell hbx6, wrap_id, bC0]
      refine op_storeB (cs' := #[.int .i64 (((⟨(pw X n).p, tdP (pw X n) X, tT (pw X n) X⟩ : Cx).p)), vd10_2_0, vm10_2_0]) st30 hbx6 rfl rfl rfl (by simp) (allOne_mem (l := [.int .i64 (((⟨(pw X n).p, tdP (pw X n) X, tT (pw X n) X⟩ : Cx).p)), vd10_2_0, vm10_2_0]) ⟨rfl, (OS.one hod10_2_0).1, (OS.one hom10_2_0).1, trivial⟩) rfl ?_
      intro h10_3 hbx6 c10_3
      replace hD := OS.chg hD c10_3 ap_hD_hbx6
      replace hM := OS.chg hM c10_3 ap_hM_hbx6
      replace hod10_2_0 := OS.chg hod10_2_0 c10_3 (apart_gt hfd10_2_0 hlhbx6 (by omega))
      replace hom10_2_0 := OS.chg hom10_2_0 c10_3 (apart_gt hfm10_2_0 hlhbx6 (by omega))
      replace hb0_0 := BoxAt.chgA hb0_0 c10_3 (apart_lt hlhb0_0 hfhbx6 (by omega))
      replace hb0_1 := BoxAt.chgA hb0_1 c10_3 (apart_lt hlhb0_1 hfhbx6 (by omega))
      have := c10_3.size
      replace eB := Ext.then eB c10_3 (ge_of hfhbx6 (by omega))
      replace cL3 := Chg.step cL3 c10_3 (Sub.right (Sub.right Sub.refl))
      try simp -implicitDefEqProofs (disch := first | decide | assumption | omega) only [go_sem, RdS.len hdX sl22, RdS.idx hdX sl22, R1.intB hdX (Ext.pres eB), RdS.cells hdX, RdS.len hmX sl23, RdS.idx hmX sl23, RdS.cellB hmX (Ext.pres eB), RdS.cells hmX, RdS.len (OS.rd hD) sl22, RdS.idx (OS.rd hD) sl22, R1.intN (OS.rd hD), RdS.cells (OS.rd hD), RdS.len (OS.rd hM) sl23, RdS.idx (OS.rd hM) sl23, RdS.cellN (OS.rd hM), RdS.cells (OS.rd hM), RdS.len (OS.rd hod10_2_0) sl22, RdS.idx (OS.rd hod10_2_0) sl22, R1.intN (OS.rd hod10_2_0), RdS.cells (OS.rd hod10_2_0), RdS.len (OS.rd hom10_2_0) sl23, RdS.idx (OS.rd hom10_2_0) sl23, RdS.cellN (OS.rd hom10_2_0), RdS.cells (OS.rd hom10_2_0), BoxAt.cell hb0_0, BoxAt.cell hb0_1, BoxAt.cell hbx6, wrap_id, bC0]
      refine hK _ _ ?_
      clear hK K
      refine den_blk ?_
      refine den_region TTok ?_
      intro K hK
      simp -implicitDefEqProofs (disch := first | decide | assumption | omega) only [go_sem, RdS.len hdX sl22, RdS.idx hdX sl22, R1.intB hdX (Ext.pres eB), RdS.cells hdX, RdS.len hmX sl23, RdS.idx hmX sl23, RdS.cellB hmX (Ext.pres eB), RdS.cells hmX, RdS.len (OS.rd hod10_2_0) sl22, RdS.idx (OS.rd hod10_2_0) sl22, R1.intN (OS.rd hod10_2_0), RdS.cells (OS.rd hod10_2_0), RdS.len (OS.rd hom10_2_0) sl23, RdS.idx (OS.rd hom10_2_0) sl23, RdS.cellN (OS.rd hom10_2_0), RdS.cells (OS.rd hom10_2_0), BoxAt.cell hb0_0, BoxAt.cell hb0_1, BoxAt.cell hbx6, wrap_id, bC0]
      refine hK _ _ ?_
      clear hK K
      refine den_stop ?_
      exact ⟨(m - 1, n + 1, vd10_2_0, fd10_2_0, vm10_2_0, fm10_2_0), by simp [HasL, puts_at], ⟨by dsimp only; omega, by dsimp only; omega, (fun q hq => (Nat.lt_succ_iff_lt_or_eq.1 hq).elim (hfq q) (fun e => by subst e; exact hft)), hod10_2_0, (hfd10_2_0.mono (by omega)), (Sub.fresh hfd10_2_0 (by omega)), hom10_2_0, (hfm10_2_0.mono (by omega)), (Sub.fresh hfm10_2_0 (by omega)), hbx6, ap6, (apart_gt hfd10_2_0 hlhbx6 (by omega)), (apart_gt hfm10_2_0 hlhbx6 (by omega)), cL3⟩, by first | omega | (dsimp only; omega)⟩
    ·try simp only [decide_eq_true_eq, decide_eq_false_iff_not, beq_iff_eq, beq_eq_false_iff_ne, bne_iff_ne, ne_eq, Bool.not_eq_true', Bool.not_eq_false', Bool.and_eq_true, Bool.or_eq_true, bne_eq_false_iff_eq, Bool.not_eq_true] at c2
     refine den_exit ?_
     refine denX_code ?_
     refine denX_stop ?_
     refine denX_hit ?_
     refine den_seq ?_
     refine den_region TTok ?_
     intro K hK
     simp -implicitDefEqProofs (disch := first | decide | assumption | omega) only [go_sem, ld30, RdS.len hdX sl22, RdS.idx hdX sl22, R1.intB hdX (Ext.pres eB), RdS.cells hdX, RdS.len hmX sl23, RdS.idx hmX sl23, RdS.cellB hmX (Ext.pres eB), RdS.cells hmX, RdS.len (OS.rd hD) sl22, RdS.idx (OS.rd hD) sl22, R1.intN (OS.rd hD), RdS.cells (OS.rd hD), RdS.len (OS.rd hM) sl23, RdS.idx (OS.rd hM) sl23, RdS.cellN (OS.rd hM), RdS.cells (OS.rd hM), BoxAt.cell hb0_1, BoxAt.cell hbx6, wrap_id, bC0]
     refine op_storeB (cs' := #[.int .i64 (((⟨X.p, [1], []⟩ : Cx).p)), vhD, vhM]) st30 hb0_1 rfl rfl rfl (by simp) (allOne_mem (l := [.int .i64 (((⟨X.p, [1], []⟩ : Cx).p)), vhD, vhM]) ⟨rfl, (OS.one hD).1, (OS.one hM).1, trivial⟩) rfl ?_
     intro h11_1 hb0_1 c11_1
     replace hD := OS.chg hD c11_1 (apart_gt hfhD hlhb0_1 (by omega))
     replace hM := OS.chg hM c11_1 (apart_gt hfhM hlhb0_1 (by omega))
     replace hbx6 := BoxAt.chgA hbx6 c11_1 (apart_gt hfhbx6 hlhb0_1 (by omega))
     have := c11_1.size
     replace eB := Ext.then eB c11_1 (ge_of hfhb0_1 (by omega))
     try simp -implicitDefEqProofs (disch := first | decide | assumption | omega) only [go_sem, RdS.len hdX sl22, RdS.idx hdX sl22, R1.intB hdX (Ext.pres eB), RdS.cells hdX, RdS.len hmX sl23, RdS.idx hmX sl23, RdS.cellB hmX (Ext.pres eB), RdS.cells hmX, RdS.len (OS.rd hD) sl22, RdS.idx (OS.rd hD) sl22, R1.intN (OS.rd hD), RdS.cells (OS.rd hD), RdS.len (OS.rd hM) sl23, RdS.idx (OS.rd hM) sl23, RdS.cellN (OS.rd hM), RdS.cells (OS.rd hM), BoxAt.cell hb0_1, BoxAt.cell hbx6, wrap_id, bC0]
     refine hK _ _ ?_
     clear hK K
     refine den_ret ?_
     simp -implicitDefEqProofs (disch := first | decide | assumption | omega) only [go_sem, RdS.len hdX sl22, RdS.idx hdX sl22, R1.intB hdX (Ext.pres eB), RdS.cells hdX, RdS.len hmX sl23, RdS.idx hmX sl23, RdS.cellB hmX (Ext.pres eB), RdS.cells hmX, RdS.len (OS.rd hD) sl22, RdS.idx (OS.rd hD) sl22, R1.intN (OS.rd hD), RdS.cells (OS.rd hD), RdS.len (OS.rd hM) sl23, RdS.idx (OS.rd hM) sl23, RdS.cellN (OS.rd hM), RdS.cells (OS.rd hM), BoxAt.cell hb0_1, BoxAt.cell hbx6, wrap_id, bC0, resP_ct, ld30]
     have hz : powP X k = (pw X n, 0) := by rw [powP, if_pos c0, if_pos c1, show k.toNat = n by omega, if_pos hfq]
     rw [hz]
     exact ⟨_, _, _, _, rfl, hD, hM, Fresh.two hfhD hfhM ap_hD_hM (by omega) (by omega), eB⟩

set_option maxRecDepth 100000 in
theorem iPow_ok (vX : Value) (X : Cx) (k : Int) (h : Heap) (rX : RC h vX X)  : CallA Try.prog 46 #[vX, .int .i64 k] h fun v' h' => ∃ wd0 wm0 fd0 fm0, v' = .tuple #[.agg #[.int .i64 ((powP X k).1).p, wd0, wm0], .int .i64 ((powP X k).2)] ∧ O1 h' wd0 ((powP X k).1).dims fd0 ∧ O3 h' wm0 ((powP X k).1).maps fm0 ∧ Fresh h.size (fd0 ++ fm0) ∧ Ext h h' := by
 obtain ⟨vdX, vmX, rfl, hdX, hmX⟩ := rX
 have hledX := RdS.le hdX
 have hlemX := RdS.le hmX
 refine callA_intro TTok (args := [_, _]) Try.func46 (by kernel_rfl) rfl 39 rfl (by simp) [.cell 4 30, .tmp 5] rfl ?_
 simp only [idxs, Nat.reduceAdd]
 refine den_seq ?_
 refine den_region TTok ?_
 intro K hK
 simp -implicitDefEqProofs (disch := first | decide | assumption | omega) only [go_sem, RdS.len hdX sl22, RdS.idx hdX sl22, R1.intB hdX (HPres.refl _), RdS.cells hdX, RdS.len hmX sl23, RdS.idx hmX sl23, RdS.cellB hmX (HPres.refl _), RdS.cells hmX, wrap_id, bC0]
 refine op_box (cs := #[.int .i64 (X.p), vdX, vmX]) rfl ?_
 intro h0_0 e0_0 hb0_0 z0_0
 have := Ext.size e0_0
 have eB := e0_0
 have hfhb0_0 : Fresh h.size [h.size] := Fresh.one _
 have hlhb0_0 := one_lt (show h.size < h0_0.size by omega)
 try simp -implicitDefEqProofs (disch := first | decide | assumption | omega) only [go_sem, RdS.len hdX sl22, RdS.idx hdX sl22, R1.intB hdX (Ext.pres eB), RdS.cells hdX, RdS.len hmX sl23, RdS.idx hmX sl23, RdS.cellB hmX (Ext.pres eB), RdS.cells hmX, BoxAt.cell hb0_0, wrap_id, bC0]
 refine op_alloc (cs := #[.int .i64 0, .slice none 0 0, .slice none 0 0]) (by kernel_rfl) ?_
 intro h0_1 e0_1 hb0_1 z0_1
 replace hb0_0 := BoxAt.ext hb0_0 e0_1
 have := Ext.size e0_1
 replace eB := Ext.trans eB e0_1
 have hfhb0_1 : Fresh h0_0.size [h0_0.size] := Fresh.one _
 have hlhb0_1 := one_lt (show h0_0.size < h0_1.size by omega)
 try simp -implicitDefEqProofs (disch := first | decide | assumption | omega) only [go_sem, RdS.len hdX sl22, RdS.idx hdX sl22, R1.intB hdX (Ext.pres eB), RdS.cells hdX, RdS.len hmX sl23, RdS.idx hmX sl23, RdS.cellB hmX (Ext.pres eB), RdS.cells hmX, BoxAt.cell hb0_0, BoxAt.cell hb0_1, wrap_id, bC0]
 refine hK _ _ ?_
 clear hK K
 refine den_seq ?_
 refine den_block ?_
 refine den_seq ?_
 refine den_region TTok ?_
 intro K hK
 simp -implicitDefEqProofs (disch := first | decide | assumption | omega) only [go_sem, ld30, RdS.len hdX sl22, RdS.idx hdX sl22, R1.intB hdX (Ext.pres eB), RdS.cells hdX, RdS.len hmX sl23, RdS.idx hmX sl23, RdS.cellB hmX (Ext.pres eB), RdS.cells hmX, BoxAt.cell hb0_0, BoxAt.cell hb0_1, wrap_id, bC0]
 try simp -implicitDefEqProofs (disch := first | decide | assumption | omega) only [go_sem, RdS.len hdX sl22, RdS.idx hdX sl22, R1.intB hdX (Ext.pres eB), RdS.cells hdX, RdS.len hmX sl23, RdS.idx hmX sl23, RdS.cellB hmX (Ext.pres eB), RdS.cells hmX, BoxAt.cell hb0_0, BoxAt.cell hb0_1, wrap_id, bC0]
 refine CallA.mono (iIs_ok _ X _ ⟨_, _, rfl, (RdS.pres hdX (Ext.pres eB)), (RdS.pres hmX (Ext.pres eB))⟩) ?_
 intro v_ h1_1
 rintro ⟨rfl, e1_1⟩
 replace hb0_0 := BoxAt.ext hb0_0 e1_1
 replace hb0_1 := BoxAt.ext hb0_1 e1_1
 have := Ext.size e1_1
 replace eB := Ext.trans eB e1_1
 try simp -implicitDefEqProofs (disch := first | decide | assumption | omega) only [go_sem, RdS.len hdX sl22, RdS.idx hdX sl22, R1.intB hdX (Ext.pres eB), RdS.cells hdX, RdS.len hmX sl23, RdS.idx hmX sl23, RdS.cellB hmX (Ext.pres eB), RdS.cells hmX, BoxAt.cell hb0_0, BoxAt.cell hb0_1, wrap_id, bC0]
 refine hK _ _ ?_
 clear hK K
 refine den_cond rfl (fun c0 => ?_) (fun c0 => ?_)
 ·try simp only [decide_eq_true_eq, decide_eq_false_iff_not, beq_iff_eq, beq_eq_false_iff_ne, bne_iff_ne, ne_eq, Bool.not_eq_true', Bool.not_eq_false', Bool.and_eq_true, Bool.or_eq_true, bne_eq_false_iff_eq, Bool.not_eq_true] at c0
  refine den_seq ?_
  refine den_region TTok ?_
  intro K hK
  simp -implicitDefEqProofs (disch := first | decide | assumption | omega) only [go_sem, RdS.len hdX sl22, RdS.idx hdX sl22, R1.intB hdX (Ext.pres eB), RdS.cells hdX, RdS.len hmX sl23, RdS.idx hmX sl23, RdS.cellB hmX (Ext.pres eB), RdS.cells hmX, BoxAt.cell hb0_1, wrap_id, bC0]
  refine op_storeB (cs' := #[.int .i64 ((0 : Int)), .slice none 0 0, .slice none 0 0]) st30 hb0_1 rfl rfl rfl (by simp) (allOne_mem (l := [.int .i64 ((0 : Int)), .slice none 0 0, .slice none 0 0]) ⟨rfl, rfl, rfl, trivial⟩) rfl ?_
  intro h2_1 hb0_1 c2_1
  have := c2_1.size
  replace eB := Ext.then eB c2_1 (ge_of hfhb0_1 (by omega))
  try simp -implicitDefEqProofs (disch := first | decide | assumption | omega) only [go_sem, RdS.len hdX sl22, RdS.idx hdX sl22, R1.intB hdX (Ext.pres eB), RdS.cells hdX, RdS.len hmX sl23, RdS.idx hmX sl23, RdS.cellB hmX (Ext.pres eB), RdS.cells hmX, BoxAt.cell hb0_1, wrap_id, bC0]
  refine hK _ _ ?_
  clear hK K
  refine den_ret ?_
  simp -implicitDefEqProofs (disch := first | decide | assumption | omega) only [go_sem, RdS.len hdX sl22, RdS.idx hdX sl22, R1.intB hdX (Ext.pres eB), RdS.cells hdX, RdS.len hmX sl23, RdS.idx hmX sl23, RdS.cellB hmX (Ext.pres eB), RdS.cells hmX, BoxAt.cell hb0_1, wrap_id, bC0, resP_ct, ld30]
  have hz : powP X k = (⟨0, [], []⟩, 1) := by rw [powP, if_neg (by rw [c0]; decide)]
  rw [hz]
  exact ⟨.slice none 0 0, .slice none 0 0, [], [], rfl, OS.nil, OS.nil, Fresh.nil _, eB⟩
 ·try simp only [decide_eq_true_eq, decide_eq_false_iff_not, beq_iff_eq, beq_eq_false_iff_ne, bne_iff_ne, ne_eq, Bool.not_eq_true', Bool.not_eq_false', Bool.and_eq_true, Bool.or_eq_true, bne_eq_false_iff_eq, Bool.not_eq_true] at c0
  have hX := isC_t.1 c0
  have hP := hX.p
  have hlX := hX.len
  refine den_seq ?_
  refine den_region TTok ?_
  intro K hK
  simp -implicitDefEqProofs (disch := first | decide | assumption | omega) only [go_sem, RdS.len hdX sl22, RdS.idx hdX sl22, R1.intB hdX (Ext.pres eB), RdS.cells hdX, RdS.len hmX sl23, RdS.idx hmX sl23, RdS.cellB hmX (Ext.pres eB), RdS.cells hmX, BoxAt.cell hb0_0, BoxAt.cell hb0_1, wrap_id, bC0]
  try simp -implicitDefEqProofs (disch := first | decide | assumption | omega) only [go_sem, RdS.len hdX sl22, RdS.idx hdX sl22, R1.intB hdX (Ext.pres eB), RdS.cells hdX, RdS.len hmX sl23, RdS.idx hmX sl23, RdS.cellB hmX (Ext.pres eB), RdS.cells hmX, BoxAt.cell hb0_0, BoxAt.cell hb0_1, wrap_id, bC0]
  refine CallA.pure (iIn_ok _ _ _ _) ?_
  try simp -implicitDefEqProofs (disch := first | decide | assumption | omega) only [go_sem, RdS.len hdX sl22, RdS.idx hdX sl22, R1.intB hdX (Ext.pres eB), RdS.cells hdX, RdS.len hmX sl23, RdS.idx hmX sl23, RdS.cellB hmX (Ext.pres eB), RdS.cells hmX, BoxAt.cell hb0_0, BoxAt.cell hb0_1, wrap_id, bC0]
  refine hK _ _ ?_
  clear hK K
  refine den_cond rfl (fun c1 => ?_) (fun c1 => ?_)
  ·try simp only [decide_eq_true_eq, decide_eq_false_iff_not, beq_iff_eq, beq_eq_false_iff_ne, bne_iff_ne, ne_eq, Bool.not_eq_true', Bool.not_eq_false', Bool.and_eq_true, Bool.or_eq_true, bne_eq_false_iff_eq, Bool.not_eq_true] at c1
   refine den_seq ?_
   refine den_region TTok ?_
   intro K hK
   simp -implicitDefEqProofs (disch := first | decide | assumption | omega) only [go_sem, RdS.len hdX sl22, RdS.idx hdX sl22, R1.intB hdX (Ext.pres eB), RdS.cells hdX, RdS.len hmX sl23, RdS.idx hmX sl23, RdS.cellB hmX (Ext.pres eB), RdS.cells hmX, BoxAt.cell hb0_1, wrap_id, bC0]
   refine op_storeB (cs' := #[.int .i64 ((0 : Int)), .slice none 0 0, .slice none 0 0]) st30 hb0_1 rfl rfl rfl (by simp) (allOne_mem (l := [.int .i64 ((0 : Int)), .slice none 0 0, .slice none 0 0]) ⟨rfl, rfl, rfl, trivial⟩) rfl ?_
   intro h4_1 hb0_1 c4_1
   have := c4_1.size
   replace eB := Ext.then eB c4_1 (ge_of hfhb0_1 (by omega))
   try simp -implicitDefEqProofs (disch := first | decide | assumption | omega) only [go_sem, RdS.len hdX sl22, RdS.idx hdX sl22, R1.intB hdX (Ext.pres eB), RdS.cells hdX, RdS.len hmX sl23, RdS.idx hmX sl23, RdS.cellB hmX (Ext.pres eB), RdS.cells hmX, BoxAt.cell hb0_1, wrap_id, bC0]
   refine hK _ _ ?_
   clear hK K
   refine den_ret ?_
   simp -implicitDefEqProofs (disch := first | decide | assumption | omega) only [go_sem, RdS.len hdX sl22, RdS.idx hdX sl22, R1.intB hdX (Ext.pres eB), RdS.cells hdX, RdS.len hmX sl23, RdS.idx hmX sl23, RdS.cellB hmX (Ext.pres eB), RdS.cells hmX, BoxAt.cell hb0_1, wrap_id, bC0, resP_ct, ld30]
   have hz : powP X k = (⟨0, [], []⟩, 2) := by rw [powP, if_pos c0, if_neg (by rw [c1]; decide)]
   rw [hz]
   exact ⟨.slice none 0 0, .slice none 0 0, [], [], rfl, OS.nil, OS.nil, Fresh.nil _, eB⟩
  ·try simp only [decide_eq_true_eq, decide_eq_false_iff_not, beq_iff_eq, beq_eq_false_iff_ne, bne_iff_ne, ne_eq, Bool.not_eq_true', Bool.not_eq_false', Bool.and_eq_true, Bool.or_eq_true, bne_eq_false_iff_eq, Bool.not_eq_true] at c1
   have hk4 := in3_iff.1 c1
   refine den_skip ?_
   refine den_blk ?_
   refine den_seq ?_
   refine den_region TTok ?_
   intro K hK
   simp -implicitDefEqProofs (disch := first | decide | assumption | omega) only [go_sem, fa30_0, ld2, RdS.len hdX sl22, RdS.idx hdX sl22, R1.intB hdX (Ext.pres eB), RdS.cells hdX, RdS.len hmX sl23, RdS.idx hmX sl23, RdS.cellB hmX (Ext.pres eB), RdS.cells hmX, BoxAt.cell hb0_0, BoxAt.cell hb0_1, wrap_id, bC0]
   try simp -implicitDefEqProofs (disch := first | decide | assumption | omega) only [go_sem, RdS.len hdX sl22, RdS.idx hdX sl22, R1.intB hdX (Ext.pres eB), RdS.cells hdX, RdS.len hmX sl23, RdS.idx hmX sl23, RdS.cellB hmX (Ext.pres eB), RdS.cells hmX, BoxAt.cell hb0_0, BoxAt.cell hb0_1, wrap_id, bC0]
   refine CallA.mono (iUnitC_ok  X.p _  (by assumption)) ?_
   intro v_ h5_2
   rintro ⟨vd5_2_0, vm5_2_0, fd5_2_0, fm5_2_0, rfl, hod5_2_0, hom5_2_0, hf5_2_0, e5_2⟩
   replace hb0_0 := BoxAt.ext hb0_0 e5_2
   replace hb0_1 := BoxAt.ext hb0_1 e5_2
   have := Ext.size e5_2
   replace eB := Ext.trans eB e5_2
   have hfd5_2_0 := hf5_2_0.left
   have hfm5_2_0 := hf5_2_0.right
   have hlhod5_2_0 := OS.lt hod5_2_0
   have hlhom5_2_0 := OS.lt hom5_2_0
   have ap1 : Apart fd5_2_0 fm5_2_0 := apart_nodup hf5_2_0
   try simp -implicitDefEqProofs (disch := first | decide | assumption | omega) only [go_sem, RdS.len hdX sl22, RdS.idx hdX sl22, R1.intB hdX (Ext.pres eB), RdS.cells hdX, RdS.len hmX sl23, RdS.idx hmX sl23, RdS.cellB hmX (Ext.pres eB), RdS.cells hmX, RdS.len (OS.rd hod5_2_0) sl22, RdS.idx (OS.rd hod5_2_0) sl22, R1.intN (OS.rd hod5_2_0), RdS.cells (OS.rd hod5_2_0), RdS.len (OS.rd hom5_2_0) sl23, RdS.idx (OS.rd hom5_2_0) sl23, RdS.cellN (OS.rd hom5_2_0), RdS.cells (OS.rd hom5_2_0), BoxAt.cell hb0_0, BoxAt.cell hb0_1, wrap_id, bC0]
   refine op_alloc (cs := #[.int .i64 0, .slice none 0 0, .slice none 0 0]) (by kernel_rfl) ?_
   intro h5_6 e5_6 hb5_6 z5_6
   replace hod5_2_0 := OS.ext hod5_2_0 e5_6
   replace hom5_2_0 := OS.ext hom5_2_0 e5_6
   replace hb0_0 := BoxAt.ext hb0_0 e5_6
   replace hb0_1 := BoxAt.ext hb0_1 e5_6
   have := Ext.size e5_6
   replace eB := Ext.trans eB e5_6
   have hfhb5_6 : Fresh h5_2.size [h5_2.size] := Fresh.one _
   have hlhb5_6 := one_lt (show h5_2.size < h5_6.size by omega)
   try simp -implicitDefEqProofs (disch := first | decide | assumption | omega) only [go_sem, RdS.len hdX sl22, RdS.idx hdX sl22, R1.intB hdX (Ext.pres eB), RdS.cells hdX, RdS.len hmX sl23, RdS.idx hmX sl23, RdS.cellB hmX (Ext.pres eB), RdS.cells hmX, RdS.len (OS.rd hod5_2_0) sl22, RdS.idx (OS.rd hod5_2_0) sl22, R1.intN (OS.rd hod5_2_0), RdS.cells (OS.rd hod5_2_0), RdS.len (OS.rd hom5_2_0) sl23, RdS.idx (OS.rd hom5_2_0) sl23, RdS.cellN (OS.rd hom5_2_0), RdS.cells (OS.rd hom5_2_0), BoxAt.cell hb0_0, BoxAt.cell hb0_1, BoxAt.cell hb5_6, wrap_id, bC0]
   refine op_storeB (cs' := #[.int .i64 (((⟨X.p, [1], []⟩ : Cx).p)), vd5_2_0, vm5_2_0]) st30 hb5_6 rfl rfl rfl (by simp) (allOne_mem (l := [.int .i64 (((⟨X.p, [1], []⟩ : Cx).p)), vd5_2_0, vm5_2_0]) ⟨rfl, (OS.one hod5_2_0).1, (OS.one hom5_2_0).1, trivial⟩) rfl ?_
   intro h5_7 hb5_6 c5_7
   replace hod5_2_0 := OS.chg hod5_2_0 c5_7 (apart_lt hlhod5_2_0 hfhb5_6 (by omega))
   replace hom5_2_0 := OS.chg hom5_2_0 c5_7 (apart_lt hlhom5_2_0 hfhb5_6 (by omega))
   replace hb0_0 := BoxAt.chgA hb0_0 c5_7 (apart_lt hlhb0_0 hfhb5_6 (by omega))
   replace hb0_1 := BoxAt.chgA hb0_1 c5_7 (apart_lt hlhb0_1 hfhb5_6 (by omega))
   have := c5_7.size
   replace eB := Ext.then eB c5_7 (ge_of hfhb5_6 (by omega))
   try simp -implicitDefEqProofs (disch := first | decide | assumption | omega) only [go_sem, RdS.len hdX sl22, RdS.idx hdX sl22, R1.intB hdX (Ext.pres eB), RdS.cells hdX, RdS.len hmX sl23, RdS.idx hmX sl23, RdS.cellB hmX (Ext.pres eB), RdS.cells hmX, RdS.len (OS.rd hod5_2_0) sl22, RdS.idx (OS.rd hod5_2_0) sl22, R1.intN (OS.rd hod5_2_0), RdS.cells (OS.rd hod5_2_0), RdS.len (OS.rd hom5_2_0) sl23, RdS.idx (OS.rd hom5_2_0) sl23, RdS.cellN (OS.rd hom5_2_0), RdS.cells (OS.rd hom5_2_0), BoxAt.cell hb0_0, BoxAt.cell hb0_1, BoxAt.cell hb5_6, wrap_id, bC0]
   refine hK _ _ ?_
   clear hK K
   refine den_seq ?_
   refine den_seq ?_
   refine den_region TTok ?_
   intro K hK
   simp -implicitDefEqProofs (disch := first | decide | assumption | omega) only [go_sem, RdS.len hdX sl22, RdS.idx hdX sl22, R1.intB hdX (Ext.pres eB), RdS.cells hdX, RdS.len hmX sl23, RdS.idx hmX sl23, RdS.cellB hmX (Ext.pres eB), RdS.cells hmX, RdS.len (OS.rd hod5_2_0) sl22, RdS.idx (OS.rd hod5_2_0) sl22, R1.intN (OS.rd hod5_2_0), RdS.cells (OS.rd hod5_2_0), RdS.len (OS.rd hom5_2_0) sl23, RdS.idx (OS.rd hom5_2_0) sl23, RdS.cellN (OS.rd hom5_2_0), RdS.cells (OS.rd hom5_2_0), BoxAt.cell hb0_0, BoxAt.cell hb0_1, BoxAt.cell hb5_6, wrap_id, bC0]
   refine hK _ _ ?_
   clear hK K
   refine den_block ?_
   refine den_sel [25, 2, 4, 6, 24] ?_
   intro env_2
   simp only [go_sem]
   refine den_loopS (σ := Nat × Value × List Nat × Value × List Nat) (fun st_ => [(25, .int .i64 (st_.1 : Int))]) (fun st_ H => ((st_.1 : Int) ≤ k) ∧ (∀ q, q < st_.1 → fitP (tdP (pw X q) X) = true) ∧ (O1 H st_.2.1 ((pw X st_.1).dims) st_.2.2.1) ∧ (Fresh (h1_1.size) st_.2.2.1) ∧ (Sub (fd5_2_0 ++ (fm5_2_0 ++ ([h5_2.size]))) h5_7.size st_.2.2.1) ∧ (O3 H st_.2.2.2.1 ((pw X st_.1).maps) st_.2.2.2.2) ∧ (Fresh (h1_1.size) st_.2.2.2.2) ∧ (Sub (fd5_2_0 ++ (fm5_2_0 ++ ([h5_2.size]))) h5_7.size st_.2.2.2.2) ∧ (BoxAt H (h5_2.size) #[.int .i64 (((⟨X.p, [1], []⟩ : Cx).p)), st_.2.1, st_.2.2.2.1] 30) ∧ (Apart st_.2.2.1 st_.2.2.2.2) ∧ (Apart st_.2.2.1 [h5_2.size]) ∧ (Apart st_.2.2.2.2 [h5_2.size]) ∧ (Chg (fd5_2_0 ++ (fm5_2_0 ++ ([h5_2.size]))) h5_7 H)) (fun st_ => k.toNat - st_.1) (0, vd5_2_0, fd5_2_0, vm5_2_0, fm5_2_0) ?_ ?_
   ·exact ⟨by omega, fun q hq => absurd hq (Nat.not_lt_zero _), by exact hod5_2_0, hfd5_2_0, (Sub.left Sub.refl), by exact hom5_2_0, hfm5_2_0, (Sub.right (Sub.left Sub.refl)), by simpa using hb5_6, ap1, (apart_lt hlhod5_2_0 hfhb5_6 (by omega)), (apart_lt hlhom5_2_0 hfhb5_6 (by omega)), Chg.refl _ _⟩
   ·rintro ⟨n, vhD, fphD, vhM, fphM⟩ h5 ee4 ⟨hn_, hfq, hD, hfhD, sbhD, hM, hfhM, sbhM, hbx6, ap_hD_hM, ap_hD_hbx6, ap_hM_hbx6, cL3⟩
    dsimp only at hn_ hfq hD hfhD sbhD hM hfhM sbhM hbx6 ap_hD_hM ap_hD_hbx6 ap_hM_hbx6 cL3
    replace hb0_0 := BoxAt.chgA hb0_0 cL3 (Apart.app (apart_lt hlhb0_0 hfd5_2_0 (by omega)) (Apart.app (apart_lt hlhb0_0 hfm5_2_0 (by omega)) (apart_lt hlhb0_0 hfhb5_6 (by omega))))
    replace hb0_1 := BoxAt.chgA hb0_1 cL3 (Apart.app (apart_lt hlhb0_1 hfd5_2_0 (by omega)) (Apart.app (apart_lt hlhb0_1 hfm5_2_0 (by omega)) (apart_lt hlhb0_1 hfhb5_6 (by omega))))
    have := cL3.size
    replace eB := Ext.then eB cL3 (ge_app (ge_of hfd5_2_0 (by omega)) (ge_app (ge_of hfm5_2_0 (by omega)) (ge_of hfhb5_6 (by omega))))
    have hlhD := OS.lt hD
    have hlhM := OS.lt hM
    have hfhbx6 := hfhb5_6
    have hlhbx6 := hlhb5_6
    simp only [List.cons_append, List.nil_append]
    have hT := pw_T hX n hfq
    have hlT := hT.len
    refine den_seq ?_
    refine den_region TTok ?_
    intro K hK
    simp -implicitDefEqProofs (disch := first | decide | assumption | omega) only [go_sem, RdS.len hdX sl22, RdS.idx hdX sl22, R1.intB hdX (Ext.pres eB), RdS.cells hdX, RdS.len hmX sl23, RdS.idx hmX sl23, RdS.cellB hmX (Ext.pres eB), RdS.cells hmX, RdS.len (OS.rd hD) sl22, RdS.idx (OS.rd hD) sl22, R1.intN (OS.rd hD), RdS.cells (OS.rd hD), RdS.len (OS.rd hM) sl23, RdS.idx (OS.rd hM) sl23, RdS.cellN (OS.rd hM), RdS.cells (OS.rd hM), BoxAt.cell hb0_0, BoxAt.cell hb0_1, BoxAt.cell hbx6, wrap_id, bC0]
    refine hK _ _ ?_
    clear hK K
    refine den_seq ?_
    refine den_cond rfl (fun c2 => ?_) (fun c2 => ?_)
    ·try simp only [decide_eq_true_eq, decide_eq_false_iff_not, beq_iff_eq, beq_eq_false_iff_ne, bne_iff_ne, ne_eq, Bool.not_eq_true', Bool.not_eq_false', Bool.and_eq_true, Bool.or_eq_true, bne_eq_false_iff_eq, Bool.not_eq_true] at c2
     refine den_skip ?_
     refine den_seq ?_
     refine den_block ?_
     refine den_seq ?_
     refine den_region TTok ?_
     intro K hK
     simp -implicitDefEqProofs (disch := first | decide | assumption | omega) only [go_sem, ld30, RdS.len hdX sl22, RdS.idx hdX sl22, R1.intB hdX (Ext.pres eB), RdS.cells hdX, RdS.len hmX sl23, RdS.idx hmX sl23, RdS.cellB hmX (Ext.pres eB), RdS.cells hmX, RdS.len (OS.rd hD) sl22, RdS.idx (OS.rd hD) sl22, R1.intN (OS.rd hD), RdS.cells (OS.rd hD), RdS.len (OS.rd hM) sl23, RdS.idx (OS.rd hM) sl23, RdS.cellN (OS.rd hM), RdS.cells (OS.rd hM), BoxAt.cell hb0_0, BoxAt.cell hb0_1, BoxAt.cell hbx6, wrap_id, bC0]
     try simp -implicitDefEqProofs (disch := first | decide | assumption | omega) only [go_sem, RdS.len hdX sl22, RdS.idx hdX sl22, R1.intB hdX (Ext.pres eB), RdS.cells hdX, RdS.len hmX sl23, RdS.idx hmX sl23, RdS.cellB hmX (Ext.pres eB), RdS.cells hmX, RdS.len (OS.rd hD) sl22, RdS.idx (OS.rd hD) sl22, R1.intN (OS.rd hD), RdS.cells (OS.rd hD), RdS.len (OS.rd hM) sl23, RdS.idx (OS.rd hM) sl23, RdS.cellN (OS.rd hM), RdS.cells (OS.rd hM), BoxAt.cell hb0_0, BoxAt.cell hb0_1, BoxAt.cell hbx6, wrap_id, bC0]
     refine CallA.mono (iTns_okT _ _ (pw X n) X _ ⟨_, _, rfl, (OS.rd hD), (OS.rd hM)⟩ ⟨_, _, rfl, (RdS.pres hdX (Ext.pres eB)), (RdS.pres hmX (Ext.pres eB))⟩ hT hX.toT rfl) ?_
     intro v_ h8_2
     rintro ⟨vd8_2_0, vm8_2_0, fd8_2_0, fm8_2_0, rfl, hod8_2_0, hom8_2_0, hf8_2_0, e8_2⟩
     replace hD := OS.ext hD e8_2
     replace hM := OS.ext hM e8_2
     replace hb0_0 := BoxAt.ext hb0_0 e8_2
     replace hb0_1 := BoxAt.ext hb0_1 e8_2
     replace hbx6 := BoxAt.ext hbx6 e8_2
     have := Ext.size e8_2
     replace eB := Ext.trans eB e8_2
     replace cL3 := Chg.stepE cL3 e8_2
     have hfd8_2_0 := hf8_2_0.left
     have hfm8_2_0 := hf8_2_0.right
     have hlhod8_2_0 := OS.lt hod8_2_0
     have hlhom8_2_0 := OS.lt hom8_2_0
     have ap6 : Apart fd8_2_0 fm8_2_0 := apart_nodup hf8_2_0
     try simp -implicitDefEqProofs (disch := first | decide | assumption | omega) only [go_sem, RdS.len hdX sl22, RdS.idx hdX sl22, R1.intB hdX (Ext.pres eB), RdS.cells hdX, RdS.len hmX sl23, RdS.idx hmX sl23, RdS.cellB hmX (Ext.pres eB), RdS.cells hmX, RdS.len (OS.rd hD) sl22, RdS.idx (OS.rd hD) sl22, R1.intN (OS.rd hD), RdS.cells (OS.rd hD), RdS.len (OS.rd hM) sl23, RdS.idx (OS.rd hM) sl23, RdS.cellN (OS.rd hM), RdS.cells (OS.rd hM), RdS.len (OS.rd hod8_2_0) sl22, RdS.idx (OS.rd hod8_2_0) sl22, R1.intN (OS.rd hod8_2_0), RdS.cells (OS.rd hod8_2_0), RdS.len (OS.rd hom8_2_0) sl23, RdS.idx (OS.rd hom8_2_0) sl23, RdS.cellN (OS.rd hom8_2_0), RdS.cells (OS.rd hom8_2_0), BoxAt.cell hb0_0, BoxAt.cell hb0_1, BoxAt.cell hbx6, wrap_id, bC0]
     refine op_storeB (cs' := #[.int .i64 ((((teP (pw X n) X).1).p)), vd8_2_0, vm8_2_0]) st30 hbx6 rfl rfl rfl (by simp) (allOne_mem (l := [.int .i64 ((((teP (pw X n) X).1).p)), vd8_2_0, vm8_2_0]) ⟨rfl, (OS.one hod8_2_0).1, (OS.one hom8_2_0).1, trivial⟩) rfl ?_
     intro h8_6 hbx6 c8_6
     replace hD := OS.chg hD c8_6 ap_hD_hbx6
     replace hM := OS.chg hM c8_6 ap_hM_hbx6
     replace hod8_2_0 := OS.chg hod8_2_0 c8_6 (apart_gt hfd8_2_0 hlhbx6 (by omega))
     replace hom8_2_0 := OS.chg hom8_2_0 c8_6 (apart_gt hfm8_2_0 hlhbx6 (by omega))
     replace hb0_0 := BoxAt.chgA hb0_0 c8_6 (apart_lt hlhb0_0 hfhbx6 (by omega))
     replace hb0_1 := BoxAt.chgA hb0_1 c8_6 (apart_lt hlhb0_1 hfhbx6 (by omega))
     have := c8_6.size
     replace eB := Ext.then eB c8_6 (ge_of hfhbx6 (by omega))
     replace cL3 := Chg.step cL3 c8_6 (Sub.right (Sub.right Sub.refl))
     try simp -implicitDefEqProofs (disch := first | decide | assumption | omega) only [go_sem, RdS.len hdX sl22, RdS.idx hdX sl22, R1.intB hdX (Ext.pres eB), RdS.cells hdX, RdS.len hmX sl23, RdS.idx hmX sl23, RdS.cellB hmX (Ext.pres eB), RdS.cells hmX, RdS.len (OS.rd hD) sl22, RdS.idx (OS.rd hD) sl22, R1.intN (OS.rd hD), RdS.cells (OS.rd hD), RdS.len (OS.rd hM) sl23, RdS.idx (OS.rd hM) sl23, RdS.cellN (OS.rd hM), RdS.cells (OS.rd hM), RdS.len (OS.rd hod8_2_0) sl22, RdS.idx (OS.rd hod8_2_0) sl22, R1.intN (OS.rd hod8_2_0), RdS.cells (OS.rd hod8_2_0), RdS.len (OS.rd hom8_2_0) sl23, RdS.idx (OS.rd hom8_2_0) sl23, RdS.cellN (OS.rd hom8_2_0), RdS.cells (OS.rd hom8_2_0), BoxAt.cell hb0_0, BoxAt.cell hb0_1, BoxAt.cell hbx6, wrap_id, bC0]
     refine hK _ _ ?_
     clear hK K
     refine den_seq ?_
     refine den_region TTok ?_
     intro K hK
     simp -implicitDefEqProofs (disch := first | decide | assumption | omega) only [go_sem, RdS.len hdX sl22, RdS.idx hdX sl22, R1.intB hdX (Ext.pres eB), RdS.cells hdX, RdS.len hmX sl23, RdS.idx hmX sl23, RdS.cellB hmX (Ext.pres eB), RdS.cells hmX, RdS.len (OS.rd hod8_2_0) sl22, RdS.idx (OS.rd hod8_2_0) sl22, R1.intN (OS.rd hod8_2_0), RdS.cells (OS.rd hod8_2_0), RdS.len (OS.rd hom8_2_0) sl23, RdS.idx (OS.rd hom8_2_0) sl23, RdS.cellN (OS.rd hom8_2_0), RdS.cells (OS.rd hom8_2_0), BoxAt.cell hb0_0, BoxAt.cell hb0_1, BoxAt.cell hbx6, wrap_id, bC0]
     refine hK _ _ ?_
     clear hK K
     refine den_cond rfl (fun c3 => ?_) (fun c3 => ?_)
     ·try simp only [decide_eq_true_eq, decide_eq_false_iff_not, beq_iff_eq, beq_eq_false_iff_ne, bne_iff_ne, ne_eq, Bool.not_eq_true', Bool.not_eq_false', Bool.and_eq_true, Bool.or_eq_true, bne_eq_false_iff_eq, Bool.not_eq_true] at c3
      refine den_seq ?_
      refine den_region TTok ?_
      intro K hK
      simp -implicitDefEqProofs (disch := first | decide | assumption | omega) only [go_sem, RdS.len hdX sl22, RdS.idx hdX sl22, R1.intB hdX (Ext.pres eB), RdS.cells hdX, RdS.len hmX sl23, RdS.idx hmX sl23, RdS.cellB hmX (Ext.pres eB), RdS.cells hmX, BoxAt.cell hb0_1, wrap_id, bC0]
      refine op_storeB (cs' := #[.int .i64 ((0 : Int)), .slice none 0 0, .slice none 0 0]) st30 hb0_1 rfl rfl rfl (by simp) (allOne_mem (l := [.int .i64 ((0 : Int)), .slice none 0 0, .slice none 0 0]) ⟨rfl, rfl, rfl, trivial⟩) rfl ?_
      intro h10_2 hb0_1 c10_2
      have := c10_2.size
      replace eB := Ext.then eB c10_2 (ge_of hfhb0_1 (by omega))
      try simp -implicitDefEqProofs (disch := first | decide | assumption | omega) only [go_sem, RdS.len hdX sl22, RdS.idx hdX sl22, R1.intB hdX (Ext.pres eB), RdS.cells hdX, RdS.len hmX sl23, RdS.idx hmX sl23, RdS.cellB hmX (Ext.pres eB), RdS.cells hmX, BoxAt.cell hb0_1, wrap_id, bC0]
      refine hK _ _ ?_
      clear hK K
      refine den_ret ?_
      simp -implicitDefEqProofs (disch := first | decide | assumption | omega) only [go_sem, RdS.len hdX sl22, RdS.idx hdX sl22, R1.intB hdX (Ext.pres eB), RdS.cells hdX, RdS.len hmX sl23, RdS.idx hmX sl23, RdS.cellB hmX (Ext.pres eB), RdS.cells hmX, BoxAt.cell hb0_1, wrap_id, bC0, resP_ct, ld30]
      have hn3 := te_n (X := pw X n) (Y := X) (show ¬ (teP (pw X n) X).2 = 0 from c3)
      have hz : powP X k = (⟨0, [], []⟩, (teP (pw X n) X).2) := by rw [powP, if_pos c0, if_pos c1, if_neg (fun h => hn3.1 (h n (by omega))), hn3.2]
      rw [hz]
      exact ⟨.slice none 0 0, .slice none 0 0, [], [], rfl, OS.nil, OS.nil, Fresh.nil _, eB⟩
     ·try simp only [decide_eq_true_eq, decide_eq_false_iff_not, beq_iff_eq, beq_eq_false_iff_ne, bne_iff_ne, ne_eq, Bool.not_eq_true', Bool.not_eq_false', Bool.and_eq_true, Bool.or_eq_true, bne_eq_false_iff_eq, Bool.not_eq_true] at c3
      have hft := te_0 (X := pw X n) (Y := X) (by simpa using c3)
      have hte := te_T hft
      refine den_skip ?_
      refine den_blk ?_
      refine den_region TTok ?_
      intro K hK
      simp -implicitDefEqProofs (disch := first | decide | assumption | omega) only [go_sem, RdS.len hdX sl22, RdS.idx hdX sl22, R1.intB hdX (Ext.pres eB), RdS.cells hdX, RdS.len hmX sl23, RdS.idx hmX sl23, RdS.cellB hmX (Ext.pres eB), RdS.cells hmX, RdS.len (OS.rd hod8_2_0) sl22, RdS.idx (OS.rd hod8_2_0) sl22, R1.intN (OS.rd hod8_2_0), RdS.cells (OS.rd hod8_2_0), RdS.len (OS.rd hom8_2_0) sl23, RdS.idx (OS.rd hom8_2_0) sl23, RdS.cellN (OS.rd hom8_2_0), RdS.cells (OS.rd hom8_2_0), BoxAt.cell hb0_0, BoxAt.cell hb0_1, BoxAt.cell hbx6, wrap_id, bC0]
      refine hK _ _ ?_
      clear hK K
      refine den_stop ?_
      rw [hte] at hod8_2_0 hom8_2_0 hbx6
      exact ⟨(n + 1, vd8_2_0, fd8_2_0, vm8_2_0, fm8_2_0), by simp [HasL, puts_at], ⟨by dsimp only; omega, (fun q hq => (Nat.lt_succ_iff_lt_or_eq.1 hq).elim (hfq q) (fun e => by subst e; exact hft)), hod8_2_0, (hfd8_2_0.mono (by omega)), (Sub.fresh hfd8_2_0 (by omega)), hom8_2_0, (hfm8_2_0.mono (by omega)), (Sub.fresh hfm8_2_0 (by omega)), hbx6, ap6, (apart_gt hfd8_2_0 hlhbx6 (by omega)), (apart_gt hfm8_2_0 hlhbx6 (by omega)), cL3⟩, by first | omega | (dsimp only; omega)⟩
    ·try simp only [decide_eq_true_eq, decide_eq_false_iff_not, beq_iff_eq, beq_eq_false_iff_ne, bne_iff_ne, ne_eq, Bool.not_eq_true', Bool.not_eq_false', Bool.and_eq_true, Bool.or_eq_true, bne_eq_false_iff_eq, Bool.not_eq_true] at c2
     refine den_exit ?_
     refine denX_code ?_
     refine denX_stop ?_
     refine denX_hit ?_
     refine den_seq ?_
     refine den_region TTok ?_
     intro K hK
     simp -implicitDefEqProofs (disch := first | decide | assumption | omega) only [go_sem, ld30, RdS.len hdX sl22, RdS.idx hdX sl22, R1.intB hdX (Ext.pres eB), RdS.cells hdX, RdS.len hmX sl23, RdS.idx hmX sl23, RdS.cellB hmX (Ext.pres eB), RdS.cells hmX, RdS.len (OS.rd hD) sl22, RdS.idx (OS.rd hD) sl22, R1.intN (OS.rd hD), RdS.cells (OS.rd hD), RdS.len (OS.rd hM) sl23, RdS.idx (OS.rd hM) sl23, RdS.cellN (OS.rd hM), RdS.cells (OS.rd hM), BoxAt.cell hb0_1, BoxAt.cell hbx6, wrap_id, bC0]
     refine op_storeB (cs' := #[.int .i64 (((⟨X.p, [1], []⟩ : Cx).p)), vhD, vhM]) st30 hb0_1 rfl rfl rfl (by simp) (allOne_mem (l := [.int .i64 (((⟨X.p, [1], []⟩ : Cx).p)), vhD, vhM]) ⟨rfl, (OS.one hD).1, (OS.one hM).1, trivial⟩) rfl ?_
     intro h12_1 hb0_1 c12_1
     replace hD := OS.chg hD c12_1 (apart_gt hfhD hlhb0_1 (by omega))
     replace hM := OS.chg hM c12_1 (apart_gt hfhM hlhb0_1 (by omega))
     replace hbx6 := BoxAt.chgA hbx6 c12_1 (apart_gt hfhbx6 hlhb0_1 (by omega))
     have := c12_1.size
     replace eB := Ext.then eB c12_1 (ge_of hfhb0_1 (by omega))
     try simp -implicitDefEqProofs (disch := first | decide | assumption | omega) only [go_sem, RdS.len hdX sl22, RdS.idx hdX sl22, R1.intB hdX (Ext.pres eB), RdS.cells hdX, RdS.len hmX sl23, RdS.idx hmX sl23, RdS.cellB hmX (Ext.pres eB), RdS.cells hmX, RdS.len (OS.rd hD) sl22, RdS.idx (OS.rd hD) sl22, R1.intN (OS.rd hD), RdS.cells (OS.rd hD), RdS.len (OS.rd hM) sl23, RdS.idx (OS.rd hM) sl23, RdS.cellN (OS.rd hM), RdS.cells (OS.rd hM), BoxAt.cell hb0_1, BoxAt.cell hbx6, wrap_id, bC0]
     refine hK _ _ ?_
     clear hK K
     refine den_ret ?_
     simp -implicitDefEqProofs (disch := first | decide | assumption | omega) only [go_sem, RdS.len hdX sl22, RdS.idx hdX sl22, R1.intB hdX (Ext.pres eB), RdS.cells hdX, RdS.len hmX sl23, RdS.idx hmX sl23, RdS.cellB hmX (Ext.pres eB), RdS.cells hmX, RdS.len (OS.rd hD) sl22, RdS.idx (OS.rd hD) sl22, R1.intN (OS.rd hD), RdS.cells (OS.rd hD), RdS.len (OS.rd hM) sl23, RdS.idx (OS.rd hM) sl23, RdS.cellN (OS.rd hM), RdS.cells (OS.rd hM), BoxAt.cell hb0_1, BoxAt.cell hbx6, wrap_id, bC0, resP_ct, ld30]
     have hz : powP X k = (pw X n, 0) := by rw [powP, if_pos c0, if_pos c1, show k.toNat = n by omega, if_pos hfq]
     rw [hz]
     exact ⟨_, _, _, _, rfl, hD, hM, Fresh.two hfhD hfhM ap_hD_hM (by omega) (by omega), eB⟩
end Go.Proofs.Ytffggocjkhcgeaa

namespace Go.Proofs.Ytffggocjkhcgeaa
open Go
set_option maxRecDepth 100000 in
set_option maxHeartbeats 4000000 in
theorem exactPowerComplex_law (vX : Value) (X : Cx) (k : Int) (h : Heap) (rX : RC h vX X)  : CallA Try.prog 11 #[vX, .int .i64 k] h fun v' h' => v' = .bool (true) ∧ Ext h h' := by
 obtain ⟨vdX, vmX, rfl, hdX, hmX⟩ := rX
 have hledX := RdS.le hdX
 have hlemX := RdS.le hmX
 refine callA_intro TTok (args := [_, _]) Try.func11 (by kernel_rfl) rfl 101 rfl (by simp) [.tmp 4] rfl ?_
 simp only [idxs, Nat.reduceAdd]
 refine den_seq ?_
 refine den_region TTok ?_
 intro K hK
 simp -implicitDefEqProofs (disch := first | decide | assumption | omega) only [go_sem, wrap_id]
 refine op_box (cs := #[.int .i64 (X.p), vdX, vmX]) rfl ?_
 intro h0_0 e0_0 hb0_0 z0_0
 have := Ext.size e0_0
 have eB := e0_0
 have hfhb0_0 : Fresh h.size [h.size] := Fresh.one _
 have hlhb0_0 := one_lt (show h.size < h0_0.size by omega)
 try simp -implicitDefEqProofs (disch := first | decide | assumption | omega) only [go_sem, BoxAt.cell hb0_0, wrap_id]
 refine hK _ _ ?_
 clear hK K
 refine den_seq ?_
 refine den_region TTok ?_
 intro K hK
 simp -implicitDefEqProofs (disch := first | decide | assumption | omega) only [go_sem, BoxAt.cell hb0_0, wrap_id]
 refine hK _ _ ?_
 clear hK K
 refine den_seq ?_
 refine den_region TTok ?_
 intro K hK
 simp -implicitDefEqProofs (disch := first | decide | assumption | omega) only [go_sem, ld25, BoxAt.cell hb0_0, wrap_id]
 try simp -implicitDefEqProofs (disch := first | decide | assumption | omega) only [go_sem, BoxAt.cell hb0_0, wrap_id]
 refine CallA.mono (szC_ok _ X _ _ ⟨_, _, rfl, (RdS.pres hdX (Ext.pres eB)), (RdS.pres hmX (Ext.pres eB))⟩ (by omega) (by omega)) ?_
 intro v_ h2_2
 rintro ⟨rfl, e2_2⟩
 replace hb0_0 := BoxAt.ext hb0_0 e2_2
 have := Ext.size e2_2
 replace eB := Ext.trans eB e2_2
 have := szC_le X (1048576 : Int) (by omega)
 try simp -implicitDefEqProofs (disch := first | decide | assumption | omega) only [go_sem, BoxAt.cell hb0_0, wrap_id]
 refine hK _ _ ?_
 clear hK K
 refine den_seq ?_
 refine den_seq ?_
 refine den_region TTok ?_
 intro K hK
 simp -implicitDefEqProofs (disch := first | decide | assumption | omega) only [go_sem, BoxAt.cell hb0_0, wrap_id]
 refine hK _ _ ?_
 clear hK K
 refine den_cond rfl (fun c0 => ?_) (fun c0 => ?_)
 ·try simp only [decide_eq_true_eq, decide_eq_false_iff_not, beq_iff_eq, beq_eq_false_iff_ne, bne_iff_ne, ne_eq, Bool.not_eq_true', Bool.not_eq_false', Bool.and_eq_true, Bool.or_eq_true, bne_eq_false_iff_eq] at c0
  refine den_seq ?_
  refine den_region TTok ?_
  intro K hK
  simp -implicitDefEqProofs (disch := first | decide | assumption | omega) only [go_sem, wrap_id]
  refine hK _ _ ?_
  clear hK K
  refine den_ret ?_
  simp (disch := decide) only [resP_1, puts_same, puts_ne]
  exact ⟨by first | rfl | trivial, eB⟩
 ·try simp only [decide_eq_true_eq, decide_eq_false_iff_not, beq_iff_eq, beq_eq_false_iff_ne, bne_iff_ne, ne_eq, Bool.not_eq_true', Bool.not_eq_false', Bool.and_eq_true, Bool.or_eq_true, bne_eq_false_iff_eq] at c0
  have hMX := szC_ok' (by omega) (by omega) c0
  have hcnX := szC_cntA (by omega) (by omega) c0
  have hci := cnt_pow X k
  refine den_skip ?_
  refine den_seq ?_
  refine den_region TTok ?_
  intro K hK
  simp -implicitDefEqProofs (disch := first | decide | assumption | omega) only [go_sem, ld25, BoxAt.cell hb0_0, wrap_id]
  try simp -implicitDefEqProofs (disch := first | decide | assumption | omega) only [go_sem, BoxAt.cell hb0_0, wrap_id]
  refine CallA.mono (toC_ok _ X _ ⟨_, _, rfl, (RdS.pres hdX (Ext.pres eB)), (RdS.pres hmX (Ext.pres eB))⟩ hMX) ?_
  intro v_ h5_1
  rintro ⟨vd5_1, vm5_1, fd5_1, fm5_1, rfl, hod5_1, hom5_1, hf5_1, e5_1⟩
  replace hb0_0 := BoxAt.ext hb0_0 e5_1
  have := Ext.size e5_1
  replace eB := Ext.trans eB e5_1
  have hfd5_1 := hf5_1.left
  have hfm5_1 := hf5_1.right
  have hlhod5_1 := OS.lt hod5_1
  have hlhom5_1 := OS.lt hom5_1
  have ap1 : Apart fd5_1 fm5_1 := apart_nodup hf5_1
  try simp -implicitDefEqProofs (disch := first | decide | assumption | omega) only [go_sem, BoxAt.cell hb0_0, wrap_id]
  try simp -implicitDefEqProofs (disch := first | decide | assumption | omega) only [go_sem, BoxAt.cell hb0_0, wrap_id]
  refine CallA.mono (sPow_ok _ X k _ ⟨_, _, rfl, (OS.rd hod5_1), (OS.rd hom5_1)⟩ ) ?_
  intro v_ h5_3
  rintro ⟨vd5_3_0, vm5_3_0, fd5_3_0, fm5_3_0, rfl, hod5_3_0, hom5_3_0, hf5_3_0, e5_3⟩
  replace hod5_1 := OS.ext hod5_1 e5_3
  replace hom5_1 := OS.ext hom5_1 e5_3
  replace hb0_0 := BoxAt.ext hb0_0 e5_3
  have := Ext.size e5_3
  replace eB := Ext.trans eB e5_3
  have hfd5_3_0 := hf5_3_0.left
  have hfm5_3_0 := hf5_3_0.right
  have hlhod5_3_0 := OS.lt hod5_3_0
  have hlhom5_3_0 := OS.lt hom5_3_0
  have ap2 : Apart fd5_3_0 fm5_3_0 := apart_nodup hf5_3_0
  try simp -implicitDefEqProofs (disch := first | decide | assumption | omega) only [go_sem, BoxAt.cell hb0_0, wrap_id]
  refine op_alloc (cs := #[.int .i64 0, .slice none 0 0, .slice none 0 0]) (by kernel_rfl) ?_
  intro h5_7 e5_7 hb5_7 z5_7
  replace hod5_1 := OS.ext hod5_1 e5_7
  replace hom5_1 := OS.ext hom5_1 e5_7
  replace hod5_3_0 := OS.ext hod5_3_0 e5_7
  replace hom5_3_0 := OS.ext hom5_3_0 e5_7
  replace hb0_0 := BoxAt.ext hb0_0 e5_7
  have := Ext.size e5_7
  replace eB := Ext.trans eB e5_7
  have hfhb5_7 : Fresh h5_3.size [h5_3.size] := Fresh.one _
  have hlhb5_7 := one_lt (show h5_3.size < h5_7.size by omega)
  try simp -implicitDefEqProofs (disch := first | decide | assumption | omega) only [go_sem, BoxAt.cell hb0_0, BoxAt.cell hb5_7, wrap_id]
  refine op_storeB (cs' := #[.int .i64 ((((powP X k).1).p)), vd5_3_0, vm5_3_0]) st30 hb5_7 rfl rfl rfl (by simp) (allOne_mem (l := [.int .i64 ((((powP X k).1).p)), vd5_3_0, vm5_3_0]) ⟨rfl, (OS.one hod5_3_0).1, (OS.one hom5_3_0).1, trivial⟩) rfl ?_
  intro h5_8 hb5_7 c5_8
  replace hod5_1 := OS.chg hod5_1 c5_8 (apart_lt hlhod5_1 hfhb5_7 (by omega))
  replace hom5_1 := OS.chg hom5_1 c5_8 (apart_lt hlhom5_1 hfhb5_7 (by omega))
  replace hod5_3_0 := OS.chg hod5_3_0 c5_8 (apart_lt hlhod5_3_0 hfhb5_7 (by omega))
  replace hom5_3_0 := OS.chg hom5_3_0 c5_8 (apart_lt hlhom5_3_0 hfhb5_7 (by omega))
  replace hb0_0 := BoxAt.chgA hb0_0 c5_8 (apart_lt hlhb0_0 hfhb5_7 (by omega))
  have := c5_8.size
  replace eB := Ext.then eB c5_8 (ge_of hfhb5_7 (by omega))
  try simp -implicitDefEqProofs (disch := first | decide | assumption | omega) only [go_sem, BoxAt.cell hb0_0, BoxAt.cell hb5_7, wrap_id]
  refine hK _ _ ?_
  clear hK K
  refine den_seq ?_
  refine den_region TTok ?_
  intro K hK
  simp -implicitDefEqProofs (disch := first | decide | assumption | omega) only [go_sem, ld25, BoxAt.cell hb0_0, BoxAt.cell hb5_7, wrap_id]
  try simp -implicitDefEqProofs (disch := first | decide | assumption | omega) only [go_sem, BoxAt.cell hb0_0, BoxAt.cell hb5_7, wrap_id]
  refine CallA.mono (toC_ok _ X _ ⟨_, _, rfl, (RdS.pres hdX (Ext.pres eB)), (RdS.pres hmX (Ext.pres eB))⟩ hMX) ?_
  intro v_ h6_1
  rintro ⟨vd6_1, vm6_1, fd6_1, fm6_1, rfl, hod6_1, hom6_1, hf6_1, e6_1⟩
  replace hod5_3_0 := OS.ext hod5_3_0 e6_1
  replace hom5_3_0 := OS.ext hom5_3_0 e6_1
  replace hb0_0 := BoxAt.ext hb0_0 e6_1
  replace hb5_7 := BoxAt.ext hb5_7 e6_1
  have := Ext.size e6_1
  replace eB := Ext.trans eB e6_1
  have hfd6_1 := hf6_1.left
  have hfm6_1 := hf6_1.right
  have hlhod6_1 := OS.lt hod6_1
  have hlhom6_1 := OS.lt hom6_1
  have ap3 : Apart fd6_1 fm6_1 := apart_nodup hf6_1
  try simp -implicitDefEqProofs (disch := first | decide | assumption | omega) only [go_sem, BoxAt.cell hb0_0, BoxAt.cell hb5_7, wrap_id]
  refine op_alloc (cs := #[.int .i64 0, .slice none 0 0, .slice none 0 0]) (by kernel_rfl) ?_
  intro h6_2 e6_2 hb6_2 z6_2
  replace hod5_3_0 := OS.ext hod5_3_0 e6_2
  replace hom5_3_0 := OS.ext hom5_3_0 e6_2
  replace hod6_1 := OS.ext hod6_1 e6_2
  replace hom6_1 := OS.ext hom6_1 e6_2
  replace hb0_0 := BoxAt.ext hb0_0 e6_2
  replace hb5_7 := BoxAt.ext hb5_7 e6_2
  have := Ext.size e6_2
  replace eB := Ext.trans eB e6_2
  have hfhb6_2 : Fresh h6_1.size [h6_1.size] := Fresh.one _
  have hlhb6_2 := one_lt (show h6_1.size < h6_2.size by omega)
  try simp -implicitDefEqProofs (disch := first | decide | assumption | omega) only [go_sem, BoxAt.cell hb0_0, BoxAt.cell hb5_7, BoxAt.cell hb6_2, wrap_id]
  refine op_storeB (cs' := #[.int .i64 (X.p), vd6_1, vm6_1]) st30 hb6_2 rfl rfl rfl (by simp) (allOne_mem (l := [.int .i64 (X.p), vd6_1, vm6_1]) ⟨rfl, (OS.one hod6_1).1, (OS.one hom6_1).1, trivial⟩) rfl ?_
  intro h6_3 hb6_2 c6_3
  replace hod5_3_0 := OS.chg hod5_3_0 c6_3 (apart_lt hlhod5_3_0 hfhb6_2 (by omega))
  replace hom5_3_0 := OS.chg hom5_3_0 c6_3 (apart_lt hlhom5_3_0 hfhb6_2 (by omega))
  replace hod6_1 := OS.chg hod6_1 c6_3 (apart_lt hlhod6_1 hfhb6_2 (by omega))
  replace hom6_1 := OS.chg hom6_1 c6_3 (apart_lt hlhom6_1 hfhb6_2 (by omega))
  replace hb0_0 := BoxAt.chgA hb0_0 c6_3 (apart_lt hlhb0_0 hfhb6_2 (by omega))
  replace hb5_7 := BoxAt.chgA hb5_7 c6_3 (apart_lt hlhb5_7 hfhb6_2 (by omega))
  have := c6_3.size
  replace eB := Ext.then eB c6_3 (ge_of hfhb6_2 (by omega))
  try simp -implicitDefEqProofs (disch := first | decide | assumption | omega) only [go_sem, BoxAt.cell hb0_0, BoxAt.cell hb5_7, BoxAt.cell hb6_2, wrap_id]
  refine hK _ _ ?_
  clear hK K
  refine den_seq ?_
  refine den_region TTok ?_
  intro K hK
  simp -implicitDefEqProofs (disch := first | decide | assumption | omega) only [go_sem, ld30, BoxAt.cell hb0_0, BoxAt.cell hb5_7, BoxAt.cell hb6_2, wrap_id]
  try simp -implicitDefEqProofs (disch := first | decide | assumption | omega) only [go_sem, BoxAt.cell hb0_0, BoxAt.cell hb5_7, BoxAt.cell hb6_2, wrap_id]
  refine CallA.mono (iPow_ok _ X k _ ⟨_, _, rfl, (OS.rd hod6_1), (OS.rd hom6_1)⟩ ) ?_
  intro v_ h7_2
  rintro ⟨vd7_2_0, vm7_2_0, fd7_2_0, fm7_2_0, rfl, hod7_2_0, hom7_2_0, hf7_2_0, e7_2⟩
  replace hod5_3_0 := OS.ext hod5_3_0 e7_2
  replace hom5_3_0 := OS.ext hom5_3_0 e7_2
  replace hod6_1 := OS.ext hod6_1 e7_2
  replace hom6_1 := OS.ext hom6_1 e7_2
  replace hb0_0 := BoxAt.ext hb0_0 e7_2
  replace hb5_7 := BoxAt.ext hb5_7 e7_2
  replace hb6_2 := BoxAt.ext hb6_2 e7_2
  have := Ext.size e7_2
  replace eB := Ext.trans eB e7_2
  have hfd7_2_0 := hf7_2_0.left
  have hfm7_2_0 := hf7_2_0.right
  have hlhod7_2_0 := OS.lt hod7_2_0
  have hlhom7_2_0 := OS.lt hom7_2_0
  have ap4 : Apart fd7_2_0 fm7_2_0 := apart_nodup hf7_2_0
  try simp -implicitDefEqProofs (disch := first | decide | assumption | omega) only [go_sem, BoxAt.cell hb0_0, BoxAt.cell hb5_7, BoxAt.cell hb6_2, wrap_id]
  refine op_alloc (cs := #[.int .i64 0, .slice none 0 0, .slice none 0 0]) (by kernel_rfl) ?_
  intro h7_6 e7_6 hb7_6 z7_6
  replace hod5_3_0 := OS.ext hod5_3_0 e7_6
  replace hom5_3_0 := OS.ext hom5_3_0 e7_6
  replace hod6_1 := OS.ext hod6_1 e7_6
  replace hom6_1 := OS.ext hom6_1 e7_6
  replace hod7_2_0 := OS.ext hod7_2_0 e7_6
  replace hom7_2_0 := OS.ext hom7_2_0 e7_6
  replace hb0_0 := BoxAt.ext hb0_0 e7_6
  replace hb5_7 := BoxAt.ext hb5_7 e7_6
  replace hb6_2 := BoxAt.ext hb6_2 e7_6
  have := Ext.size e7_6
  replace eB := Ext.trans eB e7_6
  have hfhb7_6 : Fresh h7_2.size [h7_2.size] := Fresh.one _
  have hlhb7_6 := one_lt (show h7_2.size < h7_6.size by omega)
  try simp -implicitDefEqProofs (disch := first | decide | assumption | omega) only [go_sem, BoxAt.cell hb0_0, BoxAt.cell hb5_7, BoxAt.cell hb6_2, BoxAt.cell hb7_6, wrap_id]
  refine op_storeB (cs' := #[.int .i64 ((((powP X k).1).p)), vd7_2_0, vm7_2_0]) st30 hb7_6 rfl rfl rfl (by simp) (allOne_mem (l := [.int .i64 ((((powP X k).1).p)), vd7_2_0, vm7_2_0]) ⟨rfl, (OS.one hod7_2_0).1, (OS.one hom7_2_0).1, trivial⟩) rfl ?_
  intro h7_7 hb7_6 c7_7
  replace hod5_3_0 := OS.chg hod5_3_0 c7_7 (apart_lt hlhod5_3_0 hfhb7_6 (by omega))
  replace hom5_3_0 := OS.chg hom5_3_0 c7_7 (apart_lt hlhom5_3_0 hfhb7_6 (by omega))
  replace hod6_1 := OS.chg hod6_1 c7_7 (apart_lt hlhod6_1 hfhb7_6 (by omega))
  replace hom6_1 := OS.chg hom6_1 c7_7 (apart_lt hlhom6_1 hfhb7_6 (by omega))
  replace hod7_2_0 := OS.chg hod7_2_0 c7_7 (apart_lt hlhod7_2_0 hfhb7_6 (by omega))
  replace hom7_2_0 := OS.chg hom7_2_0 c7_7 (apart_lt hlhom7_2_0 hfhb7_6 (by omega))
  replace hb0_0 := BoxAt.chgA hb0_0 c7_7 (apart_lt hlhb0_0 hfhb7_6 (by omega))
  replace hb5_7 := BoxAt.chgA hb5_7 c7_7 (apart_lt hlhb5_7 hfhb7_6 (by omega))
  replace hb6_2 := BoxAt.chgA hb6_2 c7_7 (apart_lt hlhb6_2 hfhb7_6 (by omega))
  have := c7_7.size
  replace eB := Ext.then eB c7_7 (ge_of hfhb7_6 (by omega))
  try simp -implicitDefEqProofs (disch := first | decide | assumption | omega) only [go_sem, BoxAt.cell hb0_0, BoxAt.cell hb5_7, BoxAt.cell hb6_2, BoxAt.cell hb7_6, wrap_id]
  refine hK _ _ ?_
  clear hK K
  refine den_seq ?_
  refine den_seq ?_
  refine den_merge [(44, .bool (((!(true)) || (((powP X k).2) != ((powP X k).2)))))] [1, 2, 6, 7, 8, 9, 10] (fun H => Ext h7_7 H) ?_ ?_
   -- a way
  ·refine den_region TTok ?_
   intro K hK
   simp -implicitDefEqProofs (disch := first | decide | assumption | (simp (disch := decide) only [slotOf_zero, slotOf_succ, Option.map_some, puts_same, puts_ne, gv_bool, gv_undef, tt, tf, ft, ff, eq_self, if_true, if_false, Bool.false_eq_true, Bool.not_true, Bool.not_false]; done) | omega) only [go_sem, ld30, BoxAt.cell hb0_0, BoxAt.cell hb5_7, BoxAt.cell hb6_2, BoxAt.cell hb7_6, wrap_id]
   try simp -implicitDefEqProofs (disch := first | decide | assumption | omega) only [go_sem, BoxAt.cell hb0_0, BoxAt.cell hb5_7, BoxAt.cell hb6_2, BoxAt.cell hb7_6, wrap_id]
   refine CallA.mono (eqC_same _ _ ((powP X k).1) _ ⟨_, _, rfl, (OS.rd hod7_2_0), (OS.rd hom7_2_0)⟩ ⟨_, _, rfl, (OS.rd hod5_3_0), (OS.rd hom5_3_0)⟩) ?_
   intro v_ h8_2
   rintro ⟨rfl, e8_2⟩
   replace hod5_3_0 := OS.ext hod5_3_0 e8_2
   replace hom5_3_0 := OS.ext hom5_3_0 e8_2
   replace hod6_1 := OS.ext hod6_1 e8_2
   replace hom6_1 := OS.ext hom6_1 e8_2
   replace hod7_2_0 := OS.ext hod7_2_0 e8_2
   replace hom7_2_0 := OS.ext hom7_2_0 e8_2
   replace hb0_0 := BoxAt.ext hb0_0 e8_2
   replace hb5_7 := BoxAt.ext hb5_7 e8_2
   replace hb6_2 := BoxAt.ext hb6_2 e8_2
   replace hb7_6 := BoxAt.ext hb7_6 e8_2
   have := Ext.size e8_2
   replace eB := Ext.trans eB e8_2
   try simp -implicitDefEqProofs (disch := first | decide | assumption | (simp (disch := decide) only [slotOf_zero, slotOf_succ, Option.map_some, puts_same, puts_ne, gv_bool, gv_undef, tt, tf, ft, ff, eq_self, if_true, if_false, Bool.false_eq_true, Bool.not_true, Bool.not_false]; done) | omega) only [go_sem, BoxAt.cell hb0_0, BoxAt.cell hb5_7, BoxAt.cell hb6_2, BoxAt.cell hb7_6, wrap_id]
   try simp -implicitDefEqProofs (disch := first | decide | assumption | (simp (disch := decide) only [slotOf_zero, slotOf_succ, Option.map_some, puts_same, puts_ne, gv_bool, gv_undef, tt, tf, ft, ff, eq_self, if_true, if_false, Bool.false_eq_true, Bool.not_true, Bool.not_false]; done) | omega) only [go_sem, BoxAt.cell hb0_0, BoxAt.cell hb5_7, BoxAt.cell hb6_2, BoxAt.cell hb7_6, wrap_id]
   refine hK _ _ ?_
   clear hK K
   refine den_stop ?_
   refine ⟨?_, e8_2⟩
   first | (simp (disch := decide) only [go_sem, eq_self, Bool.true_and, Bool.and_true, Bool.false_and, Bool.and_false, Bool.true_or, Bool.or_true, Bool.false_or, Bool.or_false, if_true, if_false, Bool.false_eq_true]; done) | simp [HasL, sel, puts_at]
  intro en5 h6 e7
  replace hod5_3_0 := OS.ext hod5_3_0 e7
  replace hom5_3_0 := OS.ext hom5_3_0 e7
  replace hod6_1 := OS.ext hod6_1 e7
  replace hom6_1 := OS.ext hom6_1 e7
  replace hod7_2_0 := OS.ext hod7_2_0 e7
  replace hom7_2_0 := OS.ext hom7_2_0 e7
  replace hb0_0 := BoxAt.ext hb0_0 e7
  replace hb5_7 := BoxAt.ext hb5_7 e7
  replace hb6_2 := BoxAt.ext hb6_2 e7
  replace hb7_6 := BoxAt.ext hb7_6 e7
  have := Ext.size e7
  replace eB := Ext.trans eB e7
  simp (disch := decide) only [go_sem]
  refine den_cond rfl (fun c1 => ?_) (fun c1 => ?_)
  ·try simp only [decide_eq_true_eq, decide_eq_false_iff_not, beq_iff_eq, beq_eq_false_iff_ne, bne_iff_ne, ne_eq, Bool.not_eq_true', Bool.not_eq_false', Bool.and_eq_true, Bool.or_eq_true, bne_eq_false_iff_eq] at c1
   refine den_seq ?_
   refine den_region TTok ?_
   intro K hK
   simp -implicitDefEqProofs (disch := first | decide | assumption | omega) only [go_sem, wrap_id]
   refine hK _ _ ?_
   clear hK K
   refine den_ret ?_
   simp (disch := decide) only [resP_1, puts_same, puts_ne]
   exact absurd c1 (by first | (simp; done) | (simp; omega) | omega | (simp [eqC_self]; done))
  ·try simp only [decide_eq_true_eq, decide_eq_false_iff_not, beq_iff_eq, beq_eq_false_iff_ne, bne_iff_ne, ne_eq, Bool.not_eq_true', Bool.not_eq_false', Bool.and_eq_true, Bool.or_eq_true, bne_eq_false_iff_eq] at c1
   refine den_skip ?_
   refine den_seq ?_
   refine den_seq ?_
   refine den_draw TTok mixed [] [(0, true), (1, true), (2, false), (3, false), (4, true)] (by kernel_rfl) ?_
   intro K hK
   simp -implicitDefEqProofs (disch := first | decide | assumption | omega) only [go_sem, ld30, ld25, BoxAt.cell hb0_0, BoxAt.cell hb5_7, BoxAt.cell hb6_2, BoxAt.cell hb7_6, wrap_id]
   try simp -implicitDefEqProofs (disch := first | decide | assumption | omega) only [go_sem, BoxAt.cell hb0_0, BoxAt.cell hb5_7, BoxAt.cell hb6_2, BoxAt.cell hb7_6, wrap_id]
   refine CallA.mono (toC_ok _ X _ ⟨_, _, rfl, (RdS.pres hdX (Ext.pres eB)), (RdS.pres hmX (Ext.pres eB))⟩ hMX) ?_
   intro v_ h10_2
   rintro ⟨vd10_2, vm10_2, fd10_2, fm10_2, rfl, hod10_2, hom10_2, hf10_2, e10_2⟩
   replace hod5_3_0 := OS.ext hod5_3_0 e10_2
   replace hom5_3_0 := OS.ext hom5_3_0 e10_2
   replace hod6_1 := OS.ext hod6_1 e10_2
   replace hom6_1 := OS.ext hom6_1 e10_2
   replace hod7_2_0 := OS.ext hod7_2_0 e10_2
   replace hom7_2_0 := OS.ext hom7_2_0 e10_2
   replace hb0_0 := BoxAt.ext hb0_0 e10_2
   replace hb5_7 := BoxAt.ext hb5_7 e10_2
   replace hb6_2 := BoxAt.ext hb6_2 e10_2
   replace hb7_6 := BoxAt.ext hb7_6 e10_2
   have := Ext.size e10_2
   replace eB := Ext.trans eB e10_2
   have hfd10_2 := hf10_2.left
   have hfm10_2 := hf10_2.right
   have hlhod10_2 := OS.lt hod10_2
   have hlhom10_2 := OS.lt hom10_2
   have ap8 : Apart fd10_2 fm10_2 := apart_nodup hf10_2
   try simp (disch := decide) only [outv_some, outv_none, put_puts]
   refine plK_pres (Ext.pres e10_2) ?_
   try simp -implicitDefEqProofs (disch := first | decide | assumption | omega) only [go_sem, BoxAt.cell hb0_0, BoxAt.cell hb5_7, BoxAt.cell hb6_2, BoxAt.cell hb7_6, wrap_id]
   try simp -implicitDefEqProofs (disch := first | decide | assumption | omega) only [go_sem, BoxAt.cell hb0_0, BoxAt.cell hb5_7, BoxAt.cell hb6_2, BoxAt.cell hb7_6, wrap_id]
   refine CallA.mono (eqC_same _ _ X _ ⟨_, _, rfl, (OS.rd hod6_1), (OS.rd hom6_1)⟩ ⟨_, _, rfl, (OS.rd hod10_2), (OS.rd hom10_2)⟩) ?_
   intro v_ h10_3
   rintro ⟨rfl, e10_3⟩
   replace hod5_3_0 := OS.ext hod5_3_0 e10_3
   replace hom5_3_0 := OS.ext hom5_3_0 e10_3
   replace hod6_1 := OS.ext hod6_1 e10_3
   replace hom6_1 := OS.ext hom6_1 e10_3
   replace hod7_2_0 := OS.ext hod7_2_0 e10_3
   replace hom7_2_0 := OS.ext hom7_2_0 e10_3
   replace hod10_2 := OS.ext hod10_2 e10_3
   replace hom10_2 := OS.ext hom10_2 e10_3
   replace hb0_0 := BoxAt.ext hb0_0 e10_3
   replace hb5_7 := BoxAt.ext hb5_7 e10_3
   replace hb6_2 := BoxAt.ext hb6_2 e10_3
   replace hb7_6 := BoxAt.ext hb7_6 e10_3
   have := Ext.size e10_3
   replace eB := Ext.trans eB e10_3
   try simp (disch := decide) only [outv_some, outv_none, put_puts]
   refine plK_pres (Ext.pres e10_3) ?_
   try simp -implicitDefEqProofs (disch := first | decide | assumption | omega) only [go_sem, BoxAt.cell hb0_0, BoxAt.cell hb5_7, BoxAt.cell hb6_2, BoxAt.cell hb7_6, wrap_id]
   refine hK _ _ ?_
   clear hK K
   refine den_cond rfl (fun c2 => ?_) (fun c2 => ?_)
   ·try simp only [decide_eq_true_eq, decide_eq_false_iff_not, beq_iff_eq, beq_eq_false_iff_ne, bne_iff_ne, ne_eq, Bool.not_eq_true', Bool.not_eq_false', Bool.and_eq_true, Bool.or_eq_true, bne_eq_false_iff_eq] at c2
    refine den_seq ?_
    refine den_region TTok ?_
    intro K hK
    simp -implicitDefEqProofs (disch := first | decide | assumption | omega) only [go_sem, wrap_id]
    refine hK _ _ ?_
    clear hK K
    refine den_ret ?_
    simp (disch := decide) only [resP_1, puts_same, puts_ne]
    exact absurd c2 (by first | (simp; done) | (simp; omega) | omega | (simp [eqC_self]; done))
   ·try simp only [decide_eq_true_eq, decide_eq_false_iff_not, beq_iff_eq, beq_eq_false_iff_ne, bne_iff_ne, ne_eq, Bool.not_eq_true', Bool.not_eq_false', Bool.and_eq_true, Bool.or_eq_true, bne_eq_false_iff_eq] at c2
    refine den_skip ?_
    refine den_seq ?_
    refine den_region TTok ?_
    intro K hK
    simp -implicitDefEqProofs (disch := first | decide | assumption | omega) only [go_sem, BoxAt.cell hb0_0, BoxAt.cell hb5_7, BoxAt.cell hb6_2, BoxAt.cell hb7_6, wrap_id]
    refine hK _ _ ?_
    clear hK K
    refine den_seq ?_
    refine den_region TTok ?_
    intro K hK
    simp -implicitDefEqProofs (disch := first | decide | assumption | omega) only [go_sem, ld30, BoxAt.cell hb0_0, BoxAt.cell hb5_7, BoxAt.cell hb6_2, BoxAt.cell hb7_6, wrap_id]
    try simp -implicitDefEqProofs (disch := first | decide | assumption | omega) only [go_sem, BoxAt.cell hb0_0, BoxAt.cell hb5_7, BoxAt.cell hb6_2, BoxAt.cell hb7_6, wrap_id]
    refine CallA.mono (markCx_ok _ _ X (1 : Int) _ _ _ hod6_1 hom6_1 (List.nodup_append.2 ⟨hfd6_1.nodup, hfm6_1.nodup, fun b hb c hc e => ap3 b hb (e ▸ hc)⟩) (by omega)) ?_
    intro v_ h13_2
    rintro ⟨rfl, hogd13_2, hogm13_2, cg13_2⟩
    replace hod5_3_0 := OS.chg hod5_3_0 cg13_2 (Apart.app (apart_lt hlhod5_3_0 hfd6_1 (by omega)) (apart_lt hlhod5_3_0 hfm6_1 (by omega)))
    replace hom5_3_0 := OS.chg hom5_3_0 cg13_2 (Apart.app (apart_lt hlhom5_3_0 hfd6_1 (by omega)) (apart_lt hlhom5_3_0 hfm6_1 (by omega)))
    replace hod7_2_0 := OS.chg hod7_2_0 cg13_2 (Apart.app (apart_gt hfd7_2_0 hlhod6_1 (by omega)) (apart_gt hfd7_2_0 hlhom6_1 (by omega)))
    replace hom7_2_0 := OS.chg hom7_2_0 cg13_2 (Apart.app (apart_gt hfm7_2_0 hlhod6_1 (by omega)) (apart_gt hfm7_2_0 hlhom6_1 (by omega)))
    replace hb0_0 := BoxAt.chgA hb0_0 cg13_2 (Apart.app (apart_lt hlhb0_0 hfd6_1 (by omega)) (apart_lt hlhb0_0 hfm6_1 (by omega)))
    replace hb5_7 := BoxAt.chgA hb5_7 cg13_2 (Apart.app (apart_lt hlhb5_7 hfd6_1 (by omega)) (apart_lt hlhb5_7 hfm6_1 (by omega)))
    replace hb6_2 := BoxAt.chgA hb6_2 cg13_2 (Apart.app (apart_gt hfhb6_2 hlhod6_1 (by omega)) (apart_gt hfhb6_2 hlhom6_1 (by omega)))
    replace hb7_6 := BoxAt.chgA hb7_6 cg13_2 (Apart.app (apart_gt hfhb7_6 hlhod6_1 (by omega)) (apart_gt hfhb7_6 hlhom6_1 (by omega)))
    have := cg13_2.size
    replace eB := Ext.then eB cg13_2 (ge_app (ge_of hfd6_1 (by omega)) (ge_of hfm6_1 (by omega)))
    have ap9 : Apart fm6_1 fd6_1 := (Apart.symm ap3)
    have hlhogd13_2 := hlhod6_1
    have ap10 : Apart fd6_1 fm6_1 := (Apart.symm ap9)
    have hlhogm13_2 := hlhom6_1
    try simp -implicitDefEqProofs (disch := first | decide | assumption | omega) only [go_sem, BoxAt.cell hb0_0, BoxAt.cell hb5_7, BoxAt.cell hb6_2, BoxAt.cell hb7_6, wrap_id]
    refine hK _ _ ?_
    clear hK K
    refine den_seq ?_
    refine den_seq ?_
    refine den_merge [(65, .bool ((((decide (((1 : Int) + cnt1 X.dims + cntL cnt2 X.maps) < (0 : Int))) || (!(true))) || (((powP X k).2) != ((powP X k).2)))))] [1, 2, 6, 7, 9] (fun H => Ext h13_2 H) ?_ ?_
     -- a way
    ·refine den_region TTok ?_
     intro K hK
     simp -implicitDefEqProofs (disch := first | decide | assumption | (simp (disch := decide) only [slotOf_zero, slotOf_succ, Option.map_some, puts_same, puts_ne, gv_bool, gv_undef, tt, tf, ft, ff, eq_self, if_true, if_false, Bool.false_eq_true, Bool.not_true, Bool.not_false]; done) | omega) only [go_sem, BoxAt.cell hb0_0, BoxAt.cell hb5_7, BoxAt.cell hb7_6, wrap_id]
     refine opsP_F (by simp (disch := decide) only [slotOf_zero, slotOf_succ, Option.map_some, puts_same, puts_ne, gv_bool, gv_undef, tt, tf, ft, ff, eq_self, if_true, if_false, Bool.false_eq_true, Bool.not_true, Bool.not_false]; rfl) (fun g11 => ?_) (fun g11 => ?_)
     ·try simp -implicitDefEqProofs (disch := first | decide | assumption | (simp (disch := decide) only [slotOf_zero, slotOf_succ, Option.map_some, puts_same, puts_ne, gv_bool, gv_undef, tt, tf, ft, ff, eq_self, if_true, if_false, Bool.false_eq_true, Bool.not_true, Bool.not_false, g11]; done) | omega) only [go_sem, ld30, BoxAt.cell hb0_0, BoxAt.cell hb5_7, BoxAt.cell hb7_6, wrap_id, g11, eq_self, if_true, if_false, Bool.false_eq_true]
      try simp -implicitDefEqProofs (disch := first | decide | assumption | omega) only [go_sem, BoxAt.cell hb0_0, BoxAt.cell hb5_7, BoxAt.cell hb7_6, wrap_id]
      refine CallA.mono (eqC_same _ _ ((powP X k).1) _ ⟨_, _, rfl, (OS.rd hod7_2_0), (OS.rd hom7_2_0)⟩ ⟨_, _, rfl, (OS.rd hod5_3_0), (OS.rd hom5_3_0)⟩) ?_
      intro v_ h14_5
      rintro ⟨rfl, e14_5⟩
      replace hod5_3_0 := OS.ext hod5_3_0 e14_5
      replace hom5_3_0 := OS.ext hom5_3_0 e14_5
      replace hod7_2_0 := OS.ext hod7_2_0 e14_5
      replace hom7_2_0 := OS.ext hom7_2_0 e14_5
      replace hb0_0 := BoxAt.ext hb0_0 e14_5
      replace hb5_7 := BoxAt.ext hb5_7 e14_5
      replace hb7_6 := BoxAt.ext hb7_6 e14_5
      have := Ext.size e14_5
      replace eB := Ext.trans eB e14_5
      try simp -implicitDefEqProofs (disch := first | decide | assumption | (simp (disch := decide) only [slotOf_zero, slotOf_succ, Option.map_some, puts_same, puts_ne, gv_bool, gv_undef, tt, tf, ft, ff, eq_self, if_true, if_false, Bool.false_eq_true, Bool.not_true, Bool.not_false, g11]; done) | omega) only [go_sem, BoxAt.cell hb0_0, BoxAt.cell hb5_7, BoxAt.cell hb7_6, wrap_id, g11, eq_self, if_true, if_false, Bool.false_eq_true]
      try simp -implicitDefEqProofs (disch := first | decide | assumption | (simp (disch := decide) only [slotOf_zero, slotOf_succ, Option.map_some, puts_same, puts_ne, gv_bool, gv_undef, tt, tf, ft, ff, eq_self, if_true, if_false, Bool.false_eq_true, Bool.not_true, Bool.not_false, g11]; done) | omega) only [go_sem, BoxAt.cell hb0_0, BoxAt.cell hb5_7, BoxAt.cell hb7_6, wrap_id, g11, eq_self, if_true, if_false, Bool.false_eq_true]
      refine hK _ _ ?_
      clear hK K
      refine den_stop ?_
      refine ⟨?_, e14_5⟩
      first | (simp (disch := decide) only [go_sem, g11, eq_self, Bool.true_and, Bool.and_true, Bool.false_and, Bool.and_false, Bool.true_or, Bool.or_true, Bool.false_or, Bool.or_false, if_true, if_false, Bool.false_eq_true]; done) | simp [HasL, sel, puts_at, g11]
     ·try simp -implicitDefEqProofs (disch := first | decide | assumption | (simp (disch := decide) only [slotOf_zero, slotOf_succ, Option.map_some, puts_same, puts_ne, gv_bool, gv_undef, tt, tf, ft, ff, eq_self, if_true, if_false, Bool.false_eq_true, Bool.not_true, Bool.not_false, g11]; done) | omega) only [go_sem, BoxAt.cell hb0_0, BoxAt.cell hb5_7, BoxAt.cell hb7_6, wrap_id, g11, eq_self, if_true, if_false, Bool.false_eq_true]
      try simp -implicitDefEqProofs (disch := first | decide | assumption | (simp (disch := decide) only [slotOf_zero, slotOf_succ, Option.map_some, puts_same, puts_ne, gv_bool, gv_undef, tt, tf, ft, ff, eq_self, if_true, if_false, Bool.false_eq_true, Bool.not_true, Bool.not_false, g11]; done) | omega) only [go_sem, BoxAt.cell hb0_0, BoxAt.cell hb5_7, BoxAt.cell hb7_6, wrap_id, g11, eq_self, if_true, if_false, Bool.false_eq_true]
      refine hK _ _ ?_
      clear hK K
      refine den_stop ?_
      refine ⟨?_, Ext.refl _⟩
      first | (simp (disch := decide) only [go_sem, g11, eq_self, Bool.true_and, Bool.and_true, Bool.false_and, Bool.and_false, Bool.true_or, Bool.or_true, Bool.false_or, Bool.or_false, if_true, if_false, Bool.false_eq_true]; done) | simp [HasL, sel, puts_at, g11]
    intro en12 h13 e14
    replace hod5_3_0 := OS.ext hod5_3_0 e14
    replace hom5_3_0 := OS.ext hom5_3_0 e14
    replace hod7_2_0 := OS.ext hod7_2_0 e14
    replace hom7_2_0 := OS.ext hom7_2_0 e14
    replace hb0_0 := BoxAt.ext hb0_0 e14
    replace hb5_7 := BoxAt.ext hb5_7 e14
    replace hb7_6 := BoxAt.ext hb7_6 e14
    have := Ext.size e14
    replace eB := Ext.trans eB e14
    simp (disch := decide) only [go_sem]
    refine den_cond rfl (fun c3 => ?_) (fun c3 => ?_)
    ·try simp only [decide_eq_true_eq, decide_eq_false_iff_not, beq_iff_eq, beq_eq_false_iff_ne, bne_iff_ne, ne_eq, Bool.not_eq_true', Bool.not_eq_false', Bool.and_eq_true, Bool.or_eq_true, bne_eq_false_iff_eq] at c3
     refine den_seq ?_
     refine den_region TTok ?_
     intro K hK
     simp -implicitDefEqProofs (disch := first | decide | assumption | omega) only [go_sem, wrap_id]
     refine hK _ _ ?_
     clear hK K
     refine den_ret ?_
     simp (disch := decide) only [resP_1, puts_same, puts_ne]
     exact absurd c3 (by first | (simp; done) | (simp; omega) | omega | (simp [eqC_self]; done))
    ·try simp only [decide_eq_true_eq, decide_eq_false_iff_not, beq_iff_eq, beq_eq_false_iff_ne, bne_iff_ne, ne_eq, Bool.not_eq_true', Bool.not_eq_false', Bool.and_eq_true, Bool.or_eq_true, bne_eq_false_iff_eq] at c3
     refine den_skip ?_
     refine den_seq ?_
     refine den_region TTok ?_
     intro K hK
     simp -implicitDefEqProofs (disch := first | decide | assumption | omega) only [go_sem, BoxAt.cell hb0_0, BoxAt.cell hb5_7, BoxAt.cell hb7_6, wrap_id]
     refine hK _ _ ?_
     clear hK K
     refine den_seq ?_
     refine den_region TTok ?_
     intro K hK
     simp -implicitDefEqProofs (disch := first | decide | assumption | omega) only [go_sem, ld30, BoxAt.cell hb0_0, BoxAt.cell hb5_7, BoxAt.cell hb7_6, wrap_id]
     try simp -implicitDefEqProofs (disch := first | decide | assumption | omega) only [go_sem, BoxAt.cell hb0_0, BoxAt.cell hb5_7, BoxAt.cell hb7_6, wrap_id]
     refine CallA.mono (markCx_ok _ _ ((powP X k).1) (1 : Int) _ _ _ hod7_2_0 hom7_2_0 (List.nodup_append.2 ⟨hfd7_2_0.nodup, hfm7_2_0.nodup, fun b hb c hc e => ap4 b hb (e ▸ hc)⟩) (by omega)) ?_
     intro v_ h17_2
     rintro ⟨rfl, hogd17_2, hogm17_2, cg17_2⟩
     replace hod5_3_0 := OS.chg hod5_3_0 cg17_2 (Apart.app (apart_lt hlhod5_3_0 hfd7_2_0 (by omega)) (apart_lt hlhod5_3_0 hfm7_2_0 (by omega)))
     replace hom5_3_0 := OS.chg hom5_3_0 cg17_2 (Apart.app (apart_lt hlhom5_3_0 hfd7_2_0 (by omega)) (apart_lt hlhom5_3_0 hfm7_2_0 (by omega)))
     replace hb0_0 := BoxAt.chgA hb0_0 cg17_2 (Apart.app (apart_lt hlhb0_0 hfd7_2_0 (by omega)) (apart_lt hlhb0_0 hfm7_2_0 (by omega)))
     replace hb5_7 := BoxAt.chgA hb5_7 cg17_2 (Apart.app (apart_lt hlhb5_7 hfd7_2_0 (by omega)) (apart_lt hlhb5_7 hfm7_2_0 (by omega)))
     replace hb7_6 := BoxAt.chgA hb7_6 cg17_2 (Apart.app (apart_gt hfhb7_6 hlhod7_2_0 (by omega)) (apart_gt hfhb7_6 hlhom7_2_0 (by omega)))
     have := cg17_2.size
     replace eB := Ext.then eB cg17_2 (ge_app (ge_of hfd7_2_0 (by omega)) (ge_of hfm7_2_0 (by omega)))
     have ap15 : Apart fm7_2_0 fd7_2_0 := (Apart.symm ap4)
     have hlhogd17_2 := hlhod7_2_0
     have ap16 : Apart fd7_2_0 fm7_2_0 := (Apart.symm ap15)
     have hlhogm17_2 := hlhom7_2_0
     try simp -implicitDefEqProofs (disch := first | decide | assumption | omega) only [go_sem, BoxAt.cell hb0_0, BoxAt.cell hb5_7, BoxAt.cell hb7_6, wrap_id]
     refine hK _ _ ?_
     clear hK K
     refine den_seq ?_
     refine den_region TTok ?_
     intro K hK
     simp -implicitDefEqProofs (disch := first | decide | assumption | omega) only [go_sem, BoxAt.cell hb0_0, BoxAt.cell hb5_7, BoxAt.cell hb7_6, wrap_id]
     refine hK _ _ ?_
     clear hK K
     refine den_seq ?_
     refine den_region TTok ?_
     intro K hK
     simp -implicitDefEqProofs (disch := first | decide | assumption | omega) only [go_sem, ld30, BoxAt.cell hb0_0, BoxAt.cell hb5_7, BoxAt.cell hb7_6, wrap_id]
     try simp -implicitDefEqProofs (disch := first | decide | assumption | omega) only [go_sem, BoxAt.cell hb0_0, BoxAt.cell hb5_7, BoxAt.cell hb7_6, wrap_id]
     refine CallA.mono (heldCx_ok _ _ ((powP X k).1) (1 : Int) _ (OS.rd hogd17_2) (OS.rd hogm17_2) (by omega)) ?_
     intro v_ h19_2
     rintro ⟨rfl, e19_2⟩
     replace hod5_3_0 := OS.ext hod5_3_0 e19_2
     replace hom5_3_0 := OS.ext hom5_3_0 e19_2
     replace hogd17_2 := OS.ext hogd17_2 e19_2
     replace hogm17_2 := OS.ext hogm17_2 e19_2
     replace hb0_0 := BoxAt.ext hb0_0 e19_2
     replace hb5_7 := BoxAt.ext hb5_7 e19_2
     replace hb7_6 := BoxAt.ext hb7_6 e19_2
     have := Ext.size e19_2
     replace eB := Ext.trans eB e19_2
     try simp -implicitDefEqProofs (disch := first | decide | assumption | omega) only [go_sem, BoxAt.cell hb0_0, BoxAt.cell hb5_7, BoxAt.cell hb7_6, wrap_id]
     refine hK _ _ ?_
     clear hK K
     refine den_seq ?_
     refine den_seq ?_
     refine den_region TTok ?_
     intro K hK
     simp -implicitDefEqProofs (disch := first | decide | assumption | omega) only [go_sem, BoxAt.cell hb0_0, BoxAt.cell hb5_7, BoxAt.cell hb7_6, wrap_id]
     refine hK _ _ ?_
     clear hK K
     refine den_cond rfl (fun c4 => ?_) (fun c4 => ?_)
     ·try simp only [decide_eq_true_eq, decide_eq_false_iff_not, beq_iff_eq, beq_eq_false_iff_ne, bne_iff_ne, ne_eq, Bool.not_eq_true', Bool.not_eq_false', Bool.and_eq_true, Bool.or_eq_true, bne_eq_false_iff_eq] at c4
      refine den_seq ?_
      refine den_region TTok ?_
      intro K hK
      simp -implicitDefEqProofs (disch := first | decide | assumption | omega) only [go_sem, wrap_id]
      refine hK _ _ ?_
      clear hK K
      refine den_ret ?_
      simp (disch := decide) only [resP_1, puts_same, puts_ne]
      exact absurd c4 (by first | (simp; done) | (simp; omega) | omega | (simp [eqC_self]; done))
     ·try simp only [decide_eq_true_eq, decide_eq_false_iff_not, beq_iff_eq, beq_eq_false_iff_ne, bne_iff_ne, ne_eq, Bool.not_eq_true', Bool.not_eq_false', Bool.and_eq_true, Bool.or_eq_true, bne_eq_false_iff_eq] at c4
      refine den_skip ?_
      refine den_seq ?_
      refine den_seq ?_
      refine den_region TTok ?_
      intro K hK
      simp -implicitDefEqProofs (disch := first | decide | assumption | omega) only [go_sem, BoxAt.cell hb0_0, BoxAt.cell hb5_7, BoxAt.cell hb7_6, wrap_id]
      refine hK _ _ ?_
      clear hK K
      refine den_cond rfl (fun c5 => ?_) (fun c5 => ?_)
      ·try simp only [decide_eq_true_eq, decide_eq_false_iff_not, beq_iff_eq, beq_eq_false_iff_ne, bne_iff_ne, ne_eq, Bool.not_eq_true', Bool.not_eq_false', Bool.and_eq_true, Bool.or_eq_true, bne_eq_false_iff_eq] at c5
       refine den_seq ?_
       refine den_region TTok ?_
       intro K hK
       simp -implicitDefEqProofs (disch := first | decide | assumption | omega) only [go_sem, wrap_id]
       refine hK _ _ ?_
       clear hK K
       refine den_ret ?_
       simp (disch := decide) only [resP_1, puts_same, puts_ne]
       exact absurd c5 (by first | (simp; done) | (simp; omega) | omega | (simp [eqC_self]; done))
      ·try simp only [decide_eq_true_eq, decide_eq_false_iff_not, beq_iff_eq, beq_eq_false_iff_ne, bne_iff_ne, ne_eq, Bool.not_eq_true', Bool.not_eq_false', Bool.and_eq_true, Bool.or_eq_true, bne_eq_false_iff_eq] at c5
       refine den_skip ?_
       refine den_seq ?_
       refine den_region TTok ?_
       intro K hK
       simp -implicitDefEqProofs (disch := first | decide | assumption | omega) only [go_sem, ld25, BoxAt.cell hb0_0, BoxAt.cell hb5_7, BoxAt.cell hb7_6, wrap_id]
       try simp -implicitDefEqProofs (disch := first | decide | assumption | omega) only [go_sem, BoxAt.cell hb0_0, BoxAt.cell hb5_7, BoxAt.cell hb7_6, wrap_id]
       refine CallA.mono (toC_ok _ X _ ⟨_, _, rfl, (RdS.pres hdX (Ext.pres eB)), (RdS.pres hmX (Ext.pres eB))⟩ hMX) ?_
       intro v_ h24_1
       rintro ⟨vd24_1, vm24_1, fd24_1, fm24_1, rfl, hod24_1, hom24_1, hf24_1, e24_1⟩
       replace hod5_3_0 := OS.ext hod5_3_0 e24_1
       replace hom5_3_0 := OS.ext hom5_3_0 e24_1
       replace hogd17_2 := OS.ext hogd17_2 e24_1
       replace hogm17_2 := OS.ext hogm17_2 e24_1
       replace hb0_0 := BoxAt.ext hb0_0 e24_1
       replace hb5_7 := BoxAt.ext hb5_7 e24_1
       replace hb7_6 := BoxAt.ext hb7_6 e24_1
       have := Ext.size e24_1
       replace eB := Ext.trans eB e24_1
       have hfd24_1 := hf24_1.left
       have hfm24_1 := hf24_1.right
       have hlhod24_1 := OS.lt hod24_1
       have hlhom24_1 := OS.lt hom24_1
       have ap17 : Apart fd24_1 fm24_1 := apart_nodup hf24_1
       try simp -implicitDefEqProofs (disch := first | decide | assumption | omega) only [go_sem, BoxAt.cell hb0_0, BoxAt.cell hb5_7, BoxAt.cell hb7_6, wrap_id]
       try simp -implicitDefEqProofs (disch := first | decide | assumption | omega) only [go_sem, BoxAt.cell hb0_0, BoxAt.cell hb5_7, BoxAt.cell hb7_6, wrap_id]
       refine CallA.mono (iPow_ok _ X k _ ⟨_, _, rfl, (OS.rd hod24_1), (OS.rd hom24_1)⟩ ) ?_
       intro v_ h24_3
       rintro ⟨vd24_3_0, vm24_3_0, fd24_3_0, fm24_3_0, rfl, hod24_3_0, hom24_3_0, hf24_3_0, e24_3⟩
       replace hod5_3_0 := OS.ext hod5_3_0 e24_3
       replace hom5_3_0 := OS.ext hom5_3_0 e24_3
       replace hogd17_2 := OS.ext hogd17_2 e24_3
       replace hogm17_2 := OS.ext hogm17_2 e24_3
       replace hod24_1 := OS.ext hod24_1 e24_3
       replace hom24_1 := OS.ext hom24_1 e24_3
       replace hb0_0 := BoxAt.ext hb0_0 e24_3
       replace hb5_7 := BoxAt.ext hb5_7 e24_3
       replace hb7_6 := BoxAt.ext hb7_6 e24_3
       have := Ext.size e24_3
       replace eB := Ext.trans eB e24_3
       have hfd24_3_0 := hf24_3_0.left
       have hfm24_3_0 := hf24_3_0.right
       have hlhod24_3_0 := OS.lt hod24_3_0
       have hlhom24_3_0 := OS.lt hom24_3_0
       have ap18 : Apart fd24_3_0 fm24_3_0 := apart_nodup hf24_3_0
       try simp -implicitDefEqProofs (disch := first | decide | assumption | omega) only [go_sem, BoxAt.cell hb0_0, BoxAt.cell hb5_7, BoxAt.cell hb7_6, wrap_id]
       refine op_alloc (cs := #[.int .i64 0, .slice none 0 0, .slice none 0 0]) (by kernel_rfl) ?_
       intro h24_7 e24_7 hb24_7 z24_7
       replace hod5_3_0 := OS.ext hod5_3_0 e24_7
       replace hom5_3_0 := OS.ext hom5_3_0 e24_7
       replace hogd17_2 := OS.ext hogd17_2 e24_7
       replace hogm17_2 := OS.ext hogm17_2 e24_7
       replace hod24_1 := OS.ext hod24_1 e24_7
       replace hom24_1 := OS.ext hom24_1 e24_7
       replace hod24_3_0 := OS.ext hod24_3_0 e24_7
       replace hom24_3_0 := OS.ext hom24_3_0 e24_7
       replace hb0_0 := BoxAt.ext hb0_0 e24_7
       replace hb5_7 := BoxAt.ext hb5_7 e24_7
       replace hb7_6 := BoxAt.ext hb7_6 e24_7
       have := Ext.size e24_7
       replace eB := Ext.trans eB e24_7
       have hfhb24_7 : Fresh h24_3.size [h24_3.size] := Fresh.one _
       have hlhb24_7 := one_lt (show h24_3.size < h24_7.size by omega)
       try simp -implicitDefEqProofs (disch := first | decide | assumption | omega) only [go_sem, BoxAt.cell hb0_0, BoxAt.cell hb5_7, BoxAt.cell hb7_6, BoxAt.cell hb24_7, wrap_id]
       refine op_storeB (cs' := #[.int .i64 ((((powP X k).1).p)), vd24_3_0, vm24_3_0]) st30 hb24_7 rfl rfl rfl (by simp) (allOne_mem (l := [.int .i64 ((((powP X k).1).p)), vd24_3_0, vm24_3_0]) ⟨rfl, (OS.one hod24_3_0).1, (OS.one hom24_3_0).1, trivial⟩) rfl ?_
       intro h24_8 hb24_7 c24_8
       replace hod5_3_0 := OS.chg hod5_3_0 c24_8 (apart_lt hlhod5_3_0 hfhb24_7 (by omega))
       replace hom5_3_0 := OS.chg hom5_3_0 c24_8 (apart_lt hlhom5_3_0 hfhb24_7 (by omega))
       replace hogd17_2 := OS.chg hogd17_2 c24_8 (apart_lt hlhogd17_2 hfhb24_7 (by omega))
       replace hogm17_2 := OS.chg hogm17_2 c24_8 (apart_lt hlhogm17_2 hfhb24_7 (by omega))
       replace hod24_1 := OS.chg hod24_1 c24_8 (apart_lt hlhod24_1 hfhb24_7 (by omega))
       replace hom24_1 := OS.chg hom24_1 c24_8 (apart_lt hlhom24_1 hfhb24_7 (by omega))
       replace hod24_3_0 := OS.chg hod24_3_0 c24_8 (apart_lt hlhod24_3_0 hfhb24_7 (by omega))
       replace hom24_3_0 := OS.chg hom24_3_0 c24_8 (apart_lt hlhom24_3_0 hfhb24_7 (by omega))
       replace hb0_0 := BoxAt.chgA hb0_0 c24_8 (apart_lt hlhb0_0 hfhb24_7 (by omega))
       replace hb5_7 := BoxAt.chgA hb5_7 c24_8 (apart_lt hlhb5_7 hfhb24_7 (by omega))
       replace hb7_6 := BoxAt.chgA hb7_6 c24_8 (apart_lt hlhb7_6 hfhb24_7 (by omega))
       have := c24_8.size
       replace eB := Ext.then eB c24_8 (ge_of hfhb24_7 (by omega))
       try simp -implicitDefEqProofs (disch := first | decide | assumption | omega) only [go_sem, BoxAt.cell hb0_0, BoxAt.cell hb5_7, BoxAt.cell hb7_6, BoxAt.cell hb24_7, wrap_id]
       refine hK _ _ ?_
       clear hK K
       refine den_seq ?_
       refine den_seq ?_
       refine den_merge [(92, .bool (((!(true)) || (((powP X k).2) != ((powP X k).2)))))] [9, 12] (fun H => Ext h24_8 H) ?_ ?_
        -- a way
       ·refine den_region TTok ?_
        intro K hK
        simp -implicitDefEqProofs (disch := first | decide | assumption | (simp (disch := decide) only [slotOf_zero, slotOf_succ, Option.map_some, puts_same, puts_ne, gv_bool, gv_undef, tt, tf, ft, ff, eq_self, if_true, if_false, Bool.false_eq_true, Bool.not_true, Bool.not_false]; done) | omega) only [go_sem, ld30, BoxAt.cell hb5_7, BoxAt.cell hb7_6, BoxAt.cell hb24_7, wrap_id]
        try simp -implicitDefEqProofs (disch := first | decide | assumption | omega) only [go_sem, BoxAt.cell hb5_7, BoxAt.cell hb7_6, BoxAt.cell hb24_7, wrap_id]
        refine CallA.mono (eqC_same _ _ ((powP X k).1) _ ⟨_, _, rfl, (OS.rd hod24_3_0), (OS.rd hom24_3_0)⟩ ⟨_, _, rfl, (OS.rd hod5_3_0), (OS.rd hom5_3_0)⟩) ?_
        intro v_ h25_2
        rintro ⟨rfl, e25_2⟩
        replace hod5_3_0 := OS.ext hod5_3_0 e25_2
        replace hom5_3_0 := OS.ext hom5_3_0 e25_2
        replace hogd17_2 := OS.ext hogd17_2 e25_2
        replace hogm17_2 := OS.ext hogm17_2 e25_2
        replace hod24_3_0 := OS.ext hod24_3_0 e25_2
        replace hom24_3_0 := OS.ext hom24_3_0 e25_2
        replace hb5_7 := BoxAt.ext hb5_7 e25_2
        replace hb7_6 := BoxAt.ext hb7_6 e25_2
        replace hb24_7 := BoxAt.ext hb24_7 e25_2
        have := Ext.size e25_2
        replace eB := Ext.trans eB e25_2
        try simp -implicitDefEqProofs (disch := first | decide | assumption | (simp (disch := decide) only [slotOf_zero, slotOf_succ, Option.map_some, puts_same, puts_ne, gv_bool, gv_undef, tt, tf, ft, ff, eq_self, if_true, if_false, Bool.false_eq_true, Bool.not_true, Bool.not_false]; done) | omega) only [go_sem, BoxAt.cell hb5_7, BoxAt.cell hb7_6, BoxAt.cell hb24_7, wrap_id]
        try simp -implicitDefEqProofs (disch := first | decide | assumption | (simp (disch := decide) only [slotOf_zero, slotOf_succ, Option.map_some, puts_same, puts_ne, gv_bool, gv_undef, tt, tf, ft, ff, eq_self, if_true, if_false, Bool.false_eq_true, Bool.not_true, Bool.not_false]; done) | omega) only [go_sem, BoxAt.cell hb5_7, BoxAt.cell hb7_6, BoxAt.cell hb24_7, wrap_id]
        refine hK _ _ ?_
        clear hK K
        refine den_stop ?_
        refine ⟨?_, e25_2⟩
        first | (simp (disch := decide) only [go_sem, eq_self, Bool.true_and, Bool.and_true, Bool.false_and, Bool.and_false, Bool.true_or, Bool.or_true, Bool.false_or, Bool.or_false, if_true, if_false, Bool.false_eq_true]; done) | simp [HasL, sel, puts_at]
       intro en19 h20 e21
       replace hod5_3_0 := OS.ext hod5_3_0 e21
       replace hom5_3_0 := OS.ext hom5_3_0 e21
       replace hogd17_2 := OS.ext hogd17_2 e21
       replace hogm17_2 := OS.ext hogm17_2 e21
       replace hod24_3_0 := OS.ext hod24_3_0 e21
       replace hom24_3_0 := OS.ext hom24_3_0 e21
       replace hb5_7 := BoxAt.ext hb5_7 e21
       replace hb7_6 := BoxAt.ext hb7_6 e21
       replace hb24_7 := BoxAt.ext hb24_7 e21
       have := Ext.size e21
       replace eB := Ext.trans eB e21
       simp (disch := decide) only [go_sem]
       refine den_cond rfl (fun c6 => ?_) (fun c6 => ?_)
       ·try simp only [decide_eq_true_eq, decide_eq_false_iff_not, beq_iff_eq, beq_eq_false_iff_ne, bne_iff_ne, ne_eq, Bool.not_eq_true', Bool.not_eq_false', Bool.and_eq_true, Bool.or_eq_true, bne_eq_false_iff_eq] at c6
        refine den_seq ?_
        refine den_region TTok ?_
        intro K hK
        simp -implicitDefEqProofs (disch := first | decide | assumption | omega) only [go_sem, wrap_id]
        refine hK _ _ ?_
        clear hK K
        refine den_ret ?_
        simp (disch := decide) only [resP_1, puts_same, puts_ne]
        exact absurd c6 (by first | (simp; done) | (simp; omega) | omega | (simp [eqC_self]; done))
       ·try simp only [decide_eq_true_eq, decide_eq_false_iff_not, beq_iff_eq, beq_eq_false_iff_ne, bne_iff_ne, ne_eq, Bool.not_eq_true', Bool.not_eq_false', Bool.and_eq_true, Bool.or_eq_true, bne_eq_false_iff_eq] at c6
        refine den_skip ?_
        refine den_seq ?_
        refine den_region TTok ?_
        intro K hK
        simp -implicitDefEqProofs (disch := first | decide | assumption | omega) only [go_sem, BoxAt.cell hb7_6, wrap_id]
        refine hK _ _ ?_
        clear hK K
        refine den_seq ?_
        refine den_region TTok ?_
        intro K hK
        simp -implicitDefEqProofs (disch := first | decide | assumption | omega) only [go_sem, ld30, BoxAt.cell hb7_6, wrap_id]
        try simp -implicitDefEqProofs (disch := first | decide | assumption | omega) only [go_sem, BoxAt.cell hb7_6, wrap_id]
        refine CallA.mono (heldCx_ok _ _ ((powP X k).1) (1 : Int) _ (OS.rd hogd17_2) (OS.rd hogm17_2) (by omega)) ?_
        intro v_ h28_2
        rintro ⟨rfl, e28_2⟩
        replace hogd17_2 := OS.ext hogd17_2 e28_2
        replace hogm17_2 := OS.ext hogm17_2 e28_2
        replace hb7_6 := BoxAt.ext hb7_6 e28_2
        have := Ext.size e28_2
        replace eB := Ext.trans eB e28_2
        try simp -implicitDefEqProofs (disch := first | decide | assumption | omega) only [go_sem, BoxAt.cell hb7_6, wrap_id]
        refine hK _ _ ?_
        clear hK K
        refine den_seq ?_
        refine den_seq ?_
        refine den_region TTok ?_
        intro K hK
        simp -implicitDefEqProofs (disch := first | decide | assumption | omega) only [go_sem, wrap_id]
        refine hK _ _ ?_
        clear hK K
        refine den_cond rfl (fun c7 => ?_) (fun c7 => ?_)
        ·try simp only [decide_eq_true_eq, decide_eq_false_iff_not, beq_iff_eq, beq_eq_false_iff_ne, bne_iff_ne, ne_eq, Bool.not_eq_true', Bool.not_eq_false', Bool.and_eq_true, Bool.or_eq_true, bne_eq_false_iff_eq] at c7
         refine den_seq ?_
         refine den_region TTok ?_
         intro K hK
         simp -implicitDefEqProofs (disch := first | decide | assumption | omega) only [go_sem, wrap_id]
         refine hK _ _ ?_
         clear hK K
         refine den_ret ?_
         simp (disch := decide) only [resP_1, puts_same, puts_ne]
         exact absurd c7 (by first | (simp; done) | (simp; omega) | omega | (simp [eqC_self]; done))
        ·try simp only [decide_eq_true_eq, decide_eq_false_iff_not, beq_iff_eq, beq_eq_false_iff_ne, bne_iff_ne, ne_eq, Bool.not_eq_true', Bool.not_eq_false', Bool.and_eq_true, Bool.or_eq_true, bne_eq_false_iff_eq] at c7
         refine den_skip ?_
         refine den_seq ?_
         refine den_seq ?_
         refine den_region TTok ?_
         intro K hK
         simp -implicitDefEqProofs (disch := first | decide | assumption | omega) only [go_sem, wrap_id]
         refine hK _ _ ?_
         clear hK K
         refine den_cond rfl (fun c8 => ?_) (fun c8 => ?_)
         ·try simp only [decide_eq_true_eq, decide_eq_false_iff_not, beq_iff_eq, beq_eq_false_iff_ne, bne_iff_ne, ne_eq, Bool.not_eq_true', Bool.not_eq_false', Bool.and_eq_true, Bool.or_eq_true, bne_eq_false_iff_eq] at c8
          refine den_seq ?_
          refine den_region TTok ?_
          intro K hK
          simp -implicitDefEqProofs (disch := first | decide | assumption | omega) only [go_sem, wrap_id]
          refine hK _ _ ?_
          clear hK K
          refine den_ret ?_
          simp (disch := decide) only [resP_1, puts_same, puts_ne]
          exact absurd c8 (by first | (simp; done) | (simp; omega) | omega | (simp [eqC_self]; done))
         ·try simp only [decide_eq_true_eq, decide_eq_false_iff_not, beq_iff_eq, beq_eq_false_iff_ne, bne_iff_ne, ne_eq, Bool.not_eq_true', Bool.not_eq_false', Bool.and_eq_true, Bool.or_eq_true, bne_eq_false_iff_eq] at c8
          refine den_skip ?_
          refine den_seq ?_
          refine den_region TTok ?_
          intro K hK
          simp -implicitDefEqProofs (disch := first | decide | assumption | omega) only [go_sem, wrap_id]
          refine hK _ _ ?_
          clear hK K
          refine den_ret ?_
          simp (disch := decide) only [resP_1, puts_same, puts_ne]
          exact ⟨by first | rfl | trivial, eB⟩
end Go.Proofs.Ytffggocjkhcgeaa
