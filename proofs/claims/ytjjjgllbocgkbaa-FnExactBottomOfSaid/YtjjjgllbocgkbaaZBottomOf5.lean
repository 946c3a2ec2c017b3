/-
  What the statement FnExactBottomOf uses of the walks, part 5.
  Conditions: each theorem's own.
-/
import Derived.Test.YtjjjgllbocgkbaaG16
import Derived.Test.YtjjjgllbocgkbaaG17
import Derived.Test.YtjjjgllbocgkbaaG14
import Derived.Test.YtjjjgllbocgkbaaG13
import Derived.Test.YtjjjgllbocgkbaaG15
import Derived.Test.YtjjjgllbocgkbaaG18
import Derived.Test.YtjjjgllbocgkbaaG19
import Derived.Test.YtjjjgllbocgkbaaZBottomOf1
import Derived.Test.YtjjjgllbocgkbaaZBottomOf2
import Derived.Test.YtjjjgllbocgkbaaZBottomOf3
import Derived.Test.YtjjjgllbocgkbaaZBottomOf4
set_option linter.unusedVariables false
set_option linter.unusedSimpArgs false
namespace Go.Proofs.Ytjjjgllbocgkbaa
open Go
set_option maxRecDepth 100000 in
theorem sImg2_ok (vX vL : Value) (X : Fl) (n : Int) (L : List (List Int)) (h : Heap) (rX : RF h vX X) (rL : R2 h vL L) (hF : IsF X) (hn : 1 ≤ n ∧ n ≤ (X.c.dims.length : Int) - 1) (hL : ∀ v ∈ L, (v.length : Int) = dimP X.c n ∧ Bnd X.c.p v) (hl : L.length ≤ 8) : CallA Try.prog 142 #[vX, .int .i64 n, vL] h fun v' h' => ∃ w0 f0, v' = w0 ∧ O2 h' w0 (L.map (diffP X.c n)) f0 ∧ Fresh h.size f0 ∧ Ext h h' := by
 obtain ⟨vdX, vmX, vvX, rfl, hdX, hmX, hvX⟩ := rX
 have hledX := RdS.le hdX
 have hlemX := RdS.le hmX
 have hlevX := RdS.le hvX
 have hleL := RdS.le rL
 have hC := hF.c
 have hlC := hC.len
 have hpb := isP_bnd hC.p
 have hmt := mapP_ok hC (n := n) (by omega) (by omega)
 have hbt := hmt.2
 have hdb1 := dimP_bnd hC (n - 1)
 have hdn : dimP X.c n = X.c.dims.getD n.toNat 0 := by rw [dimP, if_pos (in3_iff.2 ⟨by omega, by omega⟩)]
 refine callA_intro TTok (args := [_, _, _]) Try.func142 (by kernel_rfl) rfl 37 rfl (by simp) [.tmp 6] rfl ?_
 simp only [idxs, Nat.reduceAdd]
 refine den_seq ?_
 refine den_region TTok ?_
 intro K hK
 simp -implicitDefEqProofs (disch := first | decide | assumption | omega) only [go_sem, wrap_id]
 refine op_box (cs := #[.int .i64 (X.c.p), vdX, vmX, vvX]) rfl ?_
 intro h0_0 e0_0 hb0_0 z0_0
 have := Ext.size e0_0
 have eB := e0_0
 have hfhb0_0 : Fresh h.size [h.size] := Fresh.one _
 have hlhb0_0 := one_lt (show h.size < h0_0.size by omega)
 try simp -implicitDefEqProofs (disch := first | decide | assumption | omega) only [go_sem, wrap_id]
 refine hK _ _ ?_
 clear hK K
 refine den_seq ?_
 refine den_region TTok ?_
 intro K hK
 simp -implicitDefEqProofs (disch := first | decide | assumption | omega) only [go_sem, wrap_id]
 refine op_bs0 sz26 O1 ?_
 intro v1_0 h1_0 ho1_0 e1_0
 replace hb0_0 := BoxAt.ext hb0_0 e1_0
 have := Ext.size e1_0
 replace eB := Ext.trans eB e1_0
 have hfho1_0 : Fresh h0_0.size [h0_0.size] := Fresh.one _
 have hlho1_0 := OS.lt ho1_0
 try simp -implicitDefEqProofs (disch := first | decide | assumption | omega) only [go_sem, RdS.len (OS.rd ho1_0) sl26, RdS.idx (OS.rd ho1_0) sl26, RdS.cellN (OS.rd ho1_0), RdS.cells (OS.rd ho1_0), wrap_id]
 refine hK _ _ ?_
 clear hK K
 refine den_seq ?_
 refine den_seq ?_
 refine den_region TTok ?_
 intro K hK
 simp -implicitDefEqProofs (disch := first | decide | assumption | omega) only [go_sem, wrap_id]
 refine hK _ _ ?_
 clear hK K
 refine den_block ?_
 refine den_sel [7, 8, 1, 2, 3] ?_
 intro env_1
 simp only [go_sem]
 refine den_loopS (σ := Nat × Value × List Nat) (fun st_ => [(7, st_.2.1), (8, .int .i64 (st_.1 : Int))]) (fun st_ H => (st_.1 ≤ L.length) ∧ (O2 H st_.2.1 ((L.take st_.1).map (diffP X.c n)) st_.2.2) ∧ (Fresh (h0_0.size) st_.2.2) ∧ (Sub [h0_0.size] h1_0.size st_.2.2) ∧ (Chg [h0_0.size] h1_0 H)) (fun st_ => L.length - st_.1) (0, v1_0, [h0_0.size]) ?_ ?_
 ·exact ⟨by first | (simp; done) | (dsimp only; omega) | (simp; omega), by simpa using ho1_0, hfho1_0, Sub.refl, Chg.refl _ _⟩
 ·rintro ⟨k, vhO, fphO⟩ h4 ee3 ⟨hi0, hO, hfhO, sbhO, cL2⟩
  dsimp only at hi0 hO hfhO sbhO cL2
  replace hb0_0 := BoxAt.chgA hb0_0 cL2 (apart_lt hlhb0_0 hfho1_0 (by omega))
  have := cL2.size
  replace eB := Ext.then eB cL2 (ge_of hfho1_0 (by omega))
  have hlhO := OS.lt hO
  simp only [List.cons_append, List.nil_append]
  refine den_seq ?_
  refine den_seq ?_
  refine den_region TTok ?_
  intro K hK
  simp -implicitDefEqProofs (disch := first | decide | assumption | omega) only [go_sem, RdS.len rL sl26, RdS.idx rL sl26, RdS.cellB rL (Ext.pres eB), RdS.cells rL, wrap_id]
  refine hK _ _ ?_
  clear hK K
  refine den_cond rfl (fun c0 => ?_) (fun c0 => ?_)
  ·try simp only [decide_eq_true_eq, decide_eq_false_iff_not, beq_iff_eq, beq_eq_false_iff_ne, bne_iff_ne, ne_eq, Bool.not_eq_true', Bool.not_eq_false', Bool.and_eq_true, Bool.or_eq_true, bne_eq_false_iff_eq] at c0
   refine den_skip ?_
   refine den_seq ?_
   refine den_block ?_
   have hvk := hL _ (getD_mem (R := L) (k := k) (by omega))
   have hbv := hvk.2
   have hvt : ((L.take k).map (diffP X.c n)).length ≤ 8 := by rw [List.length_map, List.length_take]; omega
   refine den_draw TTok mixed [19] [(0, true), (1, true), (2, true), (3, true), (4, true), (5, true), (6, true), (8, true), (9, true), (10, true), (11, true), (12, true), (13, true), (14, true), (15, true), (7, false), (16, false), (17, false), (18, false), (19, false), (20, true)] (by kernel_rfl) ?_
   intro K hK
   have hr5 := RdS.rowN rL k (by omega)
   have hlhr5 := RdS.le hr5
   simp -implicitDefEqProofs (disch := first | decide | assumption | omega) only [go_sem, fa31_0, fa33_0, ld22, ld2, ld31, RdS.len hdX sl22, RdS.idx hdX sl22, R1.intB hdX (Ext.pres eB), RdS.cells hdX, RdS.len hmX sl23, RdS.idx hmX sl23, RdS.cellB hmX (Ext.pres eB), RdS.cells hmX, RdS.len hvX sl26, RdS.idx hvX sl26, RdS.cellB hvX (Ext.pres eB), RdS.cells hvX, RdS.len rL sl26, RdS.idx rL sl26, RdS.cellB rL (Ext.pres eB), RdS.cells rL, RdS.len hr5 sl22, RdS.idx hr5 sl22, R1.intB hr5 (Ext.pres eB), RdS.cells hr5, RdS.len (OS.rd hO) sl26, RdS.idx (OS.rd hO) sl26, RdS.cellN (OS.rd hO), RdS.cells (OS.rd hO), BoxAt.cell hb0_0, wrap_id]
   try simp -implicitDefEqProofs (disch := first | decide | assumption | omega) only [go_sem, wrap_id]
   refine CallA.mono (sMap_ok _ X.c n _ ⟨_, _, rfl, (RdS.pres hdX (Ext.pres eB)), (RdS.pres hmX (Ext.pres eB))⟩ hC) ?_
   intro vw5_7_0 h5_7
   rintro ⟨zvw5_7_0, rfl, hrw5_7_0, e5_7⟩
   replace hO := OS.ext hO e5_7
   replace hb0_0 := BoxAt.ext hb0_0 e5_7
   have := Ext.size e5_7
   replace eB := Ext.trans eB e5_7
   replace cL2 := Chg.stepE cL2 e5_7
   have xrw5_7_0 := Ext.refl h5_7
   have hlrw5_7_0 := RdS.le hrw5_7_0
   try simp (disch := decide) only [outv_some, outv_none, put_puts]
   refine plK_pres (Ext.pres e5_7) ?_
   try simp -implicitDefEqProofs (disch := first | decide | assumption | omega) only [go_sem, wrap_id]
   try simp -implicitDefEqProofs (disch := first | decide | assumption | omega) only [go_sem, wrap_id]
   refine CallA.mono (sDim_ok _ X.c _ _ ⟨_, _, rfl, (RdS.pres hdX (Ext.pres eB)), (RdS.pres hmX (Ext.pres eB))⟩) ?_
   intro v_ h5_16
   rintro ⟨rfl, e5_16⟩
   replace hO := OS.ext hO e5_16
   replace hb0_0 := BoxAt.ext hb0_0 e5_16
   have := Ext.size e5_16
   replace eB := Ext.trans eB e5_16
   replace xrw5_7_0 := Ext.trans xrw5_7_0 e5_16
   replace cL2 := Chg.stepE cL2 e5_16
   try simp (disch := decide) only [outv_some, outv_none, put_puts]
   refine plK_pres (Ext.pres e5_16) ?_
   try simp -implicitDefEqProofs (disch := first | decide | assumption | omega) only [go_sem, wrap_id]
   try simp -implicitDefEqProofs (disch := first | decide | assumption | omega) only [go_sem, wrap_id]
   refine CallA.mono (sApply_ok _ _ _ _ _ _ _ (RdS.pres hr5 (Ext.pres eB)) (RdS.pres hrw5_7_0 (Ext.pres xrw5_7_0)) (by omega) (by omega) (by omega) hbv hbt) ?_
   intro v5_17 h5_17
   rintro ⟨f5_17, ho5_17, hf5_17, e5_17⟩
   replace hO := OS.ext hO e5_17
   replace hb0_0 := BoxAt.ext hb0_0 e5_17
   have := Ext.size e5_17
   replace eB := Ext.trans eB e5_17
   replace xrw5_7_0 := Ext.trans xrw5_7_0 e5_17
   replace cL2 := Chg.stepE cL2 e5_17
   have hlho5_17 := OS.lt ho5_17
   try simp (disch := decide) only [outv_some, outv_none, put_puts]
   refine plK_pres (Ext.pres e5_17) ?_
   try simp -implicitDefEqProofs (disch := first | decide | assumption | omega) only [go_sem, wrap_id]
   refine op_bs1 sz26 rfl (OS.one ho5_17).2 ?_
   try simp (disch := decide) only [outv_some, outv_none, put_puts]
   refine plK_pres (Ext.pres (Ext.push _ _)) ?_
   try simp -implicitDefEqProofs (disch := first | decide | assumption | omega) only [go_sem, wrap_id]
   refine op_append1 sz26 hO hfhO.nodup ho5_17 hf5_17.nodup (apart_lt hlhO hf5_17 (by omega)) (by first | omega | (simp; omega)) rfl rfl ?_
   intro v5_19 h5_19 fp5_19 ho5_19 hn5_19 hs5_19 c5_19
   have hsz5_19 := c5_19.size
   have hfho5_19 : Fresh h0_0.size fp5_19 := Fresh.appd hfhO hf5_17 (by omega) (by omega) hn5_19 hs5_19
   have sb6 : Sub [h0_0.size] h1_0.size fp5_19 := Sub.grow sbhO (Sub.fresh hf5_17 (by omega)) (by omega) hs5_19
   replace hb0_0 := BoxAt.chgA hb0_0 c5_19 (apart_lt hlhb0_0 hfhO (by omega))
   have := c5_19.size
   replace eB := Ext.then eB c5_19 (ge_of hfhO (by omega))
   replace cL2 := Chg.step cL2 c5_19 sbhO
   have hlho5_19 := OS.lt ho5_19
   try simp (disch := decide) only [outv_some, outv_none, put_puts]
   refine plK_last (by decide) ?_
   try simp -implicitDefEqProofs (disch := first | decide | assumption | omega) only [go_sem, RdS.len (OS.rd ho5_19) sl26, RdS.idx (OS.rd ho5_19) sl26, RdS.cellN (OS.rd ho5_19), RdS.cells (OS.rd ho5_19), wrap_id]
   refine hK _ _ ?_
   clear hK K
   refine den_blk ?_
   refine den_region TTok ?_
   intro K hK
   simp -implicitDefEqProofs (disch := first | decide | assumption | omega) only [go_sem, wrap_id]
   refine hK _ _ ?_
   clear hK K
   refine den_stop ?_
   rw [diff_spec hC (by omega) (by omega), map_takeL (f := diffP X.c n) (d := default) (by omega)] at ho5_19
   exact ⟨(k + 1, v5_19, fp5_19), by simp [HasL, puts_at], ⟨by first | omega | (dsimp only; omega), ho5_19, hfho5_19, sb6, cL2⟩, by first | omega | (dsimp only; omega)⟩
  ·try simp only [decide_eq_true_eq, decide_eq_false_iff_not, beq_iff_eq, beq_eq_false_iff_ne, bne_iff_ne, ne_eq, Bool.not_eq_true', Bool.not_eq_false', Bool.and_eq_true, Bool.or_eq_true, bne_eq_false_iff_eq] at c0
   refine den_exit ?_
   refine denX_code ?_
   refine denX_stop ?_
   refine denX_hit ?_
   refine den_seq ?_
   refine den_region TTok ?_
   intro K hK
   simp -implicitDefEqProofs (disch := first | decide | assumption | omega) only [go_sem, RdS.len (OS.rd hO) sl26, RdS.idx (OS.rd hO) sl26, RdS.cellN (OS.rd hO), RdS.cells (OS.rd hO), wrap_id]
   refine hK _ _ ?_
   clear hK K
   refine den_ret ?_
   simp (disch := decide) only [resP_1, puts_same, puts_ne]
   rw [map_takeE (by omega)] at hO
   exact ⟨_, _, rfl, hO, hfhO.mono (by omega), eB⟩

set_option maxRecDepth 100000 in
set_option maxHeartbeats 4000000 in
theorem sBot_ok (vX : Value) (X : Fl) (r : Int) (n : Int) (q : Int) (h : Heap) (rX : RF h vX X) (hF : IsF X) (hr : -50 ≤ r ∧ r ≤ 50) (hn : 0 ≤ n ∧ n ≤ (X.c.dims.length : Int) - 1) (hq : -40 ≤ q ∧ q ≤ 40) : CallA Try.prog 89 #[vX, .int .i64 r, .int .i64 n, .int .i64 q] h fun v' h' => ∃ w0 f0, v' = w0 ∧ O2 h' w0 (bottomP X r n q) f0 ∧ Fresh h.size f0 ∧ Ext h h' := by
 obtain ⟨vdX, vmX, vvX, rfl, hdX, hmX, hvX⟩ := rX
 have hledX := RdS.le hdX
 have hlemX := RdS.le hmX
 have hlevX := RdS.le hvX
 have hC := hF.c
 have hlC := hC.len
 have hml := hC.ml
 have hln := hF.ln
 have hdb := dimP_bnd hC n
 have hpb := isP_bnd hC.p
 have hP := hC.p
 have hnl1 := near_len hC (r - 1) n (q - 1)
 have hnl2 := near_len hC (r - 1) (n + 1) (q + r - 1)
 have hY := hC
 refine callA_intro TTok (args := [_, _, _, _]) Try.func89 (by kernel_rfl) rfl 46 rfl (by simp) [.tmp 8] rfl ?_
 simp only [idxs, Nat.reduceAdd]
 refine den_seq ?_
 refine den_region TTok ?_
 intro K hK
 simp -implicitDefEqProofs (disch := first | decide | assumption | omega) only [go_sem, wrap_id]
 refine op_box (cs := #[.int .i64 (X.c.p), vdX, vmX, vvX]) rfl ?_
 intro h0_0 e0_0 hb0_0 z0_0
 have := Ext.size e0_0
 have eB := e0_0
 have hfhb0_0 : Fresh h.size [h.size] := Fresh.one _
 have hlhb0_0 := one_lt (show h.size < h0_0.size by omega)
 try simp -implicitDefEqProofs (disch := first | decide | assumption | omega) only [go_sem, wrap_id]
 refine hK _ _ ?_
 clear hK K
 refine den_seq ?_
 refine den_region TTok ?_
 intro K hK
 simp -implicitDefEqProofs (disch := first | decide | assumption | omega) only [go_sem, wrap_id]
 refine op_bs0 sz26 O1 ?_
 intro v1_0 h1_0 ho1_0 e1_0
 replace hb0_0 := BoxAt.ext hb0_0 e1_0
 have := Ext.size e1_0
 replace eB := Ext.trans eB e1_0
 have hfho1_0 : Fresh h0_0.size [h0_0.size] := Fresh.one _
 have hlho1_0 := OS.lt ho1_0
 try simp -implicitDefEqProofs (disch := first | decide | assumption | omega) only [go_sem, ld33, RdS.len hdX sl22, RdS.idx hdX sl22, R1.intB hdX (Ext.pres eB), RdS.cells hdX, RdS.len hmX sl23, RdS.idx hmX sl23, RdS.cellB hmX (Ext.pres eB), RdS.cells hmX, RdS.len hvX sl26, RdS.idx hvX sl26, RdS.cellB hvX (Ext.pres eB), RdS.cells hvX, BoxAt.cell hb0_0, wrap_id]
 try simp -implicitDefEqProofs (disch := first | decide | assumption | omega) only [go_sem, wrap_id]
 refine CallA.mono (sCyc2_ok _ X (r - (1 : Int)) n (q - (1 : Int)) _ ⟨_, _, _, rfl, (RdS.pres hdX (Ext.pres eB)), (RdS.pres hmX (Ext.pres eB)), (RdS.pres hvX (Ext.pres eB))⟩ hF (by omega) (by omega) (by omega)) ?_
 intro vw1_7_0 h1_7
 rintro ⟨zvw1_7_0, fw1_7_0, rfl, how1_7_0, hfw1_7_0, e1_7⟩
 replace ho1_0 := OS.ext ho1_0 e1_7
 replace hb0_0 := BoxAt.ext hb0_0 e1_7
 have := Ext.size e1_7
 replace eB := Ext.trans eB e1_7
 have hlhow1_7_0 := OS.lt how1_7_0
 try simp -implicitDefEqProofs (disch := first | decide | assumption | omega) only [go_sem, wrap_id]
 have hag1_8 := Agr.refl fw1_7_0 h1_7
 replace ho1_0 : O2M h1_7 fw1_7_0 _ _ _ _ := O2M.nil ho1_0
 refine op_appendM sz26 ho1_0 hfho1_0.nodup (OS.rd how1_7_0) rfl (fun j hj => (ES.row (H := h1_7) how1_7_0 hfw1_7_0.nodup hj).2.1.1) (fun j hj h'' => .inr (by rw [getD_elem hj]; exact ES.row how1_7_0 hfw1_7_0.nodup hj)) (by first | omega | (simp; omega)) rfl ?_
 intro v1_8 h1_8 fp1_8 ho1_8 hn1_8 hs1_8 c1_8
 have hsz1_8 := c1_8.size
 have hfho1_8 : Fresh h0_0.size fp1_8 := Fresh.appd hfho1_0 (Fresh.nil h1_7.size) (by omega) (by omega) hn1_8 hs1_8
 replace hag1_8 := Agr.chg hag1_8 (OS.lt how1_7_0) c1_8 (apart_gt hfw1_7_0 hlho1_0 (by omega))
 replace how1_7_0 := OS.chg how1_7_0 c1_8 (apart_gt hfw1_7_0 hlho1_0 (by omega))
 replace hb0_0 := BoxAt.chgA hb0_0 c1_8 (apart_lt hlhb0_0 hfho1_0 (by omega))
 have := c1_8.size
 replace eB := Ext.then eB c1_8 (ge_of hfho1_0 (by omega))
 have ap1 : Apart fw1_7_0 fp1_8 := Apart.grow hlhow1_7_0 (by omega) (apart_gt hfw1_7_0 hlho1_0 (by omega)) (Apart.nil _) hs1_8
 have hlho1_8 := OS.lt ho1_8
 rw [List.nil_append] at ho1_8
 try simp -implicitDefEqProofs (disch := first | decide | assumption | omega) only [go_sem, wrap_id]
 refine hK _ _ ?_
 clear hK K
 refine den_seq ?_
 refine den_seq ?_
 refine den_region TTok ?_
 intro K hK
 simp -implicitDefEqProofs (disch := first | decide | assumption | omega) only [go_sem, fa33_1, ld26, RdS.len hdX sl22, RdS.idx hdX sl22, R1.intB hdX (Ext.pres eB), RdS.cells hdX, RdS.len hmX sl23, RdS.idx hmX sl23, RdS.cellB hmX (Ext.pres eB), RdS.cells hmX, RdS.len hvX sl26, RdS.idx hvX sl26, RdS.cellB hvX (Ext.pres eB), RdS.cells hvX, BoxAt.cell hb0_0, wrap_id]
 refine hK _ _ ?_
 clear hK K
 refine den_cond rfl (fun c0 => ?_) (fun c0 => ?_)
 ·try simp only [decide_eq_true_eq, decide_eq_false_iff_not, beq_iff_eq, beq_eq_false_iff_ne, bne_iff_ne, ne_eq, Bool.not_eq_true', Bool.not_eq_false', Bool.and_eq_true, Bool.or_eq_true, bne_eq_false_iff_eq] at c0
  have himL : ∀ v ∈ nearP X (r - 1) (n + 1) (q + r - 1), (v.length : Int) = dimP X.c (n + 1) ∧ Bnd X.c.p v := fun v hv => by
   have := near_tbl hC _ _ _ v hv
   have hd := dimP_bnd hC (n + 1)
   exact ⟨by omega, this.2⟩
  have hml_ : ((nearP X (r - 1) (n + 1) (q + r - 1)).map (diffP X.c (n + 1))).length ≤ 8 := by rw [List.length_map]; omega
  refine den_draw TTok mixed [15] [(0, true), (1, true), (2, true), (3, true), (4, true), (5, true), (6, true), (7, true), (8, true), (9, true), (10, true), (11, true), (12, true), (13, false), (14, false), (15, false), (16, true)] (by kernel_rfl) ?_
  intro K hK
  simp -implicitDefEqProofs (disch := first | decide | assumption | omega) only [go_sem, ld33, RdS.len hdX sl22, RdS.idx hdX sl22, R1.intB hdX (Ext.pres eB), RdS.cells hdX, RdS.len hmX sl23, RdS.idx hmX sl23, RdS.cellB hmX (Ext.pres eB), RdS.cells hmX, RdS.len hvX sl26, RdS.idx hvX sl26, RdS.cellB hvX (Ext.pres eB), RdS.cells hvX, BoxAt.cell hb0_0, wrap_id]
  try simp -implicitDefEqProofs (disch := first | decide | assumption | omega) only [go_sem, wrap_id]
  refine CallA.mono (sCyc2_ok _ X (r - (1 : Int)) (n + (1 : Int)) ((q + r) - (1 : Int)) _ ⟨_, _, _, rfl, (RdS.pres hdX (Ext.pres eB)), (RdS.pres hmX (Ext.pres eB)), (RdS.pres hvX (Ext.pres eB))⟩ hF (by omega) (by omega) (by omega)) ?_
  intro vw3_13_0 h3_13
  rintro ⟨zvw3_13_0, fw3_13_0, rfl, how3_13_0, hfw3_13_0, e3_13⟩
  replace hag1_8 := Agr.ext hag1_8 (OS.lt how1_7_0) e3_13
  replace how1_7_0 := OS.ext how1_7_0 e3_13
  replace ho1_8 := OS.ext ho1_8 e3_13
  replace hb0_0 := BoxAt.ext hb0_0 e3_13
  have := Ext.size e3_13
  replace eB := Ext.trans eB e3_13
  have hlhow3_13_0 := OS.lt how3_13_0
  try simp (disch := decide) only [outv_some, outv_none, put_puts]
  refine plK_pres (Ext.pres e3_13) ?_
  try simp -implicitDefEqProofs (disch := first | decide | assumption | omega) only [go_sem, wrap_id]
  try simp -implicitDefEqProofs (disch := first | decide | assumption | omega) only [go_sem, wrap_id]
  refine CallA.mono (sImg2_ok _ _ X (n + (1 : Int)) (nearP X (r - (1 : Int)) (n + (1 : Int)) ((q + r) - (1 : Int))) _ ⟨_, _, _, rfl, (RdS.pres hdX (Ext.pres eB)), (RdS.pres hmX (Ext.pres eB)), (RdS.pres hvX (Ext.pres eB))⟩ (OS.rd how3_13_0) hF (by omega) himL (by omega)) ?_
  intro vw3_14_0 h3_14
  rintro ⟨zvw3_14_0, fw3_14_0, rfl, how3_14_0, hfw3_14_0, e3_14⟩
  replace hag1_8 := Agr.ext hag1_8 (OS.lt how1_7_0) e3_14
  replace how1_7_0 := OS.ext how1_7_0 e3_14
  replace ho1_8 := OS.ext ho1_8 e3_14
  replace how3_13_0 := OS.ext how3_13_0 e3_14
  replace hb0_0 := BoxAt.ext hb0_0 e3_14
  have := Ext.size e3_14
  replace eB := Ext.trans eB e3_14
  have hlhow3_14_0 := OS.lt how3_14_0
  try simp (disch := decide) only [outv_some, outv_none, put_puts]
  refine plK_pres (Ext.pres e3_14) ?_
  try simp -implicitDefEqProofs (disch := first | decide | assumption | omega) only [go_sem, wrap_id]
  replace ho1_8 : O2M h3_14 (fw1_7_0 ++ fw3_14_0) _ _ _ _ := O2M.more hag1_8 ho1_8
  have hagl3_15 := Agr.refl fw1_7_0 h3_14
  have hagr3_15 := Agr.refl fw3_14_0 h3_14
  refine op_appendM sz26 ho1_8 hfho1_8.nodup (OS.rd how3_14_0) rfl (fun j hj => (ES.row (H := h3_14) how3_14_0 hfw3_14_0.nodup hj).2.1.1) (fun j hj h'' => .inr (by rw [getD_elem hj]; exact (ES.row how3_14_0 hfw3_14_0.nodup hj).right)) (by first | omega | (simp; omega)) rfl ?_
  intro v3_15 h3_15 fp3_15 ho3_15 hn3_15 hs3_15 c3_15
  have hsz3_15 := c3_15.size
  have hfho3_15 : Fresh h0_0.size fp3_15 := Fresh.appd hfho1_8 (Fresh.nil h3_14.size) (by omega) (by omega) hn3_15 hs3_15
  replace hagl3_15 := Agr.chg hagl3_15 (OS.lt how1_7_0) c3_15 ap1
  replace hagr3_15 := Agr.chg hagr3_15 (OS.lt how3_14_0) c3_15 (apart_gt hfw3_14_0 hlho1_8 (by omega))
  replace how1_7_0 := OS.chg how1_7_0 c3_15 ap1
  replace how3_13_0 := OS.chg how3_13_0 c3_15 (apart_gt hfw3_13_0 hlho1_8 (by omega))
  replace how3_14_0 := OS.chg how3_14_0 c3_15 (apart_gt hfw3_14_0 hlho1_8 (by omega))
  replace hb0_0 := BoxAt.chgA hb0_0 c3_15 (apart_lt hlhb0_0 hfho1_8 (by omega))
  have := c3_15.size
  replace eB := Ext.then eB c3_15 (ge_of hfho1_8 (by omega))
  have ap2 : Apart fw1_7_0 fp3_15 := Apart.grow hlhow1_7_0 (by omega) ap1 (Apart.nil _) hs3_15
  have ap3 : Apart fw3_13_0 fp3_15 := Apart.grow hlhow3_13_0 (by omega) (apart_gt hfw3_13_0 hlho1_8 (by omega)) (Apart.nil _) hs3_15
  have ap4 : Apart fw3_14_0 fp3_15 := Apart.grow hlhow3_14_0 (by omega) (apart_gt hfw3_14_0 hlho1_8 (by omega)) (Apart.nil _) hs3_15
  have hlho3_15 := OS.lt ho3_15
  try simp (disch := decide) only [outv_some, outv_none, put_puts]
  refine plK_last (by decide) ?_
  try simp -implicitDefEqProofs (disch := first | decide | assumption | omega) only [go_sem, wrap_id]
  refine hK _ _ ?_
  clear hK K
  refine den_seq ?_
  change O2M _ _ _ _ (botL X r n q) _ at ho3_15
  have hredT := bot_tbl hC (r := r) (q := q) hn.1
  have hbl := bot_len hC r n q
  refine den_region TTok ?_
  intro K hK
  simp -implicitDefEqProofs (disch := first | decide | assumption | omega) only [go_sem, fa31_0, fa33_0, ld2, RdS.len hdX sl22, RdS.idx hdX sl22, R1.intB hdX (Ext.pres eB), RdS.cells hdX, RdS.len hmX sl23, RdS.idx hmX sl23, RdS.cellB hmX (Ext.pres eB), RdS.cells hmX, RdS.len hvX sl26, RdS.idx hvX sl26, RdS.cellB hvX (Ext.pres eB), RdS.cells hvX, BoxAt.cell hb0_0, wrap_id]
  try simp -implicitDefEqProofs (disch := first | decide | assumption | omega) only [go_sem, wrap_id]
  refine CallA.mono (sEch_ok _ X.c.p (botL X r n q) _ (O2M.rd ho3_15 (Agr.app hagl3_15 hagr3_15)) hP hredT (by omega) (by omega)) ?_
  intro vw4_4_0 h4_4
  rintro ⟨zvw4_4_0, fw4_4_0, rfl, how4_4_0, hfw4_4_0, e4_4⟩
  replace hagl3_15 := Agr.ext hagl3_15 (OS.lt how1_7_0) e4_4
  replace hagr3_15 := Agr.ext hagr3_15 (OS.lt how3_14_0) e4_4
  replace how1_7_0 := OS.ext how1_7_0 e4_4
  replace how3_14_0 := OS.ext how3_14_0 e4_4
  replace ho3_15 := OS.ext ho3_15 e4_4
  replace hb0_0 := BoxAt.ext hb0_0 e4_4
  have := Ext.size e4_4
  replace eB := Ext.trans eB e4_4
  have hlhow4_4_0 := OS.lt how4_4_0
  try simp -implicitDefEqProofs (disch := first | decide | assumption | omega) only [go_sem, RdS.len (OS.rd how4_4_0) sl26, RdS.idx (OS.rd how4_4_0) sl26, RdS.cellN (OS.rd how4_4_0), RdS.cells (OS.rd how4_4_0), wrap_id]
  refine hK _ _ ?_
  clear hK K
  refine den_ret ?_
  simp (disch := decide) only [resP_1, puts_same, puts_ne]
  exact ⟨_, _, rfl, how4_4_0, hfw4_4_0.mono (by omega), eB⟩
 ·try simp only [decide_eq_true_eq, decide_eq_false_iff_not, beq_iff_eq, beq_eq_false_iff_ne, bne_iff_ne, ne_eq, Bool.not_eq_true', Bool.not_eq_false', Bool.and_eq_true, Bool.or_eq_true, bne_eq_false_iff_eq] at c0
  refine den_skip ?_
  refine den_seq ?_
  have hbn : botL X r n q = nearP X (r - 1) n (q - 1) := by rw [botL, near_out hC (r := r - 1) (q := q + r - 1) (n := n + 1) (by omega), List.map_nil, List.append_nil]
  have hredT := bot_tbl hC (r := r) (q := q) hn.1
  have hbl := bot_len hC r n q
  rw [hbn] at hredT hbl
  refine den_region TTok ?_
  intro K hK
  simp -implicitDefEqProofs (disch := first | decide | assumption | omega) only [go_sem, fa31_0, fa33_0, ld2, RdS.len hdX sl22, RdS.idx hdX sl22, R1.intB hdX (Ext.pres eB), RdS.cells hdX, RdS.len hmX sl23, RdS.idx hmX sl23, RdS.cellB hmX (Ext.pres eB), RdS.cells hmX, RdS.len hvX sl26, RdS.idx hvX sl26, RdS.cellB hvX (Ext.pres eB), RdS.cells hvX, BoxAt.cell hb0_0, wrap_id]
  try simp -implicitDefEqProofs (disch := first | decide | assumption | omega) only [go_sem, wrap_id]
  refine CallA.mono (sEch_ok _ X.c.p (nearP X (r - (1 : Int)) n (q - (1 : Int))) _ (O2M.rd ho1_8 hag1_8) hP hredT (by omega) (by omega)) ?_
  intro vw4_4_1_0 h4_4_1
  rintro ⟨zvw4_4_1_0, fw4_4_1_0, rfl, how4_4_1_0, hfw4_4_1_0, e4_4_1⟩
  replace hag1_8 := Agr.ext hag1_8 (OS.lt how1_7_0) e4_4_1
  replace how1_7_0 := OS.ext how1_7_0 e4_4_1
  replace ho1_8 := OS.ext ho1_8 e4_4_1
  replace hb0_0 := BoxAt.ext hb0_0 e4_4_1
  have := Ext.size e4_4_1
  replace eB := Ext.trans eB e4_4_1
  have hlhow4_4_1_0 := OS.lt how4_4_1_0
  try simp -implicitDefEqProofs (disch := first | decide | assumption | omega) only [go_sem, RdS.len (OS.rd how4_4_1_0) sl26, RdS.idx (OS.rd how4_4_1_0) sl26, RdS.cellN (OS.rd how4_4_1_0), RdS.cells (OS.rd how4_4_1_0), wrap_id]
  refine hK _ _ ?_
  clear hK K
  refine den_ret ?_
  simp (disch := decide) only [resP_1, puts_same, puts_ne]
  rw [← hbn] at how4_4_1_0
  exact ⟨_, _, rfl, how4_4_1_0, hfw4_4_1_0.mono (by omega), eB⟩
end Go.Proofs.Ytjjjgllbocgkbaa

namespace Go.Proofs.Ytjjjgllbocgkbaa
open Go
noncomputable def boR (X : Fl) (r n q : Int) : List (List Int) × Int := if pgC X r n q = 0 then (bottomP X r n q, 0) else ([], pgC X r n q)
theorem boR_n {X : Fl} {r n q : Int} (h : pgC X r n q ≠ 0) : boR X r n q = ([], pgC X r n q) := by rw [boR, if_neg h]
theorem boR_y {X : Fl} {r n q : Int} (h : pgC X r n q = 0) : boR X r n q = (bottomP X r n q, 0) := by rw [boR, if_pos h]
theorem cnt_boR (X : Fl) (r n q : Int) : 0 ≤ cntL cnt1 (boR X r n q).1 ∧ cntL cnt1 (boR X r n q).1 ≤ 64 := by
 by_cases h : pgC X r n q = 0
 ·obtain ⟨hF, hr, hn, hq⟩ := pgC_0 h
  obtain ⟨l, r'⟩ := bottom_rr hF.c (r := r) (q := q) hn.1
  rw [boR_y h]; exact cnt_rr r' (by have := dimP_bnd hF.c n; omega)
 ·rw [boR_n h]; exact ⟨Int.le_refl _, by show (0 : Int) ≤ _; decide⟩
set_option maxRecDepth 100000 in
theorem iBt_ok (vX : Value) (X : Fl) (r : Int) (n : Int) (q : Int) (h : Heap) (rX : RF h vX X)  : CallA Try.prog 25 #[vX, .int .i64 r, .int .i64 n, .int .i64 q] h fun v' h' => ∃ w0 f0, v' = .tuple #[w0, .int .i64 ((boR X r n q).2)] ∧ O2 h' w0 ((boR X r n q).1) f0 ∧ Fresh h.size f0 ∧ Ext h h' := by
 obtain ⟨vdX, vmX, vvX, rfl, hdX, hmX, hvX⟩ := rX
 have hledX := RdS.le hdX
 have hlemX := RdS.le hmX
 have hlevX := RdS.le hvX
 refine callA_intro TTok (args := [_, _, _, _]) Try.func25 (by kernel_rfl) rfl 24 rfl (by simp) [.tmp 8, .tmp 9] rfl ?_
 simp only [idxs, Nat.reduceAdd]
 refine den_seq ?_
 refine den_region TTok ?_
 intro K hK
 simp -implicitDefEqProofs (disch := first | decide | assumption | omega) only [go_sem, wrap_id]
 refine op_box (cs := #[.int .i64 (X.c.p), vdX, vmX, vvX]) rfl ?_
 intro h0_0 e0_0 hb0_0 z0_0
 have := Ext.size e0_0
 have eB := e0_0
 have hfhb0_0 : Fresh h.size [h.size] := Fresh.one _
 have hlhb0_0 := one_lt (show h.size < h0_0.size by omega)
 try simp -implicitDefEqProofs (disch := first | decide | assumption | omega) only [go_sem, wrap_id]
 refine hK _ _ ?_
 clear hK K
 refine den_seq ?_
 refine den_seq ?_
 refine den_region TTok ?_
 intro K hK
 simp -implicitDefEqProofs (disch := first | decide | assumption | omega) only [go_sem, ld33, RdS.len hdX sl22, RdS.idx hdX sl22, R1.intB hdX (Ext.pres eB), RdS.cells hdX, RdS.len hmX sl23, RdS.idx hmX sl23, RdS.cellB hmX (Ext.pres eB), RdS.cells hmX, RdS.len hvX sl26, RdS.idx hvX sl26, RdS.cellB hvX (Ext.pres eB), RdS.cells hvX, BoxAt.cell hb0_0, wrap_id]
 try simp -implicitDefEqProofs (disch := first | decide | assumption | omega) only [go_sem, wrap_id]
 refine CallA.mono (iPg_ok _ X r n q _ ⟨_, _, _, rfl, (RdS.pres hdX (Ext.pres eB)), (RdS.pres hmX (Ext.pres eB)), (RdS.pres hvX (Ext.pres eB))⟩ ) ?_
 intro v_ h1_4
 rintro ⟨rfl, e1_4⟩
 replace hb0_0 := BoxAt.ext hb0_0 e1_4
 have := Ext.size e1_4
 replace eB := Ext.trans eB e1_4
 try simp -implicitDefEqProofs (disch := first | decide | assumption | omega) only [go_sem, wrap_id]
 refine hK _ _ ?_
 clear hK K
 refine den_seq ?_
 refine den_region TTok ?_
 intro K hK
 simp -implicitDefEqProofs (disch := first | decide | assumption | omega) only [go_sem, wrap_id]
 refine hK _ _ ?_
 clear hK K
 refine den_cond rfl (fun c0 => ?_) (fun c0 => ?_)
 ·try simp only [decide_eq_true_eq, decide_eq_false_iff_not, beq_iff_eq, beq_eq_false_iff_ne, bne_iff_ne, ne_eq, Bool.not_eq_true', Bool.not_eq_false', Bool.and_eq_true, Bool.or_eq_true, bne_eq_false_iff_eq] at c0
  refine den_seq ?_
  refine den_region TTok ?_
  intro K hK
  simp -implicitDefEqProofs (disch := first | decide | assumption | omega) only [go_sem, wrap_id]
  refine hK _ _ ?_
  clear hK K
  refine den_ret ?_
  simp (disch := decide) only [resP_2, puts_same, puts_ne]
  rw [boR_n c0]
  exact ⟨.slice none 0 0, [], rfl, OS.nil, Fresh.nil _, eB⟩
 ·try simp only [decide_eq_true_eq, decide_eq_false_iff_not, beq_iff_eq, beq_eq_false_iff_ne, bne_iff_ne, ne_eq, Bool.not_eq_true', Bool.not_eq_false', Bool.and_eq_true, Bool.or_eq_true, bne_eq_false_iff_eq] at c0
  obtain ⟨hF, hr, hn, hq⟩ := pgC_0 c0
  refine den_skip ?_
  refine den_seq ?_
  refine den_region TTok ?_
  intro K hK
  simp -implicitDefEqProofs (disch := first | decide | assumption | omega) only [go_sem, ld33, RdS.len hdX sl22, RdS.idx hdX sl22, R1.intB hdX (Ext.pres eB), RdS.cells hdX, RdS.len hmX sl23, RdS.idx hmX sl23, RdS.cellB hmX (Ext.pres eB), RdS.cells hmX, RdS.len hvX sl26, RdS.idx hvX sl26, RdS.cellB hvX (Ext.pres eB), RdS.cells hvX, BoxAt.cell hb0_0, wrap_id]
  try simp -implicitDefEqProofs (disch := first | decide | assumption | omega) only [go_sem, wrap_id]
  refine CallA.mono (iBot_ok _ X r n q _ ⟨_, _, _, rfl, (RdS.pres hdX (Ext.pres eB)), (RdS.pres hmX (Ext.pres eB)), (RdS.pres hvX (Ext.pres eB))⟩ hF (by omega) (by omega) (by omega)) ?_
  intro vw4_4_0 h4_4
  rintro ⟨zvw4_4_0, fw4_4_0, rfl, how4_4_0, hfw4_4_0, e4_4⟩
  replace hb0_0 := BoxAt.ext hb0_0 e4_4
  have := Ext.size e4_4
  replace eB := Ext.trans eB e4_4
  have hlhow4_4_0 := OS.lt how4_4_0
  try simp -implicitDefEqProofs (disch := first | decide | assumption | omega) only [go_sem, RdS.len (OS.rd how4_4_0) sl26, RdS.idx (OS.rd how4_4_0) sl26, RdS.cellN (OS.rd how4_4_0), RdS.cells (OS.rd how4_4_0), wrap_id]
  refine hK _ _ ?_
  clear hK K
  refine den_ret ?_
  simp (disch := decide) only [resP_2, puts_same, puts_ne]
  rw [boR_y c0]
  exact ⟨_, _, rfl, how4_4_0, hfw4_4_0.mono (by omega), eB⟩

set_option maxRecDepth 100000 in
theorem sBt_ok (vX : Value) (X : Fl) (r : Int) (n : Int) (q : Int) (h : Heap) (rX : RF h vX X)  : CallA Try.prog 24 #[vX, .int .i64 r, .int .i64 n, .int .i64 q] h fun v' h' => ∃ w0 f0, v' = .tuple #[w0, .int .i64 ((boR X r n q).2)] ∧ O2 h' w0 ((boR X r n q).1) f0 ∧ Fresh h.size f0 ∧ Ext h h' := by
 obtain ⟨vdX, vmX, vvX, rfl, hdX, hmX, hvX⟩ := rX
 have hledX := RdS.le hdX
 have hlemX := RdS.le hmX
 have hlevX := RdS.le hvX
 refine callA_intro TTok (args := [_, _, _, _]) Try.func24 (by kernel_rfl) rfl 24 rfl (by simp) [.tmp 8, .tmp 9] rfl ?_
 simp only [idxs, Nat.reduceAdd]
 refine den_seq ?_
 refine den_region TTok ?_
 intro K hK
 simp -implicitDefEqProofs (disch := first | decide | assumption | omega) only [go_sem, wrap_id]
 refine op_box (cs := #[.int .i64 (X.c.p), vdX, vmX, vvX]) rfl ?_
 intro h0_0 e0_0 hb0_0 z0_0
 have := Ext.size e0_0
 have eB := e0_0
 have hfhb0_0 : Fresh h.size [h.size] := Fresh.one _
 have hlhb0_0 := one_lt (show h.size < h0_0.size by omega)
 try simp -implicitDefEqProofs (disch := first | decide | assumption | omega) only [go_sem, wrap_id]
 refine hK _ _ ?_
 clear hK K
 refine den_seq ?_
 refine den_seq ?_
 refine den_region TTok ?_
 intro K hK
 simp -implicitDefEqProofs (disch := first | decide | assumption | omega) only [go_sem, ld33, RdS.len hdX sl22, RdS.idx hdX sl22, R1.intB hdX (Ext.pres eB), RdS.cells hdX, RdS.len hmX sl23, RdS.idx hmX sl23, RdS.cellB hmX (Ext.pres eB), RdS.cells hmX, RdS.len hvX sl26, RdS.idx hvX sl26, RdS.cellB hvX (Ext.pres eB), RdS.cells hvX, BoxAt.cell hb0_0, wrap_id]
 try simp -implicitDefEqProofs (disch := first | decide | assumption | omega) only [go_sem, wrap_id]
 refine CallA.mono (sPg_ok _ X r n q _ ⟨_, _, _, rfl, (RdS.pres hdX (Ext.pres eB)), (RdS.pres hmX (Ext.pres eB)), (RdS.pres hvX (Ext.pres eB))⟩ ) ?_
 intro v_ h1_4
 rintro ⟨rfl, e1_4⟩
 replace hb0_0 := BoxAt.ext hb0_0 e1_4
 have := Ext.size e1_4
 replace eB := Ext.trans eB e1_4
 try simp -implicitDefEqProofs (disch := first | decide | assumption | omega) only [go_sem, wrap_id]
 refine hK _ _ ?_
 clear hK K
 refine den_seq ?_
 refine den_region TTok ?_
 intro K hK
 simp -implicitDefEqProofs (disch := first | decide | assumption | omega) only [go_sem, wrap_id]
 refine hK _ _ ?_
 clear hK K
 refine den_cond rfl (fun c0 => ?_) (fun c0 => ?_)
 ·try simp only [decide_eq_true_eq, decide_eq_false_iff_not, beq_iff_eq, beq_eq_false_iff_ne, bne_iff_ne, ne_eq, Bool.not_eq_true', Bool.not_eq_false', Bool.and_eq_true, Bool.or_eq_true, bne_eq_false_iff_eq] at c0
  refine den_seq ?_
  refine den_region TTok ?_
  intro K hK
  simp -implicitDefEqProofs (disch := first | decide | assumption | omega) only [go_sem, wrap_id]
  refine hK _ _ ?_
  clear hK K
  refine den_ret ?_
  simp (disch := decide) only [resP_2, puts_same, puts_ne]
  rw [boR_n c0]
  exact ⟨.slice none 0 0, [], rfl, OS.nil, Fresh.nil _, eB⟩
 ·try simp only [decide_eq_true_eq, decide_eq_false_iff_not, beq_iff_eq, beq_eq_false_iff_ne, bne_iff_ne, ne_eq, Bool.not_eq_true', Bool.not_eq_false', Bool.and_eq_true, Bool.or_eq_true, bne_eq_false_iff_eq] at c0
  obtain ⟨hF, hr, hn, hq⟩ := pgC_0 c0
  refine den_skip ?_
  refine den_seq ?_
  refine den_region TTok ?_
  intro K hK
  simp -implicitDefEqProofs (disch := first | decide | assumption | omega) only [go_sem, ld33, RdS.len hdX sl22, RdS.idx hdX sl22, R1.intB hdX (Ext.pres eB), RdS.cells hdX, RdS.len hmX sl23, RdS.idx hmX sl23, RdS.cellB hmX (Ext.pres eB), RdS.cells hmX, RdS.len hvX sl26, RdS.idx hvX sl26, RdS.cellB hvX (Ext.pres eB), RdS.cells hvX, BoxAt.cell hb0_0, wrap_id]
  try simp -implicitDefEqProofs (disch := first | decide | assumption | omega) only [go_sem, wrap_id]
  refine CallA.mono (sBot_ok _ X r n q _ ⟨_, _, _, rfl, (RdS.pres hdX (Ext.pres eB)), (RdS.pres hmX (Ext.pres eB)), (RdS.pres hvX (Ext.pres eB))⟩ hF (by omega) (by omega) (by omega)) ?_
  intro vw4_4_0 h4_4
  rintro ⟨zvw4_4_0, fw4_4_0, rfl, how4_4_0, hfw4_4_0, e4_4⟩
  replace hb0_0 := BoxAt.ext hb0_0 e4_4
  have := Ext.size e4_4
  replace eB := Ext.trans eB e4_4
  have hlhow4_4_0 := OS.lt how4_4_0
  try simp -implicitDefEqProofs (disch := first | decide | assumption | omega) only [go_sem, RdS.len (OS.rd how4_4_0) sl26, RdS.idx (OS.rd how4_4_0) sl26, RdS.cellN (OS.rd how4_4_0), RdS.cells (OS.rd how4_4_0), wrap_id]
  refine hK _ _ ?_
  clear hK K
  refine den_ret ?_
  simp (disch := decide) only [resP_2, puts_same, puts_ne]
  rw [boR_y c0]
  exact ⟨_, _, rfl, how4_4_0, hfw4_4_0.mono (by omega), eB⟩
end Go.Proofs.Ytjjjgllbocgkbaa

namespace Go.Proofs.Ytjjjgllbocgkbaa
open Go
set_option maxRecDepth 100000 in
set_option maxHeartbeats 4000000 in
theorem exactBottomOf_law (vX : Value) (X : Fl) (r : Int) (n : Int) (q : Int) (h : Heap) (rX : RF h vX X)  : CallA Try.prog 5 #[vX, .int .i64 r, .int .i64 n, .int .i64 q] h fun v' h' => v' = .bool (true) ∧ Ext h h' := by
 obtain ⟨vdX, vmX, vvX, rfl, hdX, hmX, hvX⟩ := rX
 have hledX := RdS.le hdX
 have hlemX := RdS.le hmX
 have hlevX := RdS.le hvX
 refine callA_intro TTok (args := [_, _, _, _]) Try.func5 (by kernel_rfl) rfl 111 rfl (by simp) [.tmp 8] rfl ?_
 simp only [idxs, Nat.reduceAdd]
 refine den_seq ?_
 refine den_region TTok ?_
 intro K hK
 simp -implicitDefEqProofs (disch := first | decide | assumption | omega) only [go_sem, wrap_id]
 refine op_box (cs := #[.int .i64 (X.c.p), vdX, vmX, vvX]) rfl ?_
 intro h0_0 e0_0 hb0_0 z0_0
 have := Ext.size e0_0
 have eB := e0_0
 have hfhb0_0 : Fresh h.size [h.size] := Fresh.one _
 have hlhb0_0 := one_lt (show h.size < h0_0.size by omega)
 try simp -implicitDefEqProofs (disch := first | decide | assumption | omega) only [go_sem, wrap_id]
 refine hK _ _ ?_
 clear hK K
 refine den_seq ?_
 refine den_region TTok ?_
 intro K hK
 simp -implicitDefEqProofs (disch := first | decide | assumption | omega) only [go_sem, wrap_id]
 refine hK _ _ ?_
 clear hK K
 refine den_seq ?_
 refine den_region TTok ?_
 intro K hK
 simp -implicitDefEqProofs (disch := first | decide | assumption | omega) only [go_sem, ld28, BoxAt.cell hb0_0, wrap_id]
 try simp -implicitDefEqProofs (disch := first | decide | assumption | omega) only [go_sem, wrap_id]
 refine CallA.mono (szF_ok _ X _ _ ⟨_, _, _, rfl, (RdS.pres hdX (Ext.pres eB)), (RdS.pres hmX (Ext.pres eB)), (RdS.pres hvX (Ext.pres eB))⟩ (by omega) (by omega)) ?_
 intro v_ h2_2
 rintro ⟨rfl, e2_2⟩
 replace hb0_0 := BoxAt.ext hb0_0 e2_2
 have := Ext.size e2_2
 replace eB := Ext.trans eB e2_2
 have := szF_le X (1048576 : Int) (by omega)
 try simp -implicitDefEqProofs (disch := first | decide | assumption | omega) only [go_sem, wrap_id]
 refine hK _ _ ?_
 clear hK K
 refine den_seq ?_
 refine den_seq ?_
 refine den_region TTok ?_
 intro K hK
 simp -implicitDefEqProofs (disch := first | decide | assumption | omega) only [go_sem, wrap_id]
 refine hK _ _ ?_
 clear hK K
 refine den_cond rfl (fun c0 => ?_) (fun c0 => ?_)
 ·try simp only [decide_eq_true_eq, decide_eq_false_iff_not, beq_iff_eq, beq_eq_false_iff_ne, bne_iff_ne, ne_eq, Bool.not_eq_true', Bool.not_eq_false', Bool.and_eq_true, Bool.or_eq_true, bne_eq_false_iff_eq] at c0
  refine den_seq ?_
  refine den_region TTok ?_
  intro K hK
  simp -implicitDefEqProofs (disch := first | decide | assumption | omega) only [go_sem, wrap_id]
  refine hK _ _ ?_
  clear hK K
  refine den_ret ?_
  simp (disch := decide) only [resP_1, puts_same, puts_ne]
  exact ⟨by first | rfl | trivial, eB⟩
 ·try simp only [decide_eq_true_eq, decide_eq_false_iff_not, beq_iff_eq, beq_eq_false_iff_ne, bne_iff_ne, ne_eq, Bool.not_eq_true', Bool.not_eq_false', Bool.and_eq_true, Bool.or_eq_true, bne_eq_false_iff_eq] at c0
  have hMX := szF_ok' (by omega) (by omega) c0
  have hcnX := szF_cntA (by omega) (by omega) c0
  have hci := cnt_boR X r n q
  refine den_skip ?_
  refine den_seq ?_
  refine den_region TTok ?_
  intro K hK
  simp -implicitDefEqProofs (disch := first | decide | assumption | omega) only [go_sem, ld28, BoxAt.cell hb0_0, wrap_id]
  try simp -implicitDefEqProofs (disch := first | decide | assumption | omega) only [go_sem, wrap_id]
  refine CallA.mono (toF_ok _ X _ ⟨_, _, _, rfl, (RdS.pres hdX (Ext.pres eB)), (RdS.pres hmX (Ext.pres eB)), (RdS.pres hvX (Ext.pres eB))⟩ hMX) ?_
  intro v_ h5_1
  rintro ⟨vd5_1, vm5_1, vv5_1, fd5_1, fm5_1, fv5_1, rfl, hod5_1, hom5_1, hov5_1, hf5_1, e5_1⟩
  replace hb0_0 := BoxAt.ext hb0_0 e5_1
  have := Ext.size e5_1
  replace eB := Ext.trans eB e5_1
  have hfd5_1 := hf5_1.left
  have hf5_1r0 := hf5_1.right
  have hfm5_1 := hf5_1r0.left
  have hfv5_1 := hf5_1r0.right
  have hlhod5_1 := OS.lt hod5_1
  have hlhom5_1 := OS.lt hom5_1
  have hlhov5_1 := OS.lt hov5_1
  have ap1 : Apart fd5_1 fm5_1 := Apart.lft (apart_nodup hf5_1)
  have ap2 : Apart fd5_1 fv5_1 := Apart.rgt (apart_nodup hf5_1)
  have ap3 : Apart fm5_1 fv5_1 := apart_nodup hf5_1r0
  try simp -implicitDefEqProofs (disch := first | decide | assumption | omega) only [go_sem, wrap_id]
  try simp -implicitDefEqProofs (disch := first | decide | assumption | omega) only [go_sem, wrap_id]
  refine CallA.mono (sBt_ok _ X r n q _ ⟨_, _, _, rfl, (OS.rd hod5_1), (OS.rd hom5_1), (OS.rd hov5_1)⟩ ) ?_
  intro v_ h5_5
  rintro ⟨vw5_5_0, fw5_5_0, rfl, how5_5_0, hfw5_5_0, e5_5⟩
  replace hod5_1 := OS.ext hod5_1 e5_5
  replace hom5_1 := OS.ext hom5_1 e5_5
  replace hov5_1 := OS.ext hov5_1 e5_5
  replace hb0_0 := BoxAt.ext hb0_0 e5_5
  have := Ext.size e5_5
  replace eB := Ext.trans eB e5_5
  have hlhow5_5_0 := OS.lt how5_5_0
  try simp -implicitDefEqProofs (disch := first | decide | assumption | omega) only [go_sem, wrap_id]
  refine hK _ _ ?_
  clear hK K
  refine den_seq ?_
  refine den_region TTok ?_
  intro K hK
  simp -implicitDefEqProofs (disch := first | decide | assumption | omega) only [go_sem, ld28, BoxAt.cell hb0_0, wrap_id]
  try simp -implicitDefEqProofs (disch := first | decide | assumption | omega) only [go_sem, wrap_id]
  refine CallA.mono (toF_ok _ X _ ⟨_, _, _, rfl, (RdS.pres hdX (Ext.pres eB)), (RdS.pres hmX (Ext.pres eB)), (RdS.pres hvX (Ext.pres eB))⟩ hMX) ?_
  intro v_ h6_1
  rintro ⟨vd6_1, vm6_1, vv6_1, fd6_1, fm6_1, fv6_1, rfl, hod6_1, hom6_1, hov6_1, hf6_1, e6_1⟩
  replace how5_5_0 := OS.ext how5_5_0 e6_1
  replace hb0_0 := BoxAt.ext hb0_0 e6_1
  have := Ext.size e6_1
  replace eB := Ext.trans eB e6_1
  have hfd6_1 := hf6_1.left
  have hf6_1r0 := hf6_1.right
  have hfm6_1 := hf6_1r0.left
  have hfv6_1 := hf6_1r0.right
  have hlhod6_1 := OS.lt hod6_1
  have hlhom6_1 := OS.lt hom6_1
  have hlhov6_1 := OS.lt hov6_1
  have ap4 : Apart fd6_1 fm6_1 := Apart.lft (apart_nodup hf6_1)
  have ap5 : Apart fd6_1 fv6_1 := Apart.rgt (apart_nodup hf6_1)
  have ap6 : Apart fm6_1 fv6_1 := apart_nodup hf6_1r0
  try simp -implicitDefEqProofs (disch := first | decide | assumption | omega) only [go_sem, wrap_id]
  refine op_alloc (cs := #[.int .i64 0, .slice none 0 0, .slice none 0 0, .slice none 0 0]) (by kernel_rfl) ?_
  intro h6_2 e6_2 hb6_2 z6_2
  replace how5_5_0 := OS.ext how5_5_0 e6_2
  replace hod6_1 := OS.ext hod6_1 e6_2
  replace hom6_1 := OS.ext hom6_1 e6_2
  replace hov6_1 := OS.ext hov6_1 e6_2
  replace hb0_0 := BoxAt.ext hb0_0 e6_2
  have := Ext.size e6_2
  replace eB := Ext.trans eB e6_2
  have hfhb6_2 : Fresh h6_1.size [h6_1.size] := Fresh.one _
  have hlhb6_2 := one_lt (show h6_1.size < h6_2.size by omega)
  try simp -implicitDefEqProofs (disch := first | decide | assumption | omega) only [go_sem, wrap_id]
  refine op_storeB (cs' := #[.int .i64 (X.c.p), vd6_1, vm6_1, vv6_1]) st33 hb6_2 rfl rfl rfl (by simp) (allOne_mem (l := [.int .i64 (X.c.p), vd6_1, vm6_1, vv6_1]) ⟨rfl, (OS.one hod6_1).1, (OS.one hom6_1).1, (OS.one hov6_1).1, trivial⟩) rfl ?_
  intro h6_3 hb6_2 c6_3
  replace how5_5_0 := OS.chg how5_5_0 c6_3 (apart_lt hlhow5_5_0 hfhb6_2 (by omega))
  replace hod6_1 := OS.chg hod6_1 c6_3 (apart_lt hlhod6_1 hfhb6_2 (by omega))
  replace hom6_1 := OS.chg hom6_1 c6_3 (apart_lt hlhom6_1 hfhb6_2 (by omega))
  replace hov6_1 := OS.chg hov6_1 c6_3 (apart_lt hlhov6_1 hfhb6_2 (by omega))
  replace hb0_0 := BoxAt.chgA hb0_0 c6_3 (apart_lt hlhb0_0 hfhb6_2 (by omega))
  have := c6_3.size
  replace eB := Ext.then eB c6_3 (ge_of hfhb6_2 (by omega))
  try simp -implicitDefEqProofs (disch := first | decide | assumption | omega) only [go_sem, wrap_id]
  refine hK _ _ ?_
  clear hK K
  refine den_seq ?_
  refine den_region TTok ?_
  intro K hK
  simp -implicitDefEqProofs (disch := first | decide | assumption | omega) only [go_sem, ld33, BoxAt.cell hb6_2, wrap_id]
  try simp -implicitDefEqProofs (disch := first | decide | assumption | omega) only [go_sem, wrap_id]
  refine CallA.mono (iBt_ok _ X r n q _ ⟨_, _, _, rfl, (OS.rd hod6_1), (OS.rd hom6_1), (OS.rd hov6_1)⟩ ) ?_
  intro v_ h7_4
  rintro ⟨vw7_4_0, fw7_4_0, rfl, how7_4_0, hfw7_4_0, e7_4⟩
  replace how5_5_0 := OS.ext how5_5_0 e7_4
  replace hod6_1 := OS.ext hod6_1 e7_4
  replace hom6_1 := OS.ext hom6_1 e7_4
  replace hov6_1 := OS.ext hov6_1 e7_4
  replace hb0_0 := BoxAt.ext hb0_0 e7_4
  replace hb6_2 := BoxAt.ext hb6_2 e7_4
  have := Ext.size e7_4
  replace eB := Ext.trans eB e7_4
  have hlhow7_4_0 := OS.lt how7_4_0
  try simp -implicitDefEqProofs (disch := first | decide | assumption | omega) only [go_sem, wrap_id]
  refine hK _ _ ?_
  clear hK K
  refine den_seq ?_
  refine den_seq ?_
  refine den_mergeH [(52, .bool (((!(true)) || (((boR X r n q).2) != ((boR X r n q).2)))))] [1, 2, 3, 4, 10, 11, 12, 13, 14] ?_ ?_
   -- a way
  ·refine den_region TTok ?_
   intro K hK
   simp -implicitDefEqProofs (disch := first | decide | assumption | (simp (disch := decide) only [slotOf_zero, slotOf_succ, Option.map_some, puts_same, puts_ne, gv_bool, gv_undef, tt, tf, ft, ff, eq_self, if_true, if_false, Bool.false_eq_true, Bool.not_true, Bool.not_false]; done) | omega) only [go_sem, wrap_id]
   try simp -implicitDefEqProofs (disch := first | decide | assumption | omega) only [go_sem, wrap_id]
   refine CallA.pure (eqSS_same _ _ _ _ (OS.rd how7_4_0) (OS.rd how5_5_0)) ?_
   try simp -implicitDefEqProofs (disch := first | decide | assumption | (simp (disch := decide) only [slotOf_zero, slotOf_succ, Option.map_some, puts_same, puts_ne, gv_bool, gv_undef, tt, tf, ft, ff, eq_self, if_true, if_false, Bool.false_eq_true, Bool.not_true, Bool.not_false]; done) | omega) only [go_sem, wrap_id]
   try simp -implicitDefEqProofs (disch := first | decide | assumption | (simp (disch := decide) only [slotOf_zero, slotOf_succ, Option.map_some, puts_same, puts_ne, gv_bool, gv_undef, tt, tf, ft, ff, eq_self, if_true, if_false, Bool.false_eq_true, Bool.not_true, Bool.not_false]; done) | omega) only [go_sem, wrap_id]
   refine hK _ _ ?_
   clear hK K
   refine den_stop ?_
   refine ⟨?_, rfl⟩
   first | (simp (disch := decide) only [go_sem, eq_self, Bool.true_and, Bool.and_true, Bool.false_and, Bool.and_false, Bool.true_or, Bool.or_true, Bool.false_or, Bool.or_false, if_true, if_false, Bool.false_eq_true]; done) | simp [HasL, sel, puts_at]
  intro en7
  simp (disch := decide) only [go_sem]
  refine den_cond rfl (fun c1 => ?_) (fun c1 => ?_)
  ·try simp only [decide_eq_true_eq, decide_eq_false_iff_not, beq_iff_eq, beq_eq_false_iff_ne, bne_iff_ne, ne_eq, Bool.not_eq_true', Bool.not_eq_false', Bool.and_eq_true, Bool.or_eq_true, bne_eq_false_iff_eq] at c1
   refine den_seq ?_
   refine den_region TTok ?_
   intro K hK
   simp -implicitDefEqProofs (disch := first | decide | assumption | omega) only [go_sem, wrap_id]
   refine hK _ _ ?_
   clear hK K
   refine den_ret ?_
   simp (disch := decide) only [resP_1, puts_same, puts_ne]
   exact absurd c1 (by first | (simp; done) | (simp; omega) | omega | (simp [eqC_self]; done))
  ·try simp only [decide_eq_true_eq, decide_eq_false_iff_not, beq_iff_eq, beq_eq_false_iff_ne, bne_iff_ne, ne_eq, Bool.not_eq_true', Bool.not_eq_false', Bool.and_eq_true, Bool.or_eq_true, bne_eq_false_iff_eq] at c1
   refine den_skip ?_
   refine den_seq ?_
   refine den_seq ?_
   refine den_draw TTok mixed [] [(0, true), (1, true), (2, false), (3, false), (4, true)] (by kernel_rfl) ?_
   intro K hK
   simp -implicitDefEqProofs (disch := first | decide | assumption | omega) only [go_sem, ld33, ld28, BoxAt.cell hb0_0, BoxAt.cell hb6_2, wrap_id]
   try simp -implicitDefEqProofs (disch := first | decide | assumption | omega) only [go_sem, wrap_id]
   refine CallA.mono (toF_ok _ X _ ⟨_, _, _, rfl, (RdS.pres hdX (Ext.pres eB)), (RdS.pres hmX (Ext.pres eB)), (RdS.pres hvX (Ext.pres eB))⟩ hMX) ?_
   intro v_ h10_2
   rintro ⟨vd10_2, vm10_2, vv10_2, fd10_2, fm10_2, fv10_2, rfl, hod10_2, hom10_2, hov10_2, hf10_2, e10_2⟩
   replace how5_5_0 := OS.ext how5_5_0 e10_2
   replace hod6_1 := OS.ext hod6_1 e10_2
   replace hom6_1 := OS.ext hom6_1 e10_2
   replace hov6_1 := OS.ext hov6_1 e10_2
   replace how7_4_0 := OS.ext how7_4_0 e10_2
   replace hb0_0 := BoxAt.ext hb0_0 e10_2
   replace hb6_2 := BoxAt.ext hb6_2 e10_2
   have := Ext.size e10_2
   replace eB := Ext.trans eB e10_2
   have hfd10_2 := hf10_2.left
   have hf10_2r0 := hf10_2.right
   have hfm10_2 := hf10_2r0.left
   have hfv10_2 := hf10_2r0.right
   have hlhod10_2 := OS.lt hod10_2
   have hlhom10_2 := OS.lt hom10_2
   have hlhov10_2 := OS.lt hov10_2
   have ap10 : Apart fd10_2 fm10_2 := Apart.lft (apart_nodup hf10_2)
   have ap11 : Apart fd10_2 fv10_2 := Apart.rgt (apart_nodup hf10_2)
   have ap12 : Apart fm10_2 fv10_2 := apart_nodup hf10_2r0
   try simp (disch := decide) only [outv_some, outv_none, put_puts]
   refine plK_pres (Ext.pres e10_2) ?_
   try simp -implicitDefEqProofs (disch := first | decide | assumption | omega) only [go_sem, wrap_id]
   try simp -implicitDefEqProofs (disch := first | decide | assumption | omega) only [go_sem, wrap_id]
   refine CallA.mono (eqF_same _ _ X _ ⟨_, _, _, rfl, (OS.rd hod6_1), (OS.rd hom6_1), (OS.rd hov6_1)⟩ ⟨_, _, _, rfl, (OS.rd hod10_2), (OS.rd hom10_2), (OS.rd hov10_2)⟩) ?_
   intro v_ h10_3
   rintro ⟨rfl, e10_3⟩
   replace how5_5_0 := OS.ext how5_5_0 e10_3
   replace hod6_1 := OS.ext hod6_1 e10_3
   replace hom6_1 := OS.ext hom6_1 e10_3
   replace hov6_1 := OS.ext hov6_1 e10_3
   replace how7_4_0 := OS.ext how7_4_0 e10_3
   replace hod10_2 := OS.ext hod10_2 e10_3
   replace hom10_2 := OS.ext hom10_2 e10_3
   replace hov10_2 := OS.ext hov10_2 e10_3
   replace hb0_0 := BoxAt.ext hb0_0 e10_3
   replace hb6_2 := BoxAt.ext hb6_2 e10_3
   have := Ext.size e10_3
   replace eB := Ext.trans eB e10_3
   try simp (disch := decide) only [outv_some, outv_none, put_puts]
   refine plK_pres (Ext.pres e10_3) ?_
   try simp -implicitDefEqProofs (disch := first | decide | assumption | omega) only [go_sem, wrap_id]
   refine hK _ _ ?_
   clear hK K
   refine den_cond rfl (fun c2 => ?_) (fun c2 => ?_)
   ·try simp only [decide_eq_true_eq, decide_eq_false_iff_not, beq_iff_eq, beq_eq_false_iff_ne, bne_iff_ne, ne_eq, Bool.not_eq_true', Bool.not_eq_false', Bool.and_eq_true, Bool.or_eq_true, bne_eq_false_iff_eq] at c2
    refine den_seq ?_
    refine den_region TTok ?_
    intro K hK
    simp -implicitDefEqProofs (disch := first | decide | assumption | omega) only [go_sem, wrap_id]
    refine hK _ _ ?_
    clear hK K
    refine den_ret ?_
    simp (disch := decide) only [resP_1, puts_same, puts_ne]
    exact absurd c2 (by first | (simp; done) | (simp; omega) | omega | (simp [eqC_self]; done))
   ·try simp only [decide_eq_true_eq, decide_eq_false_iff_not, beq_iff_eq, beq_eq_false_iff_ne, bne_iff_ne, ne_eq, Bool.not_eq_true', Bool.not_eq_false', Bool.and_eq_true, Bool.or_eq_true, bne_eq_false_iff_eq] at c2
    refine den_skip ?_
    refine den_seq ?_
    refine den_region TTok ?_
    intro K hK
    simp -implicitDefEqProofs (disch := first | decide | assumption | omega) only [go_sem, wrap_id]
    refine hK _ _ ?_
    clear hK K
    refine den_seq ?_
    refine den_region TTok ?_
    intro K hK
    simp -implicitDefEqProofs (disch := first | decide | assumption | omega) only [go_sem, ld33, BoxAt.cell hb6_2, wrap_id]
    try simp -implicitDefEqProofs (disch := first | decide | assumption | omega) only [go_sem, wrap_id]
    refine CallA.mono (markF_ok _ _ _ X (1 : Int) _ _ _ _ hod6_1 hom6_1 hov6_1 (Fresh.two (lo := 0) hfd6_1 (Fresh.two (lo := 0) hfm6_1 hfv6_1 ap6 (Nat.zero_le _) (Nat.zero_le _)) (Apart.app ap4 ap5) (Nat.zero_le _) (Nat.zero_le _)).nodup (by omega)) ?_
    intro v_ h13_2
    rintro ⟨rfl, hogd13_2, hogm13_2, hogv13_2, cg13_2⟩
    replace how5_5_0 := OS.chg how5_5_0 cg13_2 (Apart.app (apart_lt hlhow5_5_0 hfd6_1 (by omega)) (Apart.app (apart_lt hlhow5_5_0 hfm6_1 (by omega)) (apart_lt hlhow5_5_0 hfv6_1 (by omega))))
    replace how7_4_0 := OS.chg how7_4_0 cg13_2 (Apart.app (apart_gt hfw7_4_0 hlhod6_1 (by omega)) (Apart.app (apart_gt hfw7_4_0 hlhom6_1 (by omega)) (apart_gt hfw7_4_0 hlhov6_1 (by omega))))
    replace hb0_0 := BoxAt.chgA hb0_0 cg13_2 (Apart.app (apart_lt hlhb0_0 hfd6_1 (by omega)) (Apart.app (apart_lt hlhb0_0 hfm6_1 (by omega)) (apart_lt hlhb0_0 hfv6_1 (by omega))))
    replace hb6_2 := BoxAt.chgA hb6_2 cg13_2 (Apart.app (apart_gt hfhb6_2 hlhod6_1 (by omega)) (Apart.app (apart_gt hfhb6_2 hlhom6_1 (by omega)) (apart_gt hfhb6_2 hlhov6_1 (by omega))))
    have := cg13_2.size
    replace eB := Ext.then eB cg13_2 (ge_app (ge_of hfd6_1 (by omega)) (ge_app (ge_of hfm6_1 (by omega)) (ge_of hfv6_1 (by omega))))
    have ap13 : Apart fm6_1 fd6_1 := (Apart.symm ap4)
    have ap14 : Apart fv6_1 fd6_1 := (Apart.symm ap5)
    have hlhogd13_2 := hlhod6_1
    have ap15 : Apart fv6_1 fm6_1 := (Apart.symm ap6)
    have ap16 : Apart fd6_1 fm6_1 := (Apart.symm ap13)
    have hlhogm13_2 := hlhom6_1
    have ap17 : Apart fd6_1 fv6_1 := (Apart.symm ap14)
    have ap18 : Apart fm6_1 fv6_1 := (Apart.symm ap15)
    have hlhogv13_2 := hlhov6_1
    try simp -implicitDefEqProofs (disch := first | decide | assumption | omega) only [go_sem, wrap_id]
    refine hK _ _ ?_
    clear hK K
    refine den_seq ?_
    refine den_seq ?_
    refine den_mergeH [(73, .bool ((((decide (((1 : Int) + cnt1 X.c.dims + cntL cnt2 X.c.maps + cntL cnt1 X.lv) < (0 : Int))) || (!(true))) || (((boR X r n q).2) != ((boR X r n q).2)))))] [1, 2, 3, 4, 10, 11, 13] ?_ ?_
     -- a way
    ·refine den_region TTok ?_
     intro K hK
     simp -implicitDefEqProofs (disch := first | decide | assumption | (simp (disch := decide) only [slotOf_zero, slotOf_succ, Option.map_some, puts_same, puts_ne, gv_bool, gv_undef, tt, tf, ft, ff, eq_self, if_true, if_false, Bool.false_eq_true, Bool.not_true, Bool.not_false]; done) | omega) only [go_sem, wrap_id]
     refine opsP_F (by simp (disch := decide) only [slotOf_zero, slotOf_succ, Option.map_some, puts_same, puts_ne, gv_bool, gv_undef, tt, tf, ft, ff, eq_self, if_true, if_false, Bool.false_eq_true, Bool.not_true, Bool.not_false]; rfl) (fun g19 => ?_) (fun g19 => ?_)
     ·try simp -implicitDefEqProofs (disch := first | decide | assumption | (simp (disch := decide) only [slotOf_zero, slotOf_succ, Option.map_some, puts_same, puts_ne, gv_bool, gv_undef, tt, tf, ft, ff, eq_self, if_true, if_false, Bool.false_eq_true, Bool.not_true, Bool.not_false, g19]; done) | omega) only [go_sem, wrap_id, g19, eq_self, if_true, if_false, Bool.false_eq_true]
      try simp -implicitDefEqProofs (disch := first | decide | assumption | omega) only [go_sem, wrap_id]
      refine CallA.pure (eqSS_same _ _ _ _ (OS.rd how7_4_0) (OS.rd how5_5_0)) ?_
      try simp -implicitDefEqProofs (disch := first | decide | assumption | (simp (disch := decide) only [slotOf_zero, slotOf_succ, Option.map_some, puts_same, puts_ne, gv_bool, gv_undef, tt, tf, ft, ff, eq_self, if_true, if_false, Bool.false_eq_true, Bool.not_true, Bool.not_false, g19]; done) | omega) only [go_sem, wrap_id, g19, eq_self, if_true, if_false, Bool.false_eq_true]
      try simp -implicitDefEqProofs (disch := first | decide | assumption | (simp (disch := decide) only [slotOf_zero, slotOf_succ, Option.map_some, puts_same, puts_ne, gv_bool, gv_undef, tt, tf, ft, ff, eq_self, if_true, if_false, Bool.false_eq_true, Bool.not_true, Bool.not_false, g19]; done) | omega) only [go_sem, wrap_id, g19, eq_self, if_true, if_false, Bool.false_eq_true]
      refine hK _ _ ?_
      clear hK K
      refine den_stop ?_
      refine ⟨?_, rfl⟩
      first | (simp (disch := decide) only [go_sem, g19, eq_self, Bool.true_and, Bool.and_true, Bool.false_and, Bool.and_false, Bool.true_or, Bool.or_true, Bool.false_or, Bool.or_false, if_true, if_false, Bool.false_eq_true]; done) | simp [HasL, sel, puts_at, g19]
     ·try simp -implicitDefEqProofs (disch := first | decide | assumption | (simp (disch := decide) only [slotOf_zero, slotOf_succ, Option.map_some, puts_same, puts_ne, gv_bool, gv_undef, tt, tf, ft, ff, eq_self, if_true, if_false, Bool.false_eq_true, Bool.not_true, Bool.not_false, g19]; done) | omega) only [go_sem, wrap_id, g19, eq_self, if_true, if_false, Bool.false_eq_true]
      try simp -implicitDefEqProofs (disch := first | decide | assumption | (simp (disch := decide) only [slotOf_zero, slotOf_succ, Option.map_some, puts_same, puts_ne, gv_bool, gv_undef, tt, tf, ft, ff, eq_self, if_true, if_false, Bool.false_eq_true, Bool.not_true, Bool.not_false, g19]; done) | omega) only [go_sem, wrap_id, g19, eq_self, if_true, if_false, Bool.false_eq_true]
      refine hK _ _ ?_
      clear hK K
      refine den_stop ?_
      refine ⟨?_, rfl⟩
      first | (simp (disch := decide) only [go_sem, g19, eq_self, Bool.true_and, Bool.and_true, Bool.false_and, Bool.and_false, Bool.true_or, Bool.or_true, Bool.false_or, Bool.or_false, if_true, if_false, Bool.false_eq_true]; done) | simp [HasL, sel, puts_at, g19]
    intro en20
    simp (disch := decide) only [go_sem]
    refine den_cond rfl (fun c3 => ?_) (fun c3 => ?_)
    ·try simp only [decide_eq_true_eq, decide_eq_false_iff_not, beq_iff_eq, beq_eq_false_iff_ne, bne_iff_ne, ne_eq, Bool.not_eq_true', Bool.not_eq_false', Bool.and_eq_true, Bool.or_eq_true, bne_eq_false_iff_eq] at c3
     refine den_seq ?_
     refine den_region TTok ?_
     intro K hK
     simp -implicitDefEqProofs (disch := first | decide | assumption | omega) only [go_sem, wrap_id]
     refine hK _ _ ?_
     clear hK K
     refine den_ret ?_
     simp (disch := decide) only [resP_1, puts_same, puts_ne]
     exact absurd c3 (by first | (simp; done) | (simp; omega) | omega | (simp [eqC_self]; done))
    ·try simp only [decide_eq_true_eq, decide_eq_false_iff_not, beq_iff_eq, beq_eq_false_iff_ne, bne_iff_ne, ne_eq, Bool.not_eq_true', Bool.not_eq_false', Bool.and_eq_true, Bool.or_eq_true, bne_eq_false_iff_eq] at c3
     refine den_skip ?_
     refine den_seq ?_
     refine den_region TTok ?_
     intro K hK
     simp -implicitDefEqProofs (disch := first | decide | assumption | omega) only [go_sem, wrap_id]
     refine hK _ _ ?_
     clear hK K
     refine den_seq ?_
     refine den_region TTok ?_
     intro K hK
     simp -implicitDefEqProofs (disch := first | decide | assumption | omega) only [go_sem, wrap_id]
     try simp -implicitDefEqProofs (disch := first | decide | assumption | omega) only [go_sem, wrap_id]
     refine CallA.mono (markSS_ok _ ((boR X r n q).1) (1 : Int) _ _ how7_4_0 hfw7_4_0.nodup (by omega)) ?_
     intro v_ h17_2
     rintro ⟨rfl, hog17_2, cg17_2⟩
     replace how5_5_0 := OS.chg how5_5_0 cg17_2 (apart_lt hlhow5_5_0 hfw7_4_0 (by omega))
     replace hb0_0 := BoxAt.chgA hb0_0 cg17_2 (apart_lt hlhb0_0 hfw7_4_0 (by omega))
     have := cg17_2.size
     replace eB := Ext.then eB cg17_2 (ge_of hfw7_4_0 (by omega))
     have hlhog17_2 := hlhow7_4_0
     try simp -implicitDefEqProofs (disch := first | decide | assumption | omega) only [go_sem, wrap_id]
     refine hK _ _ ?_
     clear hK K
     refine den_seq ?_
     refine den_region TTok ?_
     intro K hK
     simp -implicitDefEqProofs (disch := first | decide | assumption | omega) only [go_sem, wrap_id]
     refine hK _ _ ?_
     clear hK K
     refine den_seq ?_
     refine den_region TTok ?_
     intro K hK
     simp -implicitDefEqProofs (disch := first | decide | assumption | omega) only [go_sem, wrap_id]
     try simp -implicitDefEqProofs (disch := first | decide | assumption | omega) only [go_sem, wrap_id]
     refine CallA.pure (heldSS_ok _ ((boR X r n q).1) (1 : Int) _ (OS.rd hog17_2) (by omega)) ?_
     try simp -implicitDefEqProofs (disch := first | decide | assumption | omega) only [go_sem, wrap_id]
     refine hK _ _ ?_
     clear hK K
     refine den_seq ?_
     refine den_seq ?_
     refine den_region TTok ?_
     intro K hK
     simp -implicitDefEqProofs (disch := first | decide | assumption | omega) only [go_sem, wrap_id]
     refine hK _ _ ?_
     clear hK K
     refine den_cond rfl (fun c4 => ?_) (fun c4 => ?_)
     ·try simp only [decide_eq_true_eq, decide_eq_false_iff_not, beq_iff_eq, beq_eq_false_iff_ne, bne_iff_ne, ne_eq, Bool.not_eq_true', Bool.not_eq_false', Bool.and_eq_true, Bool.or_eq_true, bne_eq_false_iff_eq] at c4
      refine den_seq ?_
      refine den_region TTok ?_
      intro K hK
      simp -implicitDefEqProofs (disch := first | decide | assumption | omega) only [go_sem, wrap_id]
      refine hK _ _ ?_
      clear hK K
      refine den_ret ?_
      simp (disch := decide) only [resP_1, puts_same, puts_ne]
      exact absurd c4 (by first | (simp; done) | (simp; omega) | omega | (simp [eqC_self]; done))
     ·try simp only [decide_eq_true_eq, decide_eq_false_iff_not, beq_iff_eq, beq_eq_false_iff_ne, bne_iff_ne, ne_eq, Bool.not_eq_true', Bool.not_eq_false', Bool.and_eq_true, Bool.or_eq_true, bne_eq_false_iff_eq] at c4
      refine den_skip ?_
      refine den_seq ?_
      refine den_seq ?_
      refine den_region TTok ?_
      intro K hK
      simp -implicitDefEqProofs (disch := first | decide | assumption | omega) only [go_sem, wrap_id]
      refine hK _ _ ?_
      clear hK K
      refine den_cond rfl (fun c5 => ?_) (fun c5 => ?_)
      ·try simp only [decide_eq_true_eq, decide_eq_false_iff_not, beq_iff_eq, beq_eq_false_iff_ne, bne_iff_ne, ne_eq, Bool.not_eq_true', Bool.not_eq_false', Bool.and_eq_true, Bool.or_eq_true, bne_eq_false_iff_eq] at c5
       refine den_seq ?_
       refine den_region TTok ?_
       intro K hK
       simp -implicitDefEqProofs (disch := first | decide | assumption | omega) only [go_sem, wrap_id]
       refine hK _ _ ?_
       clear hK K
       refine den_ret ?_
       simp (disch := decide) only [resP_1, puts_same, puts_ne]
       exact absurd c5 (by first | (simp; done) | (simp; omega) | omega | (simp [eqC_self]; done))
      ·try simp only [decide_eq_true_eq, decide_eq_false_iff_not, beq_iff_eq, beq_eq_false_iff_ne, bne_iff_ne, ne_eq, Bool.not_eq_true', Bool.not_eq_false', Bool.and_eq_true, Bool.or_eq_true, bne_eq_false_iff_eq] at c5
       refine den_skip ?_
       refine den_seq ?_
       refine den_region TTok ?_
       intro K hK
       simp -implicitDefEqProofs (disch := first | decide | assumption | omega) only [go_sem, ld28, BoxAt.cell hb0_0, wrap_id]
       try simp -implicitDefEqProofs (disch := first | decide | assumption | omega) only [go_sem, wrap_id]
       refine CallA.mono (toF_ok _ X _ ⟨_, _, _, rfl, (RdS.pres hdX (Ext.pres eB)), (RdS.pres hmX (Ext.pres eB)), (RdS.pres hvX (Ext.pres eB))⟩ hMX) ?_
       intro v_ h24_1
       rintro ⟨vd24_1, vm24_1, vv24_1, fd24_1, fm24_1, fv24_1, rfl, hod24_1, hom24_1, hov24_1, hf24_1, e24_1⟩
       replace how5_5_0 := OS.ext how5_5_0 e24_1
       replace hog17_2 := OS.ext hog17_2 e24_1
       replace hb0_0 := BoxAt.ext hb0_0 e24_1
       have := Ext.size e24_1
       replace eB := Ext.trans eB e24_1
       have hfd24_1 := hf24_1.left
       have hf24_1r0 := hf24_1.right
       have hfm24_1 := hf24_1r0.left
       have hfv24_1 := hf24_1r0.right
       have hlhod24_1 := OS.lt hod24_1
       have hlhom24_1 := OS.lt hom24_1
       have hlhov24_1 := OS.lt hov24_1
       have ap23 : Apart fd24_1 fm24_1 := Apart.lft (apart_nodup hf24_1)
       have ap24 : Apart fd24_1 fv24_1 := Apart.rgt (apart_nodup hf24_1)
       have ap25 : Apart fm24_1 fv24_1 := apart_nodup hf24_1r0
       try simp -implicitDefEqProofs (disch := first | decide | assumption | omega) only [go_sem, wrap_id]
       try simp -implicitDefEqProofs (disch := first | decide | assumption | omega) only [go_sem, wrap_id]
       refine CallA.mono (iBt_ok _ X r n q _ ⟨_, _, _, rfl, (OS.rd hod24_1), (OS.rd hom24_1), (OS.rd hov24_1)⟩ ) ?_
       intro v_ h24_5
       rintro ⟨vw24_5_0, fw24_5_0, rfl, how24_5_0, hfw24_5_0, e24_5⟩
       replace how5_5_0 := OS.ext how5_5_0 e24_5
       replace hog17_2 := OS.ext hog17_2 e24_5
       replace hod24_1 := OS.ext hod24_1 e24_5
       replace hom24_1 := OS.ext hom24_1 e24_5
       replace hov24_1 := OS.ext hov24_1 e24_5
       replace hb0_0 := BoxAt.ext hb0_0 e24_5
       have := Ext.size e24_5
       replace eB := Ext.trans eB e24_5
       have hlhow24_5_0 := OS.lt how24_5_0
       try simp -implicitDefEqProofs (disch := first | decide | assumption | omega) only [go_sem, wrap_id]
       refine hK _ _ ?_
       clear hK K
       refine den_seq ?_
       refine den_seq ?_
       refine den_mergeH [(102, .bool (((!(true)) || (((boR X r n q).2) != ((boR X r n q).2)))))] [13, 16] ?_ ?_
        -- a way
       ·refine den_region TTok ?_
        intro K hK
        simp -implicitDefEqProofs (disch := first | decide | assumption | (simp (disch := decide) only [slotOf_zero, slotOf_succ, Option.map_some, puts_same, puts_ne, gv_bool, gv_undef, tt, tf, ft, ff, eq_self, if_true, if_false, Bool.false_eq_true, Bool.not_true, Bool.not_false]; done) | omega) only [go_sem, wrap_id]
        try simp -implicitDefEqProofs (disch := first | decide | assumption | omega) only [go_sem, wrap_id]
        refine CallA.pure (eqSS_same _ _ _ _ (OS.rd how24_5_0) (OS.rd how5_5_0)) ?_
        try simp -implicitDefEqProofs (disch := first | decide | assumption | (simp (disch := decide) only [slotOf_zero, slotOf_succ, Option.map_some, puts_same, puts_ne, gv_bool, gv_undef, tt, tf, ft, ff, eq_self, if_true, if_false, Bool.false_eq_true, Bool.not_true, Bool.not_false]; done) | omega) only [go_sem, wrap_id]
        try simp -implicitDefEqProofs (disch := first | decide | assumption | (simp (disch := decide) only [slotOf_zero, slotOf_succ, Option.map_some, puts_same, puts_ne, gv_bool, gv_undef, tt, tf, ft, ff, eq_self, if_true, if_false, Bool.false_eq_true, Bool.not_true, Bool.not_false]; done) | omega) only [go_sem, wrap_id]
        refine hK _ _ ?_
        clear hK K
        refine den_stop ?_
        refine ⟨?_, rfl⟩
        first | (simp (disch := decide) only [go_sem, eq_self, Bool.true_and, Bool.and_true, Bool.false_and, Bool.and_false, Bool.true_or, Bool.or_true, Bool.false_or, Bool.or_false, if_true, if_false, Bool.false_eq_true]; done) | simp [HasL, sel, puts_at]
       intro en26
       simp (disch := decide) only [go_sem]
       refine den_cond rfl (fun c6 => ?_) (fun c6 => ?_)
       ·try simp only [decide_eq_true_eq, decide_eq_false_iff_not, beq_iff_eq, beq_eq_false_iff_ne, bne_iff_ne, ne_eq, Bool.not_eq_true', Bool.not_eq_false', Bool.and_eq_true, Bool.or_eq_true, bne_eq_false_iff_eq] at c6
        refine den_seq ?_
        refine den_region TTok ?_
        intro K hK
        simp -implicitDefEqProofs (disch := first | decide | assumption | omega) only [go_sem, wrap_id]
        refine hK _ _ ?_
        clear hK K
        refine den_ret ?_
        simp (disch := decide) only [resP_1, puts_same, puts_ne]
        exact absurd c6 (by first | (simp; done) | (simp; omega) | omega | (simp [eqC_self]; done))
       ·try simp only [decide_eq_true_eq, decide_eq_false_iff_not, beq_iff_eq, beq_eq_false_iff_ne, bne_iff_ne, ne_eq, Bool.not_eq_true', Bool.not_eq_false', Bool.and_eq_true, Bool.or_eq_true, bne_eq_false_iff_eq] at c6
        refine den_skip ?_
        refine den_seq ?_
        refine den_region TTok ?_
        intro K hK
        simp -implicitDefEqProofs (disch := first | decide | assumption | omega) only [go_sem, wrap_id]
        refine hK _ _ ?_
        clear hK K
        refine den_seq ?_
        refine den_region TTok ?_
        intro K hK
        simp -implicitDefEqProofs (disch := first | decide | assumption | omega) only [go_sem, wrap_id]
        try simp -implicitDefEqProofs (disch := first | decide | assumption | omega) only [go_sem, wrap_id]
        refine CallA.pure (heldSS_ok _ ((boR X r n q).1) (1 : Int) _ (OS.rd hog17_2) (by omega)) ?_
        try simp -implicitDefEqProofs (disch := first | decide | assumption | omega) only [go_sem, wrap_id]
        refine hK _ _ ?_
        clear hK K
        refine den_seq ?_
        refine den_seq ?_
        refine den_region TTok ?_
        intro K hK
        simp -implicitDefEqProofs (disch := first | decide | assumption | omega) only [go_sem, wrap_id]
        refine hK _ _ ?_
        clear hK K
        refine den_cond rfl (fun c7 => ?_) (fun c7 => ?_)
        ·try simp only [decide_eq_true_eq, decide_eq_false_iff_not, beq_iff_eq, beq_eq_false_iff_ne, bne_iff_ne, ne_eq, Bool.not_eq_true', Bool.not_eq_false', Bool.and_eq_true, Bool.or_eq_true, bne_eq_false_iff_eq] at c7
         refine den_seq ?_
         refine den_region TTok ?_
         intro K hK
         simp -implicitDefEqProofs (disch := first | decide | assumption | omega) only [go_sem, wrap_id]
         refine hK _ _ ?_
         clear hK K
         refine den_ret ?_
         simp (disch := decide) only [resP_1, puts_same, puts_ne]
         exact absurd c7 (by first | (simp; done) | (simp; omega) | omega | (simp [eqC_self]; done))
        ·try simp only [decide_eq_true_eq, decide_eq_false_iff_not, beq_iff_eq, beq_eq_false_iff_ne, bne_iff_ne, ne_eq, Bool.not_eq_true', Bool.not_eq_false', Bool.and_eq_true, Bool.or_eq_true, bne_eq_false_iff_eq] at c7
         refine den_skip ?_
         refine den_seq ?_
         refine den_seq ?_
         refine den_region TTok ?_
         intro K hK
         simp -implicitDefEqProofs (disch := first | decide | assumption | omega) only [go_sem, wrap_id]
         refine hK _ _ ?_
         clear hK K
         refine den_cond rfl (fun c8 => ?_) (fun c8 => ?_)
         ·try simp only [decide_eq_true_eq, decide_eq_false_iff_not, beq_iff_eq, beq_eq_false_iff_ne, bne_iff_ne, ne_eq, Bool.not_eq_true', Bool.not_eq_false', Bool.and_eq_true, Bool.or_eq_true, bne_eq_false_iff_eq] at c8
          refine den_seq ?_
          refine den_region TTok ?_
          intro K hK
          simp -implicitDefEqProofs (disch := first | decide | assumption | omega) only [go_sem, wrap_id]
          refine hK _ _ ?_
          clear hK K
          refine den_ret ?_
          simp (disch := decide) only [resP_1, puts_same, puts_ne]
          exact absurd c8 (by first | (simp; done) | (simp; omega) | omega | (simp [eqC_self]; done))
         ·try simp only [decide_eq_true_eq, decide_eq_false_iff_not, beq_iff_eq, beq_eq_false_iff_ne, bne_iff_ne, ne_eq, Bool.not_eq_true', Bool.not_eq_false', Bool.and_eq_true, Bool.or_eq_true, bne_eq_false_iff_eq] at c8
          refine den_skip ?_
          refine den_seq ?_
          refine den_region TTok ?_
          intro K hK
          simp -implicitDefEqProofs (disch := first | decide | assumption | omega) only [go_sem, wrap_id]
          refine hK _ _ ?_
          clear hK K
          refine den_ret ?_
          simp (disch := decide) only [resP_1, puts_same, puts_ne]
          exact ⟨by first | rfl | trivial, eB⟩
end Go.Proofs.Ytjjjgllbocgkbaa
