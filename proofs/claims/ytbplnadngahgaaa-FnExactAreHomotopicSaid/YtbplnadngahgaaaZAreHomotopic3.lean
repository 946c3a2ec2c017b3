/-
  What the statement FnExactAreHomotopic uses of the walks, part 3.
  Conditions: each theorem's own.
-/
import Derived.Test.YtbplnadngahgaaaG16
import Derived.Test.YtbplnadngahgaaaG17
import Derived.Test.YtbplnadngahgaaaG14
import Derived.Test.YtbplnadngahgaaaG13
import Derived.Test.YtbplnadngahgaaaG15
import Derived.Test.YtbplnadngahgaaaG18
import Derived.Test.YtbplnadngahgaaaG19
import Derived.Test.YtbplnadngahgaaaZAreHomotopic1
import Derived.Test.YtbplnadngahgaaaZAreHomotopic2
set_option linter.unusedVariables false
set_option linter.unusedSimpArgs false
namespace Go.Proofs.Ytbplnadngahgaaa
open Go
set_option maxRecDepth 100000 in
theorem leads1_ok (x : Int) (h : Heap) : CallA Try.prog 143 #[.int .i64 x] h fun v h' => v = .bool (x != 0) ∧ h' = h := by
 refine callA_intro TTok (args := [_]) Try.func143 (by kernel_rfl) rfl 5 rfl (by simp) [.tmp 2] rfl ?_
 simp only [idxs, Nat.reduceAdd]
 refine den_seq ?_
 refine den_region TTok ?_
 intro K hK
 simp -implicitDefEqProofs (disch := first | decide | assumption | omega) only [go_sem]
 refine hK _ _ ?_
 clear hK K
 refine den_seq ?_
 refine den_region TTok ?_
 intro K hK
 simp -implicitDefEqProofs (disch := first | decide | assumption | omega) only [go_sem]
 refine hK _ _ ?_
 clear hK K
 refine den_ret ?_
 simp (disch := decide) only [resP_1, puts_same, puts_ne]
 exact ⟨by first | rfl | trivial, trivial⟩
theorem leadI_ok (v : Value) (xs : List Int) (h : Heap) (hv : R1 h v xs) : CallA Try.prog 142 #[v, .func (.func 143) #[] #[]] h fun v' h' => v' = .int .i64 (leadP xs) ∧ Ext h h' := by
 rw [leadP_idx]
 exact idx1_ok _ xs _ _ (fun x => x != 0) _ hv (fun j hj h' e => by
  simp only [List.append_toArray, List.cons_append, List.nil_append]
  exact CallA.mono (leads1_ok _ _) (fun _ _ ⟨e1, e2⟩ => ⟨e1, e2 ▸ Ext.refl _⟩))


set_option maxRecDepth 100000 in
theorem iLeads_ok (vR : Value) (R : List (List Int)) (h : Heap) (rR : R2 h vR R) (hR : R.length ≤ 100000) : CallA Try.prog 109 #[vR] h fun v' h' => ∃ w0 f0, v' = w0 ∧ O1i h' w0 (R.map leadP) f0 ∧ Fresh h.size f0 ∧ Ext h h' := by
 have hleR := RdS.le rR
 refine callA_intro TTok (args := [_]) Try.func109 (by kernel_rfl) rfl 20 rfl (by simp) [.tmp 2] rfl ?_
 simp only [idxs, Nat.reduceAdd]
 refine den_seq ?_
 refine den_region TTok ?_
 intro K hK
 simp -implicitDefEqProofs (disch := first | decide | assumption | omega) only [go_sem, RdS.len rR sl36, RdS.idx rR sl36, RdS.cellB rR (HPres.refl _), RdS.cells rR, wrap_id]
 refine hK _ _ ?_
 clear hK K
 refine den_seq ?_
 refine den_region TTok ?_
 intro K hK
 simp -implicitDefEqProofs (disch := first | decide | assumption | omega) only [go_sem, RdS.len rR sl36, RdS.idx rR sl36, RdS.cellB rR (HPres.refl _), RdS.cells rR, wrap_id]
 refine op_bs0 sz95 OI ?_
 intro v1_0 h1_0 ho1_0 e1_0
 have := Ext.size e1_0
 have eB := e1_0
 have hfho1_0 : Fresh h.size [h.size] := Fresh.one _
 have hlho1_0 := OS.lt ho1_0
 try simp -implicitDefEqProofs (disch := first | decide | assumption | omega) only [go_sem, RdS.len rR sl36, RdS.idx rR sl36, RdS.cellB rR (Ext.pres eB), RdS.cells rR, RdS.len (OS.rd ho1_0) sl95, RdS.idx (OS.rd ho1_0) sl95, R1.intN (OS.rd ho1_0), RdS.cells (OS.rd ho1_0), wrap_id]
 refine hK _ _ ?_
 clear hK K
 refine den_seq ?_
 refine den_seq ?_
 refine den_region TTok ?_
 intro K hK
 simp -implicitDefEqProofs (disch := first | decide | assumption | omega) only [go_sem, RdS.len rR sl36, RdS.idx rR sl36, RdS.cellB rR (Ext.pres eB), RdS.cells rR, RdS.len (OS.rd ho1_0) sl95, RdS.idx (OS.rd ho1_0) sl95, R1.intN (OS.rd ho1_0), RdS.cells (OS.rd ho1_0), wrap_id]
 refine hK _ _ ?_
 clear hK K
 refine den_block ?_
 refine den_sel [3, 9, 7, 8] ?_
 intro env_1
 simp only [go_sem]
 refine den_loopS (σ := Nat × Value × List Nat) (fun st_ => [(3, st_.2.1), (9, .int .i64 (st_.1 : Int))]) (fun st_ H => (st_.1 ≤ R.length) ∧ (O1i H st_.2.1 ((R.take st_.1).map leadP) st_.2.2) ∧ (Fresh (h.size) st_.2.2) ∧ (Sub [h.size] h1_0.size st_.2.2) ∧ (Chg [h.size] h1_0 H)) (fun st_ => R.length - st_.1) (0, v1_0, [h.size]) ?_ ?_
 ·exact ⟨by first | (simp; done) | (dsimp only; omega) | (simp; omega), by simpa using ho1_0, hfho1_0, Sub.refl, Chg.refl _ _⟩
 ·rintro ⟨k, vhO, fphO⟩ h4 ee3 ⟨hi0, hO, hfhO, sbhO, cL2⟩
  dsimp only at hi0 hO hfhO sbhO cL2
  have := cL2.size
  replace eB := Ext.then eB cL2 (ge_of hfho1_0 (by omega))
  have hlhO := OS.lt hO
  simp only [List.cons_append, List.nil_append]
  have hlt_ : ((R.take k).map leadP).length = k := by simp; omega
  refine den_seq ?_
  refine den_region TTok ?_
  intro K hK
  simp -implicitDefEqProofs (disch := first | decide | assumption | omega) only [go_sem, RdS.len rR sl36, RdS.idx rR sl36, RdS.cellB rR (Ext.pres eB), RdS.cells rR, RdS.len (OS.rd hO) sl95, RdS.idx (OS.rd hO) sl95, R1.intN (OS.rd hO), RdS.cells (OS.rd hO), wrap_id]
  refine hK _ _ ?_
  clear hK K
  refine den_seq ?_
  refine den_cond rfl (fun c0 => ?_) (fun c0 => ?_)
  ·try simp only [decide_eq_true_eq, decide_eq_false_iff_not, beq_iff_eq, beq_eq_false_iff_ne, bne_iff_ne, ne_eq, Bool.not_eq_true', Bool.not_eq_false', Bool.and_eq_true, Bool.or_eq_true, bne_eq_false_iff_eq] at c0
   refine den_skip ?_
   refine den_seq ?_
   refine den_block ?_
   refine den_seq ?_
   refine den_region TTok ?_
   intro K hK
   have hr5 := RdS.rowN rR k (by omega)
   have hlhr5 := RdS.le hr5
   simp -implicitDefEqProofs (disch := first | decide | assumption | omega) only [go_sem, ld22, RdS.len rR sl36, RdS.idx rR sl36, RdS.cellB rR (Ext.pres eB), RdS.cells rR, RdS.len hr5 sl22, RdS.idx hr5 sl22, R1.intB hr5 (Ext.pres eB), RdS.cells hr5, RdS.len (OS.rd hO) sl95, RdS.idx (OS.rd hO) sl95, R1.intN (OS.rd hO), RdS.cells (OS.rd hO), wrap_id]
   refine hK _ _ ?_
   clear hK K
   refine den_region TTok ?_
   intro K hK
   simp -implicitDefEqProofs (disch := first | decide | assumption | omega) only [go_sem, RdS.len rR sl36, RdS.idx rR sl36, RdS.cellB rR (Ext.pres eB), RdS.cells rR, RdS.len hr5 sl22, RdS.idx hr5 sl22, R1.intB hr5 (Ext.pres eB), RdS.cells hr5, RdS.len (OS.rd hO) sl95, RdS.idx (OS.rd hO) sl95, R1.intN (OS.rd hO), RdS.cells (OS.rd hO), wrap_id]
   try simp -implicitDefEqProofs (disch := first | decide | assumption | omega) only [go_sem, RdS.len rR sl36, RdS.idx rR sl36, RdS.cellB rR (Ext.pres eB), RdS.cells rR, RdS.len hr5 sl22, RdS.idx hr5 sl22, R1.intB hr5 (Ext.pres eB), RdS.cells hr5, RdS.len (OS.rd hO) sl95, RdS.idx (OS.rd hO) sl95, R1.intN (OS.rd hO), RdS.cells (OS.rd hO), wrap_id]
   refine CallA.mono (leadI_ok _ _ _ (RdS.pres hr5 (Ext.pres eB))) ?_
   intro v_ h5_2
   rintro ⟨rfl, e5_2⟩
   replace hO := OS.ext hO e5_2
   have := Ext.size e5_2
   replace eB := Ext.trans eB e5_2
   replace cL2 := Chg.stepE cL2 e5_2
   try simp -implicitDefEqProofs (disch := first | decide | assumption | omega) only [go_sem, RdS.len rR sl36, RdS.idx rR sl36, RdS.cellB rR (Ext.pres eB), RdS.cells rR, RdS.len hr5 sl22, RdS.idx hr5 sl22, R1.intB hr5 (Ext.pres eB), RdS.cells hr5, RdS.len (OS.rd hO) sl95, RdS.idx (OS.rd hO) sl95, R1.intN (OS.rd hO), RdS.cells (OS.rd hO), wrap_id]
   refine op_bs1 sz95 rfl rfl ?_
   try simp -implicitDefEqProofs (disch := first | decide | assumption | omega) only [go_sem, RdS.len rR sl36, RdS.idx rR sl36, RdS.cellB rR (Ext.pres eB), RdS.cells rR, RdS.len hr5 sl22, RdS.idx hr5 sl22, R1.intB hr5 (Ext.pres eB), RdS.cells hr5, RdS.len (OS.rd hO) sl95, RdS.idx (OS.rd hO) sl95, R1.intN (OS.rd hO), RdS.cells (OS.rd hO), wrap_id]
   refine op_append1 sz95 hO hfhO.nodup ⟨rfl, rfl⟩ List.nodup_nil (Apart.nil _) (by first | omega | (simp; omega)) rfl rfl ?_
   intro v5_4 h5_4 fp5_4 ho5_4 hn5_4 hs5_4 c5_4
   have hsz5_4 := c5_4.size
   have hfho5_4 : Fresh h.size fp5_4 := Fresh.appd hfhO (Fresh.nil h5_2.size) (by omega) (by omega) hn5_4 hs5_4
   have sb6 : Sub [h.size] h1_0.size fp5_4 := Sub.grow sbhO Sub.nil (by omega) hs5_4
   have := c5_4.size
   replace eB := Ext.then eB c5_4 (ge_of hfhO (by omega))
   replace cL2 := Chg.step cL2 c5_4 sbhO
   have hlho5_4 := OS.lt ho5_4
   try simp -implicitDefEqProofs (disch := first | decide | assumption | omega) only [go_sem, RdS.len rR sl36, RdS.idx rR sl36, RdS.cellB rR (Ext.pres eB), RdS.cells rR, RdS.len hr5 sl22, RdS.idx hr5 sl22, R1.intB hr5 (Ext.pres eB), RdS.cells hr5, RdS.len (OS.rd ho5_4) sl95, RdS.idx (OS.rd ho5_4) sl95, R1.intN (OS.rd ho5_4), RdS.cells (OS.rd ho5_4), wrap_id]
   refine hK _ _ ?_
   clear hK K
   refine den_blk ?_
   refine den_region TTok ?_
   intro K hK
   simp -implicitDefEqProofs (disch := first | decide | assumption | omega) only [go_sem, RdS.len rR sl36, RdS.idx rR sl36, RdS.cellB rR (Ext.pres eB), RdS.cells rR, RdS.len hr5 sl22, RdS.idx hr5 sl22, R1.intB hr5 (Ext.pres eB), RdS.cells hr5, RdS.len (OS.rd ho5_4) sl95, RdS.idx (OS.rd ho5_4) sl95, R1.intN (OS.rd ho5_4), RdS.cells (OS.rd ho5_4), wrap_id]
   refine hK _ _ ?_
   clear hK K
   refine den_stop ?_
   rw [map_takeA (by omega)] at ho5_4
   exact ⟨(k + 1, v5_4, fp5_4), by simp [HasL, puts_at], ⟨by first | omega | (dsimp only; omega), ho5_4, hfho5_4, sb6, cL2⟩, by first | omega | (dsimp only; omega)⟩
  ·try simp only [decide_eq_true_eq, decide_eq_false_iff_not, beq_iff_eq, beq_eq_false_iff_ne, bne_iff_ne, ne_eq, Bool.not_eq_true', Bool.not_eq_false', Bool.and_eq_true, Bool.or_eq_true, bne_eq_false_iff_eq] at c0
   refine den_exit ?_
   refine denX_code ?_
   refine denX_stop ?_
   refine denX_hit ?_
   refine den_seq ?_
   refine den_region TTok ?_
   intro K hK
   simp -implicitDefEqProofs (disch := first | decide | assumption | omega) only [go_sem, RdS.len rR sl36, RdS.idx rR sl36, RdS.cellB rR (Ext.pres eB), RdS.cells rR, RdS.len (OS.rd hO) sl95, RdS.idx (OS.rd hO) sl95, R1.intN (OS.rd hO), RdS.cells (OS.rd hO), wrap_id]
   refine hK _ _ ?_
   clear hK K
   refine den_ret ?_
   simp (disch := decide) only [resP_1, puts_same, puts_ne]
   rw [map_endA (by omega)] at hO
   exact ⟨_, _, rfl, hO, hfhO.mono (by omega), eB⟩

set_option maxRecDepth 100000 in
theorem iModulo_ok (vv vR : Value) (p : Int) (v : List Int) (R : List (List Int)) (h : Heap) (rv : R1 h vv v) (rR : R2 h vR R) {w_ : Nat} {l_ : Nat → Nat} (hP : isP p = true) (hr : Rr p w_ R l_) (hv : v.length = w_ ∧ w_ ≤ 1000) (hb : Bnd p v) : CallA Try.prog 66 #[.int .i64 p, vv, vR] h fun v' h' => ∃ w0 f0, v' = w0 ∧ O1 h' w0 (restP p R v) f0 ∧ Fresh h.size f0 ∧ Ext h h' := by
 have hlev := RdS.le rv
 have hleR := RdS.le rR
 have hp := isP_two hP
 have hRl := hr.le_w
 refine callA_intro TTok (args := [_, _, _]) Try.func66 (by kernel_rfl) rfl 33 rfl (by simp) [.tmp 6] rfl ?_
 simp only [idxs, Nat.reduceAdd]
 refine den_seq ?_
 refine den_region TTok ?_
 intro K hK
 simp -implicitDefEqProofs (disch := first | decide | assumption | omega) only [go_sem, RdS.len rv sl22, RdS.idx rv sl22, R1.intB rv (HPres.refl _), RdS.cells rv, RdS.len rR sl36, RdS.idx rR sl36, RdS.cellB rR (HPres.refl _), RdS.cells rR, wrap_id]
 refine hK _ _ ?_
 clear hK K
 refine den_seq ?_
 refine den_region TTok ?_
 intro K hK
 simp -implicitDefEqProofs (disch := first | decide | assumption | omega) only [go_sem, RdS.len rv sl22, RdS.idx rv sl22, R1.intB rv (HPres.refl _), RdS.cells rv, RdS.len rR sl36, RdS.idx rR sl36, RdS.cellB rR (HPres.refl _), RdS.cells rR, wrap_id]
 try simp -implicitDefEqProofs (disch := first | decide | assumption | omega) only [go_sem, RdS.len rv sl22, RdS.idx rv sl22, R1.intB rv (HPres.refl _), RdS.cells rv, RdS.len rR sl36, RdS.idx rR sl36, RdS.cellB rR (HPres.refl _), RdS.cells rR, wrap_id]
 refine CallA.mono (clone1_ok _ v _ rv (by omega)) ?_
 intro vw1_1_0 h1_1
 rintro ⟨zvw1_1_0, fw1_1_0, rfl, how1_1_0, hfw1_1_0, e1_1⟩
 have := Ext.size e1_1
 have eB := e1_1
 have hlhow1_1_0 := OS.lt how1_1_0
 try simp -implicitDefEqProofs (disch := first | decide | assumption | omega) only [go_sem, RdS.len rv sl22, RdS.idx rv sl22, R1.intB rv (Ext.pres eB), RdS.cells rv, RdS.len rR sl36, RdS.idx rR sl36, RdS.cellB rR (Ext.pres eB), RdS.cells rR, RdS.len (OS.rd how1_1_0) sl22, RdS.idx (OS.rd how1_1_0) sl22, R1.intN (OS.rd how1_1_0), RdS.cells (OS.rd how1_1_0), wrap_id]
 refine hK _ _ ?_
 clear hK K
 refine den_seq ?_
 refine den_seq ?_
 refine den_region TTok ?_
 intro K hK
 simp -implicitDefEqProofs (disch := first | decide | assumption | omega) only [go_sem, RdS.len rv sl22, RdS.idx rv sl22, R1.intB rv (Ext.pres eB), RdS.cells rv, RdS.len rR sl36, RdS.idx rR sl36, RdS.cellB rR (Ext.pres eB), RdS.cells rR, RdS.len (OS.rd how1_1_0) sl22, RdS.idx (OS.rd how1_1_0) sl22, R1.intN (OS.rd how1_1_0), RdS.cells (OS.rd how1_1_0), wrap_id]
 try simp -implicitDefEqProofs (disch := first | decide | assumption | omega) only [go_sem, RdS.len rv sl22, RdS.idx rv sl22, R1.intB rv (Ext.pres eB), RdS.cells rv, RdS.len rR sl36, RdS.idx rR sl36, RdS.cellB rR (Ext.pres eB), RdS.cells rR, RdS.len (OS.rd how1_1_0) sl22, RdS.idx (OS.rd how1_1_0) sl22, R1.intN (OS.rd how1_1_0), RdS.cells (OS.rd how1_1_0), wrap_id]
 refine CallA.mono (iLeads_ok _ R _ (RdS.pres rR (Ext.pres eB)) (by omega)) ?_
 intro vw2_1_0 h2_1
 rintro ⟨zvw2_1_0, fw2_1_0, rfl, how2_1_0, hfw2_1_0, e2_1⟩
 replace how1_1_0 := OS.ext how1_1_0 e2_1
 have := Ext.size e2_1
 replace eB := Ext.trans eB e2_1
 have hlhow2_1_0 := OS.lt how2_1_0
 try simp -implicitDefEqProofs (disch := first | decide | assumption | omega) only [go_sem, RdS.len rv sl22, RdS.idx rv sl22, R1.intB rv (Ext.pres eB), RdS.cells rv, RdS.len rR sl36, RdS.idx rR sl36, RdS.cellB rR (Ext.pres eB), RdS.cells rR, RdS.len (OS.rd how1_1_0) sl22, RdS.idx (OS.rd how1_1_0) sl22, R1.intN (OS.rd how1_1_0), RdS.cells (OS.rd how1_1_0), RdS.len (OS.rd how2_1_0) sl95, RdS.idx (OS.rd how2_1_0) sl95, R1.intN (OS.rd how2_1_0), RdS.cells (OS.rd how2_1_0), wrap_id]
 refine hK _ _ ?_
 clear hK K
 refine den_block ?_
 refine den_sel [15, 0, 2, 7, 13, 14] ?_
 intro env_1
 simp only [go_sem]
 refine den_loopS (σ := Nat) (fun st_ => [(15, .int .i64 (st_ : Int))]) (fun st_ H => (st_ ≤ R.length) ∧ (O1 H vw1_1_0 (restN p R v st_) fw1_1_0) ∧ (Chg fw1_1_0 h2_1 H)) (fun st_ => R.length - st_) 0 ?_ ?_
 ·exact ⟨by first | (simp; done) | (dsimp only; omega) | (simp; omega), by exact how1_1_0, Chg.refl _ _⟩
 ·rintro k h4 ee3 ⟨hi0, hO, cL2⟩
  replace how2_1_0 := OS.chg how2_1_0 cL2 (apart_gt hfw2_1_0 hlhow1_1_0 (by omega))
  have := cL2.size
  replace eB := Ext.then eB cL2 (ge_of hfw1_1_0 (by omega))
  have sbhO : Sub fw1_1_0 h2_1.size fw1_1_0 := Sub.refl
  have hfhO := hfw1_1_0
  have hlhO := hlhow1_1_0
  simp only [List.cons_append, List.nil_append]
  have hml_ : (R.map leadP).length = R.length := by simp
  have hrl := restN_len p R v k
  have hbn := restN_bnd (p := p) (L := R) (by omega) hb k
  refine den_seq ?_
  refine den_region TTok ?_
  intro K hK
  simp -implicitDefEqProofs (disch := first | decide | assumption | omega) only [go_sem, RdS.len rv sl22, RdS.idx rv sl22, R1.intB rv (Ext.pres eB), RdS.cells rv, RdS.len rR sl36, RdS.idx rR sl36, RdS.cellB rR (Ext.pres eB), RdS.cells rR, RdS.len (OS.rd how2_1_0) sl95, RdS.idx (OS.rd how2_1_0) sl95, R1.intN (OS.rd how2_1_0), RdS.cells (OS.rd how2_1_0), RdS.len (OS.rd hO) sl22, RdS.idx (OS.rd hO) sl22, R1.intN (OS.rd hO), RdS.cells (OS.rd hO), wrap_id]
  refine hK _ _ ?_
  clear hK K
  refine den_seq ?_
  refine den_cond rfl (fun c0 => ?_) (fun c0 => ?_)
  ·try simp only [decide_eq_true_eq, decide_eq_false_iff_not, beq_iff_eq, beq_eq_false_iff_ne, bne_iff_ne, ne_eq, Bool.not_eq_true', Bool.not_eq_false', Bool.and_eq_true, Bool.or_eq_true, bne_eq_false_iff_eq] at c0
   refine den_skip ?_
   refine den_seq ?_
   refine den_block ?_
   refine den_seq ?_
   have hld := hr.lead (i := k) (by omega)
   have hlw := hr.lt k (by omega)
   have hrk := hr.len k (by omega)
   have hbk := hr.bnd k (by omega)
   have hge := getD_mapL (R := R) (k := k) (by omega)
   refine den_region TTok ?_
   intro K hK
   simp -implicitDefEqProofs (disch := first | decide | assumption | omega) only [go_sem, ld3, RdS.len rv sl22, RdS.idx rv sl22, R1.intB rv (Ext.pres eB), RdS.cells rv, RdS.len rR sl36, RdS.idx rR sl36, RdS.cellB rR (Ext.pres eB), RdS.cells rR, RdS.len (OS.rd how2_1_0) sl95, RdS.idx (OS.rd how2_1_0) sl95, R1.intN (OS.rd how2_1_0), RdS.cells (OS.rd how2_1_0), RdS.len (OS.rd hO) sl22, RdS.idx (OS.rd hO) sl22, R1.intN (OS.rd hO), RdS.cells (OS.rd hO), wrap_id]
   refine hK _ _ ?_
   clear hK K
   have hxk := hbn.at (k := ((R.map leadP).getD k 0).toNat) (by omega)
   have hcp : 0 < p ∧ p ≤ 7 := by omega
   have hcl : (R.getD k default).length = (restN p R v k).length := by omega
   have hca := hbn
   have hcb := hbk
   have hck := hxk
   refine den_draw TTok mixed [10] [(0, true), (1, true), (2, true), (3, true), (4, true), (5, true), (6, true), (7, true), (8, true), (9, true), (10, false)] (by kernel_rfl) ?_
   intro K hK
   have hr5 := RdS.rowN rR k (by omega)
   have hlhr5 := RdS.le hr5
   simp -implicitDefEqProofs (disch := first | decide | assumption | omega) only [go_sem, ld22, ld2, RdS.len rv sl22, RdS.idx rv sl22, R1.intB rv (Ext.pres eB), RdS.cells rv, RdS.len rR sl36, RdS.idx rR sl36, RdS.cellB rR (Ext.pres eB), RdS.cells rR, RdS.len hr5 sl22, RdS.idx hr5 sl22, R1.intB hr5 (Ext.pres eB), RdS.cells hr5, RdS.len (OS.rd how2_1_0) sl95, RdS.idx (OS.rd how2_1_0) sl95, R1.intN (OS.rd how2_1_0), RdS.cells (OS.rd how2_1_0), RdS.len (OS.rd hO) sl22, RdS.idx (OS.rd hO) sl22, R1.intN (OS.rd hO), RdS.cells (OS.rd hO), wrap_id]
   try simp -implicitDefEqProofs (disch := first | decide | assumption | omega) only [go_sem, RdS.len rv sl22, RdS.idx rv sl22, R1.intB rv (Ext.pres eB), RdS.cells rv, RdS.len rR sl36, RdS.idx rR sl36, RdS.cellB rR (Ext.pres eB), RdS.cells rR, RdS.len hr5 sl22, RdS.idx hr5 sl22, R1.intB hr5 (Ext.pres eB), RdS.cells hr5, RdS.len (OS.rd how2_1_0) sl95, RdS.idx (OS.rd how2_1_0) sl95, R1.intN (OS.rd how2_1_0), RdS.cells (OS.rd how2_1_0), RdS.len (OS.rd hO) sl22, RdS.idx (OS.rd hO) sl22, R1.intN (OS.rd hO), RdS.cells (OS.rd hO), wrap_id]
   refine CallA.mono (clear_ok _ ((restN p R v k).getD (((R.map leadP).getD k 0)).toNat 0) _ _ _ _ _ _ hO hfhO.nodup (RdS.pres hr5 (Ext.pres eB)) (fun h_ c_ => RdS.pres hr5 (Ext.pres (Ext.then eB c_ (ge_of hfhO (by omega))))) hcp hcl hca hcb hck) ?_
   intro v_ h5_10
   rintro ⟨rfl, hog5_10, cg5_10⟩
   replace how2_1_0 := OS.chg how2_1_0 cg5_10 (apart_gt hfw2_1_0 hlhO (by omega))
   have := cg5_10.size
   replace eB := Ext.then eB cg5_10 (ge_of hfhO (by omega))
   replace cL2 := Chg.step cL2 cg5_10 sbhO
   have ap6 : Apart fw2_1_0 fw1_1_0 := (apart_gt hfw2_1_0 hlhO (by omega))
   have hlhog5_10 := hlhO
   try simp (disch := decide) only [outv_some, outv_none, put_puts]
   refine plK_last (by decide) ?_
   try simp -implicitDefEqProofs (disch := first | decide | assumption | omega) only [go_sem, RdS.len rv sl22, RdS.idx rv sl22, R1.intB rv (Ext.pres eB), RdS.cells rv, RdS.len rR sl36, RdS.idx rR sl36, RdS.cellB rR (Ext.pres eB), RdS.cells rR, RdS.len hr5 sl22, RdS.idx hr5 sl22, R1.intB hr5 (Ext.pres eB), RdS.cells hr5, RdS.len (OS.rd how2_1_0) sl95, RdS.idx (OS.rd how2_1_0) sl95, R1.intN (OS.rd how2_1_0), RdS.cells (OS.rd how2_1_0), RdS.len (OS.rd hog5_10) sl22, RdS.idx (OS.rd hog5_10) sl22, R1.intN (OS.rd hog5_10), RdS.cells (OS.rd hog5_10), wrap_id]
   refine hK _ _ ?_
   clear hK K
   refine den_blk ?_
   refine den_region TTok ?_
   intro K hK
   simp -implicitDefEqProofs (disch := first | decide | assumption | omega) only [go_sem, RdS.len rv sl22, RdS.idx rv sl22, R1.intB rv (Ext.pres eB), RdS.cells rv, RdS.len rR sl36, RdS.idx rR sl36, RdS.cellB rR (Ext.pres eB), RdS.cells rR, RdS.len hr5 sl22, RdS.idx hr5 sl22, R1.intB hr5 (Ext.pres eB), RdS.cells hr5, RdS.len (OS.rd how2_1_0) sl95, RdS.idx (OS.rd how2_1_0) sl95, R1.intN (OS.rd how2_1_0), RdS.cells (OS.rd how2_1_0), RdS.len (OS.rd hog5_10) sl22, RdS.idx (OS.rd hog5_10) sl22, R1.intN (OS.rd hog5_10), RdS.cells (OS.rd hog5_10), wrap_id]
   refine hK _ _ ?_
   clear hK K
   refine den_stop ?_
   rw [hge] at hog5_10
   exact ⟨k + 1, by simp [HasL, puts_at], ⟨by first | omega | (dsimp only; omega), hog5_10, cL2⟩, by first | omega | (dsimp only; omega)⟩
  ·try simp only [decide_eq_true_eq, decide_eq_false_iff_not, beq_iff_eq, beq_eq_false_iff_ne, bne_iff_ne, ne_eq, Bool.not_eq_true', Bool.not_eq_false', Bool.and_eq_true, Bool.or_eq_true, bne_eq_false_iff_eq] at c0
   refine den_exit ?_
   refine denX_code ?_
   refine denX_stop ?_
   refine denX_hit ?_
   refine den_seq ?_
   refine den_region TTok ?_
   intro K hK
   simp -implicitDefEqProofs (disch := first | decide | assumption | omega) only [go_sem, RdS.len rv sl22, RdS.idx rv sl22, R1.intB rv (Ext.pres eB), RdS.cells rv, RdS.len rR sl36, RdS.idx rR sl36, RdS.cellB rR (Ext.pres eB), RdS.cells rR, RdS.len (OS.rd hO) sl22, RdS.idx (OS.rd hO) sl22, R1.intN (OS.rd hO), RdS.cells (OS.rd hO), wrap_id]
   refine hK _ _ ?_
   clear hK K
   refine den_ret ?_
   simp (disch := decide) only [resP_1, puts_same, puts_ne]
   rw [show restN p R v k = restP p R v by rw [restP, show R.length = k by omega]] at hO
   exact ⟨_, _, rfl, hO, hfhO.mono (by omega), eB⟩

set_option maxRecDepth 100000 in
theorem sRest_ok (vR vv : Value) (p : Int) (R : List (List Int)) (v : List Int) (h : Heap) (rR : R2 h vR R) (rv : R1 h vv v) {w_ : Nat} {l_ : Nat → Nat} (hP : isP p = true) (hr : Rr p w_ R l_) (hv : v.length = w_ ∧ w_ ≤ 1000) (hb : Bnd p v) : CallA Try.prog 82 #[.int .i64 p, vR, vv] h fun v' h' => ∃ w0 f0, v' = w0 ∧ O1 h' w0 (restP p R v) f0 ∧ Fresh h.size f0 ∧ Ext h h' := by
 have hleR := RdS.le rR
 have hlev := RdS.le rv
 have hp := isP_two hP
 have hRl := hr.le_w
 refine callA_intro TTok (args := [_, _, _]) Try.func82 (by kernel_rfl) rfl 33 rfl (by simp) [.tmp 6] rfl ?_
 simp only [idxs, Nat.reduceAdd]
 refine den_seq ?_
 refine den_region TTok ?_
 intro K hK
 simp -implicitDefEqProofs (disch := first | decide | assumption | omega) only [go_sem, RdS.len rR sl36, RdS.idx rR sl36, RdS.cellB rR (HPres.refl _), RdS.cells rR, RdS.len rv sl22, RdS.idx rv sl22, R1.intB rv (HPres.refl _), RdS.cells rv, wrap_id]
 refine hK _ _ ?_
 clear hK K
 refine den_seq ?_
 refine den_region TTok ?_
 intro K hK
 simp -implicitDefEqProofs (disch := first | decide | assumption | omega) only [go_sem, RdS.len rR sl36, RdS.idx rR sl36, RdS.cellB rR (HPres.refl _), RdS.cells rR, RdS.len rv sl22, RdS.idx rv sl22, R1.intB rv (HPres.refl _), RdS.cells rv, wrap_id]
 try simp -implicitDefEqProofs (disch := first | decide | assumption | omega) only [go_sem, RdS.len rR sl36, RdS.idx rR sl36, RdS.cellB rR (HPres.refl _), RdS.cells rR, RdS.len rv sl22, RdS.idx rv sl22, R1.intB rv (HPres.refl _), RdS.cells rv, wrap_id]
 refine CallA.mono (sOwn_ok _ v _ rv (by omega)) ?_
 intro vw1_1_0 h1_1
 rintro ⟨zvw1_1_0, fw1_1_0, rfl, how1_1_0, hfw1_1_0, e1_1⟩
 have := Ext.size e1_1
 have eB := e1_1
 have hlhow1_1_0 := OS.lt how1_1_0
 try simp -implicitDefEqProofs (disch := first | decide | assumption | omega) only [go_sem, RdS.len rR sl36, RdS.idx rR sl36, RdS.cellB rR (Ext.pres eB), RdS.cells rR, RdS.len rv sl22, RdS.idx rv sl22, R1.intB rv (Ext.pres eB), RdS.cells rv, RdS.len (OS.rd how1_1_0) sl22, RdS.idx (OS.rd how1_1_0) sl22, R1.intN (OS.rd how1_1_0), RdS.cells (OS.rd how1_1_0), wrap_id]
 refine hK _ _ ?_
 clear hK K
 refine den_seq ?_
 refine den_seq ?_
 refine den_region TTok ?_
 intro K hK
 simp -implicitDefEqProofs (disch := first | decide | assumption | omega) only [go_sem, RdS.len rR sl36, RdS.idx rR sl36, RdS.cellB rR (Ext.pres eB), RdS.cells rR, RdS.len rv sl22, RdS.idx rv sl22, R1.intB rv (Ext.pres eB), RdS.cells rv, RdS.len (OS.rd how1_1_0) sl22, RdS.idx (OS.rd how1_1_0) sl22, R1.intN (OS.rd how1_1_0), RdS.cells (OS.rd how1_1_0), wrap_id]
 refine hK _ _ ?_
 clear hK K
 refine den_block ?_
 refine den_sel [7, 8, 0, 1] ?_
 intro env_1
 simp only [go_sem]
 refine den_loopS (σ := Nat × Value × List Nat) (fun st_ => [(7, st_.2.1), (8, .int .i64 (st_.1 : Int))]) (fun st_ H => (st_.1 ≤ R.length) ∧ (O1 H st_.2.1 (restN p R v st_.1) st_.2.2) ∧ (Fresh (h.size) st_.2.2) ∧ (Sub fw1_1_0 h1_1.size st_.2.2) ∧ (Chg fw1_1_0 h1_1 H)) (fun st_ => R.length - st_.1) (0, vw1_1_0, fw1_1_0) ?_ ?_
 ·exact ⟨by first | (simp; done) | (dsimp only; omega) | (simp; omega), by exact how1_1_0, hfw1_1_0, Sub.refl, Chg.refl _ _⟩
 ·rintro ⟨k, vhO, fphO⟩ h4 ee3 ⟨hi0, hO, hfhO, sbhO, cL2⟩
  dsimp only at hi0 hO hfhO sbhO cL2
  have := cL2.size
  replace eB := Ext.then eB cL2 (ge_of hfw1_1_0 (by omega))
  have hlhO := OS.lt hO
  simp only [List.cons_append, List.nil_append]
  have hrl := restN_len p R v k
  have hbn := restN_bnd (p := p) (L := R) (by omega) hb k
  refine den_seq ?_
  refine den_seq ?_
  refine den_region TTok ?_
  intro K hK
  simp -implicitDefEqProofs (disch := first | decide | assumption | omega) only [go_sem, RdS.len rR sl36, RdS.idx rR sl36, RdS.cellB rR (Ext.pres eB), RdS.cells rR, RdS.len rv sl22, RdS.idx rv sl22, R1.intB rv (Ext.pres eB), RdS.cells rv, RdS.len (OS.rd hO) sl22, RdS.idx (OS.rd hO) sl22, R1.intN (OS.rd hO), RdS.cells (OS.rd hO), wrap_id]
  refine hK _ _ ?_
  clear hK K
  refine den_cond rfl (fun c0 => ?_) (fun c0 => ?_)
  ·try simp only [decide_eq_true_eq, decide_eq_false_iff_not, beq_iff_eq, beq_eq_false_iff_ne, bne_iff_ne, ne_eq, Bool.not_eq_true', Bool.not_eq_false', Bool.and_eq_true, Bool.or_eq_true, bne_eq_false_iff_eq] at c0
   refine den_skip ?_
   refine den_seq ?_
   refine den_block ?_
   have hld := hr.lead (i := k) (by omega)
   have hlw := hr.lt k (by omega)
   have hrk := hr.len k (by omega)
   have hbk := hr.bnd k (by omega)
   have hxk := hbn.at (k := (leadP (R.getD k default)).toNat) (by omega)
   have hls : ((restN p R v k).length ≤ (R.getD k default).length ∧ (restN p R v k).length ≤ 1000) ∧ Bnd p (restN p R v k) ∧ Bnd p (R.getD k default) := ⟨by omega, hbn, hbk⟩
   refine den_draw TTok mixed [] [(0, true), (1, true), (2, true), (3, true), (4, true), (5, true), (6, true), (7, true), (8, true), (9, true), (10, true), (11, false), (12, true), (13, true), (14, false), (15, true)] (by kernel_rfl) ?_
   intro K hK
   have hr5 := RdS.rowN rR k (by omega)
   have hlhr5 := RdS.le hr5
   have hr6 := RdS.rowN rR k (by omega)
   have hlhr6 := RdS.le hr6
   simp -implicitDefEqProofs (disch := first | decide | assumption | omega) only [go_sem, ld22, RdS.len rR sl36, RdS.idx rR sl36, RdS.cellB rR (Ext.pres eB), RdS.cells rR, RdS.len rv sl22, RdS.idx rv sl22, R1.intB rv (Ext.pres eB), RdS.cells rv, RdS.len hr5 sl22, RdS.idx hr5 sl22, R1.intB hr5 (Ext.pres eB), RdS.cells hr5, RdS.len hr6 sl22, RdS.idx hr6 sl22, R1.intB hr6 (Ext.pres eB), RdS.cells hr6, RdS.len (OS.rd hO) sl22, RdS.idx (OS.rd hO) sl22, R1.intN (OS.rd hO), RdS.cells (OS.rd hO), wrap_id]
   try simp -implicitDefEqProofs (disch := first | decide | assumption | omega) only [go_sem, RdS.len rR sl36, RdS.idx rR sl36, RdS.cellB rR (Ext.pres eB), RdS.cells rR, RdS.len rv sl22, RdS.idx rv sl22, R1.intB rv (Ext.pres eB), RdS.cells rv, RdS.len hr5 sl22, RdS.idx hr5 sl22, R1.intB hr5 (Ext.pres eB), RdS.cells hr5, RdS.len hr6 sl22, RdS.idx hr6 sl22, R1.intB hr6 (Ext.pres eB), RdS.cells hr6, RdS.len (OS.rd hO) sl22, RdS.idx (OS.rd hO) sl22, R1.intN (OS.rd hO), RdS.cells (OS.rd hO), wrap_id]
   refine CallA.pure (sLead_ok _ ((R).getD k default) _ (RdS.pres hr6 (Ext.pres eB))) ?_
   try simp -implicitDefEqProofs (disch := first | decide | assumption | omega) only [go_sem, ld2, RdS.len rR sl36, RdS.idx rR sl36, RdS.cellB rR (Ext.pres eB), RdS.cells rR, RdS.len rv sl22, RdS.idx rv sl22, R1.intB rv (Ext.pres eB), RdS.cells rv, RdS.len hr5 sl22, RdS.idx hr5 sl22, R1.intB hr5 (Ext.pres eB), RdS.cells hr5, RdS.len hr6 sl22, RdS.idx hr6 sl22, R1.intB hr6 (Ext.pres eB), RdS.cells hr6, RdS.len (OS.rd hO) sl22, RdS.idx (OS.rd hO) sl22, R1.intN (OS.rd hO), RdS.cells (OS.rd hO), wrap_id]
   try simp -implicitDefEqProofs (disch := first | decide | assumption | omega) only [go_sem, RdS.len rR sl36, RdS.idx rR sl36, RdS.cellB rR (Ext.pres eB), RdS.cells rR, RdS.len rv sl22, RdS.idx rv sl22, R1.intB rv (Ext.pres eB), RdS.cells rv, RdS.len hr5 sl22, RdS.idx hr5 sl22, R1.intB hr5 (Ext.pres eB), RdS.cells hr5, RdS.len hr6 sl22, RdS.idx hr6 sl22, R1.intB hr6 (Ext.pres eB), RdS.cells hr6, RdS.len (OS.rd hO) sl22, RdS.idx (OS.rd hO) sl22, R1.intN (OS.rd hO), RdS.cells (OS.rd hO), wrap_id]
   refine CallA.mono (sLess_ok _ _ p (restN p R v k) ((R).getD k default) ((restN p R v k).getD ((leadP ((R).getD k default))).toNat 0) _ (OS.rd hO) (RdS.pres hr5 (Ext.pres eB)) (by omega) hls.1 hls.2.1 hls.2.2 (by omega)) ?_
   intro vw5_14_0 h5_14
   rintro ⟨zvw5_14_0, fw5_14_0, rfl, how5_14_0, hfw5_14_0, e5_14⟩
   replace hO := OS.ext hO e5_14
   have := Ext.size e5_14
   replace eB := Ext.trans eB e5_14
   replace cL2 := Chg.stepE cL2 e5_14
   have hlhow5_14_0 := OS.lt how5_14_0
   try simp (disch := decide) only [outv_some, outv_none, put_puts]
   refine plK_pres (Ext.pres e5_14) ?_
   try simp -implicitDefEqProofs (disch := first | decide | assumption | omega) only [go_sem, RdS.len rR sl36, RdS.idx rR sl36, RdS.cellB rR (Ext.pres eB), RdS.cells rR, RdS.len rv sl22, RdS.idx rv sl22, R1.intB rv (Ext.pres eB), RdS.cells rv, RdS.len hr5 sl22, RdS.idx hr5 sl22, R1.intB hr5 (Ext.pres eB), RdS.cells hr5, RdS.len hr6 sl22, RdS.idx hr6 sl22, R1.intB hr6 (Ext.pres eB), RdS.cells hr6, RdS.len (OS.rd hO) sl22, RdS.idx (OS.rd hO) sl22, R1.intN (OS.rd hO), RdS.cells (OS.rd hO), RdS.len (OS.rd how5_14_0) sl22, RdS.idx (OS.rd how5_14_0) sl22, R1.intN (OS.rd how5_14_0), RdS.cells (OS.rd how5_14_0), wrap_id]
   refine hK _ _ ?_
   clear hK K
   refine den_blk ?_
   refine den_region TTok ?_
   intro K hK
   simp -implicitDefEqProofs (disch := first | decide | assumption | omega) only [go_sem, RdS.len rR sl36, RdS.idx rR sl36, RdS.cellB rR (Ext.pres eB), RdS.cells rR, RdS.len rv sl22, RdS.idx rv sl22, R1.intB rv (Ext.pres eB), RdS.cells rv, RdS.len hr5 sl22, RdS.idx hr5 sl22, R1.intB hr5 (Ext.pres eB), RdS.cells hr5, RdS.len hr6 sl22, RdS.idx hr6 sl22, R1.intB hr6 (Ext.pres eB), RdS.cells hr6, RdS.len (OS.rd how5_14_0) sl22, RdS.idx (OS.rd how5_14_0) sl22, R1.intN (OS.rd how5_14_0), RdS.cells (OS.rd how5_14_0), wrap_id]
   refine hK _ _ ?_
   clear hK K
   refine den_stop ?_
   exact ⟨(k + 1, vw5_14_0, fw5_14_0), by simp [HasL, puts_at], ⟨by first | omega | (dsimp only; omega), how5_14_0, (hfw5_14_0.mono (by omega)), (Sub.fresh hfw5_14_0 (by omega)), cL2⟩, by first | omega | (dsimp only; omega)⟩
  ·try simp only [decide_eq_true_eq, decide_eq_false_iff_not, beq_iff_eq, beq_eq_false_iff_ne, bne_iff_ne, ne_eq, Bool.not_eq_true', Bool.not_eq_false', Bool.and_eq_true, Bool.or_eq_true, bne_eq_false_iff_eq] at c0
   refine den_exit ?_
   refine denX_code ?_
   refine denX_stop ?_
   refine denX_hit ?_
   refine den_seq ?_
   refine den_region TTok ?_
   intro K hK
   simp -implicitDefEqProofs (disch := first | decide | assumption | omega) only [go_sem, RdS.len rR sl36, RdS.idx rR sl36, RdS.cellB rR (Ext.pres eB), RdS.cells rR, RdS.len rv sl22, RdS.idx rv sl22, R1.intB rv (Ext.pres eB), RdS.cells rv, RdS.len (OS.rd hO) sl22, RdS.idx (OS.rd hO) sl22, R1.intN (OS.rd hO), RdS.cells (OS.rd hO), wrap_id]
   refine hK _ _ ?_
   clear hK K
   refine den_ret ?_
   simp (disch := decide) only [resP_1, puts_same, puts_ne]
   rw [show restN p R v k = restP p R v by rw [restP, show R.length = k by omega]] at hO
   exact ⟨_, _, rfl, hO, hfhO.mono (by omega), eB⟩
end Go.Proofs.Ytbplnadngahgaaa

namespace Go.Proofs.Ytbplnadngahgaaa
open Go
theorem idxP_cases {α : Type} {f : α → Bool} {xs : List α} (d : α) : (idxP f xs = -1 ∧ ∀ j, j < xs.length → f (xs.getD j d) = false) ∨ ∃ k : Nat, k < xs.length ∧ idxP f xs = k ∧ f (xs.getD k d) = true := by
 have key : ∀ n, n ≤ xs.length → (∀ j, j < n → f (xs.getD j d) = false) ∨ ∃ k : Nat, k < n ∧ (∀ j, j < k → f (xs.getD j d) = false) ∧ f (xs.getD k d) = true := by
  intro n
  induction n with
  | zero => intro _; exact .inl fun j hj => by omega
  | succ n ih =>
   intro hn
   rcases ih (by omega) with h | ⟨k, hk, h⟩
   ·by_cases e : f (xs.getD n d) = true
    ·exact .inr ⟨n, by omega, h, e⟩
    ·exact .inl fun j hj => by
      rcases Nat.lt_succ_iff_lt_or_eq.1 hj with h' | h'
      ·exact h j h'
      ·rw [h']; simpa using e
   ·exact .inr ⟨k, by omega, h⟩
 rcases key xs.length (Nat.le_refl _) with h | ⟨k, hk, h1, h2⟩
 ·exact .inl ⟨idxP_none (all_getD (d := d) h), h⟩
 ·exact .inr ⟨k, hk, idxP_at hk h1 h2, h2⟩
theorem drop_getD {α : Type} {xs : List α} {n j : Nat} {d : α} : (xs.drop n).getD j d = xs.getD (n + j) d := by
 rw [List.getD_eq_getElem?_getD, List.getElem?_drop, List.getD_eq_getElem?_getD]
theorem set_self {S : List (List Int)} {d : Nat} (hd : d < S.length) : S.set d (S.getD d default) = S := by
 rw [List.getD_eq_getElem?_getD, List.getElem?_eq_getElem hd]; exact List.set_getElem_self hd
theorem clrP_zero (p : Int) (d c : Nat) (S : List (List Int)) : clrP p d c S 0 = S := by
 rw [clrP]
 apply List.ext_getElem (by simp)
 intro i h1 h2
 simp only [List.getElem_map, List.getElem_range]
 rw [if_neg (by omega), List.getD_eq_getElem?_getD, List.getElem?_eq_getElem h2]; rfl
theorem clr_same {p : Int} {d c : Nat} {S : List (List Int)} {i : Nat} (h : i = d) : clrP p d c S (i + 1) = clrP p d c S i := by
 rw [clrP, clrP]
 apply List.map_congr_left
 intro q _
 by_cases h1 : q < i ∧ q ≠ d
 ·rw [if_pos h1, if_pos ⟨by omega, h1.2⟩]
 ·rw [if_neg h1, if_neg (by omega)]
theorem clr_upd {p : Int} {d c : Nat} {S : List (List Int)} {i : Nat} (h : i ≠ d) (hi : i < S.length) (hd : d < S.length) : (clrP p d c S i).set i (lessRow p (((clrP p d c S i).getD i default).getD c 0) ((clrP p d c S i).getD i default) ((clrP p d c S i).getD d default)) = clrP p d c S (i + 1) := by
 have gi : (clrP p d c S i).getD i default = S.getD i default := by rw [clrP_get hi, if_neg (by omega)]
 have gd : (clrP p d c S i).getD d default = S.getD d default := by rw [clrP_get hd, if_neg (by omega)]
 have g3 : ∀ {xs ys : List (List Int)}, xs.length = ys.length → (∀ q, q < xs.length → xs.getD q default = ys.getD q default) → xs = ys := by
  intro xs ys hl hh
  apply List.ext_getElem hl
  intro q h1 h2
  have := hh q h1
  rwa [List.getD_eq_getElem?_getD, List.getD_eq_getElem?_getD, List.getElem?_eq_getElem h1, List.getElem?_eq_getElem h2] at this
 rw [gi, gd]
 refine g3 (by rw [List.length_set, clrP_len, clrP_len]) (fun q hq => ?_)
 rw [List.length_set, clrP_len] at hq
 rw [getD_set (by rw [clrP_len]; exact hi), clrP_get hq, clrP_get hq]
 by_cases e : i = q
 ·subst e
  rw [if_pos rfl, if_pos ⟨by omega, h⟩]
 ·rw [if_neg e]
  by_cases h1 : q < i ∧ q ≠ d
  ·rw [if_pos h1, if_pos ⟨by omega, h1.2⟩]
  ·rw [if_neg h1, if_neg (by omega)]
theorem swapP_fst {M : List (List Int)} {d a : Nat} (hd : d < M.length) (ha : a < M.length) : (swapP M d a).getD d default = M.getD a default := by
 rw [swapP_get hd ha]
 by_cases e : a = d
 ·rw [if_pos e, e]
 ·rw [if_neg e, if_pos rfl]
theorem ech_nil {p : Int} (hp : 1 < p) : ech p [] = [] := ech_eq (w := 0) (l := fun i => i) hp Rr.nil Eqv.refl (fun h => absurd rfl h)
theorem mul36A {x y p : Int} (hx : 0 ≤ x ∧ x < p) (hy : 0 ≤ y ∧ y < p) (hp : p ≤ 7) : 0 ≤ x * y ∧ x * y ≤ 36 := mul36 hx hy hp

set_option maxRecDepth 100000 in
theorem red1_ok (c : Nat) (v : Value) (xs : List Int) (b : Nat) (h : Heap) (hv : R1 h v xs) (hb : BoxAt h b #[.int .i64 (c : Int)] 3) (hc : c < xs.length) : CallA Try.prog 145 #[v, .pointer (some ⟨b, 0, none⟩)] h fun v' h' => v' = .bool (xs.getD c 0 != 0) ∧ h' = h := by
 have hle := RdS.le hv
 refine callA_intro TTok (args := [_, _]) Try.func145 (by kernel_rfl) rfl 9 rfl (by simp) [.tmp 3] rfl ?_
 simp only [idxs, Nat.reduceAdd]
 refine den_seq ?_
 refine den_region TTok ?_
 intro K hK
 simp -implicitDefEqProofs (disch := first | decide | assumption | omega) only [go_sem, RdS.len hv sl22, RdS.idx hv sl22, R1.intB hv (HPres.refl _), RdS.cells hv, BoxAt.cell hb, wrap_id, Int.toNat_natCast]
 refine hK _ _ ?_
 clear hK K
 refine den_seq ?_
 refine den_region TTok ?_
 intro K hK
 simp -implicitDefEqProofs (disch := first | decide | assumption | omega) only [go_sem, ld2, ld3, RdS.len hv sl22, RdS.idx hv sl22, R1.intB hv (HPres.refl _), RdS.cells hv, BoxAt.cell hb, wrap_id, Int.toNat_natCast]
 refine hK _ _ ?_
 clear hK K
 refine den_ret ?_
 simp (disch := decide) only [resP_1, puts_same, puts_ne]
 exact ⟨by first | rfl | trivial, trivial⟩

set_option maxRecDepth 100000 in
theorem iReduce_ok (vR : Value) (p : Int) (R : List (List Int)) (h : Heap) (rR : R2 h vR R) {w : Nat} (hP : isP p = true) (hT : ∀ r ∈ R, r.length = w ∧ Bnd p r) (hw : w ≤ 1000) (hl : R.length ≤ 1000) : CallA Try.prog 111 #[.int .i64 p, vR] h fun v' h' => ∃ w0 f0, v' = w0 ∧ O2 h' w0 (ech p R) f0 ∧ Fresh h.size f0 ∧ Ext h h' := by
 have hleR := RdS.le rR
 have hp := isP_two hP
 refine callA_intro TTok (args := [_, _]) Try.func111 (by kernel_rfl) rfl 134 rfl (by simp) [.tmp 4] rfl ?_
 simp only [idxs, Nat.reduceAdd]
 refine den_seq ?_
 refine den_region TTok ?_
 intro K hK
 simp -implicitDefEqProofs (disch := first | decide | assumption | omega) only [go_sem, RdS.len rR sl36, RdS.idx rR sl36, RdS.cellB rR (HPres.refl _), RdS.cells rR, wrap_id, Int.toNat_zero]
 refine hK _ _ ?_
 clear hK K
 refine den_seq ?_
 refine den_region TTok ?_
 intro K hK
 simp -implicitDefEqProofs (disch := first | decide | assumption | omega) only [go_sem, RdS.len rR sl36, RdS.idx rR sl36, RdS.cellB rR (HPres.refl _), RdS.cells rR, wrap_id, Int.toNat_zero]
 refine op_bs0 sz36 O1 ?_
 intro v1_0 h1_0 ho1_0 e1_0
 have := Ext.size e1_0
 have eB := e1_0
 have hfho1_0 : Fresh h.size [h.size] := Fresh.one _
 have hlho1_0 := OS.lt ho1_0
 try simp -implicitDefEqProofs (disch := first | decide | assumption | omega) only [go_sem, RdS.len rR sl36, RdS.idx rR sl36, RdS.cellB rR (Ext.pres eB), RdS.cells rR, RdS.len (OS.rd ho1_0) sl36, RdS.idx (OS.rd ho1_0) sl36, RdS.cellN (OS.rd ho1_0), RdS.cells (OS.rd ho1_0), wrap_id, Int.toNat_zero]
 refine hK _ _ ?_
 clear hK K
 refine den_seq ?_
 refine den_seq ?_
 refine den_region TTok ?_
 intro K hK
 simp -implicitDefEqProofs (disch := first | decide | assumption | omega) only [go_sem, RdS.len rR sl36, RdS.idx rR sl36, RdS.cellB rR (Ext.pres eB), RdS.cells rR, RdS.len (OS.rd ho1_0) sl36, RdS.idx (OS.rd ho1_0) sl36, RdS.cellN (OS.rd ho1_0), RdS.cells (OS.rd ho1_0), wrap_id, Int.toNat_zero]
 refine hK _ _ ?_
 clear hK K
 refine den_block ?_
 refine den_sel [5, 17, 0, 15, 16] ?_
 intro env_1
 simp only [go_sem]
 refine den_loopS (σ := Nat × Value × List Nat) (fun st_ => [(5, st_.2.1), (17, .int .i64 (st_.1 : Int))]) (fun st_ H => (st_.1 ≤ R.length) ∧ (O2 H st_.2.1 (R.take st_.1) st_.2.2) ∧ (Fresh (h.size) st_.2.2) ∧ (Sub [h.size] h1_0.size st_.2.2) ∧ (Chg [h.size] h1_0 H)) (fun st_ => R.length - st_.1) (0, v1_0, [h.size]) ?_ ?_
 ·exact ⟨by first | (simp; done) | (dsimp only; omega) | (simp; omega), by simpa using ho1_0, hfho1_0, Sub.refl, Chg.refl _ _⟩
 ·rintro ⟨k, vhL, fphL⟩ h4 ee3 ⟨hi0, hL, hfhL, sbhL, cL2⟩
  dsimp only at hi0 hL hfhL sbhL cL2
  have := cL2.size
  replace eB := Ext.then eB cL2 (ge_of hfho1_0 (by omega))
  have hlhL := OS.lt hL
  simp only [List.cons_append, List.nil_append]
  refine den_seq ?_
  refine den_region TTok ?_
  intro K hK
  simp -implicitDefEqProofs (disch := first | decide | assumption | omega) only [go_sem, RdS.len rR sl36, RdS.idx rR sl36, RdS.cellB rR (Ext.pres eB), RdS.cells rR, RdS.len (OS.rd hL) sl36, RdS.idx (OS.rd hL) sl36, RdS.cellN (OS.rd hL), RdS.cells (OS.rd hL), wrap_id, Int.toNat_zero]
  refine hK _ _ ?_
  clear hK K
  refine den_seq ?_
  refine den_cond rfl (fun c0 => ?_) (fun c0 => ?_)
  ·try simp only [decide_eq_true_eq, decide_eq_false_iff_not, beq_iff_eq, beq_eq_false_iff_ne, bne_iff_ne, ne_eq, Bool.not_eq_true', Bool.not_eq_false', Bool.and_eq_true, Bool.or_eq_true, bne_eq_false_iff_eq] at c0
   refine den_skip ?_
   refine den_seq ?_
   refine den_block ?_
   refine den_seq ?_
   refine den_region TTok ?_
   intro K hK
   have hr5 := RdS.rowN rR k (by omega)
   have hlhr5 := RdS.le hr5
   simp -implicitDefEqProofs (disch := first | decide | assumption | omega) only [go_sem, ld22, RdS.len rR sl36, RdS.idx rR sl36, RdS.cellB rR (Ext.pres eB), RdS.cells rR, RdS.len hr5 sl22, RdS.idx hr5 sl22, R1.intB hr5 (Ext.pres eB), RdS.cells hr5, RdS.len (OS.rd hL) sl36, RdS.idx (OS.rd hL) sl36, RdS.cellN (OS.rd hL), RdS.cells (OS.rd hL), wrap_id, Int.toNat_zero]
   refine hK _ _ ?_
   clear hK K
   have hri_ := (hT _ (getD_mem (show k < R.length by omega))).1
   have hlt_ : (R.take k).length = k := by simp; omega
   refine den_region TTok ?_
   intro K hK
   simp -implicitDefEqProofs (disch := first | decide | assumption | omega) only [go_sem, RdS.len rR sl36, RdS.idx rR sl36, RdS.cellB rR (Ext.pres eB), RdS.cells rR, RdS.len hr5 sl22, RdS.idx hr5 sl22, R1.intB hr5 (Ext.pres eB), RdS.cells hr5, RdS.len (OS.rd hL) sl36, RdS.idx (OS.rd hL) sl36, RdS.cellN (OS.rd hL), RdS.cells (OS.rd hL), wrap_id, Int.toNat_zero]
   try simp -implicitDefEqProofs (disch := first | decide | assumption | omega) only [go_sem, RdS.len rR sl36, RdS.idx rR sl36, RdS.cellB rR (Ext.pres eB), RdS.cells rR, RdS.len hr5 sl22, RdS.idx hr5 sl22, R1.intB hr5 (Ext.pres eB), RdS.cells hr5, RdS.len (OS.rd hL) sl36, RdS.idx (OS.rd hL) sl36, RdS.cellN (OS.rd hL), RdS.cells (OS.rd hL), wrap_id, Int.toNat_zero]
   refine CallA.mono (clone1_ok _ ((R).getD k default) _ (RdS.pres hr5 (Ext.pres eB)) (by omega)) ?_
   intro vw5_2_0 h5_2
   rintro ⟨zvw5_2_0, fw5_2_0, rfl, how5_2_0, hfw5_2_0, e5_2⟩
   replace hL := OS.ext hL e5_2
   have := Ext.size e5_2
   replace eB := Ext.trans eB e5_2
   replace cL2 := Chg.stepE cL2 e5_2
   have hlhow5_2_0 := OS.lt how5_2_0
   try simp -implicitDefEqProofs (disch := first | decide | assumption | omega) only [go_sem, RdS.len rR sl36, RdS.idx rR sl36, RdS.cellB rR (Ext.pres eB), RdS.cells rR, RdS.len hr5 sl22, RdS.idx hr5 sl22, R1.intB hr5 (Ext.pres eB), RdS.cells hr5, RdS.len (OS.rd hL) sl36, RdS.idx (OS.rd hL) sl36, RdS.cellN (OS.rd hL), RdS.cells (OS.rd hL), RdS.len (OS.rd how5_2_0) sl22, RdS.idx (OS.rd how5_2_0) sl22, R1.intN (OS.rd how5_2_0), RdS.cells (OS.rd how5_2_0), wrap_id, Int.toNat_zero]
   refine op_bs1 sz36 rfl (OS.one how5_2_0).2 ?_
   try simp -implicitDefEqProofs (disch := first | decide | assumption | omega) only [go_sem, RdS.len rR sl36, RdS.idx rR sl36, RdS.cellB rR (Ext.pres eB), RdS.cells rR, RdS.len hr5 sl22, RdS.idx hr5 sl22, R1.intB hr5 (Ext.pres eB), RdS.cells hr5, RdS.len (OS.rd hL) sl36, RdS.idx (OS.rd hL) sl36, RdS.cellN (OS.rd hL), RdS.cells (OS.rd hL), RdS.len (OS.rd how5_2_0) sl22, RdS.idx (OS.rd how5_2_0) sl22, R1.intN (OS.rd how5_2_0), RdS.cells (OS.rd how5_2_0), wrap_id, Int.toNat_zero]
   refine op_append1 sz36 hL hfhL.nodup how5_2_0 hfw5_2_0.nodup (apart_lt hlhL hfw5_2_0 (by omega)) (by first | omega | (simp; omega)) rfl rfl ?_
   intro v5_4 h5_4 fp5_4 ho5_4 hn5_4 hs5_4 c5_4
   have hsz5_4 := c5_4.size
   have hfho5_4 : Fresh h.size fp5_4 := Fresh.appd hfhL hfw5_2_0 (by omega) (by omega) hn5_4 hs5_4
   have sb6 : Sub [h.size] h1_0.size fp5_4 := Sub.grow sbhL (Sub.fresh hfw5_2_0 (by omega)) (by omega) hs5_4
   have := c5_4.size
   replace eB := Ext.then eB c5_4 (ge_of hfhL (by omega))
   replace cL2 := Chg.step cL2 c5_4 sbhL
   have hlho5_4 := OS.lt ho5_4
   try simp -implicitDefEqProofs (disch := first | decide | assumption | omega) only [go_sem, RdS.len rR sl36, RdS.idx rR sl36, RdS.cellB rR (Ext.pres eB), RdS.cells rR, RdS.len hr5 sl22, RdS.idx hr5 sl22, R1.intB hr5 (Ext.pres eB), RdS.cells hr5, RdS.len (OS.rd ho5_4) sl36, RdS.idx (OS.rd ho5_4) sl36, RdS.cellN (OS.rd ho5_4), RdS.cells (OS.rd ho5_4), wrap_id, Int.toNat_zero]
   refine hK _ _ ?_
   clear hK K
   refine den_blk ?_
   refine den_region TTok ?_
   intro K hK
   simp -implicitDefEqProofs (disch := first | decide | assumption | omega) only [go_sem, RdS.len rR sl36, RdS.idx rR sl36, RdS.cellB rR (Ext.pres eB), RdS.cells rR, RdS.len hr5 sl22, RdS.idx hr5 sl22, R1.intB hr5 (Ext.pres eB), RdS.cells hr5, RdS.len (OS.rd ho5_4) sl36, RdS.idx (OS.rd ho5_4) sl36, RdS.cellN (OS.rd ho5_4), RdS.cells (OS.rd ho5_4), wrap_id, Int.toNat_zero]
   refine hK _ _ ?_
   clear hK K
   refine den_stop ?_
   rw [← take_snoc (by omega)] at ho5_4
   exact ⟨(k + 1, v5_4, fp5_4), by simp [HasL, puts_at], ⟨by first | omega | (dsimp only; omega), ho5_4, hfho5_4, sb6, cL2⟩, by first | omega | (dsimp only; omega)⟩
  ·try simp only [decide_eq_true_eq, decide_eq_false_iff_not, beq_iff_eq, beq_eq_false_iff_ne, bne_iff_ne, ne_eq, Bool.not_eq_true', Bool.not_eq_false', Bool.and_eq_true, Bool.or_eq_true, bne_eq_false_iff_eq] at c0
   refine den_exit ?_
   refine denX_code ?_
   refine denX_stop ?_
   refine denX_hit ?_
   refine den_seq ?_
   refine den_seq ?_
   rw [List.take_of_length_le (by omega)] at hL
   have hw0 : 0 < R.length → (R.getD 0 default).length = w := fun h0_ => (hT _ (getD_mem h0_)).1
   refine den_region TTok ?_
   intro K hK
   simp -implicitDefEqProofs (disch := first | decide | assumption | omega) only [go_sem, RdS.len rR sl36, RdS.idx rR sl36, RdS.cellB rR (Ext.pres eB), RdS.cells rR, RdS.len (OS.rd hL) sl36, RdS.idx (OS.rd hL) sl36, RdS.cellN (OS.rd hL), RdS.cells (OS.rd hL), wrap_id, Int.toNat_zero]
   refine hK _ _ ?_
   clear hK K
   refine den_cond rfl (fun c1 => ?_) (fun c1 => ?_)
   ·try simp only [decide_eq_true_eq, decide_eq_false_iff_not, beq_iff_eq, beq_eq_false_iff_ne, bne_iff_ne, ne_eq, Bool.not_eq_true', Bool.not_eq_false', Bool.and_eq_true, Bool.or_eq_true, bne_eq_false_iff_eq] at c1
    refine den_seq ?_
    refine den_region TTok ?_
    intro K hK
    simp -implicitDefEqProofs (disch := first | decide | assumption | omega) only [go_sem, RdS.len rR sl36, RdS.idx rR sl36, RdS.cellB rR (Ext.pres eB), RdS.cells rR, RdS.len (OS.rd hL) sl36, RdS.idx (OS.rd hL) sl36, RdS.cellN (OS.rd hL), RdS.cells (OS.rd hL), wrap_id, Int.toNat_zero]
    refine hK _ _ ?_
    clear hK K
    refine den_ret ?_
    simp (disch := decide) only [resP_1, puts_same, puts_ne]
    have hz : R = [] := List.length_eq_zero_iff.1 (by omega)
    subst hz
    rw [ech_nil (isP_two hP).1]
    exact ⟨_, _, rfl, hL, hfhL.mono (by omega), eB⟩
   ·try simp only [decide_eq_true_eq, decide_eq_false_iff_not, beq_iff_eq, beq_eq_false_iff_ne, bne_iff_ne, ne_eq, Bool.not_eq_true', Bool.not_eq_false', Bool.and_eq_true, Bool.or_eq_true, bne_eq_false_iff_eq] at c1
    refine den_skip ?_
    refine den_seq ?_
    refine den_region TTok ?_
    intro K hK
    simp -implicitDefEqProofs (disch := first | decide | assumption | omega) only [go_sem, RdS.len rR sl36, RdS.idx rR sl36, RdS.cellB rR (Ext.pres eB), RdS.cells rR, RdS.len (OS.rd hL) sl36, RdS.idx (OS.rd hL) sl36, RdS.cellN (OS.rd hL), RdS.cells (OS.rd hL), wrap_id, Int.toNat_zero]
    refine hK _ _ ?_
    clear hK K
    refine den_seq ?_
    refine den_seq ?_
    have hwz := hw0 (by omega)
    have hz10 := RdS.cellN (OS.rd hL) 0 (by omega)
    rw [addr_zero] at hz10
    refine den_region TTok ?_
    intro K hK
    have hr7 := RdS.rowN (OS.rd hL) 0 (by omega)
    have hlhr7 := RdS.le hr7
    have xr8 := Ext.refl h4
    simp -implicitDefEqProofs (disch := first | decide | assumption | omega) only [go_sem, ld22, RdS.len rR sl36, RdS.idx rR sl36, RdS.cellB rR (Ext.pres eB), RdS.cells rR, RdS.len (OS.rd hL) sl36, RdS.idx (OS.rd hL) sl36, RdS.cellN (OS.rd hL), RdS.cells (OS.rd hL), RdS.len hr7 sl22, RdS.idx hr7 sl22, R1.intB hr7 (Ext.pres xr8), RdS.cells hr7, wrap_id, Int.toNat_zero, hz10]
    refine hK _ _ ?_
    clear hK K
    refine den_block ?_
    refine den_sel [8, 35, 0, 5, 34] ?_
    intro env_9
    simp only [go_sem]
    refine den_loopS (σ := Nat × Nat × List (List Int) × (Nat → Nat) × List Nat) (fun st_ => [(8, .int .i64 (st_.2.1 : Int)), (35, .int .i64 (st_.1 : Int))]) (fun st_ H => (RI p w R st_.2.2.1 st_.2.2.2.1 st_.2.1 st_.1) ∧ (st_.1 ≤ w) ∧ (O2 H vhL (st_.2.2.1) st_.2.2.2.2) ∧ (Fresh (h.size) st_.2.2.2.2) ∧ (Sub fphL h4.size st_.2.2.2.2) ∧ (Chg fphL h4 H)) (fun st_ => w - st_.1) (0, 0, R, (fun i => i), fphL) ?_ ?_
    ·exact ⟨RI.start hT, by dsimp only; omega, by exact hL, hfhL, Sub.refl, Chg.refl _ _⟩
    ·rintro ⟨c, d, M, l, fphM⟩ h12 ee11 ⟨hri, hcw_, hM, hfhM, sbhM, cL10⟩
     dsimp only at hri hcw_ hM hfhM sbhM cL10
     have := cL10.size
     replace eB := Ext.then eB cL10 (ge_of hfhL (by omega))
     have hlhM := OS.lt hM
     simp only [List.cons_append, List.nil_append]
     have hln := hri.ln
     have hdl := hri.dl
     refine den_seq ?_
     refine den_region TTok ?_
     intro K hK
     simp -implicitDefEqProofs (disch := first | decide | assumption | omega) only [go_sem, RdS.len rR sl36, RdS.idx rR sl36, RdS.cellB rR (Ext.pres eB), RdS.cells rR, RdS.len (OS.rd hM) sl36, RdS.idx (OS.rd hM) sl36, RdS.cellN (OS.rd hM), RdS.cells (OS.rd hM), wrap_id, Int.toNat_zero]
     refine hK _ _ ?_
     clear hK K
     refine den_seq ?_
     refine den_cond rfl (fun c2 => ?_) (fun c2 => ?_)
     ·try simp only [decide_eq_true_eq, decide_eq_false_iff_not, beq_iff_eq, beq_eq_false_iff_ne, bne_iff_ne, ne_eq, Bool.not_eq_true', Bool.not_eq_false', Bool.and_eq_true, Bool.or_eq_true, bne_eq_false_iff_eq] at c2
      refine den_skip ?_
      refine den_seq ?_
      refine den_block ?_
      refine den_seq ?_
      refine den_region TTok ?_
      intro K hK
      simp -implicitDefEqProofs (disch := first | decide | assumption | omega) only [go_sem, RdS.len rR sl36, RdS.idx rR sl36, RdS.cellB rR (Ext.pres eB), RdS.cells rR, RdS.len (OS.rd hM) sl36, RdS.idx (OS.rd hM) sl36, RdS.cellN (OS.rd hM), RdS.cells (OS.rd hM), wrap_id, Int.toNat_zero]
      refine op_alloc (cs := #[.int .i64 0]) (by kernel_rfl) ?_
      intro h12_1 e12_1 hb12_1 z12_1
      replace hM := OS.ext hM e12_1
      have := Ext.size e12_1
      replace eB := Ext.trans eB e12_1
      replace cL10 := Chg.stepE cL10 e12_1
      have hfhb12_1 : Fresh h12.size [h12.size] := Fresh.one _
      have hlhb12_1 := one_lt (show h12.size < h12_1.size by omega)
      try simp -implicitDefEqProofs (disch := first | decide | assumption | omega) only [go_sem, RdS.len rR sl36, RdS.idx rR sl36, RdS.cellB rR (Ext.pres eB), RdS.cells rR, RdS.len (OS.rd hM) sl36, RdS.idx (OS.rd hM) sl36, RdS.cellN (OS.rd hM), RdS.cells (OS.rd hM), BoxAt.cell hb12_1, wrap_id, Int.toNat_zero]
      refine op_storeB (cs' := #[.int .i64 ((c : Int))]) st3 hb12_1 rfl rfl rfl (by simp) (allOne_mem (l := [.int .i64 ((c : Int))]) ⟨rfl, trivial⟩) rfl ?_
      intro h12_2 hb12_1 c12_2
      replace hM := OS.chg hM c12_2 (apart_lt hlhM hfhb12_1 (by omega))
      have := c12_2.size
      replace eB := Ext.then eB c12_2 (ge_of hfhb12_1 (by omega))
      replace cL10 := Chg.step cL10 c12_2 (Sub.fresh hfhb12_1 (by omega))
      try simp -implicitDefEqProofs (disch := first | decide | assumption | omega) only [go_sem, RdS.len rR sl36, RdS.idx rR sl36, RdS.cellB rR (Ext.pres eB), RdS.cells rR, RdS.len (OS.rd hM) sl36, RdS.idx (OS.rd hM) sl36, RdS.cellN (OS.rd hM), RdS.cells (OS.rd hM), BoxAt.cell hb12_1, wrap_id, Int.toNat_zero]
      refine hK _ _ ?_
      clear hK K
      refine den_seq ?_
      obtain ⟨vs, hes, hRs⟩ := RdS.dropV (k := .i64) (OS.rd hM) sl36 (lo := (d : Int)) (by omega) (by omega)
      rw [Int.toNat_natCast] at hRs
      have hdj : ∀ j, j < (M.drop d).length → ((M.drop d).getD j default).length = w := fun j hj => by
       rw [List.length_drop] at hj
       rw [drop_getD]; exact hri.len (d + j) (by omega)
      refine den_region TTok ?_
      intro K hK
      simp -implicitDefEqProofs (disch := first | decide | assumption | omega) only [go_sem, RdS.len rR sl36, RdS.idx rR sl36, RdS.cellB rR (Ext.pres eB), RdS.cells rR, RdS.len (OS.rd hM) sl36, RdS.idx (OS.rd hM) sl36, RdS.cellN (OS.rd hM), RdS.cells (OS.rd hM), BoxAt.cell hb12_1, wrap_id, Int.toNat_zero, hes, Option.map_some, Option.map_none]
      try simp -implicitDefEqProofs (disch := first | decide | assumption | omega) only [go_sem, RdS.len rR sl36, RdS.idx rR sl36, RdS.cellB rR (Ext.pres eB), RdS.cells rR, RdS.len (OS.rd hM) sl36, RdS.idx (OS.rd hM) sl36, RdS.cellN (OS.rd hM), RdS.cells (OS.rd hM), BoxAt.cell hb12_1, wrap_id, Int.toNat_zero, hes, Option.map_some, Option.map_none]
      refine CallA.mono (idx2_ok _ (M.drop d) _ _ (fun r : List Int => r.getD c 0 != 0) _ hRs (fun j hj h' e => by
  simp only [List.append_toArray, List.cons_append, List.nil_append]
  exact CallA.mono (red1_ok c _ _ _ _ ((RdS.rowN hRs j hj).pres (Ext.pres e)) (BoxAt.ext hb12_1 e) (by rw [hdj j hj]; omega)) (fun _ _ ⟨e1, e2⟩ => ⟨e1, e2 ▸ Ext.refl _⟩))) ?_
      intro v_ h13_4
      rintro ⟨rfl, e13_4⟩
      replace hM := OS.ext hM e13_4
      replace hb12_1 := BoxAt.ext hb12_1 e13_4
      have := Ext.size e13_4
      replace eB := Ext.trans eB e13_4
      replace cL10 := Chg.stepE cL10 e13_4
      try simp -implicitDefEqProofs (disch := first | decide | assumption | omega) only [go_sem, RdS.len rR sl36, RdS.idx rR sl36, RdS.cellB rR (Ext.pres eB), RdS.cells rR, RdS.len (OS.rd hM) sl36, RdS.idx (OS.rd hM) sl36, RdS.cellN (OS.rd hM), RdS.cells (OS.rd hM), BoxAt.cell hb12_1, wrap_id, Int.toNat_zero, hes, Option.map_some, Option.map_none]
      refine hK _ _ ?_
      clear hK K
      refine den_seq ?_
      refine den_seq ?_
      refine den_region TTok ?_
      intro K hK
      simp -implicitDefEqProofs (disch := first | decide | assumption | omega) only [go_sem, RdS.len rR sl36, RdS.idx rR sl36, RdS.cellB rR (Ext.pres eB), RdS.cells rR, RdS.len (OS.rd hM) sl36, RdS.idx (OS.rd hM) sl36, RdS.cellN (OS.rd hM), RdS.cells (OS.rd hM), BoxAt.cell hb12_1, wrap_id, Int.toNat_zero]
      refine hK _ _ ?_
      clear hK K
      refine den_cond rfl (fun c3 => ?_) (fun c3 => ?_)
      ·try simp only [decide_eq_true_eq, decide_eq_false_iff_not, beq_iff_eq, beq_eq_false_iff_ne, bne_iff_ne, ne_eq, Bool.not_eq_true', Bool.not_eq_false', Bool.and_eq_true, Bool.or_eq_true, bne_eq_false_iff_eq] at c3
       have hnone : ∀ q, d ≤ q → q < M.length → g2 M q c = 0 := fun q hq1 hq2 => by
        rcases idxP_cases (f := fun r : List Int => r.getD c 0 != 0) (xs := M.drop d) default with ⟨_, hz⟩ | ⟨k_, _, hk2, _⟩
        ·have := hz (q - d) (by rw [List.length_drop]; omega)
         rw [drop_getD, show d + (q - d) = q by omega] at this
         simpa using this
        ·omega
       refine den_exit ?_
       refine denX_code ?_
       refine denX_hit ?_
       refine den_region TTok ?_
       intro K hK
       simp -implicitDefEqProofs (disch := first | decide | assumption | omega) only [go_sem, RdS.len rR sl36, RdS.idx rR sl36, RdS.cellB rR (Ext.pres eB), RdS.cells rR, RdS.len (OS.rd hM) sl36, RdS.idx (OS.rd hM) sl36, RdS.cellN (OS.rd hM), RdS.cells (OS.rd hM), wrap_id, Int.toNat_zero]
       refine hK _ _ ?_
       clear hK K
       refine den_stop ?_
       exact ⟨(c + 1, d, M, l, fphM), by simp [HasL, puts_at], ⟨hri.skip (fun q hq1 hq2 => hnone q hq1 hq2), by dsimp only; omega, hM, hfhM, sbhM, cL10⟩, by first | omega | (dsimp only; omega)⟩
      ·try simp only [decide_eq_true_eq, decide_eq_false_iff_not, beq_iff_eq, beq_eq_false_iff_ne, bne_iff_ne, ne_eq, Bool.not_eq_true', Bool.not_eq_false', Bool.and_eq_true, Bool.or_eq_true, bne_eq_false_iff_eq] at c3
       obtain ⟨a, ha, hea, hfa⟩ : ∃ k : Nat, k < (M.drop d).length ∧ idxP (fun r : List Int => r.getD c 0 != 0) (M.drop d) = (k : Int) ∧ (fun r : List Int => r.getD c 0 != 0) ((M.drop d).getD k default) = true := by
        rcases idxP_cases (f := fun r : List Int => r.getD c 0 != 0) (xs := M.drop d) default with ⟨hm, _⟩ | h
        ·omega
        ·exact h
       rw [List.length_drop] at ha
       have haM : d + a < M.length := by omega
       have hpc : (M.getD (d + a) default).getD c 0 ≠ 0 := by rw [drop_getD] at hfa; simpa using hfa
       have eda : ((d : Int) + (a : Int)).toNat = d + a := by omega
       refine den_skip ?_
       refine den_seq ?_
       refine den_draw TTok mixed [17, 19] [(0, true), (1, true), (2, true), (3, true), (4, true), (5, true), (6, true), (7, true), (8, true), (9, true), (10, true), (11, true), (12, true), (13, true), (14, true), (15, true), (16, true), (17, false), (18, true), (19, false)] (by kernel_rfl) ?_
       intro K hK
       have hr13 := RdS.rowN (OS.rd hM) (((d : Int) + (a : Int))).toNat (by omega)
       have hlhr13 := RdS.le hr13
       have xr14 := Ext.refl h13_4
       have hr15 := RdS.rowN (OS.rd hM) d (by omega)
       have hlhr15 := RdS.le hr15
       have xr16 := Ext.refl h13_4
       simp -implicitDefEqProofs (disch := first | decide | assumption | omega) only [go_sem, ld22, RdS.len rR sl36, RdS.idx rR sl36, RdS.cellB rR (Ext.pres eB), RdS.cells rR, RdS.len (OS.rd hM) sl36, RdS.idx (OS.rd hM) sl36, RdS.cellN (OS.rd hM), RdS.cells (OS.rd hM), BoxAt.cell hb12_1, RdS.len hr13 sl22, RdS.idx hr13 sl22, R1.intB hr13 (Ext.pres xr14), RdS.cells hr13, RdS.len hr15 sl22, RdS.idx hr15 sl22, R1.intB hr15 (Ext.pres xr16), RdS.cells hr15, wrap_id, Int.toNat_zero, hea]
       have hq := OS.swap hM hfhM.nodup (d := d) (a := d + a) (by omega) haM
       obtain ⟨hq1, hq2, hq3, hq4, fpS, hoS, hnS, hsS, cS⟩ := hq
       refine op_raw st22 hq1 hq3 rfl rfl ?_
       try simp (disch := decide) only [outv_some, outv_none, put_puts]
       refine plK_last (by decide) ?_
       try simp -implicitDefEqProofs (disch := first | decide | assumption | omega) only [go_sem, RdS.len rR sl36, RdS.idx rR sl36, RdS.cellB rR (Ext.pres eB), RdS.cells rR, RdS.len (OS.rd hM) sl36, RdS.idx (OS.rd hM) sl36, RdS.cellN (OS.rd hM), RdS.cells (OS.rd hM), BoxAt.cell hb12_1, RdS.len hr13 sl22, RdS.idx hr13 sl22, R1.intB hr13 (Ext.pres xr14), RdS.cells hr13, RdS.len hr15 sl22, RdS.idx hr15 sl22, R1.intB hr15 (Ext.pres xr16), RdS.cells hr15, wrap_id, Int.toNat_zero, hea]
       refine op_raw st22 hq2 hq4 rfl rfl ?_
       generalize (hset (hset h13_4 ((sA vhL).add d) (rowV h13_4 vhL (d + a))) ((sA vhL).add (d + a)) (rowV h13_4 vhL d)) = h15_19 at hoS cS ⊢
       have hszS := cS.size
       have hfhoS : Fresh h.size fpS := ⟨hnS, fun b hb => hfhM.ge b (hsS b hb)⟩
       have sb17 : Sub fphL h4.size fpS := fun b hb => sbhM b (hsS b hb)
       replace hb12_1 := BoxAt.chgA hb12_1 cS (apart_gt hfhb12_1 hlhM (by omega))
       have := cS.size
       replace eB := Ext.then eB cS (ge_of hfhM (by omega))
       replace cL10 := Chg.step cL10 cS sbhM
       have ap18 : Apart [h12.size] fpS := (fun b hb hq => (apart_gt hfhb12_1 hlhM (by omega)) b hb (hsS b hq))
       have hlhoS := OS.lt hoS
       obtain ⟨S, hS_⟩ : ∃ S, S = swapP M d (d + a) := ⟨_, rfl⟩
       rw [← hS_] at hoS
       have hri1 : RI p w R S l d c := hS_ ▸ hri.swap (by omega) haM
       have hSl := hri1.ln
       have hSd := hri1.len d (by omega)
       have hSb := hri1.bnd d (by omega)
       have hSc : (S.getD d default).getD c 0 ≠ 0 := by rw [hS_, swapP_fst (by omega) haM]; exact hpc
       have hSx := hSb.at (k := c) (by omega)
       have hiv := invP_ok hP (x := (S.getD d default).getD c 0) (by omega) hSx.2
       try simp (disch := decide) only [outv_some, outv_none, put_puts]
       refine plK_last (by decide) ?_
       try simp -implicitDefEqProofs (disch := first | decide | assumption | omega) only [go_sem, RdS.len rR sl36, RdS.idx rR sl36, RdS.cellB rR (Ext.pres eB), RdS.cells rR, RdS.len (OS.rd hoS) sl36, RdS.idx (OS.rd hoS) sl36, RdS.cellN (OS.rd hoS), RdS.cells (OS.rd hoS), BoxAt.cell hb12_1, wrap_id, Int.toNat_zero, hea]
       refine hK _ _ ?_
       clear hK K
       refine den_seq ?_
       have hcw : c < w := by omega
       refine den_draw TTok mixed [] [(0, true), (1, true), (2, true), (3, true), (4, true), (5, true), (6, true), (7, true), (8, false), (9, true)] (by kernel_rfl) ?_
       intro K hK
       have hr19 := RdS.rowN (OS.rd hoS) d (by omega)
       have hlhr19 := RdS.le hr19
       have xr20 := Ext.refl h15_19
       simp -implicitDefEqProofs (disch := first | decide | assumption | omega) only [go_sem, ld22, ld2, ld3, RdS.len rR sl36, RdS.idx rR sl36, RdS.cellB rR (Ext.pres eB), RdS.cells rR, RdS.len (OS.rd hoS) sl36, RdS.idx (OS.rd hoS) sl36, RdS.cellN (OS.rd hoS), RdS.cells (OS.rd hoS), BoxAt.cell hb12_1, RdS.len hr19 sl22, RdS.idx hr19 sl22, R1.intB hr19 (Ext.pres xr20), RdS.cells hr19, wrap_id, Int.toNat_zero]
       try simp -implicitDefEqProofs (disch := first | decide | assumption | omega) only [go_sem, RdS.len rR sl36, RdS.idx rR sl36, RdS.cellB rR (Ext.pres eB), RdS.cells rR, RdS.len (OS.rd hoS) sl36, RdS.idx (OS.rd hoS) sl36, RdS.cellN (OS.rd hoS), RdS.cells (OS.rd hoS), BoxAt.cell hb12_1, RdS.len hr19 sl22, RdS.idx hr19 sl22, R1.intB hr19 (Ext.pres xr20), RdS.cells hr19, wrap_id, Int.toNat_zero]
       refine CallA.mono (iInv_ok  p (((S).getD d default).getD c 0) _  hP (by omega)) ?_
       intro v_ h16_8
       rintro ⟨rfl, e16_8⟩
       replace hoS := OS.ext hoS e16_8
       replace hb12_1 := BoxAt.ext hb12_1 e16_8
       have := Ext.size e16_8
       replace eB := Ext.trans eB e16_8
       replace xr20 := Ext.trans xr20 e16_8
       replace cL10 := Chg.stepE cL10 e16_8
       try simp (disch := decide) only [outv_some, outv_none, put_puts]
       refine plK_pres (Ext.pres e16_8) ?_
       try simp -implicitDefEqProofs (disch := first | decide | assumption | omega) only [go_sem, RdS.len rR sl36, RdS.idx rR sl36, RdS.cellB rR (Ext.pres eB), RdS.cells rR, RdS.len (OS.rd hoS) sl36, RdS.idx (OS.rd hoS) sl36, RdS.cellN (OS.rd hoS), RdS.cells (OS.rd hoS), BoxAt.cell hb12_1, RdS.len hr19 sl22, RdS.idx hr19 sl22, R1.intB hr19 (Ext.pres xr20), RdS.cells hr19, wrap_id, Int.toNat_zero]
       refine hK _ _ ?_
       clear hK K
       refine den_seq ?_
       refine den_seq ?_
       refine den_region TTok ?_
       intro K hK
       have hr21 := RdS.rowN (OS.rd hoS) d (by omega)
       have hlhr21 := RdS.le hr21
       have xr22 := Ext.refl h16_8
       simp -implicitDefEqProofs (disch := first | decide | assumption | omega) only [go_sem, ld22, RdS.len rR sl36, RdS.idx rR sl36, RdS.cellB rR (Ext.pres eB), RdS.cells rR, RdS.len (OS.rd hoS) sl36, RdS.idx (OS.rd hoS) sl36, RdS.cellN (OS.rd hoS), RdS.cells (OS.rd hoS), BoxAt.cell hb12_1, RdS.len hr19 sl22, RdS.idx hr19 sl22, R1.intB hr19 (Ext.pres xr20), RdS.cells hr19, RdS.len hr21 sl22, RdS.idx hr21 sl22, R1.intB hr21 (Ext.pres xr22), RdS.cells hr21, wrap_id, Int.toNat_zero]
       refine hK _ _ ?_
       clear hK K
       refine den_block ?_
       refine den_sel [77, 0, 5, 8, 9, 11, 34, 35, 76] ?_
       intro env_23
       simp only [go_sem]
       refine den_loopS (σ := Nat × List Nat) (fun st_ => [(77, .int .i64 (st_.1 : Int))]) (fun st_ H => (st_.1 ≤ (S.getD d default).length) ∧ (O2 H vhL (S.set d (mix (sclRow p (invP p ((S.getD d default).getD c 0)) (S.getD d default)) (S.getD d default) st_.1)) st_.2) ∧ (Fresh (h.size) st_.2) ∧ (Sub fpS h16_8.size st_.2) ∧ (Chg fpS h16_8 H)) (fun st_ => (S.getD d default).length - st_.1) (0, fpS) ?_ ?_
       ·exact ⟨by first | (simp; done) | (dsimp only; omega) | (simp; omega), by rw [mix_zero, set_self (by omega)]; exact hoS, hfhoS, Sub.refl, Chg.refl _ _⟩
       ·rintro ⟨k, fphC⟩ h26 ee25 ⟨hi0, hC, hfhC, sbhC, cL24⟩
        dsimp only at hi0 hC hfhC sbhC cL24
        replace hb12_1 := BoxAt.chgA hb12_1 cL24 ap18
        have := cL24.size
        replace eB := Ext.then eB cL24 (ge_of hfhoS (by omega))
        replace cL10 := Chg.step cL10 cL24 sb17
        have ap27 : Apart [h12.size] fphC := Apart.sub_ hlhb12_1 (by omega) ap18 sbhC
        have sb28 : Sub fphL h4.size fphC := Sub.trans sbhC sb17 (by omega)
        have hlhC := OS.lt hC
        simp only [List.cons_append, List.nil_append]
        have hsl0 : (S.set d (mix (sclRow p (invP p ((S.getD d default).getD c 0)) (S.getD d default)) (S.getD d default) k)).length = S.length := List.length_set
        refine den_seq ?_
        refine den_region TTok ?_
        intro K hK
        simp -implicitDefEqProofs (disch := first | decide | assumption | omega) only [go_sem, RdS.len rR sl36, RdS.idx rR sl36, RdS.cellB rR (Ext.pres eB), RdS.cells rR, RdS.len (OS.rd hC) sl36, RdS.idx (OS.rd hC) sl36, RdS.cellN (OS.rd hC), RdS.cells (OS.rd hC), BoxAt.cell hb12_1, wrap_id, Int.toNat_zero]
        refine hK _ _ ?_
        clear hK K
        refine den_seq ?_
        refine den_cond rfl (fun c4 => ?_) (fun c4 => ?_)
        ·try simp only [decide_eq_true_eq, decide_eq_false_iff_not, beq_iff_eq, beq_eq_false_iff_ne, bne_iff_ne, ne_eq, Bool.not_eq_true', Bool.not_eq_false', Bool.and_eq_true, Bool.or_eq_true, bne_eq_false_iff_eq] at c4
         refine den_skip ?_
         refine den_seq ?_
         refine den_block ?_
         refine den_seq ?_
         refine den_region TTok ?_
         intro K hK
         simp -implicitDefEqProofs (disch := first | decide | assumption | omega) only [go_sem, RdS.len rR sl36, RdS.idx rR sl36, RdS.cellB rR (Ext.pres eB), RdS.cells rR, RdS.len (OS.rd hC) sl36, RdS.idx (OS.rd hC) sl36, RdS.cellN (OS.rd hC), RdS.cells (OS.rd hC), BoxAt.cell hb12_1, wrap_id, Int.toNat_zero]
         refine hK _ _ ?_
         clear hK K
         have hgd : (S.set d (mix (sclRow p (invP p ((S.getD d default).getD c 0)) (S.getD d default)) (S.getD d default) k)).getD d default = mix (sclRow p (invP p ((S.getD d default).getD c 0)) (S.getD d default)) (S.getD d default) k := by rw [getD_set (by omega), if_pos rfl]
         have hv20 : ((S.set d (mix (sclRow p (invP p ((S.getD d default).getD c 0)) (S.getD d default)) (S.getD d default) k)).getD d default).getD k 0 = (S.getD d default).getD k 0 := by rw [hgd, mix_get _ _ _ _ (sclR_len _ _ _) (by omega)]
         have hgl : ((S.set d (mix (sclRow p (invP p ((S.getD d default).getD c 0)) (S.getD d default)) (S.getD d default) k)).getD d default).length = w := by rw [hgd, mix_len _ _ _ (sclR_len _ _ _)]; exact hSd
         have hxk := hSb.at (k := k) (by omega)
         have hmu := mul36A (x := ((S.set d (mix (sclRow p (invP p ((S.getD d default).getD c 0)) (S.getD d default)) (S.getD d default) k)).getD d default).getD k 0) (y := (invP p ((S.getD d default).getD c 0))) (p := p) (by omega) ⟨by omega, hiv.1.2⟩ hp.2
         have hsl_ : (S.set d (mix (sclRow p (invP p ((S.getD d default).getD c 0)) (S.getD d default)) (S.getD d default) k)).length = S.length := List.length_set
         refine den_draw TTok mixed [17] [(0, true), (1, true), (2, true), (3, true), (4, true), (5, true), (6, true), (7, true), (8, true), (9, true), (10, true), (11, true), (12, true), (13, true), (14, true), (15, true), (16, true), (17, false)] (by kernel_rfl) ?_
         intro K hK
         have hr29 := RdS.rowN (OS.rd hC) d (by omega)
         have hlhr29 := RdS.le hr29
         have xr30 := Ext.refl h26
         have hr31 := RdS.rowN (OS.rd hC) d (by omega)
         have hlhr31 := RdS.le hr31
         have xr32 := Ext.refl h26
         simp -implicitDefEqProofs (disch := first | decide | assumption | omega) only [go_sem, ld22, ld2, RdS.len rR sl36, RdS.idx rR sl36, RdS.cellB rR (Ext.pres eB), RdS.cells rR, RdS.len (OS.rd hC) sl36, RdS.idx (OS.rd hC) sl36, RdS.cellN (OS.rd hC), RdS.cells (OS.rd hC), BoxAt.cell hb12_1, RdS.len hr29 sl22, RdS.idx hr29 sl22, R1.intB hr29 (Ext.pres xr30), RdS.cells hr29, RdS.len hr31 sl22, RdS.idx hr31 sl22, R1.intB hr31 (Ext.pres xr32), RdS.cells hr31, wrap_id, Int.toNat_zero]
         obtain ⟨fr20_17, hE20_17, hS20_17, hN20_17, hB20_17⟩ := OS.elem hC hfhC.nodup d (by omega)
         refine op_store1 (j := k) st2 hE20_17 hN20_17 (by first | omega | (simp; omega)) rfl rfl ?_
         intro h20_17 hF20_17 cE20_17
         have ho20_17 := hB20_17 _ _ cE20_17 hF20_17
         have c20_17 := cE20_17.mono hS20_17
         have hsz20_17 := c20_17.size
         replace hb12_1 := BoxAt.chgA hb12_1 c20_17 ap27
         have := c20_17.size
         replace eB := Ext.then eB c20_17 (ge_of hfhC (by omega))
         replace cL10 := Chg.step cL10 c20_17 sb28
         replace cL24 := Chg.step cL24 c20_17 sbhC
         have ap33 : Apart [h12.size] fphC := ap27
         have hlho20_17 := hlhC
         have hlenho20_17 : ((S.set d (mix (sclRow p (invP p ((S.getD d default).getD c 0)) (S.getD d default)) (S.getD d default) k)).set d (((S.set d (mix (sclRow p (invP p ((S.getD d default).getD c 0)) (S.getD d default)) (S.getD d default) k)).getD d default).set k (Int.tmod ((((S.set d (mix (sclRow p (invP p ((S.getD d default).getD c 0)) (S.getD d default)) (S.getD d default) k)).getD d default).getD k 0) * (invP p (((S).getD d default).getD c 0))) p)) : List (List Int)).length = (S.set d (mix (sclRow p (invP p ((S.getD d default).getD c 0)) (S.getD d default)) (S.getD d default) k) : List (List Int)).length := List.length_set
         try simp (disch := decide) only [outv_some, outv_none, put_puts]
         refine plK_last (by decide) ?_
         try simp -implicitDefEqProofs (disch := first | decide | assumption | omega) only [go_sem, RdS.len rR sl36, RdS.idx rR sl36, RdS.cellB rR (Ext.pres eB), RdS.cells rR, RdS.len (OS.rd ho20_17) sl36, RdS.idx (OS.rd ho20_17) sl36, RdS.cellN (OS.rd ho20_17), RdS.cells (OS.rd ho20_17), BoxAt.cell hb12_1, wrap_id, Int.toNat_zero]
         refine hK _ _ ?_
         clear hK K
         refine den_blk ?_
         refine den_region TTok ?_
         intro K hK
         simp -implicitDefEqProofs (disch := first | decide | assumption | omega) only [go_sem, RdS.len rR sl36, RdS.idx rR sl36, RdS.cellB rR (Ext.pres eB), RdS.cells rR, RdS.len (OS.rd ho20_17) sl36, RdS.idx (OS.rd ho20_17) sl36, RdS.cellN (OS.rd ho20_17), RdS.cells (OS.rd ho20_17), BoxAt.cell hb12_1, wrap_id, Int.toNat_zero]
         refine hK _ _ ?_
         clear hK K
         refine den_stop ?_
         rw [hv20, tmod_e (by rw [← hv20]; exact hmu.1), Int.mul_comm, ← sclR_get p _ (by omega), nest_set (by omega), mix_set _ _ _ _ (sclR_len _ _ _) (by omega)] at ho20_17
         exact ⟨(k + 1, fphC), by simp [HasL, puts_at], ⟨by first | omega | (dsimp only; omega), ho20_17, hfhC, sbhC, cL24⟩, by first | omega | (dsimp only; omega)⟩
        ·try simp only [decide_eq_true_eq, decide_eq_false_iff_not, beq_iff_eq, beq_eq_false_iff_ne, bne_iff_ne, ne_eq, Bool.not_eq_true', Bool.not_eq_false', Bool.and_eq_true, Bool.or_eq_true, bne_eq_false_iff_eq] at c4
         refine den_exit ?_
         refine denX_code ?_
         refine denX_stop ?_
         refine denX_hit ?_
         refine den_seq ?_
         refine den_seq ?_
         rw [mix_end _ _ _ (sclR_len _ _ _) (by omega)] at hC
         obtain ⟨hri2, hS1⟩ := hri1.scale hP (by omega) (by omega) hSc
         obtain ⟨S2, hS2_⟩ : ∃ S2, S2 = S.set d (sclRow p (invP p ((S.getD d default).getD c 0)) (S.getD d default)) := ⟨_, rfl⟩
         change RI p w R (S.set d (sclRow p (invP p ((S.getD d default).getD c 0)) (S.getD d default))) l d c at hri2
         change g2 (S.set d (sclRow p (invP p ((S.getD d default).getD c 0)) (S.getD d default))) d c = 1 at hS1
         rw [← hS2_] at hC hri2 hS1
         have hS2l := hri2.ln
         refine den_region TTok ?_
         intro K hK
         simp -implicitDefEqProofs (disch := first | decide | assumption | omega) only [go_sem, RdS.len rR sl36, RdS.idx rR sl36, RdS.cellB rR (Ext.pres eB), RdS.cells rR, RdS.len (OS.rd hC) sl36, RdS.idx (OS.rd hC) sl36, RdS.cellN (OS.rd hC), RdS.cells (OS.rd hC), BoxAt.cell hb12_1, wrap_id, Int.toNat_zero]
         refine hK _ _ ?_
         clear hK K
         refine den_block ?_
         refine den_sel [100, 0, 5, 8, 9, 34, 35, 99] ?_
         intro env_34
         simp only [go_sem]
         refine den_loopS (σ := Nat × List Nat) (fun st_ => [(100, .int .i64 (st_.1 : Int))]) (fun st_ H => (st_.1 ≤ S2.length) ∧ (O2 H vhL (clrP p d c S2 st_.1) st_.2) ∧ (Fresh (h.size) st_.2) ∧ (Sub fphC h26.size st_.2) ∧ (Chg fphC h26 H)) (fun st_ => S2.length - st_.1) (0, fphC) ?_ ?_
         ·exact ⟨by first | (simp; done) | (dsimp only; omega) | (simp; omega), by rw [clrP_zero]; exact hC, hfhC, Sub.refl, Chg.refl _ _⟩
         ·rintro ⟨i, fphJ⟩ h37 ee36 ⟨hi0, hJ, hfhJ, sbhJ, cL35⟩
          dsimp only at hi0 hJ hfhJ sbhJ cL35
          replace hb12_1 := BoxAt.chgA hb12_1 cL35 ap27
          have := cL35.size
          replace eB := Ext.then eB cL35 (ge_of hfhC (by omega))
          replace cL10 := Chg.step cL10 cL35 sb28
          have ap38 : Apart [h12.size] fphJ := Apart.sub_ hlhb12_1 (by omega) ap27 sbhJ
          have sb39 : Sub fphL h4.size fphJ := Sub.trans sbhJ sb28 (by omega)
          have hlhJ := OS.lt hJ
          simp only [List.cons_append, List.nil_append]
          have hcl0 := clrP_len p d c S2 i
          refine den_seq ?_
          refine den_region TTok ?_
          intro K hK
          simp -implicitDefEqProofs (disch := first | decide | assumption | omega) only [go_sem, RdS.len rR sl36, RdS.idx rR sl36, RdS.cellB rR (Ext.pres eB), RdS.cells rR, RdS.len (OS.rd hJ) sl36, RdS.idx (OS.rd hJ) sl36, RdS.cellN (OS.rd hJ), RdS.cells (OS.rd hJ), BoxAt.cell hb12_1, wrap_id, Int.toNat_zero]
          refine hK _ _ ?_
          clear hK K
          refine den_seq ?_
          refine den_cond rfl (fun c5 => ?_) (fun c5 => ?_)
          ·try simp only [decide_eq_true_eq, decide_eq_false_iff_not, beq_iff_eq, beq_eq_false_iff_ne, bne_iff_ne, ne_eq, Bool.not_eq_true', Bool.not_eq_false', Bool.and_eq_true, Bool.or_eq_true, bne_eq_false_iff_eq] at c5
           refine den_skip ?_
           refine den_seq ?_
           refine den_block ?_
           refine den_seq ?_
           refine den_region TTok ?_
           intro K hK
           simp -implicitDefEqProofs (disch := first | decide | assumption | omega) only [go_sem, RdS.len rR sl36, RdS.idx rR sl36, RdS.cellB rR (Ext.pres eB), RdS.cells rR, RdS.len (OS.rd hJ) sl36, RdS.idx (OS.rd hJ) sl36, RdS.cellN (OS.rd hJ), RdS.cells (OS.rd hJ), BoxAt.cell hb12_1, wrap_id, Int.toNat_zero]
           refine hK _ _ ?_
           clear hK K
           refine den_seq ?_
           refine den_region TTok ?_
           intro K hK
           simp -implicitDefEqProofs (disch := first | decide | assumption | omega) only [go_sem, RdS.len rR sl36, RdS.idx rR sl36, RdS.cellB rR (Ext.pres eB), RdS.cells rR, RdS.len (OS.rd hJ) sl36, RdS.idx (OS.rd hJ) sl36, RdS.cellN (OS.rd hJ), RdS.cells (OS.rd hJ), BoxAt.cell hb12_1, wrap_id, Int.toNat_zero]
           refine hK _ _ ?_
           clear hK K
           refine den_cond rfl (fun c6 => ?_) (fun c6 => ?_)
           ·try simp only [decide_eq_true_eq, decide_eq_false_iff_not, beq_iff_eq, beq_eq_false_iff_ne, bne_iff_ne, ne_eq, Bool.not_eq_true', Bool.not_eq_false', Bool.and_eq_true, Bool.or_eq_true, bne_eq_false_iff_eq] at c6
            have hgi : (clrP p d c S2 i).getD i default = S2.getD i default := by rw [clrP_get (by omega), if_neg (by omega)]
            have hgd : (clrP p d c S2 i).getD d default = S2.getD d default := by rw [clrP_get (by omega), if_neg (by omega)]
            have hli := hri2.len i (by omega)
            have hld := hri2.len d (by omega)
            have hcp : 0 < p ∧ p ≤ 7 := by omega
            have hcl : ((clrP p d c S2 i).getD d default).length = ((clrP p d c S2 i).getD i default).length := by rw [hgi, hgd]; omega
            have hca : Bnd p ((clrP p d c S2 i).getD i default) := by rw [hgi]; exact hri2.bnd i (by omega)
            have hcb : Bnd p ((clrP p d c S2 i).getD d default) := by rw [hgd]; exact hri2.bnd d (by omega)
            have hlc : ((clrP p d c S2 i).getD i default).length = w := by rw [hgi]; exact hli
            have hck := hca.at (k := c) (by omega)
            refine den_draw TTok mixed [16] [(0, true), (1, true), (2, true), (3, true), (4, true), (5, true), (6, true), (7, true), (8, true), (9, true), (10, true), (11, true), (12, true), (13, true), (14, true), (15, true), (16, false)] (by kernel_rfl) ?_
            intro K hK
            have hr40 := RdS.rowN (OS.rd hJ) i (by omega)
            have hlhr40 := RdS.le hr40
            have xr41 := Ext.refl h37
            have hr42 := RdS.rowN (OS.rd hJ) d (by omega)
            have hlhr42 := RdS.le hr42
            have xr43 := Ext.refl h37
            have hr44 := RdS.rowN (OS.rd hJ) i (by omega)
            have hlhr44 := RdS.le hr44
            have xr45 := Ext.refl h37
            simp -implicitDefEqProofs (disch := first | decide | assumption | omega) only [go_sem, ld22, ld2, ld3, RdS.len rR sl36, RdS.idx rR sl36, RdS.cellB rR (Ext.pres eB), RdS.cells rR, RdS.len (OS.rd hJ) sl36, RdS.idx (OS.rd hJ) sl36, RdS.cellN (OS.rd hJ), RdS.cells (OS.rd hJ), BoxAt.cell hb12_1, RdS.len hr40 sl22, RdS.idx hr40 sl22, R1.intB hr40 (Ext.pres xr41), RdS.cells hr40, RdS.len hr42 sl22, RdS.idx hr42 sl22, R1.intB hr42 (Ext.pres xr43), RdS.cells hr42, RdS.len hr44 sl22, RdS.idx hr44 sl22, R1.intB hr44 (Ext.pres xr45), RdS.cells hr44, wrap_id, Int.toNat_zero]
            try simp -implicitDefEqProofs (disch := first | decide | assumption | omega) only [go_sem, RdS.len rR sl36, RdS.idx rR sl36, RdS.cellB rR (Ext.pres eB), RdS.cells rR, RdS.len (OS.rd hJ) sl36, RdS.idx (OS.rd hJ) sl36, RdS.cellN (OS.rd hJ), RdS.cells (OS.rd hJ), BoxAt.cell hb12_1, RdS.len hr40 sl22, RdS.idx hr40 sl22, R1.intB hr40 (Ext.pres xr41), RdS.cells hr40, RdS.len hr42 sl22, RdS.idx hr42 sl22, R1.intB hr42 (Ext.pres xr43), RdS.cells hr42, RdS.len hr44 sl22, RdS.idx hr44 sl22, R1.intB hr44 (Ext.pres xr45), RdS.cells hr44, wrap_id, Int.toNat_zero]
            obtain ⟨f2, hE2, hN2, hU2, hB2, hK2⟩ := OS.two hJ hfhJ.nodup (i := i) (d := d) (by omega) (by omega) (by omega)
            refine CallA.mono (clear_ok _ (((clrP p d c S2 i).getD i default).getD c 0) _ _ _ _ _ _ hE2 hN2 (RdS.pres hr42 (Ext.pres xr43)) (fun h_ c_ => (hK2 h_ c_).elim fun g hg => OS.rd hg) hcp hcl hca hcb hck) ?_
            intro v_ h26_16
            rintro ⟨rfl, hF2, cE2⟩
            have hog26_16 := hB2 _ _ cE2 hF2
            have cg26_16 := cE2.mono hU2
            replace hb12_1 := BoxAt.chgA hb12_1 cg26_16 ap38
            have := cg26_16.size
            replace eB := Ext.then eB cg26_16 (ge_of hfhJ (by omega))
            replace cL10 := Chg.step cL10 cg26_16 sb39
            replace cL35 := Chg.step cL35 cg26_16 sbhJ
            have ap46 : Apart [h12.size] fphJ := ap38
            have hlhog26_16 := hlhJ
            try simp (disch := decide) only [outv_some, outv_none, put_puts]
            refine plK_last (by decide) ?_
            try simp -implicitDefEqProofs (disch := first | decide | assumption | omega) only [go_sem, RdS.len rR sl36, RdS.idx rR sl36, RdS.cellB rR (Ext.pres eB), RdS.cells rR, RdS.len (OS.rd hog26_16) sl36, RdS.idx (OS.rd hog26_16) sl36, RdS.cellN (OS.rd hog26_16), RdS.cells (OS.rd hog26_16), BoxAt.cell hb12_1, wrap_id, Int.toNat_zero]
            refine hK _ _ ?_
            clear hK K
            refine den_blk ?_
            refine den_region TTok ?_
            intro K hK
            simp -implicitDefEqProofs (disch := first | decide | assumption | omega) only [go_sem, RdS.len rR sl36, RdS.idx rR sl36, RdS.cellB rR (Ext.pres eB), RdS.cells rR, RdS.len (OS.rd hog26_16) sl36, RdS.idx (OS.rd hog26_16) sl36, RdS.cellN (OS.rd hog26_16), RdS.cells (OS.rd hog26_16), BoxAt.cell hb12_1, wrap_id, Int.toNat_zero]
            refine hK _ _ ?_
            clear hK K
            refine den_stop ?_
            first | rw [clr_upd (by omega) (by omega) (by omega)] at hog26_16 | rw [← clr_same (by omega)] at hog26_16
            exact ⟨(i + 1, fphJ), by simp [HasL, puts_at], ⟨by first | omega | (dsimp only; omega), hog26_16, hfhJ, sbhJ, cL35⟩, by first | omega | (dsimp only; omega)⟩
           ·try simp only [decide_eq_true_eq, decide_eq_false_iff_not, beq_iff_eq, beq_eq_false_iff_ne, bne_iff_ne, ne_eq, Bool.not_eq_true', Bool.not_eq_false', Bool.and_eq_true, Bool.or_eq_true, bne_eq_false_iff_eq] at c6
            refine den_skip ?_
            refine den_blk ?_
            refine den_region TTok ?_
            intro K hK
            simp -implicitDefEqProofs (disch := first | decide | assumption | omega) only [go_sem, RdS.len rR sl36, RdS.idx rR sl36, RdS.cellB rR (Ext.pres eB), RdS.cells rR, RdS.len (OS.rd hJ) sl36, RdS.idx (OS.rd hJ) sl36, RdS.cellN (OS.rd hJ), RdS.cells (OS.rd hJ), BoxAt.cell hb12_1, wrap_id, Int.toNat_zero]
            refine hK _ _ ?_
            clear hK K
            refine den_stop ?_
            first | rw [clr_upd (by omega) (by omega) (by omega)] at hJ | rw [← clr_same (by omega)] at hJ
            exact ⟨(i + 1, fphJ), by simp [HasL, puts_at], ⟨by first | omega | (dsimp only; omega), hJ, hfhJ, sbhJ, cL35⟩, by first | omega | (dsimp only; omega)⟩
          ·try simp only [decide_eq_true_eq, decide_eq_false_iff_not, beq_iff_eq, beq_eq_false_iff_ne, bne_iff_ne, ne_eq, Bool.not_eq_true', Bool.not_eq_false', Bool.and_eq_true, Bool.or_eq_true, bne_eq_false_iff_eq] at c5
           refine den_exit ?_
           refine denX_code ?_
           refine denX_stop ?_
           refine denX_hit ?_
           refine den_seq ?_
           have hri3 := hri2.clear hP (by omega) (by omega) hS1
           rw [show i = S2.length by omega] at hJ
           have hcl1 := clrP_len p d c S2 S2.length
           refine den_region TTok ?_
           intro K hK
           simp -implicitDefEqProofs (disch := first | decide | assumption | omega) only [go_sem, RdS.len rR sl36, RdS.idx rR sl36, RdS.cellB rR (Ext.pres eB), RdS.cells rR, RdS.len (OS.rd hJ) sl36, RdS.idx (OS.rd hJ) sl36, RdS.cellN (OS.rd hJ), RdS.cells (OS.rd hJ), wrap_id, Int.toNat_zero]
           refine hK _ _ ?_
           clear hK K
           refine den_seq ?_
           refine den_region TTok ?_
           intro K hK
           simp -implicitDefEqProofs (disch := first | decide | assumption | omega) only [go_sem, RdS.len rR sl36, RdS.idx rR sl36, RdS.cellB rR (Ext.pres eB), RdS.cells rR, RdS.len (OS.rd hJ) sl36, RdS.idx (OS.rd hJ) sl36, RdS.cellN (OS.rd hJ), RdS.cells (OS.rd hJ), wrap_id, Int.toNat_zero]
           refine hK _ _ ?_
           clear hK K
           refine den_cond rfl (fun c7 => ?_) (fun c7 => ?_)
           ·try simp only [decide_eq_true_eq, decide_eq_false_iff_not, beq_iff_eq, beq_eq_false_iff_ne, bne_iff_ne, ne_eq, Bool.not_eq_true', Bool.not_eq_false', Bool.and_eq_true, Bool.or_eq_true, bne_eq_false_iff_eq] at c7
            refine den_exit ?_
            refine denX_miss (by decide) ?_
            refine denX_code ?_
            refine denX_stop ?_
            refine denX_hit ?_
            refine den_seq ?_
            obtain ⟨vt, fpt, het, hot, hnt, hut⟩ := OS.takeV (k := .i64) hJ hfhJ.nodup sl36 (hi := ((d : Int) + (1 : Int))) (by omega) (by omega)
            refine den_region TTok ?_
            intro K hK
            simp -implicitDefEqProofs (disch := first | decide | assumption | omega) only [go_sem, RdS.len rR sl36, RdS.idx rR sl36, RdS.cellB rR (Ext.pres eB), RdS.cells rR, RdS.len (OS.rd hJ) sl36, RdS.idx (OS.rd hJ) sl36, RdS.cellN (OS.rd hJ), RdS.cells (OS.rd hJ), wrap_id, Int.toNat_zero, het, Option.map_some, Option.map_none]
            refine hK _ _ ?_
            clear hK K
            refine den_ret ?_
            simp (disch := decide) only [resP_1, puts_same, puts_ne]
            have hec := hri3.ech hP hT (.inl (by rw [clrP_len]; omega))
            rw [hec]
            exact ⟨vt, fpt, rfl, (by simpa using hot), ⟨hnt, fun b hb => by have := hfhJ.ge b (hut b hb); omega⟩, eB⟩
           ·try simp only [decide_eq_true_eq, decide_eq_false_iff_not, beq_iff_eq, beq_eq_false_iff_ne, bne_iff_ne, ne_eq, Bool.not_eq_true', Bool.not_eq_false', Bool.and_eq_true, Bool.or_eq_true, bne_eq_false_iff_eq] at c7
            refine den_skip ?_
            refine den_blk ?_
            refine den_region TTok ?_
            intro K hK
            simp -implicitDefEqProofs (disch := first | decide | assumption | omega) only [go_sem, RdS.len rR sl36, RdS.idx rR sl36, RdS.cellB rR (Ext.pres eB), RdS.cells rR, RdS.len (OS.rd hJ) sl36, RdS.idx (OS.rd hJ) sl36, RdS.cellN (OS.rd hJ), RdS.cells (OS.rd hJ), wrap_id, Int.toNat_zero]
            refine hK _ _ ?_
            clear hK K
            refine den_stop ?_
            exact ⟨(c + 1, d + 1, clrP p d c S2 S2.length, fun i => if i = d then c else l i, fphJ), by simp [HasL, puts_at], ⟨hri3, by dsimp only; omega, hJ, hfhJ, sb39, cL10⟩, by first | omega | (dsimp only; omega)⟩
     ·try simp only [decide_eq_true_eq, decide_eq_false_iff_not, beq_iff_eq, beq_eq_false_iff_ne, bne_iff_ne, ne_eq, Bool.not_eq_true', Bool.not_eq_false', Bool.and_eq_true, Bool.or_eq_true, bne_eq_false_iff_eq] at c2
      refine den_exit ?_
      refine denX_code ?_
      refine denX_stop ?_
      refine denX_hit ?_
      refine den_seq ?_
      obtain ⟨vt, fpt, het, hot, hnt, hut⟩ := OS.takeV (k := .i64) hM hfhM.nodup sl36 (hi := (d : Int)) (by omega) (by omega)
      refine den_region TTok ?_
      intro K hK
      simp -implicitDefEqProofs (disch := first | decide | assumption | omega) only [go_sem, RdS.len rR sl36, RdS.idx rR sl36, RdS.cellB rR (Ext.pres eB), RdS.cells rR, RdS.len (OS.rd hM) sl36, RdS.idx (OS.rd hM) sl36, RdS.cellN (OS.rd hM), RdS.cells (OS.rd hM), wrap_id, Int.toNat_zero, het, Option.map_some, Option.map_none]
      refine hK _ _ ?_
      clear hK K
      refine den_ret ?_
      simp (disch := decide) only [resP_1, puts_same, puts_ne]
      have hec := hri.ech hP hT (.inr (by omega))
      rw [hec]
      exact ⟨vt, fpt, rfl, (by simpa using hot), ⟨hnt, fun b hb => by have := hfhM.ge b (hut b hb); omega⟩, eB⟩
end Go.Proofs.Ytbplnadngahgaaa

namespace Go.Proofs.Ytbplnadngahgaaa
open Go
/-- A row that is one's own, or one that lies elsewhere and is told by its value alone. -/
def EB (h : Heap) (u : Value) (x : List Int × Option Value) (fp : List Nat) : Prop := (x.2 = none ∧ O1 h u x.1 fp) ∨ (x.2 = some u ∧ (u.oneCell' = true ∧ u.cells = #[u]) ∧ fp = [])
instance : Own EB := ⟨fun hl h => h.elim (fun a => .inl ⟨a.1, Own.loc hl a.2⟩) .inr, (fun h b hb => by
 rcases h with h | h
 ·exact Own.lt h.2 b hb
 ·rw [h.2.2] at hb; cases hb), (fun h => by
 rcases h with h | h
 ·exact Own.one h.2
 ·exact h.2.1)⟩
theorem EB.own {h : Heap} {u : Value} {x : List Int} {fp : List Nat} (ho : O1 h u x fp) : EB h u (x, none) fp := .inl ⟨rfl, ho⟩
theorem EB.bor {h : Heap} {u : Value} {x : List Int} (ho : u.oneCell' = true ∧ u.cells = #[u]) : EB h u (x, some u) [] := .inr ⟨rfl, ho, rfl⟩
abbrev O2B : Heap → Value → List (List Int × Option Value) → List Nat → Prop := OS 22 EB
theorem OB.nil {h : Heap} {v : Value} {fp : List Nat} (ho : O2 h v [] fp) : O2B h v [] fp := by
 rcases ho with ⟨h1, _, h3⟩ | ⟨b, c, cur, fps, rfl, r⟩
 ·exact .inl ⟨h1, rfl, h3⟩
 ·exact .inr ⟨b, c, cur, fps, rfl, ⟨r.val, r.box, r.size, r.max, r.le, r.len, fun j hj => by simp at hj⟩⟩
theorem OB.join {h : Heap} {v vo : Value} {xs : List (List Int × Option Value)} {own : List Int} {fp fo : List Nat} {pos : Nat} (ho : O2B h v xs fp) (hn : fp.Nodup) (oo : O1 h vo own fo) (hno : fo.Nodup) (ap : Apart fp fo) (hp : pos < xs.length) (hx : xs.getD pos default = (own, some vo)) (hz : ∀ j, j < xs.length → j ≠ pos → (xs.getD j default).2 = none) : ∃ fp', O2 h v (xs.map Prod.fst) fp' ∧ fp'.Nodup ∧ ∀ b ∈ fp', b ∈ fp ∨ b ∈ fo := by
 rcases ho with ⟨_, rfl, _⟩ | ⟨b, c, cur, fps, rfl, r⟩
 ·simp at hp
 ·obtain ⟨hnb, hnf⟩ := List.nodup_cons.1 hn
  have gx : ∀ j (hj : j < xs.length), xs.getD j default = xs[j] := fun j hj => by rw [List.getD_eq_getElem?_getD, List.getElem?_eq_getElem hj]; rfl
  refine ⟨b :: (fps.set pos fo).flatten, .inr ⟨b, c, cur, fps.set pos fo, rfl, ⟨by rw [List.length_map]; exact r.val, r.box, r.size, r.max, by rw [List.length_map]; exact r.le, by rw [List.length_set, List.length_map]; exact r.len, fun j hj => ?_⟩⟩, List.nodup_cons.2 ⟨fun hm => ?_, nodup_flatten_set hnf hno (fun q hq => ap q (List.mem_cons_of_mem _ hq))⟩, fun q hq => ?_⟩
  ·have hj' : j < xs.length := by simpa using hj
   obtain ⟨u, f, k1, k2, k3⟩ := r.el j hj'
   rw [List.getElem_map]
   by_cases e : pos = j
   ·subst e
    rw [gx _ hj'] at hx
    rw [hx] at k3 ⊢
    rcases k3 with k3 | k3
    ·cases k3.1
    ·have hv : vo = u := by injection k3.1
     exact ⟨u, fo, k1, by rw [List.getElem?_set_self (by rw [r.len]; exact hj')], hv ▸ oo⟩
   ·have h2 := hz j hj' (Ne.symm e)
    rw [gx _ hj'] at h2
    rcases k3 with k3 | k3
    ·exact ⟨u, f, k1, by rw [List.getElem?_set_ne e]; exact k2, k3.2⟩
    ·rw [h2] at k3; cases k3.1
  ·rcases mem_flatten_set hm with h1 | h1
   ·exact hnb h1
   ·exact ap b (by simp) h1
  ·rcases List.mem_cons.1 hq with rfl | hq
   ·exact .inl (by simp)
   ·rcases mem_flatten_set hq with h1 | h1
    ·exact .inl (List.mem_cons_of_mem _ h1)
    ·exact .inr h1
abbrev tagR (p : Int) (own : List Int) (at_ : Nat) (r : List Int) : List Int × Option Value := (redR p own at_ r, none)
def nextT (p : Int) (L : List (List Int)) (own : List Int) (at_ pos : Nat) (vo : Value) (k : Nat) : List (List Int × Option Value) := if k ≤ pos then (L.take k).map (tagR p own at_) else (L.take pos).map (tagR p own at_) ++ (own, some vo) :: ((L.take k).drop pos).map (tagR p own at_)
def putT (p : Int) (L : List (List Int)) (own : List Int) (at_ pos : Nat) (vo : Value) : List (List Int × Option Value) := (L.take pos).map (tagR p own at_) ++ (own, some vo) :: (L.drop pos).map (tagR p own at_)
section
variable {p : Int} {L : List (List Int)} {own : List Int} {at_ pos : Nat} {vo : Value}
theorem nextT_zero : nextT p L own at_ pos vo 0 = [] := by simp [nextT]
theorem nextT_len {k : Nat} (hk : k ≤ L.length) : (nextT p L own at_ pos vo k).length ≤ L.length + 1 := by
 unfold nextT
 split
 ·simp; omega
 ·simp; omega
theorem nextT_step {k : Nat} (hk : k < L.length) (hne : k ≠ pos) : nextT p L own at_ pos vo k ++ [(redR p own at_ (L.getD k default), none)] = nextT p L own at_ pos vo (k + 1) := by
 unfold nextT
 by_cases h : k < pos
 ·rw [if_pos (by omega), if_pos (by omega)]; exact map_takeA (f := tagR p own at_) hk
 ·rw [if_neg (by omega), if_neg (by omega), List.append_assoc, List.cons_append, take_snoc hk, List.drop_append, List.map_append]
  have : (L.take k).length = k := by simp; omega
  rw [this, show pos - k = 0 by omega]; rfl
theorem nextT_at {k : Nat} (hk : k < L.length) (e : k = pos) : nextT p L own at_ pos vo k ++ [(own, some vo)] ++ [(redR p own at_ (L.getD k default), none)] = nextT p L own at_ pos vo (k + 1) := by
 subst e
 unfold nextT
 rw [if_pos (Nat.le_refl _), if_neg (by omega), List.append_assoc, take_snoc hk, List.drop_append]
 have : (L.take k).length = k := by simp; omega
 rw [this, Nat.sub_self, List.drop_of_length_le (by omega)]; rfl
theorem nextT_end1 {k : Nat} (hk : ¬ k < L.length) (h : k ≤ pos) : nextT p L own at_ pos vo k ++ [(own, some vo)] = putT p L own at_ pos vo := by
 unfold nextT putT
 rw [if_pos h, List.take_of_length_le (by omega), List.take_of_length_le (by omega), List.drop_of_length_le (by omega)]; rfl
theorem nextT_end2 {k : Nat} (hk : ¬ k < L.length) (h : pos < k) : nextT p L own at_ pos vo k = putT p L own at_ pos vo := by
 unfold nextT putT
 rw [if_neg (by omega), List.take_of_length_le (i := k) (by omega)]
theorem putT_fst : (putT p L own at_ pos vo).map Prod.fst = putP p L own at_ pos := by
 unfold putT putP
 simp [List.map_append, Function.comp_def]
theorem putT_len (h : pos ≤ L.length) : (putT p L own at_ pos vo).length = L.length + 1 := by
 simp [putT]; omega
theorem putT_at (h : pos ≤ L.length) : (putT p L own at_ pos vo).getD pos default = (own, some vo) := by
 have hl : ((L.take pos).map (tagR p own at_)).length = pos := by simp; omega
 rw [putT, List.getD_eq_getElem?_getD, List.getElem?_append_right (by omega), hl, Nat.sub_self]; rfl
theorem putT_other (h : pos ≤ L.length) {j : Nat} (hj : j < (putT p L own at_ pos vo).length) (hne : j ≠ pos) : ((putT p L own at_ pos vo).getD j default).2 = none := by
 have hl : ((L.take pos).map (tagR p own at_)).length = pos := by simp; omega
 rw [putT_len h] at hj
 rw [putT, List.getD_eq_getElem?_getD]
 by_cases h1 : j < pos
 ·rw [List.getElem?_append_left (by omega), List.getElem?_map, List.getElem?_take, if_pos h1, List.getElem?_eq_getElem (by omega)]; rfl
 ·rw [List.getElem?_append_right (by omega), hl]
  obtain ⟨q, rfl⟩ : ∃ q, j = pos + q + 1 := ⟨j - pos - 1, by omega⟩
  rw [show pos + q + 1 - pos = q + 1 by omega, List.getElem?_cons_succ, List.getElem?_map, List.getElem?_drop, List.getElem?_eq_getElem (by omega)]; rfl
end

set_option maxRecDepth 100000 in
theorem sEch_ok (vR : Value) (p : Int) (R : List (List Int)) (h : Heap) (rR : R2 h vR R) {w : Nat} (hP : isP p = true) (hT : ∀ r ∈ R, r.length = w ∧ Bnd p r) (hw : w ≤ 1000) (hl : R.length ≤ 1000) : CallA Try.prog 83 #[.int .i64 p, vR] h fun v' h' => ∃ w0 f0, v' = w0 ∧ O2 h' w0 (ech p R) f0 ∧ Fresh h.size f0 ∧ Ext h h' := by
 have hleR := RdS.le rR
 have hp := isP_two hP
 refine callA_intro TTok (args := [_, _]) Try.func83 (by kernel_rfl) rfl 102 rfl (by simp) [.tmp 4] rfl ?_
 simp only [idxs, Nat.reduceAdd]
 refine den_seq ?_
 refine den_region TTok ?_
 intro K hK
 simp -implicitDefEqProofs (disch := first | decide | assumption | omega) only [go_sem, RdS.len rR sl36, RdS.idx rR sl36, RdS.cellB rR (HPres.refl _), RdS.cells rR, wrap_id]
 refine hK _ _ ?_
 clear hK K
 refine den_seq ?_
 refine den_region TTok ?_
 intro K hK
 simp -implicitDefEqProofs (disch := first | decide | assumption | omega) only [go_sem, RdS.len rR sl36, RdS.idx rR sl36, RdS.cellB rR (HPres.refl _), RdS.cells rR, wrap_id]
 refine op_bs0 sz36 O1 ?_
 intro v1_0 h1_0 ho1_0 e1_0
 have := Ext.size e1_0
 have eB := e1_0
 have hfho1_0 : Fresh h.size [h.size] := Fresh.one _
 have hlho1_0 := OS.lt ho1_0
 try simp -implicitDefEqProofs (disch := first | decide | assumption | omega) only [go_sem, RdS.len rR sl36, RdS.idx rR sl36, RdS.cellB rR (Ext.pres eB), RdS.cells rR, RdS.len (OS.rd ho1_0) sl36, RdS.idx (OS.rd ho1_0) sl36, RdS.cellN (OS.rd ho1_0), RdS.cells (OS.rd ho1_0), wrap_id]
 refine hK _ _ ?_
 clear hK K
 refine den_seq ?_
 refine den_seq ?_
 refine den_region TTok ?_
 intro K hK
 simp -implicitDefEqProofs (disch := first | decide | assumption | omega) only [go_sem, RdS.len rR sl36, RdS.idx rR sl36, RdS.cellB rR (Ext.pres eB), RdS.cells rR, RdS.len (OS.rd ho1_0) sl36, RdS.idx (OS.rd ho1_0) sl36, RdS.cellN (OS.rd ho1_0), RdS.cells (OS.rd ho1_0), wrap_id]
 refine hK _ _ ?_
 clear hK K
 refine den_block ?_
 refine den_sel [5, 6, 0, 1] ?_
 intro env_1
 simp only [go_sem]
 refine den_loopS (σ := Nat × List (List Int) × Value × List Nat) (fun st_ => [(5, st_.2.2.1), (6, .int .i64 (st_.1 : Int))]) (fun st_ H => (Red p w st_.2.1 (R.take st_.1)) ∧ (st_.1 ≤ R.length) ∧ (O2 H st_.2.2.1 (st_.2.1) st_.2.2.2) ∧ (Fresh (h.size) st_.2.2.2) ∧ (Sub [h.size] h1_0.size st_.2.2.2) ∧ (Chg [h.size] h1_0 H)) (fun st_ => R.length - st_.1) (0, [], v1_0, [h.size]) ?_ ?_
 ·exact ⟨(by rw [List.take_zero]; exact Red.nil), by simp, by exact ho1_0, hfho1_0, Sub.refl, Chg.refl _ _⟩
 ·rintro ⟨i, L, vhL, fphL⟩ h4 ee3 ⟨hred, hi, hL, hfhL, sbhL, cL2⟩
  dsimp only at hred hi hL hfhL sbhL cL2
  have := cL2.size
  replace eB := Ext.then eB cL2 (ge_of hfho1_0 (by omega))
  have hlhL := OS.lt hL
  simp only [List.cons_append, List.nil_append]
  obtain ⟨⟨l, hrl⟩, hrE⟩ := id hred
  have hLw := hrl.le_w
  refine den_seq ?_
  refine den_seq ?_
  refine den_region TTok ?_
  intro K hK
  simp -implicitDefEqProofs (disch := first | decide | assumption | omega) only [go_sem, RdS.len rR sl36, RdS.idx rR sl36, RdS.cellB rR (Ext.pres eB), RdS.cells rR, RdS.len (OS.rd hL) sl36, RdS.idx (OS.rd hL) sl36, RdS.cellN (OS.rd hL), RdS.cells (OS.rd hL), wrap_id]
  refine hK _ _ ?_
  clear hK K
  refine den_cond rfl (fun c0 => ?_) (fun c0 => ?_)
  ·try simp only [decide_eq_true_eq, decide_eq_false_iff_not, beq_iff_eq, beq_eq_false_iff_ne, bne_iff_ne, ne_eq, Bool.not_eq_true', Bool.not_eq_false', Bool.and_eq_true, Bool.or_eq_true, bne_eq_false_iff_eq] at c0
   refine den_skip ?_
   refine den_seq ?_
   refine den_block ?_
   refine den_seq ?_
   have hRi := hT _ (getD_mem (show i < R.length by omega))
   have hrr := hrl
   have hrv : (R.getD i default).length = w ∧ w ≤ 1000 := ⟨hRi.1, hw⟩
   have hrb := hRi.2
   refine den_region TTok ?_
   intro K hK
   have hr5 := RdS.rowN rR i (by omega)
   have hlhr5 := RdS.le hr5
   simp -implicitDefEqProofs (disch := first | decide | assumption | omega) only [go_sem, ld22, RdS.len rR sl36, RdS.idx rR sl36, RdS.cellB rR (Ext.pres eB), RdS.cells rR, RdS.len hr5 sl22, RdS.idx hr5 sl22, R1.intB hr5 (Ext.pres eB), RdS.cells hr5, RdS.len (OS.rd hL) sl36, RdS.idx (OS.rd hL) sl36, RdS.cellN (OS.rd hL), RdS.cells (OS.rd hL), wrap_id]
   try simp -implicitDefEqProofs (disch := first | decide | assumption | omega) only [go_sem, RdS.len rR sl36, RdS.idx rR sl36, RdS.cellB rR (Ext.pres eB), RdS.cells rR, RdS.len hr5 sl22, RdS.idx hr5 sl22, R1.intB hr5 (Ext.pres eB), RdS.cells hr5, RdS.len (OS.rd hL) sl36, RdS.idx (OS.rd hL) sl36, RdS.cellN (OS.rd hL), RdS.cells (OS.rd hL), wrap_id]
   refine CallA.mono (sRest_ok _ _ p L ((R).getD i default) _ (OS.rd hL) (RdS.pres hr5 (Ext.pres eB)) hP hrr hrv hrb) ?_
   intro vw5_6_0 h5_6
   rintro ⟨zvw5_6_0, fw5_6_0, rfl, how5_6_0, hfw5_6_0, e5_6⟩
   replace hL := OS.ext hL e5_6
   have := Ext.size e5_6
   replace eB := Ext.trans eB e5_6
   replace cL2 := Chg.stepE cL2 e5_6
   have hlhow5_6_0 := OS.lt how5_6_0
   try simp -implicitDefEqProofs (disch := first | decide | assumption | omega) only [go_sem, RdS.len rR sl36, RdS.idx rR sl36, RdS.cellB rR (Ext.pres eB), RdS.cells rR, RdS.len hr5 sl22, RdS.idx hr5 sl22, R1.intB hr5 (Ext.pres eB), RdS.cells hr5, RdS.len (OS.rd hL) sl36, RdS.idx (OS.rd hL) sl36, RdS.cellN (OS.rd hL), RdS.cells (OS.rd hL), RdS.len (OS.rd how5_6_0) sl22, RdS.idx (OS.rd how5_6_0) sl22, R1.intN (OS.rd how5_6_0), RdS.cells (OS.rd how5_6_0), wrap_id]
   refine hK _ _ ?_
   clear hK K
   refine den_seq ?_
   refine den_region TTok ?_
   intro K hK
   simp -implicitDefEqProofs (disch := first | decide | assumption | omega) only [go_sem, RdS.len rR sl36, RdS.idx rR sl36, RdS.cellB rR (Ext.pres eB), RdS.cells rR, RdS.len hr5 sl22, RdS.idx hr5 sl22, R1.intB hr5 (Ext.pres eB), RdS.cells hr5, RdS.len (OS.rd hL) sl36, RdS.idx (OS.rd hL) sl36, RdS.cellN (OS.rd hL), RdS.cells (OS.rd hL), RdS.len (OS.rd how5_6_0) sl22, RdS.idx (OS.rd how5_6_0) sl22, R1.intN (OS.rd how5_6_0), RdS.cells (OS.rd how5_6_0), wrap_id]
   try simp -implicitDefEqProofs (disch := first | decide | assumption | omega) only [go_sem, RdS.len rR sl36, RdS.idx rR sl36, RdS.cellB rR (Ext.pres eB), RdS.cells rR, RdS.len hr5 sl22, RdS.idx hr5 sl22, R1.intB hr5 (Ext.pres eB), RdS.cells hr5, RdS.len (OS.rd hL) sl36, RdS.idx (OS.rd hL) sl36, RdS.cellN (OS.rd hL), RdS.cells (OS.rd hL), RdS.len (OS.rd how5_6_0) sl22, RdS.idx (OS.rd how5_6_0) sl22, R1.intN (OS.rd how5_6_0), RdS.cells (OS.rd how5_6_0), wrap_id]
   refine CallA.pure (sLead_ok _ (restP p L ((R).getD i default)) _ (OS.rd how5_6_0)) ?_
   try simp -implicitDefEqProofs (disch := first | decide | assumption | omega) only [go_sem, RdS.len rR sl36, RdS.idx rR sl36, RdS.cellB rR (Ext.pres eB), RdS.cells rR, RdS.len hr5 sl22, RdS.idx hr5 sl22, R1.intB hr5 (Ext.pres eB), RdS.cells hr5, RdS.len (OS.rd hL) sl36, RdS.idx (OS.rd hL) sl36, RdS.cellN (OS.rd hL), RdS.cells (OS.rd hL), RdS.len (OS.rd how5_6_0) sl22, RdS.idx (OS.rd how5_6_0) sl22, R1.intN (OS.rd how5_6_0), RdS.cells (OS.rd how5_6_0), wrap_id]
   refine hK _ _ ?_
   clear hK K
   refine den_seq ?_
   refine den_seq ?_
   refine den_region TTok ?_
   intro K hK
   simp -implicitDefEqProofs (disch := first | decide | assumption | omega) only [go_sem, RdS.len rR sl36, RdS.idx rR sl36, RdS.cellB rR (Ext.pres eB), RdS.cells rR, RdS.len hr5 sl22, RdS.idx hr5 sl22, R1.intB hr5 (Ext.pres eB), RdS.cells hr5, RdS.len (OS.rd hL) sl36, RdS.idx (OS.rd hL) sl36, RdS.cellN (OS.rd hL), RdS.cells (OS.rd hL), RdS.len (OS.rd how5_6_0) sl22, RdS.idx (OS.rd how5_6_0) sl22, R1.intN (OS.rd how5_6_0), RdS.cells (OS.rd how5_6_0), wrap_id]
   refine hK _ _ ?_
   clear hK K
   refine den_cond rfl (fun c1 => ?_) (fun c1 => ?_)
   ·try simp only [decide_eq_true_eq, decide_eq_false_iff_not, beq_iff_eq, beq_eq_false_iff_ne, bne_iff_ne, ne_eq, Bool.not_eq_true', Bool.not_eq_false', Bool.and_eq_true, Bool.or_eq_true, bne_eq_false_iff_eq] at c1
    refine den_exit ?_
    refine denX_code ?_
    refine denX_hit ?_
    refine den_region TTok ?_
    intro K hK
    simp -implicitDefEqProofs (disch := first | decide | assumption | omega) only [go_sem, RdS.len rR sl36, RdS.idx rR sl36, RdS.cellB rR (Ext.pres eB), RdS.cells rR, RdS.len hr5 sl22, RdS.idx hr5 sl22, R1.intB hr5 (Ext.pres eB), RdS.cells hr5, RdS.len (OS.rd hL) sl36, RdS.idx (OS.rd hL) sl36, RdS.cellN (OS.rd hL), RdS.cells (OS.rd hL), wrap_id]
    refine hK _ _ ?_
    clear hK K
    refine den_stop ?_
    exact ⟨(i + 1, L, vhL, fphL), by simp [HasL, puts_at], ⟨(by rw [take_snoc (by omega)]; exact Red.skip hred hp.1 hrv.1 hrb c1), by dsimp only; omega, hL, hfhL, sbhL, cL2⟩, by first | omega | (dsimp only; omega)⟩
   ·try simp only [decide_eq_true_eq, decide_eq_false_iff_not, beq_iff_eq, beq_eq_false_iff_ne, bne_iff_ne, ne_eq, Bool.not_eq_true', Bool.not_eq_false', Bool.and_eq_true, Bool.or_eq_true, bne_eq_false_iff_eq] at c1
    obtain ⟨k0, hk0, hke, hkz, hkn⟩ : ∃ k : Nat, k < (restP p L (R.getD i default)).length ∧ leadP (restP p L (R.getD i default)) = (k : Int) ∧ (∀ j, j < k → (restP p L (R.getD i default)).getD j 0 = 0) ∧ (restP p L (R.getD i default)).getD k 0 ≠ 0 := by
     rcases lead_cases (restP p L (R.getD i default)) with ⟨hm, _⟩ | h
     ·omega
     ·exact h
    rw [hke]
    have hbO := restP_bnd (p := p) (L := L) (by omega) hrb
    have hxk := hbO.at hk0
    have hiv := invP_ok hP (x := (restP p L (R.getD i default)).getD k0 0) (by omega) hxk.2
    have hlO := restP_len p L (R.getD i default)
    have hown : (ownP p L (R.getD i default)) = sclRow p (invP p ((restP p L (R.getD i default)).getD k0 0)) (restP p L (R.getD i default)) := by rw [ownP, hke, Int.toNat_natCast]
    obtain ⟨hok, _⟩ := ownP_ok hP hrr hrv.1 hrb hke
    obtain ⟨hq1, hq2, hq3⟩ := posP_ok (at_ := k0) hrr
    refine den_skip ?_
    refine den_seq ?_
    refine den_region TTok ?_
    intro K hK
    simp -implicitDefEqProofs (disch := first | decide | assumption | omega) only [go_sem, ld2, RdS.len rR sl36, RdS.idx rR sl36, RdS.cellB rR (Ext.pres eB), RdS.cells rR, RdS.len hr5 sl22, RdS.idx hr5 sl22, R1.intB hr5 (Ext.pres eB), RdS.cells hr5, RdS.len (OS.rd hL) sl36, RdS.idx (OS.rd hL) sl36, RdS.cellN (OS.rd hL), RdS.cells (OS.rd hL), RdS.len (OS.rd how5_6_0) sl22, RdS.idx (OS.rd how5_6_0) sl22, R1.intN (OS.rd how5_6_0), RdS.cells (OS.rd how5_6_0), wrap_id]
    try simp -implicitDefEqProofs (disch := first | decide | assumption | omega) only [go_sem, RdS.len rR sl36, RdS.idx rR sl36, RdS.cellB rR (Ext.pres eB), RdS.cells rR, RdS.len hr5 sl22, RdS.idx hr5 sl22, R1.intB hr5 (Ext.pres eB), RdS.cells hr5, RdS.len (OS.rd hL) sl36, RdS.idx (OS.rd hL) sl36, RdS.cellN (OS.rd hL), RdS.cells (OS.rd hL), RdS.len (OS.rd how5_6_0) sl22, RdS.idx (OS.rd how5_6_0) sl22, R1.intN (OS.rd how5_6_0), RdS.cells (OS.rd how5_6_0), wrap_id]
    refine CallA.mono (sInv_ok  p ((restP p L ((R).getD i default)).getD k0 0) _  hP (by omega)) ?_
    intro v_ h8_5
    rintro ⟨rfl, e8_5⟩
    replace hL := OS.ext hL e8_5
    replace how5_6_0 := OS.ext how5_6_0 e8_5
    have := Ext.size e8_5
    replace eB := Ext.trans eB e8_5
    replace cL2 := Chg.stepE cL2 e8_5
    try simp -implicitDefEqProofs (disch := first | decide | assumption | omega) only [go_sem, RdS.len rR sl36, RdS.idx rR sl36, RdS.cellB rR (Ext.pres eB), RdS.cells rR, RdS.len hr5 sl22, RdS.idx hr5 sl22, R1.intB hr5 (Ext.pres eB), RdS.cells hr5, RdS.len (OS.rd hL) sl36, RdS.idx (OS.rd hL) sl36, RdS.cellN (OS.rd hL), RdS.cells (OS.rd hL), RdS.len (OS.rd how5_6_0) sl22, RdS.idx (OS.rd how5_6_0) sl22, R1.intN (OS.rd how5_6_0), RdS.cells (OS.rd how5_6_0), wrap_id]
    refine hK _ _ ?_
    clear hK K
    refine den_seq ?_
    refine den_seq ?_
    refine den_region TTok ?_
    intro K hK
    simp -implicitDefEqProofs (disch := first | decide | assumption | omega) only [go_sem, RdS.len rR sl36, RdS.idx rR sl36, RdS.cellB rR (Ext.pres eB), RdS.cells rR, RdS.len hr5 sl22, RdS.idx hr5 sl22, R1.intB hr5 (Ext.pres eB), RdS.cells hr5, RdS.len (OS.rd hL) sl36, RdS.idx (OS.rd hL) sl36, RdS.cellN (OS.rd hL), RdS.cells (OS.rd hL), RdS.len (OS.rd how5_6_0) sl22, RdS.idx (OS.rd how5_6_0) sl22, R1.intN (OS.rd how5_6_0), RdS.cells (OS.rd how5_6_0), wrap_id]
    refine hK _ _ ?_
    clear hK K
    refine den_block ?_
    refine den_sel [10, 0, 1, 5, 6, 7, 8, 9] ?_
    intro env_6
    simp only [go_sem]
    refine den_loopS (σ := Nat) (fun st_ => [(10, .int .i64 (st_ : Int))]) (fun st_ H => (st_ ≤ (restP p L (R.getD i default)).length) ∧ (O1 H vw5_6_0 (mix (sclRow p (invP p ((restP p L (R.getD i default)).getD k0 0)) (restP p L (R.getD i default))) (restP p L (R.getD i default)) st_) fw5_6_0) ∧ (Chg fw5_6_0 h8_5 H)) (fun st_ => (restP p L (R.getD i default)).length - st_) 0 ?_ ?_
    ·exact ⟨by first | (simp; done) | (dsimp only; omega) | (simp; omega), by rw [mix_zero]; exact how5_6_0, Chg.refl _ _⟩
    ·rintro k h9 ee8 ⟨hi0, hS, cL7⟩
     replace hL := OS.chg hL cL7 (apart_lt hlhL hfw5_6_0 (by omega))
     have := cL7.size
     replace eB := Ext.then eB cL7 (ge_of hfw5_6_0 (by omega))
     replace cL2 := Chg.step cL2 cL7 (Sub.fresh hfw5_6_0 (by omega))
     have sbhS : Sub fw5_6_0 h8_5.size fw5_6_0 := Sub.refl
     have hfhS := hfw5_6_0
     have hlhS := hlhow5_6_0
     simp only [List.cons_append, List.nil_append]
     have hml_ := mix_len (sclRow p (invP p ((restP p L (R.getD i default)).getD k0 0)) (restP p L (R.getD i default))) (restP p L (R.getD i default)) k (sclR_len _ _ _)
     refine den_seq ?_
     refine den_seq ?_
     refine den_region TTok ?_
     intro K hK
     simp -implicitDefEqProofs (disch := first | decide | assumption | omega) only [go_sem, RdS.len rR sl36, RdS.idx rR sl36, RdS.cellB rR (Ext.pres eB), RdS.cells rR, RdS.len hr5 sl22, RdS.idx hr5 sl22, R1.intB hr5 (Ext.pres eB), RdS.cells hr5, RdS.len (OS.rd hL) sl36, RdS.idx (OS.rd hL) sl36, RdS.cellN (OS.rd hL), RdS.cells (OS.rd hL), RdS.len (OS.rd hS) sl22, RdS.idx (OS.rd hS) sl22, R1.intN (OS.rd hS), RdS.cells (OS.rd hS), wrap_id]
     refine hK _ _ ?_
     clear hK K
     refine den_cond rfl (fun c2 => ?_) (fun c2 => ?_)
     ·try simp only [decide_eq_true_eq, decide_eq_false_iff_not, beq_iff_eq, beq_eq_false_iff_ne, bne_iff_ne, ne_eq, Bool.not_eq_true', Bool.not_eq_false', Bool.and_eq_true, Bool.or_eq_true, bne_eq_false_iff_eq] at c2
      refine den_skip ?_
      refine den_seq ?_
      refine den_block ?_
      have hmg := mix_get (sclRow p (invP p ((restP p L (R.getD i default)).getD k0 0)) (restP p L (R.getD i default))) (restP p L (R.getD i default)) k 0 (sclR_len _ _ _) (by omega)
      have hxq := hbO.at (k := k) (by omega)
      have hmu := mul36A (x := (mix (sclRow p (invP p ((restP p L (R.getD i default)).getD k0 0)) (restP p L (R.getD i default))) (restP p L (R.getD i default)) k).getD k 0) (y := (invP p ((restP p L (R.getD i default)).getD k0 0))) (p := p) (by omega) ⟨by omega, hiv.1.2⟩ hp.2
      refine den_region TTok ?_
      intro K hK
      simp -implicitDefEqProofs (disch := first | decide | assumption | omega) only [go_sem, ld2, RdS.len rR sl36, RdS.idx rR sl36, RdS.cellB rR (Ext.pres eB), RdS.cells rR, RdS.len hr5 sl22, RdS.idx hr5 sl22, R1.intB hr5 (Ext.pres eB), RdS.cells hr5, RdS.len (OS.rd hL) sl36, RdS.idx (OS.rd hL) sl36, RdS.cellN (OS.rd hL), RdS.cells (OS.rd hL), RdS.len (OS.rd hS) sl22, RdS.idx (OS.rd hS) sl22, R1.intN (OS.rd hS), RdS.cells (OS.rd hS), wrap_id]
      refine op_store1 (j := k) st2 hS hfhS.nodup (by first | omega | (simp; omega)) rfl rfl ?_
      intro h12_11 ho12_11 c12_11
      have hsz12_11 := c12_11.size
      replace hL := OS.chg hL c12_11 (apart_lt hlhL hfhS (by omega))
      have := c12_11.size
      replace eB := Ext.then eB c12_11 (ge_of hfhS (by omega))
      replace cL2 := Chg.step cL2 c12_11 (Sub.fresh hfhS (by omega))
      replace cL7 := Chg.step cL7 c12_11 sbhS
      have hlho12_11 := hlhS
      have hlenho12_11 : ((mix (sclRow p (invP p ((restP p L (R.getD i default)).getD k0 0)) (restP p L (R.getD i default))) (restP p L (R.getD i default)) k).set k (Int.tmod (((mix (sclRow p (invP p ((restP p L (R.getD i default)).getD k0 0)) (restP p L (R.getD i default))) (restP p L (R.getD i default)) k).getD k 0) * (invP p ((restP p L ((R).getD i default)).getD k0 0))) p) : List Int).length = (mix (sclRow p (invP p ((restP p L (R.getD i default)).getD k0 0)) (restP p L (R.getD i default))) (restP p L (R.getD i default)) k : List Int).length := List.length_set
      try simp -implicitDefEqProofs (disch := first | decide | assumption | omega) only [go_sem, RdS.len rR sl36, RdS.idx rR sl36, RdS.cellB rR (Ext.pres eB), RdS.cells rR, RdS.len hr5 sl22, RdS.idx hr5 sl22, R1.intB hr5 (Ext.pres eB), RdS.cells hr5, RdS.len (OS.rd hL) sl36, RdS.idx (OS.rd hL) sl36, RdS.cellN (OS.rd hL), RdS.cells (OS.rd hL), RdS.len (OS.rd ho12_11) sl22, RdS.idx (OS.rd ho12_11) sl22, R1.intN (OS.rd ho12_11), RdS.cells (OS.rd ho12_11), wrap_id]
      refine hK _ _ ?_
      clear hK K
      refine den_blk ?_
      refine den_region TTok ?_
      intro K hK
      simp -implicitDefEqProofs (disch := first | decide | assumption | omega) only [go_sem, RdS.len rR sl36, RdS.idx rR sl36, RdS.cellB rR (Ext.pres eB), RdS.cells rR, RdS.len hr5 sl22, RdS.idx hr5 sl22, R1.intB hr5 (Ext.pres eB), RdS.cells hr5, RdS.len (OS.rd hL) sl36, RdS.idx (OS.rd hL) sl36, RdS.cellN (OS.rd hL), RdS.cells (OS.rd hL), RdS.len (OS.rd ho12_11) sl22, RdS.idx (OS.rd ho12_11) sl22, R1.intN (OS.rd ho12_11), RdS.cells (OS.rd ho12_11), wrap_id]
      refine hK _ _ ?_
      clear hK K
      refine den_stop ?_
      rw [tmod_e hmu.1, hmg, Int.mul_comm, ← sclR_get p _ (by omega), mix_set _ _ _ _ (sclR_len _ _ _) (by omega)] at ho12_11
      exact ⟨k + 1, by simp [HasL, puts_at], ⟨by first | omega | (dsimp only; omega), ho12_11, cL7⟩, by first | omega | (dsimp only; omega)⟩
     ·try simp only [decide_eq_true_eq, decide_eq_false_iff_not, beq_iff_eq, beq_eq_false_iff_ne, bne_iff_ne, ne_eq, Bool.not_eq_true', Bool.not_eq_false', Bool.and_eq_true, Bool.or_eq_true, bne_eq_false_iff_eq] at c2
      refine den_exit ?_
      refine denX_code ?_
      refine denX_stop ?_
      refine denX_hit ?_
      refine den_seq ?_
      rw [mix_end _ _ _ (sclR_len _ _ _) (by omega), ← hown] at hS
      have hOl : (ownP p L (R.getD i default)).length = w := hok.len
      refine den_region TTok ?_
      intro K hK
      simp -implicitDefEqProofs (disch := first | decide | assumption | omega) only [go_sem, RdS.len rR sl36, RdS.idx rR sl36, RdS.cellB rR (Ext.pres eB), RdS.cells rR, RdS.len hr5 sl22, RdS.idx hr5 sl22, R1.intB hr5 (Ext.pres eB), RdS.cells hr5, RdS.len (OS.rd hL) sl36, RdS.idx (OS.rd hL) sl36, RdS.cellN (OS.rd hL), RdS.cells (OS.rd hL), RdS.len (OS.rd hS) sl22, RdS.idx (OS.rd hS) sl22, R1.intN (OS.rd hS), RdS.cells (OS.rd hS), wrap_id]
      refine op_bs0 sz36 O1 ?_
      intro v13_0 h13_0 ho13_0 e13_0
      replace hL := OS.ext hL e13_0
      replace hS := OS.ext hS e13_0
      have := Ext.size e13_0
      replace eB := Ext.trans eB e13_0
      replace cL2 := Chg.stepE cL2 e13_0
      have hfho13_0 : Fresh h9.size [h9.size] := Fresh.one _
      have hlho13_0 := OS.lt ho13_0
      try simp -implicitDefEqProofs (disch := first | decide | assumption | omega) only [go_sem, RdS.len rR sl36, RdS.idx rR sl36, RdS.cellB rR (Ext.pres eB), RdS.cells rR, RdS.len hr5 sl22, RdS.idx hr5 sl22, R1.intB hr5 (Ext.pres eB), RdS.cells hr5, RdS.len (OS.rd hL) sl36, RdS.idx (OS.rd hL) sl36, RdS.cellN (OS.rd hL), RdS.cells (OS.rd hL), RdS.len (OS.rd hS) sl22, RdS.idx (OS.rd hS) sl22, R1.intN (OS.rd hS), RdS.cells (OS.rd hS), RdS.len (OS.rd ho13_0) sl36, RdS.idx (OS.rd ho13_0) sl36, RdS.cellN (OS.rd ho13_0), RdS.cells (OS.rd ho13_0), wrap_id]
      refine hK _ _ ?_
      clear hK K
      refine den_seq ?_
      refine den_seq ?_
      refine den_region TTok ?_
      intro K hK
      simp -implicitDefEqProofs (disch := first | decide | assumption | omega) only [go_sem, RdS.len rR sl36, RdS.idx rR sl36, RdS.cellB rR (Ext.pres eB), RdS.cells rR, RdS.len hr5 sl22, RdS.idx hr5 sl22, R1.intB hr5 (Ext.pres eB), RdS.cells hr5, RdS.len (OS.rd hL) sl36, RdS.idx (OS.rd hL) sl36, RdS.cellN (OS.rd hL), RdS.cells (OS.rd hL), RdS.len (OS.rd hS) sl22, RdS.idx (OS.rd hS) sl22, R1.intN (OS.rd hS), RdS.cells (OS.rd hS), RdS.len (OS.rd ho13_0) sl36, RdS.idx (OS.rd ho13_0) sl36, RdS.cellN (OS.rd ho13_0), RdS.cells (OS.rd ho13_0), wrap_id]
      refine hK _ _ ?_
      clear hK K
      refine den_block ?_
      refine den_sel [11, 12, 13, 0, 1, 5, 6, 7, 8] ?_
      intro env_10
      simp only [go_sem]
      refine den_loopS (σ := Nat × Bool × Value × List Nat) (fun st_ => [(11, st_.2.2.1), (12, .bool st_.2.1), (13, .int .i64 (st_.1 : Int))]) (fun st_ H => (st_.1 ≤ L.length) ∧ (st_.2.1 = decide (posP L k0 < st_.1)) ∧ (O2B H st_.2.2.1 (nextT p L (ownP p L (R.getD i default)) k0 (posP L k0) vw5_6_0 st_.1) st_.2.2.2) ∧ (Fresh (h9.size) st_.2.2.2) ∧ (Sub [h9.size] h13_0.size st_.2.2.2) ∧ (Chg [h9.size] h13_0 H)) (fun st_ => L.length - st_.1) (0, false, v13_0, [h9.size]) ?_ ?_
      ·exact ⟨by simp, by simp, by rw [nextT_zero]; exact OB.nil ho13_0, hfho13_0, Sub.refl, Chg.refl _ _⟩
      ·rintro ⟨k, b, vhN, fphN⟩ h13 ee12 ⟨hk, hb, hN, hfhN, sbhN, cL11⟩
       dsimp only at hk hb hN hfhN sbhN cL11
       replace hL := OS.chg hL cL11 (apart_lt hlhL hfho13_0 (by omega))
       replace hS := OS.chg hS cL11 (apart_lt hlhS hfho13_0 (by omega))
       have := cL11.size
       replace eB := Ext.then eB cL11 (ge_of hfho13_0 (by omega))
       replace cL2 := Chg.step cL2 cL11 (Sub.fresh hfho13_0 (by omega))
       have hlhN := OS.lt hN
       simp only [List.cons_append, List.nil_append]
       have hnl := nextT_len (p := p) (own := (ownP p L (R.getD i default))) (at_ := k0) (pos := posP L k0) (vo := vw5_6_0) hk
       refine den_seq ?_
       refine den_seq ?_
       refine den_region TTok ?_
       intro K hK
       simp -implicitDefEqProofs (disch := first | decide | assumption | omega) only [go_sem, RdS.len rR sl36, RdS.idx rR sl36, RdS.cellB rR (Ext.pres eB), RdS.cells rR, RdS.len hr5 sl22, RdS.idx hr5 sl22, R1.intB hr5 (Ext.pres eB), RdS.cells hr5, RdS.len (OS.rd hL) sl36, RdS.idx (OS.rd hL) sl36, RdS.cellN (OS.rd hL), RdS.cells (OS.rd hL), RdS.len (OS.rd hS) sl22, RdS.idx (OS.rd hS) sl22, R1.intN (OS.rd hS), RdS.cells (OS.rd hS), wrap_id]
       refine hK _ _ ?_
       clear hK K
       refine den_cond rfl (fun c3 => ?_) (fun c3 => ?_)
       ·try simp only [decide_eq_true_eq, decide_eq_false_iff_not, beq_iff_eq, beq_eq_false_iff_ne, bne_iff_ne, ne_eq, Bool.not_eq_true', Bool.not_eq_false', Bool.and_eq_true, Bool.or_eq_true, bne_eq_false_iff_eq] at c3
        refine den_skip ?_
        refine den_seq ?_
        refine den_block ?_
        refine den_seq ?_
        refine den_seq ?_
        refine den_mergeH [(72, .bool (((!(b)) && (decide ((k0 : Int) < (leadP ((L).getD k default)))))))] [0, 1, 5, 6, 7, 8, 11, 12, 13] ?_ ?_
         -- a way
        ·refine den_region TTok ?_
         intro K hK
         simp -implicitDefEqProofs (disch := first | decide | assumption | (simp (disch := decide) only [slotOf_zero, slotOf_succ, Option.map_some, puts_same, puts_ne, gv_bool, gv_undef, tt, tf, ft, ff, eq_self, if_true, if_false, Bool.false_eq_true, Bool.not_true, Bool.not_false]; done) | omega) only [go_sem, RdS.len rR sl36, RdS.idx rR sl36, RdS.cellB rR (Ext.pres eB), RdS.cells rR, RdS.len hr5 sl22, RdS.idx hr5 sl22, R1.intB hr5 (Ext.pres eB), RdS.cells hr5, RdS.len (OS.rd hL) sl36, RdS.idx (OS.rd hL) sl36, RdS.cellN (OS.rd hL), RdS.cells (OS.rd hL), RdS.len (OS.rd hS) sl22, RdS.idx (OS.rd hS) sl22, R1.intN (OS.rd hS), RdS.cells (OS.rd hS), wrap_id]
         refine opsP_T (by simp (disch := decide) only [slotOf_zero, slotOf_succ, Option.map_some, puts_same, puts_ne, gv_bool, gv_undef, tt, tf, ft, ff, eq_self, if_true, if_false, Bool.false_eq_true, Bool.not_true, Bool.not_false]; rfl) (fun g14 => ?_) (fun g14 => ?_)
         ·have hr15 := RdS.rowN (OS.rd hL) k (by omega)
          have hlhr15 := RdS.le hr15
          have xr16 := Ext.refl h13
          try simp -implicitDefEqProofs (disch := first | decide | assumption | (simp (disch := decide) only [slotOf_zero, slotOf_succ, Option.map_some, puts_same, puts_ne, gv_bool, gv_undef, tt, tf, ft, ff, eq_self, if_true, if_false, Bool.false_eq_true, Bool.not_true, Bool.not_false, g14]; done) | omega) only [go_sem, ld22, RdS.len rR sl36, RdS.idx rR sl36, RdS.cellB rR (Ext.pres eB), RdS.cells rR, RdS.len hr5 sl22, RdS.idx hr5 sl22, R1.intB hr5 (Ext.pres eB), RdS.cells hr5, RdS.len (OS.rd hL) sl36, RdS.idx (OS.rd hL) sl36, RdS.cellN (OS.rd hL), RdS.cells (OS.rd hL), RdS.len (OS.rd hS) sl22, RdS.idx (OS.rd hS) sl22, R1.intN (OS.rd hS), RdS.cells (OS.rd hS), RdS.len hr15 sl22, RdS.idx hr15 sl22, R1.intB hr15 (Ext.pres xr16), RdS.cells hr15, wrap_id, g14, eq_self, if_true, if_false, Bool.false_eq_true]
          try simp -implicitDefEqProofs (disch := first | decide | assumption | omega) only [go_sem, RdS.len rR sl36, RdS.idx rR sl36, RdS.cellB rR (Ext.pres eB), RdS.cells rR, RdS.len hr5 sl22, RdS.idx hr5 sl22, R1.intB hr5 (Ext.pres eB), RdS.cells hr5, RdS.len (OS.rd hL) sl36, RdS.idx (OS.rd hL) sl36, RdS.cellN (OS.rd hL), RdS.cells (OS.rd hL), RdS.len (OS.rd hS) sl22, RdS.idx (OS.rd hS) sl22, R1.intN (OS.rd hS), RdS.cells (OS.rd hS), RdS.len hr15 sl22, RdS.idx hr15 sl22, R1.intB hr15 (Ext.pres xr16), RdS.cells hr15, wrap_id]
          refine CallA.pure (sLead_ok _ ((L).getD k default) _ (RdS.pres hr15 (Ext.pres xr16))) ?_
          try simp -implicitDefEqProofs (disch := first | decide | assumption | (simp (disch := decide) only [slotOf_zero, slotOf_succ, Option.map_some, puts_same, puts_ne, gv_bool, gv_undef, tt, tf, ft, ff, eq_self, if_true, if_false, Bool.false_eq_true, Bool.not_true, Bool.not_false, g14]; done) | omega) only [go_sem, RdS.len rR sl36, RdS.idx rR sl36, RdS.cellB rR (Ext.pres eB), RdS.cells rR, RdS.len hr5 sl22, RdS.idx hr5 sl22, R1.intB hr5 (Ext.pres eB), RdS.cells hr5, RdS.len (OS.rd hL) sl36, RdS.idx (OS.rd hL) sl36, RdS.cellN (OS.rd hL), RdS.cells (OS.rd hL), RdS.len (OS.rd hS) sl22, RdS.idx (OS.rd hS) sl22, R1.intN (OS.rd hS), RdS.cells (OS.rd hS), RdS.len hr15 sl22, RdS.idx hr15 sl22, R1.intB hr15 (Ext.pres xr16), RdS.cells hr15, wrap_id, g14, eq_self, if_true, if_false, Bool.false_eq_true]
          refine hK _ _ ?_
          clear hK K
          refine den_stop ?_
          refine ⟨?_, rfl⟩
          first | (simp (disch := decide) only [go_sem, g14, eq_self, Bool.true_and, Bool.and_true, Bool.false_and, Bool.and_false, Bool.true_or, Bool.or_true, Bool.false_or, Bool.or_false, if_true, if_false, Bool.false_eq_true]; done) | simp [HasL, sel, puts_at, g14]
         ·try simp -implicitDefEqProofs (disch := first | decide | assumption | (simp (disch := decide) only [slotOf_zero, slotOf_succ, Option.map_some, puts_same, puts_ne, gv_bool, gv_undef, tt, tf, ft, ff, eq_self, if_true, if_false, Bool.false_eq_true, Bool.not_true, Bool.not_false, g14]; done) | omega) only [go_sem, RdS.len rR sl36, RdS.idx rR sl36, RdS.cellB rR (Ext.pres eB), RdS.cells rR, RdS.len hr5 sl22, RdS.idx hr5 sl22, R1.intB hr5 (Ext.pres eB), RdS.cells hr5, RdS.len (OS.rd hL) sl36, RdS.idx (OS.rd hL) sl36, RdS.cellN (OS.rd hL), RdS.cells (OS.rd hL), RdS.len (OS.rd hS) sl22, RdS.idx (OS.rd hS) sl22, R1.intN (OS.rd hS), RdS.cells (OS.rd hS), wrap_id, g14, eq_self, if_true, if_false, Bool.false_eq_true]
          refine hK _ _ ?_
          clear hK K
          refine den_stop ?_
          refine ⟨?_, rfl⟩
          first | (simp (disch := decide) only [go_sem, g14, eq_self, Bool.true_and, Bool.and_true, Bool.false_and, Bool.and_false, Bool.true_or, Bool.or_true, Bool.false_or, Bool.or_false, if_true, if_false, Bool.false_eq_true]; done) | simp [HasL, sel, puts_at, g14]
        intro en17
        simp (disch := decide) only [go_sem]
        refine den_cond rfl (fun c4 => ?_) (fun c4 => ?_)
        ·try simp only [decide_eq_true_eq, decide_eq_false_iff_not, beq_iff_eq, beq_eq_false_iff_ne, bne_iff_ne, ne_eq, Bool.not_eq_true', Bool.not_eq_false', Bool.and_eq_true, Bool.or_eq_true, bne_eq_false_iff_eq] at c4
         have hld := hrr.lead (i := k) (by omega)
         have hkp : k = posP L k0 := by
          have h1 := c4
          rw [hb] at h1
          simp only [Bool.not_eq_true', decide_eq_false_iff_not] at h1
          rcases Nat.lt_or_ge k (posP L k0) with h2 | h2
          ·have := hq2 k h2; omega
          ·omega
         refine den_seq ?_
         refine den_region TTok ?_
         intro K hK
         simp -implicitDefEqProofs (disch := first | decide | assumption | omega) only [go_sem, RdS.len rR sl36, RdS.idx rR sl36, RdS.cellB rR (Ext.pres eB), RdS.cells rR, RdS.len hr5 sl22, RdS.idx hr5 sl22, R1.intB hr5 (Ext.pres eB), RdS.cells hr5, RdS.len (OS.rd hL) sl36, RdS.idx (OS.rd hL) sl36, RdS.cellN (OS.rd hL), RdS.cells (OS.rd hL), RdS.len (OS.rd hS) sl22, RdS.idx (OS.rd hS) sl22, R1.intN (OS.rd hS), RdS.cells (OS.rd hS), wrap_id]
         refine op_bs1 sz36 rfl (OS.one hS).2 ?_
         try simp -implicitDefEqProofs (disch := first | decide | assumption | omega) only [go_sem, RdS.len rR sl36, RdS.idx rR sl36, RdS.cellB rR (Ext.pres eB), RdS.cells rR, RdS.len hr5 sl22, RdS.idx hr5 sl22, R1.intB hr5 (Ext.pres eB), RdS.cells hr5, RdS.len (OS.rd hL) sl36, RdS.idx (OS.rd hL) sl36, RdS.cellN (OS.rd hL), RdS.cells (OS.rd hL), RdS.len (OS.rd hS) sl22, RdS.idx (OS.rd hS) sl22, R1.intN (OS.rd hS), RdS.cells (OS.rd hS), wrap_id]
         refine op_append1 sz36 hN hfhN.nodup (EB.bor (x := (ownP p L (R.getD i default))) (OS.one hS)) List.nodup_nil (Apart.nil _) (by first | omega | (simp; omega)) rfl rfl ?_
         intro v18_3 h18_3 fp18_3 ho18_3 hn18_3 hs18_3 c18_3
         have hsz18_3 := c18_3.size
         have hfho18_3 : Fresh h9.size fp18_3 := Fresh.appd hfhN (Fresh.nil h13.size) (by omega) (by omega) hn18_3 hs18_3
         have sb20 : Sub [h9.size] h13_0.size fp18_3 := Sub.grow sbhN Sub.nil (by omega) hs18_3
         replace hL := OS.chg hL c18_3 (apart_lt hlhL hfhN (by omega))
         replace hS := OS.chg hS c18_3 (apart_lt hlhS hfhN (by omega))
         have := c18_3.size
         replace eB := Ext.then eB c18_3 (ge_of hfhN (by omega))
         replace cL2 := Chg.step cL2 c18_3 (Sub.fresh hfhN (by omega))
         replace cL11 := Chg.step cL11 c18_3 sbhN
         have hlho18_3 := OS.lt ho18_3
         have hla18_3 : (nextT p L (ownP p L (R.getD i default)) k0 (posP L k0) vw5_6_0 k ++ [((ownP p L (R.getD i default)), some vw5_6_0)]).length = (nextT p L (ownP p L (R.getD i default)) k0 (posP L k0) vw5_6_0 k).length + 1 := by rw [List.length_append]; rfl
         try simp -implicitDefEqProofs (disch := first | decide | assumption | omega) only [go_sem, RdS.len rR sl36, RdS.idx rR sl36, RdS.cellB rR (Ext.pres eB), RdS.cells rR, RdS.len hr5 sl22, RdS.idx hr5 sl22, R1.intB hr5 (Ext.pres eB), RdS.cells hr5, RdS.len (OS.rd hL) sl36, RdS.idx (OS.rd hL) sl36, RdS.cellN (OS.rd hL), RdS.cells (OS.rd hL), RdS.len (OS.rd hS) sl22, RdS.idx (OS.rd hS) sl22, R1.intN (OS.rd hS), RdS.cells (OS.rd hS), wrap_id]
         refine hK _ _ ?_
         clear hK K
         refine den_region TTok ?_
         intro K hK
         simp -implicitDefEqProofs (disch := first | decide | assumption | omega) only [go_sem, RdS.len rR sl36, RdS.idx rR sl36, RdS.cellB rR (Ext.pres eB), RdS.cells rR, RdS.len hr5 sl22, RdS.idx hr5 sl22, R1.intB hr5 (Ext.pres eB), RdS.cells hr5, RdS.len (OS.rd hL) sl36, RdS.idx (OS.rd hL) sl36, RdS.cellN (OS.rd hL), RdS.cells (OS.rd hL), RdS.len (OS.rd hS) sl22, RdS.idx (OS.rd hS) sl22, R1.intN (OS.rd hS), RdS.cells (OS.rd hS), wrap_id]
         refine hK _ _ ?_
         clear hK K
         have hLk := hrr.len k (by omega)
         have hLb := hrr.bnd k (by omega)
         have hkw := hok.lt
         have hlk := hLb.at (k := k0) (by omega)
         have hls : ((L.getD k default).length ≤ (ownP p L (R.getD i default)).length ∧ (L.getD k default).length ≤ 1000) ∧ Bnd p (L.getD k default) ∧ Bnd p (ownP p L (R.getD i default)) := ⟨by omega, hLb, hok.bnd⟩
         refine den_draw TTok mixed [16] [(0, true), (1, true), (2, true), (3, true), (4, true), (5, true), (6, true), (7, true), (8, true), (9, true), (10, true), (11, true), (12, true), (13, true), (14, false), (15, false), (16, false), (17, true)] (by kernel_rfl) ?_
         intro K hK
         have hr21 := RdS.rowN (OS.rd hL) k (by omega)
         have hlhr21 := RdS.le hr21
         have xr22 := Ext.refl h18_3
         have hr23 := RdS.rowN (OS.rd hL) k (by omega)
         have hlhr23 := RdS.le hr23
         have xr24 := Ext.refl h18_3
         simp -implicitDefEqProofs (disch := first | decide | assumption | omega) only [go_sem, ld22, ld2, RdS.len rR sl36, RdS.idx rR sl36, RdS.cellB rR (Ext.pres eB), RdS.cells rR, RdS.len hr5 sl22, RdS.idx hr5 sl22, R1.intB hr5 (Ext.pres eB), RdS.cells hr5, RdS.len (OS.rd hL) sl36, RdS.idx (OS.rd hL) sl36, RdS.cellN (OS.rd hL), RdS.cells (OS.rd hL), RdS.len (OS.rd hS) sl22, RdS.idx (OS.rd hS) sl22, R1.intN (OS.rd hS), RdS.cells (OS.rd hS), RdS.len hr21 sl22, RdS.idx hr21 sl22, R1.intB hr21 (Ext.pres xr22), RdS.cells hr21, RdS.len hr23 sl22, RdS.idx hr23 sl22, R1.intB hr23 (Ext.pres xr24), RdS.cells hr23, wrap_id]
         try simp -implicitDefEqProofs (disch := first | decide | assumption | omega) only [go_sem, RdS.len rR sl36, RdS.idx rR sl36, RdS.cellB rR (Ext.pres eB), RdS.cells rR, RdS.len hr5 sl22, RdS.idx hr5 sl22, R1.intB hr5 (Ext.pres eB), RdS.cells hr5, RdS.len (OS.rd hL) sl36, RdS.idx (OS.rd hL) sl36, RdS.cellN (OS.rd hL), RdS.cells (OS.rd hL), RdS.len (OS.rd hS) sl22, RdS.idx (OS.rd hS) sl22, R1.intN (OS.rd hS), RdS.cells (OS.rd hS), RdS.len hr21 sl22, RdS.idx hr21 sl22, R1.intB hr21 (Ext.pres xr22), RdS.cells hr21, RdS.len hr23 sl22, RdS.idx hr23 sl22, R1.intB hr23 (Ext.pres xr24), RdS.cells hr23, wrap_id]
         refine CallA.mono (sLess_ok _ _ p ((L).getD k default) (ownP p L (R.getD i default)) (((L).getD k default).getD k0 0) _ (RdS.pres hr21 (Ext.pres xr22)) (OS.rd hS) (by omega) hls.1 hls.2.1 hls.2.2 (by omega)) ?_
         intro vw20_14_0 h20_14
         rintro ⟨zvw20_14_0, fw20_14_0, rfl, how20_14_0, hfw20_14_0, e20_14⟩
         replace hL := OS.ext hL e20_14
         replace hS := OS.ext hS e20_14
         replace ho18_3 := OS.ext ho18_3 e20_14
         have := Ext.size e20_14
         replace eB := Ext.trans eB e20_14
         replace xr22 := Ext.trans xr22 e20_14
         replace xr24 := Ext.trans xr24 e20_14
         replace cL2 := Chg.stepE cL2 e20_14
         replace cL11 := Chg.stepE cL11 e20_14
         have hlhow20_14_0 := OS.lt how20_14_0
         try simp (disch := decide) only [outv_some, outv_none, put_puts]
         refine plK_pres (Ext.pres e20_14) ?_
         try simp -implicitDefEqProofs (disch := first | decide | assumption | omega) only [go_sem, RdS.len rR sl36, RdS.idx rR sl36, RdS.cellB rR (Ext.pres eB), RdS.cells rR, RdS.len hr5 sl22, RdS.idx hr5 sl22, R1.intB hr5 (Ext.pres eB), RdS.cells hr5, RdS.len (OS.rd hL) sl36, RdS.idx (OS.rd hL) sl36, RdS.cellN (OS.rd hL), RdS.cells (OS.rd hL), RdS.len (OS.rd hS) sl22, RdS.idx (OS.rd hS) sl22, R1.intN (OS.rd hS), RdS.cells (OS.rd hS), RdS.len (OS.rd how20_14_0) sl22, RdS.idx (OS.rd how20_14_0) sl22, R1.intN (OS.rd how20_14_0), RdS.cells (OS.rd how20_14_0), RdS.len hr21 sl22, RdS.idx hr21 sl22, R1.intB hr21 (Ext.pres xr22), RdS.cells hr21, RdS.len hr23 sl22, RdS.idx hr23 sl22, R1.intB hr23 (Ext.pres xr24), RdS.cells hr23, wrap_id]
         refine op_bs1 sz36 rfl (OS.one how20_14_0).2 ?_
         try simp (disch := decide) only [outv_some, outv_none, put_puts]
         refine plK_pres (Ext.pres (Ext.push _ _)) ?_
         try simp -implicitDefEqProofs (disch := first | decide | assumption | omega) only [go_sem, RdS.len rR sl36, RdS.idx rR sl36, RdS.cellB rR (Ext.pres eB), RdS.cells rR, RdS.len hr5 sl22, RdS.idx hr5 sl22, R1.intB hr5 (Ext.pres eB), RdS.cells hr5, RdS.len (OS.rd hL) sl36, RdS.idx (OS.rd hL) sl36, RdS.cellN (OS.rd hL), RdS.cells (OS.rd hL), RdS.len (OS.rd hS) sl22, RdS.idx (OS.rd hS) sl22, R1.intN (OS.rd hS), RdS.cells (OS.rd hS), RdS.len (OS.rd how20_14_0) sl22, RdS.idx (OS.rd how20_14_0) sl22, R1.intN (OS.rd how20_14_0), RdS.cells (OS.rd how20_14_0), RdS.len hr21 sl22, RdS.idx hr21 sl22, R1.intB hr21 (Ext.pres xr22), RdS.cells hr21, RdS.len hr23 sl22, RdS.idx hr23 sl22, R1.intB hr23 (Ext.pres xr24), RdS.cells hr23, wrap_id]
         refine op_append1 sz36 ho18_3 hfho18_3.nodup (EB.own how20_14_0) hfw20_14_0.nodup (apart_lt hlho18_3 hfw20_14_0 (by omega)) (by first | omega | (simp; omega)) rfl rfl ?_
         intro v20_16 h20_16 fp20_16 ho20_16 hn20_16 hs20_16 c20_16
         have hsz20_16 := c20_16.size
         have hfho20_16 : Fresh h9.size fp20_16 := Fresh.appd hfho18_3 hfw20_14_0 (by omega) (by omega) hn20_16 hs20_16
         have sb25 : Sub [h9.size] h13_0.size fp20_16 := Sub.grow sb20 (Sub.fresh hfw20_14_0 (by omega)) (by omega) hs20_16
         replace hL := OS.chg hL c20_16 (apart_lt hlhL hfho18_3 (by omega))
         replace hS := OS.chg hS c20_16 (apart_lt hlhS hfho18_3 (by omega))
         have := c20_16.size
         replace eB := Ext.then eB c20_16 (ge_of hfho18_3 (by omega))
         replace cL2 := Chg.step cL2 c20_16 (Sub.fresh hfho18_3 (by omega))
         replace cL11 := Chg.step cL11 c20_16 sb20
         have hlho20_16 := OS.lt ho20_16
         change O2B _ _ (nextT p L (ownP p L (R.getD i default)) k0 (posP L k0) vw5_6_0 k ++ [((ownP p L (R.getD i default)), some vw5_6_0)] ++ [(redR p (ownP p L (R.getD i default)) k0 (L.getD k default), none)]) _ at ho20_16
         try simp (disch := decide) only [outv_some, outv_none, put_puts]
         refine plK_last (by decide) ?_
         try simp -implicitDefEqProofs (disch := first | decide | assumption | omega) only [go_sem, RdS.len rR sl36, RdS.idx rR sl36, RdS.cellB rR (Ext.pres eB), RdS.cells rR, RdS.len hr5 sl22, RdS.idx hr5 sl22, R1.intB hr5 (Ext.pres eB), RdS.cells hr5, RdS.len (OS.rd hL) sl36, RdS.idx (OS.rd hL) sl36, RdS.cellN (OS.rd hL), RdS.cells (OS.rd hL), RdS.len (OS.rd hS) sl22, RdS.idx (OS.rd hS) sl22, R1.intN (OS.rd hS), RdS.cells (OS.rd hS), wrap_id]
         refine hK _ _ ?_
         clear hK K
         refine den_blk ?_
         refine den_region TTok ?_
         intro K hK
         simp -implicitDefEqProofs (disch := first | decide | assumption | omega) only [go_sem, RdS.len rR sl36, RdS.idx rR sl36, RdS.cellB rR (Ext.pres eB), RdS.cells rR, RdS.len hr5 sl22, RdS.idx hr5 sl22, R1.intB hr5 (Ext.pres eB), RdS.cells hr5, RdS.len (OS.rd hL) sl36, RdS.idx (OS.rd hL) sl36, RdS.cellN (OS.rd hL), RdS.cells (OS.rd hL), RdS.len (OS.rd hS) sl22, RdS.idx (OS.rd hS) sl22, R1.intN (OS.rd hS), RdS.cells (OS.rd hS), wrap_id]
         refine hK _ _ ?_
         clear hK K
         refine den_stop ?_
         first | rw [nextT_at (by omega) hkp] at ho20_16 | rw [nextT_step (by omega) hkp] at ho20_16
         exact ⟨(k + 1, true, v20_16, fp20_16), by simp [HasL, puts_at], ⟨by dsimp only; omega, (decide_eq_true (by omega)).symm, ho20_16, hfho20_16, sb25, cL11⟩, by first | omega | (dsimp only; omega)⟩
        ·try simp only [decide_eq_true_eq, decide_eq_false_iff_not, beq_iff_eq, beq_eq_false_iff_ne, bne_iff_ne, ne_eq, Bool.not_eq_true', Bool.not_eq_false', Bool.and_eq_true, Bool.or_eq_true, bne_eq_false_iff_eq] at c4
         have hld := hrr.lead (i := k) (by omega)
         have hkp : k ≠ posP L k0 := fun he => by
          have h1 := c4
          rw [hb] at h1
          have h2 := hq3 k (by omega) (by omega)
          have h3 := hok.ne (i := k) (by omega)
          rcases Bool.and_eq_false_iff.1 h1 with h4 | h4
          ·simp only [Bool.not_eq_false', decide_eq_true_eq] at h4; omega
          ·simp only [decide_eq_false_iff_not] at h4; omega
         refine den_skip ?_
         have hLk := hrr.len k (by omega)
         have hLb := hrr.bnd k (by omega)
         have hkw := hok.lt
         have hlk := hLb.at (k := k0) (by omega)
         have hls : ((L.getD k default).length ≤ (ownP p L (R.getD i default)).length ∧ (L.getD k default).length ≤ 1000) ∧ Bnd p (L.getD k default) ∧ Bnd p (ownP p L (R.getD i default)) := ⟨by omega, hLb, hok.bnd⟩
         refine den_draw TTok mixed [16] [(0, true), (1, true), (2, true), (3, true), (4, true), (5, true), (6, true), (7, true), (8, true), (9, true), (10, true), (11, true), (12, true), (13, true), (14, false), (15, false), (16, false), (17, true)] (by kernel_rfl) ?_
         intro K hK
         have hr26 := RdS.rowN (OS.rd hL) k (by omega)
         have hlhr26 := RdS.le hr26
         have xr27 := Ext.refl h13
         have hr28 := RdS.rowN (OS.rd hL) k (by omega)
         have hlhr28 := RdS.le hr28
         have xr29 := Ext.refl h13
         simp -implicitDefEqProofs (disch := first | decide | assumption | omega) only [go_sem, ld22, ld2, RdS.len rR sl36, RdS.idx rR sl36, RdS.cellB rR (Ext.pres eB), RdS.cells rR, RdS.len hr5 sl22, RdS.idx hr5 sl22, R1.intB hr5 (Ext.pres eB), RdS.cells hr5, RdS.len (OS.rd hL) sl36, RdS.idx (OS.rd hL) sl36, RdS.cellN (OS.rd hL), RdS.cells (OS.rd hL), RdS.len (OS.rd hS) sl22, RdS.idx (OS.rd hS) sl22, R1.intN (OS.rd hS), RdS.cells (OS.rd hS), RdS.len hr26 sl22, RdS.idx hr26 sl22, R1.intB hr26 (Ext.pres xr27), RdS.cells hr26, RdS.len hr28 sl22, RdS.idx hr28 sl22, R1.intB hr28 (Ext.pres xr29), RdS.cells hr28, wrap_id]
         try simp -implicitDefEqProofs (disch := first | decide | assumption | omega) only [go_sem, RdS.len rR sl36, RdS.idx rR sl36, RdS.cellB rR (Ext.pres eB), RdS.cells rR, RdS.len hr5 sl22, RdS.idx hr5 sl22, R1.intB hr5 (Ext.pres eB), RdS.cells hr5, RdS.len (OS.rd hL) sl36, RdS.idx (OS.rd hL) sl36, RdS.cellN (OS.rd hL), RdS.cells (OS.rd hL), RdS.len (OS.rd hS) sl22, RdS.idx (OS.rd hS) sl22, R1.intN (OS.rd hS), RdS.cells (OS.rd hS), RdS.len hr26 sl22, RdS.idx hr26 sl22, R1.intB hr26 (Ext.pres xr27), RdS.cells hr26, RdS.len hr28 sl22, RdS.idx hr28 sl22, R1.intB hr28 (Ext.pres xr29), RdS.cells hr28, wrap_id]
         refine CallA.mono (sLess_ok _ _ p ((L).getD k default) (ownP p L (R.getD i default)) (((L).getD k default).getD k0 0) _ (RdS.pres hr26 (Ext.pres xr27)) (OS.rd hS) (by omega) hls.1 hls.2.1 hls.2.2 (by omega)) ?_
         intro vw20_14_1_0 h20_14_1
         rintro ⟨zvw20_14_1_0, fw20_14_1_0, rfl, how20_14_1_0, hfw20_14_1_0, e20_14_1⟩
         replace hL := OS.ext hL e20_14_1
         replace hS := OS.ext hS e20_14_1
         replace hN := OS.ext hN e20_14_1
         have := Ext.size e20_14_1
         replace eB := Ext.trans eB e20_14_1
         replace xr27 := Ext.trans xr27 e20_14_1
         replace xr29 := Ext.trans xr29 e20_14_1
         replace cL2 := Chg.stepE cL2 e20_14_1
         replace cL11 := Chg.stepE cL11 e20_14_1
         have hlhow20_14_1_0 := OS.lt how20_14_1_0
         try simp (disch := decide) only [outv_some, outv_none, put_puts]
         refine plK_pres (Ext.pres e20_14_1) ?_
         try simp -implicitDefEqProofs (disch := first | decide | assumption | omega) only [go_sem, RdS.len rR sl36, RdS.idx rR sl36, RdS.cellB rR (Ext.pres eB), RdS.cells rR, RdS.len hr5 sl22, RdS.idx hr5 sl22, R1.intB hr5 (Ext.pres eB), RdS.cells hr5, RdS.len (OS.rd hL) sl36, RdS.idx (OS.rd hL) sl36, RdS.cellN (OS.rd hL), RdS.cells (OS.rd hL), RdS.len (OS.rd hS) sl22, RdS.idx (OS.rd hS) sl22, R1.intN (OS.rd hS), RdS.cells (OS.rd hS), RdS.len (OS.rd how20_14_1_0) sl22, RdS.idx (OS.rd how20_14_1_0) sl22, R1.intN (OS.rd how20_14_1_0), RdS.cells (OS.rd how20_14_1_0), RdS.len hr26 sl22, RdS.idx hr26 sl22, R1.intB hr26 (Ext.pres xr27), RdS.cells hr26, RdS.len hr28 sl22, RdS.idx hr28 sl22, R1.intB hr28 (Ext.pres xr29), RdS.cells hr28, wrap_id]
         refine op_bs1 sz36 rfl (OS.one how20_14_1_0).2 ?_
         try simp (disch := decide) only [outv_some, outv_none, put_puts]
         refine plK_pres (Ext.pres (Ext.push _ _)) ?_
         try simp -implicitDefEqProofs (disch := first | decide | assumption | omega) only [go_sem, RdS.len rR sl36, RdS.idx rR sl36, RdS.cellB rR (Ext.pres eB), RdS.cells rR, RdS.len hr5 sl22, RdS.idx hr5 sl22, R1.intB hr5 (Ext.pres eB), RdS.cells hr5, RdS.len (OS.rd hL) sl36, RdS.idx (OS.rd hL) sl36, RdS.cellN (OS.rd hL), RdS.cells (OS.rd hL), RdS.len (OS.rd hS) sl22, RdS.idx (OS.rd hS) sl22, R1.intN (OS.rd hS), RdS.cells (OS.rd hS), RdS.len (OS.rd how20_14_1_0) sl22, RdS.idx (OS.rd how20_14_1_0) sl22, R1.intN (OS.rd how20_14_1_0), RdS.cells (OS.rd how20_14_1_0), RdS.len hr26 sl22, RdS.idx hr26 sl22, R1.intB hr26 (Ext.pres xr27), RdS.cells hr26, RdS.len hr28 sl22, RdS.idx hr28 sl22, R1.intB hr28 (Ext.pres xr29), RdS.cells hr28, wrap_id]
         refine op_append1 sz36 hN hfhN.nodup (EB.own how20_14_1_0) hfw20_14_1_0.nodup (apart_lt hlhN hfw20_14_1_0 (by omega)) (by first | omega | (simp; omega)) rfl rfl ?_
         intro v20_16_1 h20_16_1 fp20_16_1 ho20_16_1 hn20_16_1 hs20_16_1 c20_16_1
         have hsz20_16_1 := c20_16_1.size
         have hfho20_16_1 : Fresh h9.size fp20_16_1 := Fresh.appd hfhN hfw20_14_1_0 (by omega) (by omega) hn20_16_1 hs20_16_1
         have sb30 : Sub [h9.size] h13_0.size fp20_16_1 := Sub.grow sbhN (Sub.fresh hfw20_14_1_0 (by omega)) (by omega) hs20_16_1
         replace hL := OS.chg hL c20_16_1 (apart_lt hlhL hfhN (by omega))
         replace hS := OS.chg hS c20_16_1 (apart_lt hlhS hfhN (by omega))
         have := c20_16_1.size
         replace eB := Ext.then eB c20_16_1 (ge_of hfhN (by omega))
         replace cL2 := Chg.step cL2 c20_16_1 (Sub.fresh hfhN (by omega))
         replace cL11 := Chg.step cL11 c20_16_1 sbhN
         have hlho20_16_1 := OS.lt ho20_16_1
         change O2B _ _ (nextT p L (ownP p L (R.getD i default)) k0 (posP L k0) vw5_6_0 k ++ [(redR p (ownP p L (R.getD i default)) k0 (L.getD k default), none)]) _ at ho20_16_1
         try simp (disch := decide) only [outv_some, outv_none, put_puts]
         refine plK_last (by decide) ?_
         try simp -implicitDefEqProofs (disch := first | decide | assumption | omega) only [go_sem, RdS.len rR sl36, RdS.idx rR sl36, RdS.cellB rR (Ext.pres eB), RdS.cells rR, RdS.len hr5 sl22, RdS.idx hr5 sl22, R1.intB hr5 (Ext.pres eB), RdS.cells hr5, RdS.len (OS.rd hL) sl36, RdS.idx (OS.rd hL) sl36, RdS.cellN (OS.rd hL), RdS.cells (OS.rd hL), RdS.len (OS.rd hS) sl22, RdS.idx (OS.rd hS) sl22, R1.intN (OS.rd hS), RdS.cells (OS.rd hS), wrap_id]
         refine hK _ _ ?_
         clear hK K
         refine den_blk ?_
         refine den_region TTok ?_
         intro K hK
         simp -implicitDefEqProofs (disch := first | decide | assumption | omega) only [go_sem, RdS.len rR sl36, RdS.idx rR sl36, RdS.cellB rR (Ext.pres eB), RdS.cells rR, RdS.len hr5 sl22, RdS.idx hr5 sl22, R1.intB hr5 (Ext.pres eB), RdS.cells hr5, RdS.len (OS.rd hL) sl36, RdS.idx (OS.rd hL) sl36, RdS.cellN (OS.rd hL), RdS.cells (OS.rd hL), RdS.len (OS.rd hS) sl22, RdS.idx (OS.rd hS) sl22, R1.intN (OS.rd hS), RdS.cells (OS.rd hS), wrap_id]
         refine hK _ _ ?_
         clear hK K
         refine den_stop ?_
         first | rw [nextT_at (by omega) hkp] at ho20_16_1 | rw [nextT_step (by omega) hkp] at ho20_16_1
         exact ⟨(k + 1, b, v20_16_1, fp20_16_1), by simp [HasL, puts_at], ⟨by dsimp only; omega, (hb.trans (decide_eq_decide.2 (by omega))), ho20_16_1, hfho20_16_1, sb30, cL11⟩, by first | omega | (dsimp only; omega)⟩
       ·try simp only [decide_eq_true_eq, decide_eq_false_iff_not, beq_iff_eq, beq_eq_false_iff_ne, bne_iff_ne, ne_eq, Bool.not_eq_true', Bool.not_eq_false', Bool.and_eq_true, Bool.or_eq_true, bne_eq_false_iff_eq] at c3
        refine den_exit ?_
        refine denX_code ?_
        refine denX_stop ?_
        refine denX_hit ?_
        refine den_seq ?_
        refine den_seq ?_
        refine den_region TTok ?_
        intro K hK
        simp -implicitDefEqProofs (disch := first | decide | assumption | omega) only [go_sem, RdS.len rR sl36, RdS.idx rR sl36, RdS.cellB rR (Ext.pres eB), RdS.cells rR, RdS.len hr5 sl22, RdS.idx hr5 sl22, R1.intB hr5 (Ext.pres eB), RdS.cells hr5, RdS.len (OS.rd hS) sl22, RdS.idx (OS.rd hS) sl22, R1.intN (OS.rd hS), RdS.cells (OS.rd hS), wrap_id]
        refine hK _ _ ?_
        clear hK K
        refine den_cond rfl (fun c5 => ?_) (fun c5 => ?_)
        ·try simp only [decide_eq_true_eq, decide_eq_false_iff_not, beq_iff_eq, beq_eq_false_iff_ne, bne_iff_ne, ne_eq, Bool.not_eq_true', Bool.not_eq_false', Bool.and_eq_true, Bool.or_eq_true, bne_eq_false_iff_eq] at c5
         have hkp : k ≤ posP L k0 := by
          have h1 := hb.symm.trans (show b = false by simpa using c5)
          simp only [decide_eq_false_iff_not] at h1
          omega
         refine den_region TTok ?_
         intro K hK
         simp -implicitDefEqProofs (disch := first | decide | assumption | omega) only [go_sem, RdS.len rR sl36, RdS.idx rR sl36, RdS.cellB rR (Ext.pres eB), RdS.cells rR, RdS.len hr5 sl22, RdS.idx hr5 sl22, R1.intB hr5 (Ext.pres eB), RdS.cells hr5, RdS.len (OS.rd hS) sl22, RdS.idx (OS.rd hS) sl22, R1.intN (OS.rd hS), RdS.cells (OS.rd hS), wrap_id]
         refine op_bs1 sz36 rfl (OS.one hS).2 ?_
         try simp -implicitDefEqProofs (disch := first | decide | assumption | omega) only [go_sem, RdS.len rR sl36, RdS.idx rR sl36, RdS.cellB rR (Ext.pres eB), RdS.cells rR, RdS.len hr5 sl22, RdS.idx hr5 sl22, R1.intB hr5 (Ext.pres eB), RdS.cells hr5, RdS.len (OS.rd hS) sl22, RdS.idx (OS.rd hS) sl22, R1.intN (OS.rd hS), RdS.cells (OS.rd hS), wrap_id]
         refine op_append1 sz36 hN hfhN.nodup (EB.bor (x := (ownP p L (R.getD i default))) (OS.one hS)) List.nodup_nil (Apart.nil _) (by first | omega | (simp; omega)) rfl rfl ?_
         intro v22_3 h22_3 fp22_3 ho22_3 hn22_3 hs22_3 c22_3
         have hsz22_3 := c22_3.size
         have hfho22_3 : Fresh h9.size fp22_3 := Fresh.appd hfhN (Fresh.nil h13.size) (by omega) (by omega) hn22_3 hs22_3
         replace hS := OS.chg hS c22_3 (apart_lt hlhS hfhN (by omega))
         have := c22_3.size
         replace eB := Ext.then eB c22_3 (ge_of hfhN (by omega))
         replace cL2 := Chg.step cL2 c22_3 (Sub.fresh hfhN (by omega))
         have hlho22_3 := OS.lt ho22_3
         have hla22_3 : (nextT p L (ownP p L (R.getD i default)) k0 (posP L k0) vw5_6_0 k ++ [((ownP p L (R.getD i default)), some vw5_6_0)]).length = (nextT p L (ownP p L (R.getD i default)) k0 (posP L k0) vw5_6_0 k).length + 1 := by rw [List.length_append]; rfl
         try simp -implicitDefEqProofs (disch := first | decide | assumption | omega) only [go_sem, RdS.len rR sl36, RdS.idx rR sl36, RdS.cellB rR (Ext.pres eB), RdS.cells rR, RdS.len hr5 sl22, RdS.idx hr5 sl22, R1.intB hr5 (Ext.pres eB), RdS.cells hr5, RdS.len (OS.rd hS) sl22, RdS.idx (OS.rd hS) sl22, R1.intN (OS.rd hS), RdS.cells (OS.rd hS), wrap_id]
         refine hK _ _ ?_
         clear hK K
         rw [nextT_end1 (by omega) (by omega)] at ho22_3
         obtain ⟨fpJ, hoJ, hnJ, huJ⟩ := OB.join ho22_3 hfho22_3.nodup hS hfhS.nodup (apart_gt hfho22_3 hlhS (by omega)) (by rw [putT_len hq1]; omega) (putT_at hq1) (fun j hj hne => putT_other hq1 hj hne)
         rw [putT_fst] at hoJ
         have hfhoJ : Fresh (h4.size) fpJ := Fresh.appd (hfho22_3.mono (by omega)) hfhS (by omega) (by omega) hnJ (fun b hb => (huJ b hb).elim .inl (fun h => .inr (.inl h)) : ∀ b ∈ fpJ, b ∈ fp22_3 ∨ b ∈ fw5_6_0 ∨ h22_3.size ≤ b)
         have sb31 : Sub [h.size] h1_0.size fpJ := Sub.grow (Sub.fresh hfho22_3 (by omega)) (Sub.fresh hfhS (by omega)) (by omega) (fun b hb => (huJ b hb).elim .inl (fun h => .inr (.inl h)) : ∀ b ∈ fpJ, b ∈ fp22_3 ∨ b ∈ fw5_6_0 ∨ h22_3.size ≤ b)
         have hlhoJ := OS.lt hoJ
         refine den_region TTok ?_
         intro K hK
         simp -implicitDefEqProofs (disch := first | decide | assumption | omega) only [go_sem, RdS.len rR sl36, RdS.idx rR sl36, RdS.cellB rR (Ext.pres eB), RdS.cells rR, RdS.len hr5 sl22, RdS.idx hr5 sl22, R1.intB hr5 (Ext.pres eB), RdS.cells hr5, RdS.len (OS.rd hoJ) sl36, RdS.idx (OS.rd hoJ) sl36, RdS.cellN (OS.rd hoJ), RdS.cells (OS.rd hoJ), wrap_id]
         refine hK _ _ ?_
         clear hK K
         refine den_blk ?_
         refine den_region TTok ?_
         intro K hK
         simp -implicitDefEqProofs (disch := first | decide | assumption | omega) only [go_sem, RdS.len rR sl36, RdS.idx rR sl36, RdS.cellB rR (Ext.pres eB), RdS.cells rR, RdS.len hr5 sl22, RdS.idx hr5 sl22, R1.intB hr5 (Ext.pres eB), RdS.cells hr5, RdS.len (OS.rd hoJ) sl36, RdS.idx (OS.rd hoJ) sl36, RdS.cellN (OS.rd hoJ), RdS.cells (OS.rd hoJ), wrap_id]
         refine hK _ _ ?_
         clear hK K
         refine den_stop ?_
         exact ⟨(i + 1, putP p L (ownP p L (R.getD i default)) k0 (posP L k0), v22_3, fpJ), by simp [HasL, puts_at], ⟨(by rw [take_snoc (by omega)]; exact Red.put hred hP hrv.1 hrb hke), by dsimp only; omega, hoJ, (hfhoJ.mono (by omega)), sb31, cL2⟩, by first | omega | (dsimp only; omega)⟩
        ·try simp only [decide_eq_true_eq, decide_eq_false_iff_not, beq_iff_eq, beq_eq_false_iff_ne, bne_iff_ne, ne_eq, Bool.not_eq_true', Bool.not_eq_false', Bool.and_eq_true, Bool.or_eq_true, bne_eq_false_iff_eq] at c5
         have hkp : posP L k0 < k := by
          have h1 := hb.symm.trans (show b = true by simpa using c5)
          simpa only [decide_eq_true_eq] using h1
         refine den_skip ?_
         rw [nextT_end2 (by omega) (by omega)] at hN
         obtain ⟨fpJ, hoJ, hnJ, huJ⟩ := OB.join hN hfhN.nodup hS hfhS.nodup (apart_gt hfhN hlhS (by omega)) (by rw [putT_len hq1]; omega) (putT_at hq1) (fun j hj hne => putT_other hq1 hj hne)
         rw [putT_fst] at hoJ
         have hfhoJ : Fresh (h4.size) fpJ := Fresh.appd (hfhN.mono (by omega)) hfhS (by omega) (by omega) hnJ (fun b hb => (huJ b hb).elim .inl (fun h => .inr (.inl h)) : ∀ b ∈ fpJ, b ∈ fphN ∨ b ∈ fw5_6_0 ∨ h13.size ≤ b)
         have sb32 : Sub [h.size] h1_0.size fpJ := Sub.grow (Sub.fresh hfhN (by omega)) (Sub.fresh hfhS (by omega)) (by omega) (fun b hb => (huJ b hb).elim .inl (fun h => .inr (.inl h)) : ∀ b ∈ fpJ, b ∈ fphN ∨ b ∈ fw5_6_0 ∨ h13.size ≤ b)
         have hlhoJ := OS.lt hoJ
         refine den_region TTok ?_
         intro K hK
         simp -implicitDefEqProofs (disch := first | decide | assumption | omega) only [go_sem, RdS.len rR sl36, RdS.idx rR sl36, RdS.cellB rR (Ext.pres eB), RdS.cells rR, RdS.len hr5 sl22, RdS.idx hr5 sl22, R1.intB hr5 (Ext.pres eB), RdS.cells hr5, RdS.len (OS.rd hoJ) sl36, RdS.idx (OS.rd hoJ) sl36, RdS.cellN (OS.rd hoJ), RdS.cells (OS.rd hoJ), wrap_id]
         refine hK _ _ ?_
         clear hK K
         refine den_blk ?_
         refine den_region TTok ?_
         intro K hK
         simp -implicitDefEqProofs (disch := first | decide | assumption | omega) only [go_sem, RdS.len rR sl36, RdS.idx rR sl36, RdS.cellB rR (Ext.pres eB), RdS.cells rR, RdS.len hr5 sl22, RdS.idx hr5 sl22, R1.intB hr5 (Ext.pres eB), RdS.cells hr5, RdS.len (OS.rd hoJ) sl36, RdS.idx (OS.rd hoJ) sl36, RdS.cellN (OS.rd hoJ), RdS.cells (OS.rd hoJ), wrap_id]
         refine hK _ _ ?_
         clear hK K
         refine den_stop ?_
         exact ⟨(i + 1, putP p L (ownP p L (R.getD i default)) k0 (posP L k0), vhN, fpJ), by simp [HasL, puts_at], ⟨(by rw [take_snoc (by omega)]; exact Red.put hred hP hrv.1 hrb hke), by dsimp only; omega, hoJ, (hfhoJ.mono (by omega)), sb32, cL2⟩, by first | omega | (dsimp only; omega)⟩
  ·try simp only [decide_eq_true_eq, decide_eq_false_iff_not, beq_iff_eq, beq_eq_false_iff_ne, bne_iff_ne, ne_eq, Bool.not_eq_true', Bool.not_eq_false', Bool.and_eq_true, Bool.or_eq_true, bne_eq_false_iff_eq] at c0
   refine den_exit ?_
   refine denX_code ?_
   refine denX_stop ?_
   refine denX_hit ?_
   refine den_seq ?_
   refine den_region TTok ?_
   intro K hK
   simp -implicitDefEqProofs (disch := first | decide | assumption | omega) only [go_sem, RdS.len rR sl36, RdS.idx rR sl36, RdS.cellB rR (Ext.pres eB), RdS.cells rR, RdS.len (OS.rd hL) sl36, RdS.idx (OS.rd hL) sl36, RdS.cellN (OS.rd hL), RdS.cells (OS.rd hL), wrap_id]
   refine hK _ _ ?_
   clear hK K
   refine den_ret ?_
   simp (disch := decide) only [resP_1, puts_same, puts_ne]
   have hec : ech p R = L := Red.ech hP hT (by rw [List.take_of_length_le (by omega)] at hred; exact hred)
   rw [hec]
   exact ⟨_, _, rfl, hL, hfhL.mono (by omega), eB⟩
end Go.Proofs.Ytbplnadngahgaaa

namespace Go.Proofs.Ytbplnadngahgaaa
open Go
/-- The first elements of a slice that is read. -/
theorem RdS.takeV {α : Type} {E : Heap → Value → α → Prop} {h : Heap} {v : Value} {xs : List α} {t e : TypeId} {k : IntKind} (hv : RdS E h v xs) (ht : SlT TT t e) {hi : Int} (h0 : 0 ≤ hi) (h1 : hi ≤ xs.length) : ∃ v', sliceV TT t v none (some (.int k hi)) none = some v' ∧ RdS E h v' (xs.take hi.toNat) := by
 obtain ⟨A, c, rfl, hA, hc, hm, hr⟩ := hv
 obtain ⟨i, j, e1, e2, e3, e4⟩ := ht.out
 have hl : (xs.take hi.toNat).length = hi.toNat := by simp; omega
 have hadd : A.map (fun x : Addr => x.add (0 * j.size)) = A := by
  cases A with
  | none => rfl
  | some a => simp [addr_zero]
 refine ⟨.slice A hi.toNat c, ?_, A, c, by rw [hl], ?_, by rw [hl]; omega, by omega, fun q hq => ?_⟩
 ·simp only [sliceV, e1, Option.bind_some, e2, e3, bndsV, bndV]
  rw [if_pos ⟨h0, by omega⟩]
  simp only [Option.bind_some, Option.map_some, Nat.sub_zero]
  rw [hadd]
  simp
 ·rcases hA with hA | hA
  ·exact .inl hA
  ·right; rw [hl]; omega
 ·rw [hl] at hq
  obtain ⟨u, hu, hE⟩ := hr q (by omega)
  exact ⟨u, by cases A <;> exact hu, by rw [List.getElem_take]; exact hE⟩
/-- A row that lies in other blocks, and reads the same wherever these are as they were. -/
def ESt (h0 : Heap) (fE : List Nat) (_ : Heap) (u : Value) (x : List Int) (fp : List Nat) : Prop := fp = [] ∧ (u.oneCell' = true ∧ u.cells = #[u]) ∧ ∀ h' : Heap, (∀ b ∈ fE, h'[b]? = h0[b]?) → R1 h' u x
instance {h0 : Heap} {fE : List Nat} : Own (ESt h0 fE) := ⟨fun _ h => h, (fun h b hb => by rw [h.1] at hb; cases hb), (fun h => h.2.1)⟩
abbrev O2S (h0 : Heap) (fE : List Nat) : Heap → Value → List (List Int) → List Nat → Prop := OS 22 (ESt h0 fE)
theorem O2S.nil {h0 : Heap} {fE : List Nat} {h : Heap} {v : Value} {fp : List Nat} (ho : O2 h v [] fp) : O2S h0 fE h v [] fp := by
 rcases ho with ⟨h1, _, h3⟩ | ⟨b, c, cur, fps, rfl, r⟩
 ·exact .inl ⟨h1, rfl, h3⟩
 ·exact .inr ⟨b, c, cur, fps, rfl, ⟨r.val, r.box, r.size, r.max, r.le, r.len, fun j hj => by simp at hj⟩⟩
theorem O2S.rd {h0 : Heap} {fE : List Nat} {h : Heap} {v : Value} {xs : List (List Int)} {fp : List Nat} (ho : O2S h0 fE h v xs fp) (hag : ∀ b ∈ fE, h[b]? = h0[b]?) : R2 h v xs := by
 rcases ho with ⟨rfl, rfl, _⟩ | ⟨b, c, cur, fps, _, r⟩
 ·exact ⟨none, 0, rfl, .inr rfl, by simp, by omega, fun j hj => by simp at hj⟩
 ·refine ⟨some ⟨b, 0, none⟩, c, r.val, .inl rfl, r.le, r.max, fun j hj => ?_⟩
  obtain ⟨u, f, h1, _, h4⟩ := r.el j hj
  refine ⟨u, ?_, h4.2.2 h hag⟩
  rw [r.val]
  simp only [sA]
  rw [addr_add, r.box.cell, Nat.zero_add, h1]
theorem RdS.oneC {α : Type} {E : Heap → Value → α → Prop} {h : Heap} {v : Value} {xs : List α} (hv : RdS E h v xs) : v.oneCell' = true ∧ v.cells = #[v] := ⟨RdS.one hv, RdS.cells hv⟩
theorem ES.mk {h0 h : Heap} {vE : Value} {E : List (List Int)} {fE : List Nat} (hE : O2 h vE E fE) (hn : fE.Nodup) (hag : ∀ b ∈ fE, h[b]? = h0[b]?) {i : Nat} (hi : i < E.length) {k : IntKind} {lo : Int} (hl0 : 0 ≤ lo) (hl1 : lo ≤ (E.getD i default).length) {u : Value} (hs : sliceV TT 22 (rowV h vE i) (some (.int k lo)) none none = some u) {H : Heap} : ESt h0 fE H u ((E.getD i default).drop lo.toNat) [] := by
 obtain ⟨f, hO, hsub, _, _⟩ := OS.elem hE hn i hi
 have key : ∀ h' : Heap, (∀ b ∈ fE, h'[b]? = h0[b]?) → R1 h' u ((E.getD i default).drop lo.toNat) := fun h' hg => by
  have hO' : O1 h' (rowV h vE i) (E.getD i default) f := Own.loc (fun b hb => by rw [hg b (hsub b hb), hag b (hsub b hb)]) hO
  obtain ⟨v', e1, e2⟩ := RdS.dropV (k := k) (OS.rd hO') sl22 hl0 hl1
  rw [hs] at e1
  injection e1 with e1
  rw [e1]; exact e2
 exact ⟨rfl, RdS.oneC (key h hag), key⟩
/-- Rows with the units behind them. -/
theorem set_unit {r : List Int} {w m i : Nat} (hr : r.length = w) (hi : i < m) : (r ++ List.replicate m 0).set (w + i) 1 = r ++ unitP m i := by
 rw [List.set_append_right _ _ (by omega), hr, Nat.add_sub_cancel_left]; rfl
noncomputable def kerQ (p : Int) (rows : List (List Int)) : List (List Int) := kerP p (wd rows) rows
theorem longP_step {rows : List (List Int)} {k : Nat} (hk : k < rows.length) : ((List.range k).map fun i => rows.getD i default ++ unitP rows.length i) ++ [rows.getD k default ++ unitP rows.length k] = (List.range (k + 1)).map fun i => rows.getD i default ++ unitP rows.length i := range_step (fun i => rows.getD i default ++ unitP rows.length i) k
theorem fm_yes {α β : Type} {f : α → Bool} {g : α → β} {xs : List α} {k : Nat} {d : α} (hk : k < xs.length) (h : f (xs.getD k d) = true) : ((xs.take k).filter f).map g ++ [g (xs.getD k d)] = ((xs.take (k + 1)).filter f).map g := by
 have e : xs.getD k d = xs[k] := by rw [List.getD_eq_getElem?_getD, List.getElem?_eq_getElem hk]; rfl
 rw [e] at h ⊢
 rw [List.take_succ_eq_append_getElem hk, List.filter_append, List.filter_cons, if_pos h, List.map_append]; rfl
theorem fm_no {α β : Type} {f : α → Bool} {g : α → β} {xs : List α} {k : Nat} {d : α} (hk : k < xs.length) (h : f (xs.getD k d) = false) : ((xs.take k).filter f).map g = ((xs.take (k + 1)).filter f).map g := by
 have e : xs.getD k d = xs[k] := by rw [List.getD_eq_getElem?_getD, List.getElem?_eq_getElem hk]; rfl
 rw [e] at h
 rw [List.take_succ_eq_append_getElem hk, List.filter_append, List.filter_cons, if_neg (by rw [h]; decide), List.filter_nil, List.append_nil]
theorem fm_len {α β : Type} {f : α → Bool} {g : α → β} {xs : List α} {k : Nat} (hk : k ≤ xs.length) : (((xs.take k).filter f).map g).length ≤ xs.length := by
 rw [List.length_map]
 have := List.length_filter_le f (xs.take k)
 rw [List.length_take] at this; omega
theorem zero_take {W w : Nat} {p : Int} {E : List (List Int)} {l : Nat → Nat} (r : Rr p W E l) {i : Nat} (hi : i < E.length) : (!(((E.getD i default).take w).any fun x => x != 0)) = decide ((w : Int) ≤ leadP (E.getD i default)) := by
 have hl := r.lead hi
 have hlen := r.len i hi
 have hlt := r.lt i hi
 rw [hl]
 by_cases h : w ≤ l i
 ·have : (((E.getD i default).take w).any fun x => x != 0) = false := by
   rw [List.any_eq_false]
   intro x hx
   obtain ⟨j, hj, rfl⟩ := List.getElem_of_mem hx
   have hj' : j < w := by simp at hj; omega
   have := r.zb i j hi (by omega)
   unfold g2 at this
   rw [List.getD_eq_getElem?_getD (l := E.getD i default), List.getElem?_eq_getElem (by omega)] at this
   rw [List.getElem_take]
   simpa using this
  rw [this]; simp; omega
 ·have : (((E.getD i default).take w).any fun x => x != 0) = true := by
   rw [List.any_eq_true]
   have h1 := r.one i hi
   unfold g2 at h1
   rw [List.getD_eq_getElem?_getD (l := E.getD i default), List.getElem?_eq_getElem (by omega)] at h1
   refine ⟨(E.getD i default)[l i], ?_, by simp only [Option.getD_some] at h1; rw [h1]; decide⟩
   exact List.mem_take_iff_getElem.2 ⟨l i, by omega, rfl⟩
  rw [this]; simp; omega
theorem kerP_tbl {p : Int} {w : Nat} (hP : isP p = true) {rows : List (List Int)} (h : ∀ r ∈ rows, r.length = w ∧ Bnd p r) : ∀ r ∈ kerP p w rows, r.length = rows.length ∧ Bnd p r := fun r hr => by
 obtain ⟨l, hR⟩ := kerP_rr hP h
 obtain ⟨i, hi, rfl⟩ := List.getElem_of_mem hr
 have a := hR.len i hi
 have b := hR.bnd i hi
 rw [List.getD_eq_getElem?_getD, List.getElem?_eq_getElem hi] at a b
 exact ⟨a, b⟩
theorem kerQ_w {p : Int} {w : Nat} {rows : List (List Int)} (h : ∀ r ∈ rows, r.length = w ∧ Bnd p r) (hn : rows ≠ []) : kerQ p rows = kerP p w rows := by rw [kerQ, wd_ok h hn]
theorem kerQ_nil {p : Int} (hp : 1 < p) : kerQ p [] = [] := by
 rw [kerQ, kerP, longP]
 simp only [List.length_nil, List.range_zero, List.map_nil]
 rw [ech_nil hp]; rfl
theorem len_longP (rows : List (List Int)) : (longP rows).length = rows.length := by simp [longP]
theorem ech_len_le {p : Int} {w : Nat} (hP : isP p = true) {rows : List (List Int)} (h : ∀ r ∈ rows, r.length = w ∧ Bnd p r) : (ech p rows).length ≤ w := by
 obtain ⟨⟨l, r⟩, _⟩ := ech_red hP h
 exact r.le_w

set_option maxRecDepth 100000 in
theorem iKernel_ok (vR : Value) (p : Int) (R : List (List Int)) (h : Heap) (rR : R2 h vR R) {w : Nat} (hP : isP p = true) (hT : ∀ r ∈ R, r.length = w ∧ Bnd p r) (hw : w ≤ 500) (hl : R.length ≤ 500) : CallA Try.prog 104 #[.int .i64 p, vR] h fun v' h' => ∃ w0 f0, v' = w0 ∧ O2 h' w0 (kerQ p R) f0 ∧ Fresh h.size f0 ∧ Ext h h' := by
 have hleR := RdS.le rR
 have hp := isP_two hP
 have hLT := longP_tbl hp.1 hT
 have hEl := ech_len_le hP hLT
 obtain ⟨⟨l, hrE⟩, _⟩ := ech_red hP hLT
 have hll := len_longP R
 refine callA_intro TTok (args := [_, _]) Try.func104 (by kernel_rfl) rfl 67 rfl (by simp) [.tmp 4] rfl ?_
 simp only [idxs, Nat.reduceAdd]
 refine den_seq ?_
 refine den_region TTok ?_
 intro K hK
 simp -implicitDefEqProofs (disch := first | decide | assumption | omega) only [go_sem, RdS.len rR sl36, RdS.idx rR sl36, RdS.cellB rR (HPres.refl _), RdS.cells rR, wrap_id, Int.toNat_zero]
 refine hK _ _ ?_
 clear hK K
 refine den_seq ?_
 refine den_region TTok ?_
 intro K hK
 simp -implicitDefEqProofs (disch := first | decide | assumption | omega) only [go_sem, RdS.len rR sl36, RdS.idx rR sl36, RdS.cellB rR (HPres.refl _), RdS.cells rR, wrap_id, Int.toNat_zero]
 refine hK _ _ ?_
 clear hK K
 refine den_seq ?_
 refine den_seq ?_
 refine den_region TTok ?_
 intro K hK
 simp -implicitDefEqProofs (disch := first | decide | assumption | omega) only [go_sem, RdS.len rR sl36, RdS.idx rR sl36, RdS.cellB rR (HPres.refl _), RdS.cells rR, wrap_id, Int.toNat_zero]
 refine hK _ _ ?_
 clear hK K
 refine den_cond rfl (fun c0 => ?_) (fun c0 => ?_)
 ·try simp only [decide_eq_true_eq, decide_eq_false_iff_not, beq_iff_eq, beq_eq_false_iff_ne, bne_iff_ne, ne_eq, Bool.not_eq_true', Bool.not_eq_false', Bool.and_eq_true, Bool.or_eq_true, bne_eq_false_iff_eq] at c0
  refine den_seq ?_
  refine den_region TTok ?_
  intro K hK
  simp -implicitDefEqProofs (disch := first | decide | assumption | omega) only [go_sem, RdS.len rR sl36, RdS.idx rR sl36, RdS.cellB rR (HPres.refl _), RdS.cells rR, wrap_id, Int.toNat_zero]
  refine hK _ _ ?_
  clear hK K
  refine den_ret ?_
  simp (disch := decide) only [resP_1, puts_same, puts_ne]
  have hz : R = [] := List.length_eq_zero_iff.1 (by omega)
  subst hz
  rw [kerQ_nil hp.1]
  exact ⟨.slice none 0 0, [], rfl, OS.nil, Fresh.nil _, (Ext.refl _)⟩
 ·try simp only [decide_eq_true_eq, decide_eq_false_iff_not, beq_iff_eq, beq_eq_false_iff_ne, bne_iff_ne, ne_eq, Bool.not_eq_true', Bool.not_eq_false', Bool.and_eq_true, Bool.or_eq_true, bne_eq_false_iff_eq] at c0
  refine den_skip ?_
  refine den_seq ?_
  have hR0 : R ≠ [] := fun e_ => by subst e_; simp at c0
  have hwz : (R.getD 0 default).length = w := (hT _ (getD_mem (show 0 < R.length by omega))).1
  have hz4 := RdS.cellN rR 0 (by omega)
  rw [addr_zero] at hz4
  refine den_region TTok ?_
  intro K hK
  have hr1 := RdS.rowN rR 0 (by omega)
  have hlhr1 := RdS.le hr1
  simp -implicitDefEqProofs (disch := first | decide | assumption | omega) only [go_sem, ld22, RdS.len rR sl36, RdS.idx rR sl36, RdS.cellB rR (HPres.refl _), RdS.cells rR, RdS.len hr1 sl22, RdS.idx hr1 sl22, R1.intB hr1 (HPres.refl _), RdS.cells hr1, wrap_id, Int.toNat_zero, hz4, hwz]
  refine op_bs0 sz36 O1 ?_
  intro v4_4 h4_4 ho4_4 e4_4
  have := Ext.size e4_4
  have eB := e4_4
  have hfho4_4 : Fresh h.size [h.size] := Fresh.one _
  have hlho4_4 := OS.lt ho4_4
  try simp -implicitDefEqProofs (disch := first | decide | assumption | omega) only [go_sem, RdS.len rR sl36, RdS.idx rR sl36, RdS.cellB rR (Ext.pres eB), RdS.cells rR, RdS.len hr1 sl22, RdS.idx hr1 sl22, R1.intB hr1 (Ext.pres eB), RdS.cells hr1, RdS.len (OS.rd ho4_4) sl36, RdS.idx (OS.rd ho4_4) sl36, RdS.cellN (OS.rd ho4_4), RdS.cells (OS.rd ho4_4), wrap_id, Int.toNat_zero, hz4, hwz]
  refine hK _ _ ?_
  clear hK K
  refine den_seq ?_
  refine den_seq ?_
  refine den_region TTok ?_
  intro K hK
  simp -implicitDefEqProofs (disch := first | decide | assumption | omega) only [go_sem, RdS.len rR sl36, RdS.idx rR sl36, RdS.cellB rR (Ext.pres eB), RdS.cells rR, RdS.len hr1 sl22, RdS.idx hr1 sl22, R1.intB hr1 (Ext.pres eB), RdS.cells hr1, RdS.len (OS.rd ho4_4) sl36, RdS.idx (OS.rd ho4_4) sl36, RdS.cellN (OS.rd ho4_4), RdS.cells (OS.rd ho4_4), wrap_id, Int.toNat_zero]
  refine hK _ _ ?_
  clear hK K
  refine den_block ?_
  refine den_sel [7, 25, 0, 5, 6, 23, 24] ?_
  intro env_2
  simp only [go_sem]
  refine den_loopS (σ := Nat × Value × List Nat) (fun st_ => [(7, st_.2.1), (25, .int .i64 (st_.1 : Int))]) (fun st_ H => (st_.1 ≤ R.length) ∧ (O2 H st_.2.1 ((List.range st_.1).map fun i => R.getD i default ++ unitP R.length i) st_.2.2) ∧ (Fresh (h.size) st_.2.2) ∧ (Sub [h.size] h4_4.size st_.2.2) ∧ (Chg [h.size] h4_4 H)) (fun st_ => R.length - st_.1) (0, v4_4, [h.size]) ?_ ?_
  ·exact ⟨by first | (simp; done) | (dsimp only; omega) | (simp; omega), by simpa using ho4_4, hfho4_4, Sub.refl, Chg.refl _ _⟩
  ·rintro ⟨k, vhL, fphL⟩ h5 ee4 ⟨hi0, hL, hfhL, sbhL, cL3⟩
   dsimp only at hi0 hL hfhL sbhL cL3
   have := cL3.size
   replace eB := Ext.then eB cL3 (ge_of hfho4_4 (by omega))
   have hlhL := OS.lt hL
   simp only [List.cons_append, List.nil_append]
   have hlo_ : ((List.range k).map fun i => R.getD i default ++ unitP R.length i).length = k := by simp
   refine den_seq ?_
   refine den_region TTok ?_
   intro K hK
   simp -implicitDefEqProofs (disch := first | decide | assumption | omega) only [go_sem, RdS.len rR sl36, RdS.idx rR sl36, RdS.cellB rR (Ext.pres eB), RdS.cells rR, RdS.len hr1 sl22, RdS.idx hr1 sl22, R1.intB hr1 (Ext.pres eB), RdS.cells hr1, RdS.len (OS.rd hL) sl36, RdS.idx (OS.rd hL) sl36, RdS.cellN (OS.rd hL), RdS.cells (OS.rd hL), wrap_id, Int.toNat_zero]
   refine hK _ _ ?_
   clear hK K
   refine den_seq ?_
   refine den_cond rfl (fun c1 => ?_) (fun c1 => ?_)
   ·try simp only [decide_eq_true_eq, decide_eq_false_iff_not, beq_iff_eq, beq_eq_false_iff_ne, bne_iff_ne, ne_eq, Bool.not_eq_true', Bool.not_eq_false', Bool.and_eq_true, Bool.or_eq_true, bne_eq_false_iff_eq] at c1
    refine den_skip ?_
    refine den_seq ?_
    refine den_block ?_
    refine den_seq ?_
    refine den_region TTok ?_
    intro K hK
    have hr6 := RdS.rowN rR k (by omega)
    have hlhr6 := RdS.le hr6
    simp -implicitDefEqProofs (disch := first | decide | assumption | omega) only [go_sem, ld22, RdS.len rR sl36, RdS.idx rR sl36, RdS.cellB rR (Ext.pres eB), RdS.cells rR, RdS.len hr1 sl22, RdS.idx hr1 sl22, R1.intB hr1 (Ext.pres eB), RdS.cells hr1, RdS.len hr6 sl22, RdS.idx hr6 sl22, R1.intB hr6 (Ext.pres eB), RdS.cells hr6, RdS.len (OS.rd hL) sl36, RdS.idx (OS.rd hL) sl36, RdS.cellN (OS.rd hL), RdS.cells (OS.rd hL), wrap_id, Int.toNat_zero]
    refine hK _ _ ?_
    clear hK K
    refine den_seq ?_
    have hRk := hT _ (getD_mem (show k < R.length by omega))
    refine den_region TTok ?_
    intro K hK
    simp -implicitDefEqProofs (disch := first | decide | assumption | omega) only [go_sem, RdS.len rR sl36, RdS.idx rR sl36, RdS.cellB rR (Ext.pres eB), RdS.cells rR, RdS.len hr1 sl22, RdS.idx hr1 sl22, R1.intB hr1 (Ext.pres eB), RdS.cells hr1, RdS.len hr6 sl22, RdS.idx hr6 sl22, R1.intB hr6 (Ext.pres eB), RdS.cells hr6, RdS.len (OS.rd hL) sl36, RdS.idx (OS.rd hL) sl36, RdS.cellN (OS.rd hL), RdS.cells (OS.rd hL), wrap_id, Int.toNat_zero]
    try simp -implicitDefEqProofs (disch := first | decide | assumption | omega) only [go_sem, RdS.len rR sl36, RdS.idx rR sl36, RdS.cellB rR (Ext.pres eB), RdS.cells rR, RdS.len hr1 sl22, RdS.idx hr1 sl22, R1.intB hr1 (Ext.pres eB), RdS.cells hr1, RdS.len hr6 sl22, RdS.idx hr6 sl22, R1.intB hr6 (Ext.pres eB), RdS.cells hr6, RdS.len (OS.rd hL) sl36, RdS.idx (OS.rd hL) sl36, RdS.cellN (OS.rd hL), RdS.cells (OS.rd hL), wrap_id, Int.toNat_zero]
    refine CallA.mono (clone1_ok _ ((R).getD k default) _ (RdS.pres hr6 (Ext.pres eB)) (by omega)) ?_
    intro vw8_1_0 h8_1
    rintro ⟨zvw8_1_0, fw8_1_0, rfl, how8_1_0, hfw8_1_0, e8_1⟩
    replace hL := OS.ext hL e8_1
    have := Ext.size e8_1
    replace eB := Ext.trans eB e8_1
    replace cL3 := Chg.stepE cL3 e8_1
    have hlhow8_1_0 := OS.lt how8_1_0
    try simp -implicitDefEqProofs (disch := first | decide | assumption | omega) only [go_sem, RdS.len rR sl36, RdS.idx rR sl36, RdS.cellB rR (Ext.pres eB), RdS.cells rR, RdS.len hr1 sl22, RdS.idx hr1 sl22, R1.intB hr1 (Ext.pres eB), RdS.cells hr1, RdS.len hr6 sl22, RdS.idx hr6 sl22, R1.intB hr6 (Ext.pres eB), RdS.cells hr6, RdS.len (OS.rd hL) sl36, RdS.idx (OS.rd hL) sl36, RdS.cellN (OS.rd hL), RdS.cells (OS.rd hL), RdS.len (OS.rd how8_1_0) sl22, RdS.idx (OS.rd how8_1_0) sl22, R1.intN (OS.rd how8_1_0), RdS.cells (OS.rd how8_1_0), wrap_id, Int.toNat_zero]
    refine op_appendZ (by kernel_rfl) how8_1_0 rfl (by omega) (by first | omega | (simp; omega)) rfl ?_
    intro v8_3 h8_3 fp8_3 ho8_3 hn8_3 hs8_3 c8_3
    have hsz8_3 := c8_3.size
    have hfho8_3 : Fresh h5.size fp8_3 := Fresh.appd hfw8_1_0 (Fresh.nil h8_1.size) (by omega) (by omega) hn8_3 hs8_3
    replace hL := OS.chg hL c8_3 (apart_lt hlhL hfw8_1_0 (by omega))
    have := c8_3.size
    replace eB := Ext.then eB c8_3 (ge_of hfw8_1_0 (by omega))
    replace cL3 := Chg.step cL3 c8_3 (Sub.fresh hfw8_1_0 (by omega))
    have hlho8_3 := OS.lt ho8_3
    try simp -implicitDefEqProofs (disch := first | decide | assumption | omega) only [go_sem, RdS.len rR sl36, RdS.idx rR sl36, RdS.cellB rR (Ext.pres eB), RdS.cells rR, RdS.len hr1 sl22, RdS.idx hr1 sl22, R1.intB hr1 (Ext.pres eB), RdS.cells hr1, RdS.len hr6 sl22, RdS.idx hr6 sl22, R1.intB hr6 (Ext.pres eB), RdS.cells hr6, RdS.len (OS.rd hL) sl36, RdS.idx (OS.rd hL) sl36, RdS.cellN (OS.rd hL), RdS.cells (OS.rd hL), RdS.len (OS.rd ho8_3) sl22, RdS.idx (OS.rd ho8_3) sl22, R1.intN (OS.rd ho8_3), RdS.cells (OS.rd ho8_3), wrap_id, Int.toNat_zero]
    refine hK _ _ ?_
    clear hK K
    refine den_seq ?_
    have hl9 : (R.getD k default ++ List.replicate ((R.length : Int)).toNat 0).length = w + R.length := by rw [List.length_append, hRk.1, List.length_replicate, Int.toNat_natCast]
    refine den_region TTok ?_
    intro K hK
    simp -implicitDefEqProofs (disch := first | decide | assumption | omega) only [go_sem, RdS.len rR sl36, RdS.idx rR sl36, RdS.cellB rR (Ext.pres eB), RdS.cells rR, RdS.len hr1 sl22, RdS.idx hr1 sl22, R1.intB hr1 (Ext.pres eB), RdS.cells hr1, RdS.len hr6 sl22, RdS.idx hr6 sl22, R1.intB hr6 (Ext.pres eB), RdS.cells hr6, RdS.len (OS.rd hL) sl36, RdS.idx (OS.rd hL) sl36, RdS.cellN (OS.rd hL), RdS.cells (OS.rd hL), RdS.len (OS.rd ho8_3) sl22, RdS.idx (OS.rd ho8_3) sl22, R1.intN (OS.rd ho8_3), RdS.cells (OS.rd ho8_3), wrap_id, Int.toNat_zero]
    refine op_store1 (j := (((w : Int) + (k : Int))).toNat) st2 ho8_3 hfho8_3.nodup (by first | omega | (simp; omega)) rfl rfl ?_
    intro h9_5 ho9_5 c9_5
    have hsz9_5 := c9_5.size
    replace hL := OS.chg hL c9_5 (apart_lt hlhL hfho8_3 (by omega))
    have := c9_5.size
    replace eB := Ext.then eB c9_5 (ge_of hfho8_3 (by omega))
    replace cL3 := Chg.step cL3 c9_5 (Sub.fresh hfho8_3 (by omega))
    have hlho9_5 := hlho8_3
    have hlenho9_5 : ((((R).getD k default) ++ List.replicate (((R).length : Int)).toNat 0).set ((((w : Int) + (k : Int))).toNat) (1 : Int) : List Int).length = (((R).getD k default) ++ List.replicate (((R).length : Int)).toNat 0 : List Int).length := List.length_set
    rw [show ((w : Int) + (k : Int)).toNat = w + k by omega, Int.toNat_natCast, set_unit hRk.1 (by omega)] at ho9_5
    try simp -implicitDefEqProofs (disch := first | decide | assumption | omega) only [go_sem, RdS.len rR sl36, RdS.idx rR sl36, RdS.cellB rR (Ext.pres eB), RdS.cells rR, RdS.len hr1 sl22, RdS.idx hr1 sl22, R1.intB hr1 (Ext.pres eB), RdS.cells hr1, RdS.len hr6 sl22, RdS.idx hr6 sl22, R1.intB hr6 (Ext.pres eB), RdS.cells hr6, RdS.len (OS.rd hL) sl36, RdS.idx (OS.rd hL) sl36, RdS.cellN (OS.rd hL), RdS.cells (OS.rd hL), RdS.len (OS.rd ho9_5) sl22, RdS.idx (OS.rd ho9_5) sl22, R1.intN (OS.rd ho9_5), RdS.cells (OS.rd ho9_5), wrap_id, Int.toNat_zero]
    refine hK _ _ ?_
    clear hK K
    refine den_region TTok ?_
    intro K hK
    simp -implicitDefEqProofs (disch := first | decide | assumption | omega) only [go_sem, RdS.len rR sl36, RdS.idx rR sl36, RdS.cellB rR (Ext.pres eB), RdS.cells rR, RdS.len hr1 sl22, RdS.idx hr1 sl22, R1.intB hr1 (Ext.pres eB), RdS.cells hr1, RdS.len hr6 sl22, RdS.idx hr6 sl22, R1.intB hr6 (Ext.pres eB), RdS.cells hr6, RdS.len (OS.rd hL) sl36, RdS.idx (OS.rd hL) sl36, RdS.cellN (OS.rd hL), RdS.cells (OS.rd hL), RdS.len (OS.rd ho9_5) sl22, RdS.idx (OS.rd ho9_5) sl22, R1.intN (OS.rd ho9_5), RdS.cells (OS.rd ho9_5), wrap_id, Int.toNat_zero]
    refine op_bs1 sz36 rfl (OS.one ho9_5).2 ?_
    try simp -implicitDefEqProofs (disch := first | decide | assumption | omega) only [go_sem, RdS.len rR sl36, RdS.idx rR sl36, RdS.cellB rR (Ext.pres eB), RdS.cells rR, RdS.len hr1 sl22, RdS.idx hr1 sl22, R1.intB hr1 (Ext.pres eB), RdS.cells hr1, RdS.len hr6 sl22, RdS.idx hr6 sl22, R1.intB hr6 (Ext.pres eB), RdS.cells hr6, RdS.len (OS.rd hL) sl36, RdS.idx (OS.rd hL) sl36, RdS.cellN (OS.rd hL), RdS.cells (OS.rd hL), RdS.len (OS.rd ho9_5) sl22, RdS.idx (OS.rd ho9_5) sl22, R1.intN (OS.rd ho9_5), RdS.cells (OS.rd ho9_5), wrap_id, Int.toNat_zero]
    refine op_append1 sz36 hL hfhL.nodup ho9_5 hfho8_3.nodup (apart_lt hlhL hfho8_3 (by omega)) (by first | omega | (simp; omega)) rfl rfl ?_
    intro v10_3 h10_3 fp10_3 ho10_3 hn10_3 hs10_3 c10_3
    have hsz10_3 := c10_3.size
    have hfho10_3 : Fresh h.size fp10_3 := Fresh.appd hfhL hfho8_3 (by omega) (by omega) hn10_3 hs10_3
    have sb7 : Sub [h.size] h4_4.size fp10_3 := Sub.grow sbhL (Sub.fresh hfho8_3 (by omega)) (by omega) hs10_3
    have := c10_3.size
    replace eB := Ext.then eB c10_3 (ge_of hfhL (by omega))
    replace cL3 := Chg.step cL3 c10_3 sbhL
    have hlho10_3 := OS.lt ho10_3
    try simp -implicitDefEqProofs (disch := first | decide | assumption | omega) only [go_sem, RdS.len rR sl36, RdS.idx rR sl36, RdS.cellB rR (Ext.pres eB), RdS.cells rR, RdS.len hr1 sl22, RdS.idx hr1 sl22, R1.intB hr1 (Ext.pres eB), RdS.cells hr1, RdS.len hr6 sl22, RdS.idx hr6 sl22, R1.intB hr6 (Ext.pres eB), RdS.cells hr6, RdS.len (OS.rd ho10_3) sl36, RdS.idx (OS.rd ho10_3) sl36, RdS.cellN (OS.rd ho10_3), RdS.cells (OS.rd ho10_3), wrap_id, Int.toNat_zero]
    refine hK _ _ ?_
    clear hK K
    refine den_blk ?_
    refine den_region TTok ?_
    intro K hK
    simp -implicitDefEqProofs (disch := first | decide | assumption | omega) only [go_sem, RdS.len rR sl36, RdS.idx rR sl36, RdS.cellB rR (Ext.pres eB), RdS.cells rR, RdS.len hr1 sl22, RdS.idx hr1 sl22, R1.intB hr1 (Ext.pres eB), RdS.cells hr1, RdS.len hr6 sl22, RdS.idx hr6 sl22, R1.intB hr6 (Ext.pres eB), RdS.cells hr6, RdS.len (OS.rd ho10_3) sl36, RdS.idx (OS.rd ho10_3) sl36, RdS.cellN (OS.rd ho10_3), RdS.cells (OS.rd ho10_3), wrap_id, Int.toNat_zero]
    refine hK _ _ ?_
    clear hK K
    refine den_stop ?_
    rw [longP_step (by omega)] at ho10_3
    exact ⟨(k + 1, v10_3, fp10_3), by simp [HasL, puts_at], ⟨by first | omega | (dsimp only; omega), ho10_3, hfho10_3, sb7, cL3⟩, by first | omega | (dsimp only; omega)⟩
   ·try simp only [decide_eq_true_eq, decide_eq_false_iff_not, beq_iff_eq, beq_eq_false_iff_ne, bne_iff_ne, ne_eq, Bool.not_eq_true', Bool.not_eq_false', Bool.and_eq_true, Bool.or_eq_true, bne_eq_false_iff_eq] at c1
    refine den_exit ?_
    refine denX_code ?_
    refine denX_stop ?_
    refine denX_hit ?_
    refine den_seq ?_
    refine den_region TTok ?_
    intro K hK
    simp -implicitDefEqProofs (disch := first | decide | assumption | omega) only [go_sem, RdS.len rR sl36, RdS.idx rR sl36, RdS.cellB rR (Ext.pres eB), RdS.cells rR, RdS.len hr1 sl22, RdS.idx hr1 sl22, R1.intB hr1 (Ext.pres eB), RdS.cells hr1, RdS.len (OS.rd hL) sl36, RdS.idx (OS.rd hL) sl36, RdS.cellN (OS.rd hL), RdS.cells (OS.rd hL), wrap_id, Int.toNat_zero]
    refine op_bs0 sz36 O1 ?_
    intro v12_0 h12_0 ho12_0 e12_0
    replace hL := OS.ext hL e12_0
    have := Ext.size e12_0
    replace eB := Ext.trans eB e12_0
    have hfho12_0 : Fresh h5.size [h5.size] := Fresh.one _
    have hlho12_0 := OS.lt ho12_0
    try simp -implicitDefEqProofs (disch := first | decide | assumption | omega) only [go_sem, RdS.len rR sl36, RdS.idx rR sl36, RdS.cellB rR (Ext.pres eB), RdS.cells rR, RdS.len hr1 sl22, RdS.idx hr1 sl22, R1.intB hr1 (Ext.pres eB), RdS.cells hr1, RdS.len (OS.rd hL) sl36, RdS.idx (OS.rd hL) sl36, RdS.cellN (OS.rd hL), RdS.cells (OS.rd hL), RdS.len (OS.rd ho12_0) sl36, RdS.idx (OS.rd ho12_0) sl36, RdS.cellN (OS.rd ho12_0), RdS.cells (OS.rd ho12_0), wrap_id, Int.toNat_zero]
    refine hK _ _ ?_
    clear hK K
    refine den_seq ?_
    refine den_seq ?_
    rw [show ((List.range k).map fun i => R.getD i default ++ unitP R.length i) = longP R by rw [longP, show R.length = k by omega]] at hL
    have hredT := hLT
    refine den_region TTok ?_
    intro K hK
    simp -implicitDefEqProofs (disch := first | decide | assumption | omega) only [go_sem, RdS.len rR sl36, RdS.idx rR sl36, RdS.cellB rR (Ext.pres eB), RdS.cells rR, RdS.len hr1 sl22, RdS.idx hr1 sl22, R1.intB hr1 (Ext.pres eB), RdS.cells hr1, RdS.len (OS.rd hL) sl36, RdS.idx (OS.rd hL) sl36, RdS.cellN (OS.rd hL), RdS.cells (OS.rd hL), RdS.len (OS.rd ho12_0) sl36, RdS.idx (OS.rd ho12_0) sl36, RdS.cellN (OS.rd ho12_0), RdS.cells (OS.rd ho12_0), wrap_id, Int.toNat_zero]
    try simp -implicitDefEqProofs (disch := first | decide | assumption | omega) only [go_sem, RdS.len rR sl36, RdS.idx rR sl36, RdS.cellB rR (Ext.pres eB), RdS.cells rR, RdS.len hr1 sl22, RdS.idx hr1 sl22, R1.intB hr1 (Ext.pres eB), RdS.cells hr1, RdS.len (OS.rd hL) sl36, RdS.idx (OS.rd hL) sl36, RdS.cellN (OS.rd hL), RdS.cells (OS.rd hL), RdS.len (OS.rd ho12_0) sl36, RdS.idx (OS.rd ho12_0) sl36, RdS.cellN (OS.rd ho12_0), RdS.cells (OS.rd ho12_0), wrap_id, Int.toNat_zero]
    refine CallA.mono (iReduce_ok _ p (longP R) _ (OS.rd hL) hP hredT (by omega) (by omega)) ?_
    intro vw13_2_0 h13_2
    rintro ⟨zvw13_2_0, fw13_2_0, rfl, how13_2_0, hfw13_2_0, e13_2⟩
    replace hL := OS.ext hL e13_2
    replace ho12_0 := OS.ext ho12_0 e13_2
    have := Ext.size e13_2
    replace eB := Ext.trans eB e13_2
    have hlhow13_2_0 := OS.lt how13_2_0
    try simp -implicitDefEqProofs (disch := first | decide | assumption | omega) only [go_sem, RdS.len rR sl36, RdS.idx rR sl36, RdS.cellB rR (Ext.pres eB), RdS.cells rR, RdS.len hr1 sl22, RdS.idx hr1 sl22, R1.intB hr1 (Ext.pres eB), RdS.cells hr1, RdS.len (OS.rd hL) sl36, RdS.idx (OS.rd hL) sl36, RdS.cellN (OS.rd hL), RdS.cells (OS.rd hL), RdS.len (OS.rd ho12_0) sl36, RdS.idx (OS.rd ho12_0) sl36, RdS.cellN (OS.rd ho12_0), RdS.cells (OS.rd ho12_0), RdS.len (OS.rd how13_2_0) sl36, RdS.idx (OS.rd how13_2_0) sl36, RdS.cellN (OS.rd how13_2_0), RdS.cells (OS.rd how13_2_0), wrap_id, Int.toNat_zero]
    refine hK _ _ ?_
    clear hK K
    refine den_block ?_
    have hkl := hlhow13_2_0
    have hka := (apart_gt hfw13_2_0 hlho12_0 (by omega))
    refine den_sel [11, 49, 0, 6, 47, 48] ?_
    intro env_8
    simp only [go_sem]
    refine den_loopS (σ := Nat × Value × List Nat) (fun st_ => [(11, st_.2.1), (49, .int .i64 (st_.1 : Int))]) (fun st_ H => (st_.1 ≤ (ech p (longP R)).length) ∧ (O2S h13_2 fw13_2_0 H st_.2.1 ((((ech p (longP R)).take st_.1).filter (fun r : List Int => decide ((w : Int) ≤ leadP r))).map (fun r : List Int => r.drop w)) st_.2.2) ∧ (Fresh (h5.size) st_.2.2) ∧ (Sub [h5.size] h13_2.size st_.2.2) ∧ (Chg [h5.size] h13_2 H)) (fun st_ => (ech p (longP R)).length - st_.1) (0, v12_0, [h5.size]) ?_ ?_
    ·exact ⟨by simp, by simpa using O2S.nil ho12_0, hfho12_0, Sub.refl, Chg.refl _ _⟩
    ·rintro ⟨k, vhN, fphN⟩ h11 ee10 ⟨hk, hN, hfhN, sbhN, cL9⟩
     dsimp only at hk hN hfhN sbhN cL9
     replace hL := OS.chg hL cL9 (apart_lt hlhL hfho12_0 (by omega))
     replace how13_2_0 := OS.chg how13_2_0 cL9 (apart_gt hfw13_2_0 hlho12_0 (by omega))
     have := cL9.size
     replace eB := Ext.then eB cL9 (ge_of hfho12_0 (by omega))
     have ap12 : Apart fw13_2_0 fphN := Apart.sub_ hlhow13_2_0 (by omega) (apart_gt hfw13_2_0 hlho12_0 (by omega)) sbhN
     have hlhN := OS.lt hN
     simp only [List.cons_append, List.nil_append]
     have hol := fm_len (f := (fun r : List Int => decide ((w : Int) ≤ leadP r))) (g := (fun r : List Int => r.drop w)) (xs := (ech p (longP R))) hk
     refine den_seq ?_
     refine den_region TTok ?_
     intro K hK
     simp -implicitDefEqProofs (disch := first | decide | assumption | omega) only [go_sem, RdS.len rR sl36, RdS.idx rR sl36, RdS.cellB rR (Ext.pres eB), RdS.cells rR, RdS.len hr1 sl22, RdS.idx hr1 sl22, R1.intB hr1 (Ext.pres eB), RdS.cells hr1, RdS.len (OS.rd how13_2_0) sl36, RdS.idx (OS.rd how13_2_0) sl36, RdS.cellN (OS.rd how13_2_0), RdS.cells (OS.rd how13_2_0), wrap_id, Int.toNat_zero]
     refine hK _ _ ?_
     clear hK K
     refine den_seq ?_
     refine den_cond rfl (fun c2 => ?_) (fun c2 => ?_)
     ·try simp only [decide_eq_true_eq, decide_eq_false_iff_not, beq_iff_eq, beq_eq_false_iff_ne, bne_iff_ne, ne_eq, Bool.not_eq_true', Bool.not_eq_false', Bool.and_eq_true, Bool.or_eq_true, bne_eq_false_iff_eq] at c2
      refine den_skip ?_
      refine den_seq ?_
      refine den_block ?_
      refine den_seq ?_
      refine den_region TTok ?_
      intro K hK
      have hr13 := RdS.rowN (OS.rd how13_2_0) k (by omega)
      have hlhr13 := RdS.le hr13
      have xr14 := Ext.refl h11
      simp -implicitDefEqProofs (disch := first | decide | assumption | omega) only [go_sem, ld22, RdS.len rR sl36, RdS.idx rR sl36, RdS.cellB rR (Ext.pres eB), RdS.cells rR, RdS.len hr1 sl22, RdS.idx hr1 sl22, R1.intB hr1 (Ext.pres eB), RdS.cells hr1, RdS.len (OS.rd how13_2_0) sl36, RdS.idx (OS.rd how13_2_0) sl36, RdS.cellN (OS.rd how13_2_0), RdS.cells (OS.rd how13_2_0), RdS.len hr13 sl22, RdS.idx hr13 sl22, R1.intB hr13 (Ext.pres xr14), RdS.cells hr13, wrap_id, Int.toNat_zero]
      refine hK _ _ ?_
      clear hK K
      refine den_seq ?_
      obtain ⟨vs, hes, hRs17⟩ := RdS.dropV (k := .i64) (RdS.rowN (OS.rd how13_2_0) k (by omega)) sl22 (lo := (w : Int)) (by omega) (by have := hrE.len k (by omega); omega)
      have hES := fun H => ES.mk (H := H) how13_2_0 hfw13_2_0.nodup (h0 := h13_2) (fun b hb => cL9.block b (hkl b hb) (hka b hb)) (show k < (ech p (longP R)).length by omega) (k := .i64) (lo := (w : Int)) (by omega) (by have := hrE.len k (by omega); omega) hes
      simp only [Int.toNat_natCast] at hES
      obtain ⟨vz, hez, hRz⟩ := RdS.takeV (k := .i64) (RdS.rowN (OS.rd how13_2_0) k (by omega)) sl22 (hi := (w : Int)) (by omega) (by have := hrE.len k (by omega); omega)
      rw [Int.toNat_natCast] at hRz
      have hzt := zero_take (w := w) hrE (i := k) (by omega)
      refine den_region TTok ?_
      intro K hK
      simp -implicitDefEqProofs (disch := first | decide | assumption | omega) only [go_sem, RdS.len rR sl36, RdS.idx rR sl36, RdS.cellB rR (Ext.pres eB), RdS.cells rR, RdS.len hr1 sl22, RdS.idx hr1 sl22, R1.intB hr1 (Ext.pres eB), RdS.cells hr1, RdS.len (OS.rd how13_2_0) sl36, RdS.idx (OS.rd how13_2_0) sl36, RdS.cellN (OS.rd how13_2_0), RdS.cells (OS.rd how13_2_0), RdS.len hr13 sl22, RdS.idx hr13 sl22, R1.intB hr13 (Ext.pres xr14), RdS.cells hr13, wrap_id, Int.toNat_zero, hez, Option.map_some, Option.map_none]
      try simp -implicitDefEqProofs (disch := first | decide | assumption | omega) only [go_sem, RdS.len rR sl36, RdS.idx rR sl36, RdS.cellB rR (Ext.pres eB), RdS.cells rR, RdS.len hr1 sl22, RdS.idx hr1 sl22, R1.intB hr1 (Ext.pres eB), RdS.cells hr1, RdS.len (OS.rd how13_2_0) sl36, RdS.idx (OS.rd how13_2_0) sl36, RdS.cellN (OS.rd how13_2_0), RdS.cells (OS.rd how13_2_0), RdS.len hr13 sl22, RdS.idx hr13 sl22, R1.intB hr13 (Ext.pres xr14), RdS.cells hr13, wrap_id, Int.toNat_zero, hez, Option.map_some, Option.map_none]
      refine CallA.mono (isZero_ok _ _ _ hRz) ?_
      intro v_ h16_3
      rintro ⟨rfl, e16_3⟩
      replace how13_2_0 := OS.ext how13_2_0 e16_3
      replace hN := OS.ext hN e16_3
      have := Ext.size e16_3
      replace eB := Ext.trans eB e16_3
      replace xr14 := Ext.trans xr14 e16_3
      replace cL9 := Chg.stepE cL9 e16_3
      try simp -implicitDefEqProofs (disch := first | decide | assumption | omega) only [go_sem, RdS.len rR sl36, RdS.idx rR sl36, RdS.cellB rR (Ext.pres eB), RdS.cells rR, RdS.len hr1 sl22, RdS.idx hr1 sl22, R1.intB hr1 (Ext.pres eB), RdS.cells hr1, RdS.len (OS.rd how13_2_0) sl36, RdS.idx (OS.rd how13_2_0) sl36, RdS.cellN (OS.rd how13_2_0), RdS.cells (OS.rd how13_2_0), RdS.len hr13 sl22, RdS.idx hr13 sl22, R1.intB hr13 (Ext.pres xr14), RdS.cells hr13, wrap_id, Int.toNat_zero, hez, Option.map_some, Option.map_none]
      refine hK _ _ ?_
      clear hK K
      refine den_cond rfl (fun c3 => ?_) (fun c3 => ?_)
      ·try simp only [decide_eq_true_eq, decide_eq_false_iff_not, beq_iff_eq, beq_eq_false_iff_ne, bne_iff_ne, ne_eq, Bool.not_eq_true', Bool.not_eq_false', Bool.and_eq_true, Bool.or_eq_true, bne_eq_false_iff_eq] at c3
       refine den_region TTok ?_
       intro K hK
       simp -implicitDefEqProofs (disch := first | decide | assumption | omega) only [go_sem, RdS.len rR sl36, RdS.idx rR sl36, RdS.cellB rR (Ext.pres eB), RdS.cells rR, RdS.len hr1 sl22, RdS.idx hr1 sl22, R1.intB hr1 (Ext.pres eB), RdS.cells hr1, RdS.len (OS.rd how13_2_0) sl36, RdS.idx (OS.rd how13_2_0) sl36, RdS.cellN (OS.rd how13_2_0), RdS.cells (OS.rd how13_2_0), RdS.len hr13 sl22, RdS.idx hr13 sl22, R1.intB hr13 (Ext.pres xr14), RdS.cells hr13, wrap_id, Int.toNat_zero, hes, Option.map_some, Option.map_none]
       refine op_bs1 sz36 rfl (RdS.cells hRs17) ?_
       try simp -implicitDefEqProofs (disch := first | decide | assumption | omega) only [go_sem, RdS.len rR sl36, RdS.idx rR sl36, RdS.cellB rR (Ext.pres eB), RdS.cells rR, RdS.len hr1 sl22, RdS.idx hr1 sl22, R1.intB hr1 (Ext.pres eB), RdS.cells hr1, RdS.len (OS.rd how13_2_0) sl36, RdS.idx (OS.rd how13_2_0) sl36, RdS.cellN (OS.rd how13_2_0), RdS.cells (OS.rd how13_2_0), RdS.len hr13 sl22, RdS.idx hr13 sl22, R1.intB hr13 (Ext.pres xr14), RdS.cells hr13, wrap_id, Int.toNat_zero, hes, Option.map_some, Option.map_none]
       refine op_append1 sz36 hN hfhN.nodup (hES _) List.nodup_nil (Apart.nil _) (by first | omega | (simp; omega)) rfl rfl ?_
       intro v17_5 h17_5 fp17_5 ho17_5 hn17_5 hs17_5 c17_5
       have hsz17_5 := c17_5.size
       have hfho17_5 : Fresh h5.size fp17_5 := Fresh.appd hfhN (Fresh.nil h16_3.size) (by omega) (by omega) hn17_5 hs17_5
       have sb15 : Sub [h5.size] h13_2.size fp17_5 := Sub.grow sbhN Sub.nil (by omega) hs17_5
       replace how13_2_0 := OS.chg how13_2_0 c17_5 ap12
       have := c17_5.size
       replace eB := Ext.then eB c17_5 (ge_of hfhN (by omega))
       replace cL9 := Chg.step cL9 c17_5 sbhN
       have ap16 : Apart fw13_2_0 fp17_5 := Apart.grow hlhow13_2_0 (by omega) ap12 (Apart.nil _) hs17_5
       have hlho17_5 := OS.lt ho17_5
       try simp -implicitDefEqProofs (disch := first | decide | assumption | omega) only [go_sem, RdS.len rR sl36, RdS.idx rR sl36, RdS.cellB rR (Ext.pres eB), RdS.cells rR, RdS.len hr1 sl22, RdS.idx hr1 sl22, R1.intB hr1 (Ext.pres eB), RdS.cells hr1, RdS.len (OS.rd how13_2_0) sl36, RdS.idx (OS.rd how13_2_0) sl36, RdS.cellN (OS.rd how13_2_0), RdS.cells (OS.rd how13_2_0), wrap_id, Int.toNat_zero, hes, Option.map_some, Option.map_none]
       refine hK _ _ ?_
       clear hK K
       refine den_blk ?_
       refine den_region TTok ?_
       intro K hK
       simp -implicitDefEqProofs (disch := first | decide | assumption | omega) only [go_sem, RdS.len rR sl36, RdS.idx rR sl36, RdS.cellB rR (Ext.pres eB), RdS.cells rR, RdS.len hr1 sl22, RdS.idx hr1 sl22, R1.intB hr1 (Ext.pres eB), RdS.cells hr1, RdS.len (OS.rd how13_2_0) sl36, RdS.idx (OS.rd how13_2_0) sl36, RdS.cellN (OS.rd how13_2_0), RdS.cells (OS.rd how13_2_0), wrap_id, Int.toNat_zero]
       refine hK _ _ ?_
       clear hK K
       refine den_stop ?_
       first | rw [fm_yes (f := (fun r : List Int => decide ((w : Int) ≤ leadP r))) (g := (fun r : List Int => r.drop w)) (by omega) (hzt.symm.trans (by simpa using c3))] at ho17_5 | rw [fm_no (f := (fun r : List Int => decide ((w : Int) ≤ leadP r))) (g := (fun r : List Int => r.drop w)) (d := default) (by omega) (hzt.symm.trans (by simpa using c3))] at ho17_5
       exact ⟨(k + 1, v17_5, fp17_5), by simp [HasL, puts_at], ⟨by first | omega | (dsimp only; omega), ho17_5, hfho17_5, sb15, cL9⟩, by first | omega | (dsimp only; omega)⟩
      ·try simp only [decide_eq_true_eq, decide_eq_false_iff_not, beq_iff_eq, beq_eq_false_iff_ne, bne_iff_ne, ne_eq, Bool.not_eq_true', Bool.not_eq_false', Bool.and_eq_true, Bool.or_eq_true, bne_eq_false_iff_eq] at c3
       refine den_skip ?_
       refine den_blk ?_
       refine den_region TTok ?_
       intro K hK
       simp -implicitDefEqProofs (disch := first | decide | assumption | omega) only [go_sem, RdS.len rR sl36, RdS.idx rR sl36, RdS.cellB rR (Ext.pres eB), RdS.cells rR, RdS.len hr1 sl22, RdS.idx hr1 sl22, R1.intB hr1 (Ext.pres eB), RdS.cells hr1, RdS.len (OS.rd how13_2_0) sl36, RdS.idx (OS.rd how13_2_0) sl36, RdS.cellN (OS.rd how13_2_0), RdS.cells (OS.rd how13_2_0), RdS.len hr13 sl22, RdS.idx hr13 sl22, R1.intB hr13 (Ext.pres xr14), RdS.cells hr13, wrap_id, Int.toNat_zero]
       refine hK _ _ ?_
       clear hK K
       refine den_stop ?_
       first | rw [fm_yes (f := (fun r : List Int => decide ((w : Int) ≤ leadP r))) (g := (fun r : List Int => r.drop w)) (by omega) (hzt.symm.trans (by simpa using c3))] at hN | rw [fm_no (f := (fun r : List Int => decide ((w : Int) ≤ leadP r))) (g := (fun r : List Int => r.drop w)) (d := default) (by omega) (hzt.symm.trans (by simpa using c3))] at hN
       exact ⟨(k + 1, vhN, fphN), by simp [HasL, puts_at], ⟨by first | omega | (dsimp only; omega), hN, hfhN, sbhN, cL9⟩, by first | omega | (dsimp only; omega)⟩
     ·try simp only [decide_eq_true_eq, decide_eq_false_iff_not, beq_iff_eq, beq_eq_false_iff_ne, bne_iff_ne, ne_eq, Bool.not_eq_true', Bool.not_eq_false', Bool.and_eq_true, Bool.or_eq_true, bne_eq_false_iff_eq] at c2
      refine den_exit ?_
      refine denX_code ?_
      refine denX_stop ?_
      refine denX_hit ?_
      refine den_seq ?_
      rw [show ((((ech p (longP R)).take k).filter (fun r : List Int => decide ((w : Int) ≤ leadP r))).map (fun r : List Int => r.drop w)) = kerP p w R by rw [kerP, List.take_of_length_le (by omega)]] at hN
      obtain ⟨lk, hkr⟩ := kerP_rr hP hT
      have hkl2 : (kerP p w R).length ≤ 1000 := by have := hkr.le_w; omega
      refine den_region TTok ?_
      intro K hK
      simp -implicitDefEqProofs (disch := first | decide | assumption | omega) only [go_sem, RdS.len rR sl36, RdS.idx rR sl36, RdS.cellB rR (Ext.pres eB), RdS.cells rR, RdS.len hr1 sl22, RdS.idx hr1 sl22, R1.intB hr1 (Ext.pres eB), RdS.cells hr1, wrap_id, Int.toNat_zero]
      try simp -implicitDefEqProofs (disch := first | decide | assumption | omega) only [go_sem, RdS.len rR sl36, RdS.idx rR sl36, RdS.cellB rR (Ext.pres eB), RdS.cells rR, RdS.len hr1 sl22, RdS.idx hr1 sl22, R1.intB hr1 (Ext.pres eB), RdS.cells hr1, wrap_id, Int.toNat_zero]
      refine CallA.mono (iReduce_ok _ p (kerP p w R) _ (O2S.rd hN (fun b hb => cL9.block b (hkl b hb) (hka b hb))) hP (kerP_tbl hP hT) (by omega) hkl2) ?_
      intro vw19_2 h19_2
      rintro ⟨zw19_2, fw19_2, rfl, how19_2, hfw19_2, e19_2⟩
      replace hN := OS.ext hN e19_2
      have := Ext.size e19_2
      replace eB := Ext.trans eB e19_2
      have hlhow19_2 := OS.lt how19_2
      try simp -implicitDefEqProofs (disch := first | decide | assumption | omega) only [go_sem, RdS.len rR sl36, RdS.idx rR sl36, RdS.cellB rR (Ext.pres eB), RdS.cells rR, RdS.len hr1 sl22, RdS.idx hr1 sl22, R1.intB hr1 (Ext.pres eB), RdS.cells hr1, RdS.len (OS.rd how19_2) sl36, RdS.idx (OS.rd how19_2) sl36, RdS.cellN (OS.rd how19_2), RdS.cells (OS.rd how19_2), wrap_id, Int.toNat_zero]
      refine hK _ _ ?_
      clear hK K
      refine den_ret ?_
      simp (disch := decide) only [resP_1, puts_same, puts_ne]
      have hec : ech p (kerP p w R) = kerQ p R := by rw [kerQ_w hT hR0]; exact hkr.self hP
      rw [hec] at how19_2
      exact ⟨_, _, rfl, how19_2, hfw19_2.mono (by omega), eB⟩
end Go.Proofs.Ytbplnadngahgaaa

namespace Go.Proofs.Ytbplnadngahgaaa
open Go
theorem Rr.units (m : Nat) {p : Int} (hp : 1 < p) : Rr p m (unitsP (m : Int)) fun i => i := by
 have hl : (unitsP (m : Int)).length = m := by simp [unitsP]
 have gt : ∀ i, i < m → (unitsP (m : Int)).getD i default = unitP m i := fun i hi => by rw [unitsP, Int.toNat_natCast, getD_map_range _ hi]
 have gg : ∀ i j, i < m → g2 (unitsP (m : Int)) i j = if i = j then 1 else 0 := fun i j hi => by
  rw [g2, gt i hi, unitP, getD_set (by simpa using hi)]
  split
  ·rfl
  ·rcases Nat.lt_or_ge j m with h | h
   ·rw [List.getD_eq_getElem?_getD, List.getElem?_eq_getElem (by simpa using h)]; simp
   ·exact getD_out (by simpa using h)
 refine ⟨fun i hi => ?_, fun i hi => ?_, fun i hi => ?_, fun i hi => ?_, fun i j hi hj => ?_, fun i k hik hk => hik, fun i k hi hk hne => ?_⟩
 ·rw [hl] at hi; rw [gt i hi]; simp [unitP]
 ·rw [hl] at hi; rw [gt i hi]
  intro x hx
  rcases List.mem_or_eq_of_mem_set hx with h2 | h2
  ·have := List.eq_of_mem_replicate h2; omega
  ·omega
 ·rw [hl] at hi; exact hi
 ·rw [hl] at hi; rw [gg i i hi, if_pos rfl]
 ·rw [hl] at hi; rw [gg i j hi, if_neg (by omega)]
 ·rw [hl] at hi hk; rw [gg k i hk, if_neg hne]
theorem longP_nils (m : Nat) : longP (List.replicate m []) = unitsP (m : Int) := by
 rw [longP, unitsP, List.length_replicate, Int.toNat_natCast]
 apply List.map_congr_left
 intro i hi
 rw [List.mem_range] at hi
 rw [getD_repl hi, List.nil_append]
theorem kerQ_nils {p : Int} (hP : isP p = true) (m : Nat) : kerQ p (List.replicate m []) = unitsP (m : Int) := by
 have hw : wd (List.replicate m ([] : List Int)) = 0 := by
  cases m with
  | zero => rfl
  | succ m => rfl
 rw [kerQ, kerP, hw, longP_nils, (Rr.units m (isP_two hP).1).self hP]
 have hf : (unitsP (m : Int)).filter (fun r => decide (((0 : Nat) : Int) ≤ leadP r)) = unitsP (m : Int) := by
  apply List.filter_eq_self.2
  intro r hr
  obtain ⟨i, hi, rfl⟩ := List.getElem_of_mem hr
  have := (Rr.units m (isP_two hP).1).lead hi
  rw [List.getD_eq_getElem?_getD, List.getElem?_eq_getElem hi] at this
  simp only [Option.getD_some] at this
  rw [this]; simp
 rw [hf]
 exact List.map_id'' (fun _ => rfl) _
noncomputable def cycP (X : Cx) (n : Int) : List (List Int) := kerQ X.p (mapP X n)
noncomputable def bndP (X : Cx) (n : Int) : List (List Int) := ech X.p (mapP X (n + 1))
theorem mapP_in {X : Cx} {n : Int} (h0 : 1 ≤ n) (h1 : n ≤ (X.dims.length : Int) - 1) : mapP X n = X.maps.getD (n - 1).toNat default := by rw [mapP, if_pos (in3_iff.2 ⟨h0, h1⟩)]
theorem mapP_out {X : Cx} {n : Int} (h : n ≤ 0 ∨ (X.dims.length : Int) - 1 < n) : mapP X n = List.replicate (dimP X n).toNat [] := by rw [mapP, if_neg (by rw [in3_iff]; omega)]
/-- The rows of a degree: how many, and how long. -/
theorem mapP_tbl {X : Cx} (hC : IsC X) (n : Int) : ((mapP X n).length : Int) = dimP X n ∧ ∀ r ∈ mapP X n, r.length = (if 1 ≤ n then (dimP X (n - 1)).toNat else 0) ∧ Bnd X.p r := by
 have hd := dimP_bnd hC n
 by_cases h : 0 ≤ n ∧ n ≤ (X.dims.length : Int) - 1
 ·obtain ⟨h1, h2⟩ := mapP_ok hC h.1 h.2
  refine ⟨by rw [h1, dimP, if_pos (in3_iff.2 h)], fun r hr => ?_⟩
  have := h2 r hr
  refine ⟨?_, this.2⟩
  split
  ·omega
  ·have e : n - 1 < 0 := by omega
   rw [dimP_out (n := n - 1) (by omega)] at this; omega
 ·rw [mapP_out (by omega), dimP_out h]
  exact ⟨rfl, fun r hr => by cases hr⟩
def mapW (X : Cx) (n : Int) : Nat := if 1 ≤ n then (dimP X (n - 1)).toNat else 0
theorem mapW_le {X : Cx} (hC : IsC X) (n : Int) : mapW X n ≤ 8 := by
 have := dimP_bnd hC (n - 1)
 unfold mapW; split <;> omega
theorem mapP_len {X : Cx} (hC : IsC X) (n : Int) : (mapP X n).length ≤ 8 := by
 have := (mapP_tbl hC n).1
 have := dimP_bnd hC n
 omega
theorem cycP_in {X : Cx} {n : Int} (h0 : 1 ≤ n) (h1 : n ≤ (X.dims.length : Int) - 1) : cycP X n = kerQ X.p (X.maps.getD (n - 1).toNat default) := by rw [cycP, mapP_in h0 h1]
theorem cycP_out {X : Cx} (hC : IsC X) {n : Int} (h : n ≤ 0 ∨ (X.dims.length : Int) - 1 < n) : cycP X n = unitsP (dimP X n) := by
 have := dimP_bnd hC n
 rw [cycP, mapP_out h, kerQ_nils hC.p, show (((dimP X n).toNat : Nat) : Int) = dimP X n by omega]
theorem bndP_in {X : Cx} {n : Int} (h0 : 0 ≤ n) (h1 : n < (X.dims.length : Int) - 1) : bndP X n = ech X.p (X.maps.getD n.toNat default) := by rw [bndP, mapP_in (by omega) (by omega), Int.add_sub_cancel]
theorem bndP_out {X : Cx} (hC : IsC X) {n : Int} (h0 : 0 ≤ n) (h1 : (X.dims.length : Int) - 1 ≤ n) : bndP X n = [] := by
 rw [bndP, mapP_out (by omega), dimP_out (by omega)]
 exact ech_nil (isP_two hC.p).1
/-- The cycles of a degree are reduced. -/
theorem cyc_rr {X : Cx} (hC : IsC X) (n : Int) : ∃ l, Rr X.p (dimP X n).toNat (cycP X n) l := by
 obtain ⟨h1, h2⟩ := mapP_tbl hC n
 have hl : (mapP X n).length = (dimP X n).toNat := by omega
 by_cases hn : mapP X n = []
 ·rw [cycP, hn, kerQ_nil (isP_two hC.p).1]; exact ⟨fun i => i, Rr.nil⟩
 ·rw [cycP, kerQ_w h2 hn, ← hl]; exact kerP_rr hC.p h2
theorem bnd_rr {X : Cx} (hC : IsC X) {n : Int} (h0 : 0 ≤ n) : ∃ l, Rr X.p (dimP X n).toNat (bndP X n) l := by
 obtain ⟨h1, h2⟩ := mapP_tbl hC (n + 1)
 rw [if_pos (by omega), Int.add_sub_cancel] at h2
 exact (ech_red hC.p h2).1
theorem Rr.tbl {p : Int} {w : Nat} {L : List (List Int)} {l : Nat → Nat} (r : Rr p w L l) : ∀ x ∈ L, x.length = w ∧ Bnd p x := fun x hx => by
 obtain ⟨i, hi, rfl⟩ := List.getElem_of_mem hx
 have a := r.len i hi
 have b := r.bnd i hi
 rw [List.getD_eq_getElem?_getD, List.getElem?_eq_getElem hi] at a b
 exact ⟨a, b⟩

set_option maxRecDepth 100000 in
theorem sKernel_ok (vR : Value) (p : Int) (n : Int) (R : List (List Int)) (h : Heap) (rR : R2 h vR R) {w : Nat} (hP : isP p = true) (hT : ∀ r ∈ R, r.length = w ∧ Bnd p r) (hw : w ≤ 500) (hl : R.length ≤ 500) (hn : n = (R.length : Int)) : CallA Try.prog 123 #[.int .i64 p, .int .i64 n, vR] h fun v' h' => ∃ w0 f0, v' = w0 ∧ O2 h' w0 (kerQ p R) f0 ∧ Fresh h.size f0 ∧ Ext h h' := by
 have hleR := RdS.le rR
 have hp := isP_two hP
 have hLT := longP_tbl hp.1 hT
 have hEl := ech_len_le hP hLT
 obtain ⟨⟨l, hrE⟩, _⟩ := ech_red hP hLT
 have hll := len_longP R
 have hE0 : R = [] → (ech p (longP R)).length = 0 := fun e => by subst e; rw [longP]; simp only [List.length_nil, List.range_zero, List.map_nil]; rw [ech_nil hp.1]; rfl
 refine callA_intro TTok (args := [_, _, _]) Try.func123 (by kernel_rfl) rfl 68 rfl (by simp) [.tmp 6] rfl ?_
 simp only [idxs, Nat.reduceAdd]
 refine den_seq ?_
 refine den_region TTok ?_
 intro K hK
 simp -implicitDefEqProofs (disch := first | decide | assumption | omega) only [go_sem, RdS.len rR sl36, RdS.idx rR sl36, RdS.cellB rR (HPres.refl _), RdS.cells rR, wrap_id]
 refine hK _ _ ?_
 clear hK K
 refine den_seq ?_
 refine den_region TTok ?_
 intro K hK
 simp -implicitDefEqProofs (disch := first | decide | assumption | omega) only [go_sem, RdS.len rR sl36, RdS.idx rR sl36, RdS.cellB rR (HPres.refl _), RdS.cells rR, wrap_id]
 refine op_bs0 sz36 O1 ?_
 intro v1_0 h1_0 ho1_0 e1_0
 have := Ext.size e1_0
 have eB := e1_0
 have hfho1_0 : Fresh h.size [h.size] := Fresh.one _
 have hlho1_0 := OS.lt ho1_0
 try simp -implicitDefEqProofs (disch := first | decide | assumption | omega) only [go_sem, RdS.len rR sl36, RdS.idx rR sl36, RdS.cellB rR (Ext.pres eB), RdS.cells rR, RdS.len (OS.rd ho1_0) sl36, RdS.idx (OS.rd ho1_0) sl36, RdS.cellN (OS.rd ho1_0), RdS.cells (OS.rd ho1_0), wrap_id]
 refine hK _ _ ?_
 clear hK K
 refine den_seq ?_
 refine den_region TTok ?_
 intro K hK
 simp -implicitDefEqProofs (disch := first | decide | assumption | omega) only [go_sem, RdS.len rR sl36, RdS.idx rR sl36, RdS.cellB rR (Ext.pres eB), RdS.cells rR, RdS.len (OS.rd ho1_0) sl36, RdS.idx (OS.rd ho1_0) sl36, RdS.cellN (OS.rd ho1_0), RdS.cells (OS.rd ho1_0), wrap_id]
 refine hK _ _ ?_
 clear hK K
 refine den_seq ?_
 refine den_seq ?_
 refine den_region TTok ?_
 intro K hK
 simp -implicitDefEqProofs (disch := first | decide | assumption | omega) only [go_sem, RdS.len rR sl36, RdS.idx rR sl36, RdS.cellB rR (Ext.pres eB), RdS.cells rR, RdS.len (OS.rd ho1_0) sl36, RdS.idx (OS.rd ho1_0) sl36, RdS.cellN (OS.rd ho1_0), RdS.cells (OS.rd ho1_0), wrap_id]
 refine hK _ _ ?_
 clear hK K
 refine den_block ?_
 refine den_sel [7, 8, 9, 0, 1, 2] ?_
 intro env_1
 simp only [go_sem]
 refine den_loopS (σ := Nat × Nat × Value × List Nat) (fun st_ => [(7, st_.2.2.1), (8, .int .i64 (st_.2.1 : Int)), (9, .int .i64 (st_.1 : Int))]) (fun st_ H => (st_.1 ≤ R.length) ∧ (0 < st_.1 → st_.2.1 = w) ∧ (O2 H st_.2.2.1 ((List.range st_.1).map fun i => R.getD i default ++ unitP R.length i) st_.2.2.2) ∧ (Fresh (h.size) st_.2.2.2) ∧ (Sub [h.size] h1_0.size st_.2.2.2) ∧ (Chg [h.size] h1_0 H)) (fun st_ => R.length - st_.1) (0, 0, v1_0, [h.size]) ?_ ?_
 ·exact ⟨by simp, fun h => absurd h (by simp), by simpa using ho1_0, hfho1_0, Sub.refl, Chg.refl _ _⟩
 ·rintro ⟨m, wn, vhL, fphL⟩ h4 ee3 ⟨hk, hwd_, hL, hfhL, sbhL, cL2⟩
  dsimp only at hk hwd_ hL hfhL sbhL cL2
  have := cL2.size
  replace eB := Ext.then eB cL2 (ge_of hfho1_0 (by omega))
  have hlhL := OS.lt hL
  simp only [List.cons_append, List.nil_append]
  have hlo_ : ((List.range m).map fun i => R.getD i default ++ unitP R.length i).length = m := by simp
  refine den_seq ?_
  refine den_seq ?_
  refine den_region TTok ?_
  intro K hK
  simp -implicitDefEqProofs (disch := first | decide | assumption | omega) only [go_sem, RdS.len rR sl36, RdS.idx rR sl36, RdS.cellB rR (Ext.pres eB), RdS.cells rR, RdS.len (OS.rd hL) sl36, RdS.idx (OS.rd hL) sl36, RdS.cellN (OS.rd hL), RdS.cells (OS.rd hL), wrap_id]
  refine hK _ _ ?_
  clear hK K
  refine den_cond rfl (fun c0 => ?_) (fun c0 => ?_)
  ·try simp only [decide_eq_true_eq, decide_eq_false_iff_not, beq_iff_eq, beq_eq_false_iff_ne, bne_iff_ne, ne_eq, Bool.not_eq_true', Bool.not_eq_false', Bool.and_eq_true, Bool.or_eq_true, bne_eq_false_iff_eq] at c0
   refine den_skip ?_
   refine den_seq ?_
   refine den_block ?_
   refine den_seq ?_
   refine den_region TTok ?_
   intro K hK
   simp -implicitDefEqProofs (disch := first | decide | assumption | omega) only [go_sem, RdS.len rR sl36, RdS.idx rR sl36, RdS.cellB rR (Ext.pres eB), RdS.cells rR, RdS.len (OS.rd hL) sl36, RdS.idx (OS.rd hL) sl36, RdS.cellN (OS.rd hL), RdS.cells (OS.rd hL), wrap_id]
   refine op_make sz22 rfl rfl (by omega) (by omega) OI 0 (fun _ => ⟨rfl, rfl⟩) ?_
   intro v6_1 h6_1 ho6_1 e6_1
   replace hL := OS.ext hL e6_1
   have := Ext.size e6_1
   replace eB := Ext.trans eB e6_1
   replace cL2 := Chg.stepE cL2 e6_1
   have hfho6_1 : Fresh h4.size [h4.size] := Fresh.one _
   have hlenho6_1 : (List.replicate (n).toNat (0 : Int)).length = (n).toNat := List.length_replicate
   have hlho6_1 := OS.lt ho6_1
   try simp -implicitDefEqProofs (disch := first | decide | assumption | omega) only [go_sem, RdS.len rR sl36, RdS.idx rR sl36, RdS.cellB rR (Ext.pres eB), RdS.cells rR, RdS.len (OS.rd hL) sl36, RdS.idx (OS.rd hL) sl36, RdS.cellN (OS.rd hL), RdS.cells (OS.rd hL), RdS.len (OS.rd ho6_1) sl22, RdS.idx (OS.rd ho6_1) sl22, R1.intN (OS.rd ho6_1), RdS.cells (OS.rd ho6_1), wrap_id]
   refine hK _ _ ?_
   clear hK K
   refine den_seq ?_
   refine den_region TTok ?_
   intro K hK
   simp -implicitDefEqProofs (disch := first | decide | assumption | omega) only [go_sem, RdS.len rR sl36, RdS.idx rR sl36, RdS.cellB rR (Ext.pres eB), RdS.cells rR, RdS.len (OS.rd hL) sl36, RdS.idx (OS.rd hL) sl36, RdS.cellN (OS.rd hL), RdS.cells (OS.rd hL), RdS.len (OS.rd ho6_1) sl22, RdS.idx (OS.rd ho6_1) sl22, R1.intN (OS.rd ho6_1), RdS.cells (OS.rd ho6_1), wrap_id]
   refine op_store1 (j := m) st2 ho6_1 hfho6_1.nodup (by first | omega | (simp; omega)) rfl rfl ?_
   intro h7_3 ho7_3 c7_3
   have hsz7_3 := c7_3.size
   replace hL := OS.chg hL c7_3 (apart_lt hlhL hfho6_1 (by omega))
   have := c7_3.size
   replace eB := Ext.then eB c7_3 (ge_of hfho6_1 (by omega))
   replace cL2 := Chg.step cL2 c7_3 (Sub.fresh hfho6_1 (by omega))
   have hlho7_3 := hlho6_1
   have hlenho7_3 : ((List.replicate (n).toNat 0).set m (1 : Int) : List Int).length = (List.replicate (n).toNat 0 : List Int).length := List.length_set
   try simp -implicitDefEqProofs (disch := first | decide | assumption | omega) only [go_sem, RdS.len rR sl36, RdS.idx rR sl36, RdS.cellB rR (Ext.pres eB), RdS.cells rR, RdS.len (OS.rd hL) sl36, RdS.idx (OS.rd hL) sl36, RdS.cellN (OS.rd hL), RdS.cells (OS.rd hL), RdS.len (OS.rd ho7_3) sl22, RdS.idx (OS.rd ho7_3) sl22, R1.intN (OS.rd ho7_3), RdS.cells (OS.rd ho7_3), wrap_id]
   refine hK _ _ ?_
   clear hK K
   refine den_seq ?_
   have hRk := hT _ (getD_mem (show m < R.length by omega))
   refine den_region TTok ?_
   intro K hK
   have hr5 := RdS.rowN rR m (by omega)
   have hlhr5 := RdS.le hr5
   simp -implicitDefEqProofs (disch := first | decide | assumption | omega) only [go_sem, ld22, RdS.len rR sl36, RdS.idx rR sl36, RdS.cellB rR (Ext.pres eB), RdS.cells rR, RdS.len hr5 sl22, RdS.idx hr5 sl22, R1.intB hr5 (Ext.pres eB), RdS.cells hr5, RdS.len (OS.rd hL) sl36, RdS.idx (OS.rd hL) sl36, RdS.cellN (OS.rd hL), RdS.cells (OS.rd hL), RdS.len (OS.rd ho7_3) sl22, RdS.idx (OS.rd ho7_3) sl22, R1.intN (OS.rd ho7_3), RdS.cells (OS.rd ho7_3), wrap_id]
   refine hK _ _ ?_
   clear hK K
   refine den_region TTok ?_
   intro K hK
   have hr6 := RdS.rowN rR m (by omega)
   have hlhr6 := RdS.le hr6
   simp -implicitDefEqProofs (disch := first | decide | assumption | omega) only [go_sem, ld22, RdS.len rR sl36, RdS.idx rR sl36, RdS.cellB rR (Ext.pres eB), RdS.cells rR, RdS.len hr5 sl22, RdS.idx hr5 sl22, R1.intB hr5 (Ext.pres eB), RdS.cells hr5, RdS.len hr6 sl22, RdS.idx hr6 sl22, R1.intB hr6 (Ext.pres eB), RdS.cells hr6, RdS.len (OS.rd hL) sl36, RdS.idx (OS.rd hL) sl36, RdS.cellN (OS.rd hL), RdS.cells (OS.rd hL), RdS.len (OS.rd ho7_3) sl22, RdS.idx (OS.rd ho7_3) sl22, R1.intN (OS.rd ho7_3), RdS.cells (OS.rd ho7_3), wrap_id]
   try simp -implicitDefEqProofs (disch := first | decide | assumption | omega) only [go_sem, RdS.len rR sl36, RdS.idx rR sl36, RdS.cellB rR (Ext.pres eB), RdS.cells rR, RdS.len hr5 sl22, RdS.idx hr5 sl22, R1.intB hr5 (Ext.pres eB), RdS.cells hr5, RdS.len hr6 sl22, RdS.idx hr6 sl22, R1.intB hr6 (Ext.pres eB), RdS.cells hr6, RdS.len (OS.rd hL) sl36, RdS.idx (OS.rd hL) sl36, RdS.cellN (OS.rd hL), RdS.cells (OS.rd hL), RdS.len (OS.rd ho7_3) sl22, RdS.idx (OS.rd ho7_3) sl22, R1.intN (OS.rd ho7_3), RdS.cells (OS.rd ho7_3), wrap_id]
   refine CallA.mono (sOwn_ok _ ((R).getD m default) _ (RdS.pres hr6 (Ext.pres eB)) (by omega)) ?_
   intro vw9_5_0 h9_5
   rintro ⟨zvw9_5_0, fw9_5_0, rfl, how9_5_0, hfw9_5_0, e9_5⟩
   replace hL := OS.ext hL e9_5
   replace ho7_3 := OS.ext ho7_3 e9_5
   have := Ext.size e9_5
   replace eB := Ext.trans eB e9_5
   replace cL2 := Chg.stepE cL2 e9_5
   have hlhow9_5_0 := OS.lt how9_5_0
   try simp -implicitDefEqProofs (disch := first | decide | assumption | omega) only [go_sem, RdS.len rR sl36, RdS.idx rR sl36, RdS.cellB rR (Ext.pres eB), RdS.cells rR, RdS.len hr5 sl22, RdS.idx hr5 sl22, R1.intB hr5 (Ext.pres eB), RdS.cells hr5, RdS.len hr6 sl22, RdS.idx hr6 sl22, R1.intB hr6 (Ext.pres eB), RdS.cells hr6, RdS.len (OS.rd hL) sl36, RdS.idx (OS.rd hL) sl36, RdS.cellN (OS.rd hL), RdS.cells (OS.rd hL), RdS.len (OS.rd ho7_3) sl22, RdS.idx (OS.rd ho7_3) sl22, R1.intN (OS.rd ho7_3), RdS.cells (OS.rd ho7_3), RdS.len (OS.rd how9_5_0) sl22, RdS.idx (OS.rd how9_5_0) sl22, R1.intN (OS.rd how9_5_0), RdS.cells (OS.rd how9_5_0), wrap_id]
   refine op_appendR how9_5_0 (OS.rd ho7_3) (by first | omega | (simp; omega)) rfl ?_
   intro v9_7 h9_7 fp9_7 ho9_7 hn9_7 hs9_7 c9_7
   have hsz9_7 := c9_7.size
   have hfho9_7 : Fresh h7_3.size fp9_7 := Fresh.appd hfw9_5_0 (Fresh.nil h9_5.size) (by omega) (by omega) hn9_7 hs9_7
   replace hL := OS.chg hL c9_7 (apart_lt hlhL hfw9_5_0 (by omega))
   replace ho7_3 := OS.chg ho7_3 c9_7 (apart_lt hlho7_3 hfw9_5_0 (by omega))
   have := c9_7.size
   replace eB := Ext.then eB c9_7 (ge_of hfw9_5_0 (by omega))
   replace cL2 := Chg.step cL2 c9_7 (Sub.fresh hfw9_5_0 (by omega))
   have hlho9_7 := OS.lt ho9_7
   try simp -implicitDefEqProofs (disch := first | decide | assumption | omega) only [go_sem, RdS.len rR sl36, RdS.idx rR sl36, RdS.cellB rR (Ext.pres eB), RdS.cells rR, RdS.len hr5 sl22, RdS.idx hr5 sl22, R1.intB hr5 (Ext.pres eB), RdS.cells hr5, RdS.len hr6 sl22, RdS.idx hr6 sl22, R1.intB hr6 (Ext.pres eB), RdS.cells hr6, RdS.len (OS.rd hL) sl36, RdS.idx (OS.rd hL) sl36, RdS.cellN (OS.rd hL), RdS.cells (OS.rd hL), RdS.len (OS.rd ho7_3) sl22, RdS.idx (OS.rd ho7_3) sl22, R1.intN (OS.rd ho7_3), RdS.cells (OS.rd ho7_3), RdS.len (OS.rd ho9_7) sl22, RdS.idx (OS.rd ho9_7) sl22, R1.intN (OS.rd ho9_7), RdS.cells (OS.rd ho9_7), wrap_id]
   refine op_bs1 sz36 rfl (OS.one ho9_7).2 ?_
   try simp -implicitDefEqProofs (disch := first | decide | assumption | omega) only [go_sem, RdS.len rR sl36, RdS.idx rR sl36, RdS.cellB rR (Ext.pres eB), RdS.cells rR, RdS.len hr5 sl22, RdS.idx hr5 sl22, R1.intB hr5 (Ext.pres eB), RdS.cells hr5, RdS.len hr6 sl22, RdS.idx hr6 sl22, R1.intB hr6 (Ext.pres eB), RdS.cells hr6, RdS.len (OS.rd hL) sl36, RdS.idx (OS.rd hL) sl36, RdS.cellN (OS.rd hL), RdS.cells (OS.rd hL), RdS.len (OS.rd ho7_3) sl22, RdS.idx (OS.rd ho7_3) sl22, R1.intN (OS.rd ho7_3), RdS.cells (OS.rd ho7_3), RdS.len (OS.rd ho9_7) sl22, RdS.idx (OS.rd ho9_7) sl22, R1.intN (OS.rd ho9_7), RdS.cells (OS.rd ho9_7), wrap_id]
   refine op_append1 sz36 hL hfhL.nodup ho9_7 hfho9_7.nodup (apart_lt hlhL hfho9_7 (by omega)) (by first | omega | (simp; omega)) rfl rfl ?_
   intro v9_9 h9_9 fp9_9 ho9_9 hn9_9 hs9_9 c9_9
   have hsz9_9 := c9_9.size
   have hfho9_9 : Fresh h.size fp9_9 := Fresh.appd hfhL hfho9_7 (by omega) (by omega) hn9_9 hs9_9
   have sb7 : Sub [h.size] h1_0.size fp9_9 := Sub.grow sbhL (Sub.fresh hfho9_7 (by omega)) (by omega) hs9_9
   replace ho7_3 := OS.chg ho7_3 c9_9 (apart_gt hfho6_1 hlhL (by omega))
   have := c9_9.size
   replace eB := Ext.then eB c9_9 (ge_of hfhL (by omega))
   replace cL2 := Chg.step cL2 c9_9 sbhL
   have ap8 : Apart [h4.size] fp9_9 := Apart.grow hlho7_3 (by omega) (apart_gt hfho6_1 hlhL (by omega)) (apart_lt hlho7_3 hfho9_7 (by omega)) hs9_9
   have hlho9_9 := OS.lt ho9_9
   try simp -implicitDefEqProofs (disch := first | decide | assumption | omega) only [go_sem, RdS.len rR sl36, RdS.idx rR sl36, RdS.cellB rR (Ext.pres eB), RdS.cells rR, RdS.len hr5 sl22, RdS.idx hr5 sl22, R1.intB hr5 (Ext.pres eB), RdS.cells hr5, RdS.len hr6 sl22, RdS.idx hr6 sl22, R1.intB hr6 (Ext.pres eB), RdS.cells hr6, RdS.len (OS.rd ho7_3) sl22, RdS.idx (OS.rd ho7_3) sl22, R1.intN (OS.rd ho7_3), RdS.cells (OS.rd ho7_3), RdS.len (OS.rd ho9_9) sl36, RdS.idx (OS.rd ho9_9) sl36, RdS.cellN (OS.rd ho9_9), RdS.cells (OS.rd ho9_9), wrap_id]
   refine hK _ _ ?_
   clear hK K
   refine den_blk ?_
   refine den_region TTok ?_
   intro K hK
   simp -implicitDefEqProofs (disch := first | decide | assumption | omega) only [go_sem, RdS.len rR sl36, RdS.idx rR sl36, RdS.cellB rR (Ext.pres eB), RdS.cells rR, RdS.len hr5 sl22, RdS.idx hr5 sl22, R1.intB hr5 (Ext.pres eB), RdS.cells hr5, RdS.len hr6 sl22, RdS.idx hr6 sl22, R1.intB hr6 (Ext.pres eB), RdS.cells hr6, RdS.len (OS.rd ho9_9) sl36, RdS.idx (OS.rd ho9_9) sl36, RdS.cellN (OS.rd ho9_9), RdS.cells (OS.rd ho9_9), wrap_id]
   refine hK _ _ ?_
   clear hK K
   refine den_stop ?_
   rw [show (List.replicate n.toNat (0 : Int)).set m 1 = unitP R.length m by rw [hn, Int.toNat_natCast]; rfl, longP_step (by omega)] at ho9_9
   exact ⟨(m + 1, (R.getD m default).length, v9_9, fp9_9), by simp [HasL, puts_at], ⟨by dsimp only; omega, (fun _ => hRk.1), ho9_9, hfho9_9, sb7, cL2⟩, by first | omega | (dsimp only; omega)⟩
  ·try simp only [decide_eq_true_eq, decide_eq_false_iff_not, beq_iff_eq, beq_eq_false_iff_ne, bne_iff_ne, ne_eq, Bool.not_eq_true', Bool.not_eq_false', Bool.and_eq_true, Bool.or_eq_true, bne_eq_false_iff_eq] at c0
   refine den_exit ?_
   refine denX_code ?_
   refine denX_stop ?_
   refine denX_hit ?_
   refine den_seq ?_
   rw [show ((List.range m).map fun i => R.getD i default ++ unitP R.length i) = longP R by rw [longP, show R.length = m by omega]] at hL
   have hredT := hLT
   refine den_region TTok ?_
   intro K hK
   simp -implicitDefEqProofs (disch := first | decide | assumption | omega) only [go_sem, RdS.len rR sl36, RdS.idx rR sl36, RdS.cellB rR (Ext.pres eB), RdS.cells rR, RdS.len (OS.rd hL) sl36, RdS.idx (OS.rd hL) sl36, RdS.cellN (OS.rd hL), RdS.cells (OS.rd hL), wrap_id]
   try simp -implicitDefEqProofs (disch := first | decide | assumption | omega) only [go_sem, RdS.len rR sl36, RdS.idx rR sl36, RdS.cellB rR (Ext.pres eB), RdS.cells rR, RdS.len (OS.rd hL) sl36, RdS.idx (OS.rd hL) sl36, RdS.cellN (OS.rd hL), RdS.cells (OS.rd hL), wrap_id]
   refine CallA.mono (sEch_ok _ p (longP R) _ (OS.rd hL) hP hredT (by omega) (by omega)) ?_
   intro vw10_2_0 h10_2
   rintro ⟨zvw10_2_0, fw10_2_0, rfl, how10_2_0, hfw10_2_0, e10_2⟩
   replace hL := OS.ext hL e10_2
   have := Ext.size e10_2
   replace eB := Ext.trans eB e10_2
   have hlhow10_2_0 := OS.lt how10_2_0
   try simp -implicitDefEqProofs (disch := first | decide | assumption | omega) only [go_sem, RdS.len rR sl36, RdS.idx rR sl36, RdS.cellB rR (Ext.pres eB), RdS.cells rR, RdS.len (OS.rd hL) sl36, RdS.idx (OS.rd hL) sl36, RdS.cellN (OS.rd hL), RdS.cells (OS.rd hL), RdS.len (OS.rd how10_2_0) sl36, RdS.idx (OS.rd how10_2_0) sl36, RdS.cellN (OS.rd how10_2_0), RdS.cells (OS.rd how10_2_0), wrap_id]
   refine op_bs0 sz36 O1 ?_
   intro v10_3 h10_3 ho10_3 e10_3
   replace hL := OS.ext hL e10_3
   replace how10_2_0 := OS.ext how10_2_0 e10_3
   have := Ext.size e10_3
   replace eB := Ext.trans eB e10_3
   have hfho10_3 : Fresh h10_2.size [h10_2.size] := Fresh.one _
   have hlho10_3 := OS.lt ho10_3
   try simp -implicitDefEqProofs (disch := first | decide | assumption | omega) only [go_sem, RdS.len rR sl36, RdS.idx rR sl36, RdS.cellB rR (Ext.pres eB), RdS.cells rR, RdS.len (OS.rd hL) sl36, RdS.idx (OS.rd hL) sl36, RdS.cellN (OS.rd hL), RdS.cells (OS.rd hL), RdS.len (OS.rd how10_2_0) sl36, RdS.idx (OS.rd how10_2_0) sl36, RdS.cellN (OS.rd how10_2_0), RdS.cells (OS.rd how10_2_0), RdS.len (OS.rd ho10_3) sl36, RdS.idx (OS.rd ho10_3) sl36, RdS.cellN (OS.rd ho10_3), RdS.cells (OS.rd ho10_3), wrap_id]
   refine hK _ _ ?_
   clear hK K
   refine den_seq ?_
   refine den_seq ?_
   refine den_region TTok ?_
   intro K hK
   simp -implicitDefEqProofs (disch := first | decide | assumption | omega) only [go_sem, RdS.len rR sl36, RdS.idx rR sl36, RdS.cellB rR (Ext.pres eB), RdS.cells rR, RdS.len (OS.rd how10_2_0) sl36, RdS.idx (OS.rd how10_2_0) sl36, RdS.cellN (OS.rd how10_2_0), RdS.cells (OS.rd how10_2_0), RdS.len (OS.rd ho10_3) sl36, RdS.idx (OS.rd ho10_3) sl36, RdS.cellN (OS.rd ho10_3), RdS.cells (OS.rd ho10_3), wrap_id]
   refine hK _ _ ?_
   clear hK K
   refine den_block ?_
   refine den_sel [12, 13, 8, 11] ?_
   intro env_9
   simp only [go_sem]
   refine den_loopS (σ := Nat × Value × List Nat) (fun st_ => [(12, st_.2.1), (13, .int .i64 (st_.1 : Int))]) (fun st_ H => (st_.1 ≤ (ech p (longP R)).length) ∧ (O2 H st_.2.1 ((((ech p (longP R)).take st_.1).filter (fun r : List Int => decide ((w : Int) ≤ leadP r))).map (fun r : List Int => r.drop w)) st_.2.2) ∧ (Fresh (h10_2.size) st_.2.2) ∧ (Sub [h10_2.size] h10_3.size st_.2.2) ∧ (Chg [h10_2.size] h10_3 H)) (fun st_ => (ech p (longP R)).length - st_.1) (0, v10_3, [h10_2.size]) ?_ ?_
   ·exact ⟨by simp, by simpa using ho10_3, hfho10_3, Sub.refl, Chg.refl _ _⟩
   ·rintro ⟨k, vhN, fphN⟩ h12 ee11 ⟨hk2, hN, hfhN, sbhN, cL10⟩
    dsimp only at hk2 hN hfhN sbhN cL10
    replace how10_2_0 := OS.chg how10_2_0 cL10 (apart_lt hlhow10_2_0 hfho10_3 (by omega))
    have := cL10.size
    replace eB := Ext.then eB cL10 (ge_of hfho10_3 (by omega))
    have hlhN := OS.lt hN
    simp only [List.cons_append, List.nil_append]
    have hol := fm_len (f := (fun r : List Int => decide ((w : Int) ≤ leadP r))) (g := (fun r : List Int => r.drop w)) (xs := (ech p (longP R))) hk2
    refine den_seq ?_
    refine den_seq ?_
    refine den_region TTok ?_
    intro K hK
    simp -implicitDefEqProofs (disch := first | decide | assumption | omega) only [go_sem, RdS.len rR sl36, RdS.idx rR sl36, RdS.cellB rR (Ext.pres eB), RdS.cells rR, RdS.len (OS.rd how10_2_0) sl36, RdS.idx (OS.rd how10_2_0) sl36, RdS.cellN (OS.rd how10_2_0), RdS.cells (OS.rd how10_2_0), RdS.len (OS.rd hN) sl36, RdS.idx (OS.rd hN) sl36, RdS.cellN (OS.rd hN), RdS.cells (OS.rd hN), wrap_id]
    refine hK _ _ ?_
    clear hK K
    refine den_cond rfl (fun c1 => ?_) (fun c1 => ?_)
    ·try simp only [decide_eq_true_eq, decide_eq_false_iff_not, beq_iff_eq, beq_eq_false_iff_ne, bne_iff_ne, ne_eq, Bool.not_eq_true', Bool.not_eq_false', Bool.and_eq_true, Bool.or_eq_true, bne_eq_false_iff_eq] at c1
     refine den_skip ?_
     refine den_seq ?_
     refine den_block ?_
     refine den_seq ?_
     have hR0 : 0 < R.length := Nat.pos_of_ne_zero fun e_ => by have := hE0 (List.length_eq_zero_iff.1 e_); omega
     have hwd := hwd_ (by omega)
     refine den_region TTok ?_
     intro K hK
     have hr13 := RdS.rowN (OS.rd how10_2_0) k (by omega)
     have hlhr13 := RdS.le hr13
     have xr14 := Ext.refl h12
     simp -implicitDefEqProofs (disch := first | decide | assumption | omega) only [go_sem, ld22, RdS.len rR sl36, RdS.idx rR sl36, RdS.cellB rR (Ext.pres eB), RdS.cells rR, RdS.len (OS.rd how10_2_0) sl36, RdS.idx (OS.rd how10_2_0) sl36, RdS.cellN (OS.rd how10_2_0), RdS.cells (OS.rd how10_2_0), RdS.len (OS.rd hN) sl36, RdS.idx (OS.rd hN) sl36, RdS.cellN (OS.rd hN), RdS.cells (OS.rd hN), RdS.len hr13 sl22, RdS.idx hr13 sl22, R1.intB hr13 (Ext.pres xr14), RdS.cells hr13, wrap_id, hwd]
     try simp -implicitDefEqProofs (disch := first | decide | assumption | omega) only [go_sem, RdS.len rR sl36, RdS.idx rR sl36, RdS.cellB rR (Ext.pres eB), RdS.cells rR, RdS.len (OS.rd how10_2_0) sl36, RdS.idx (OS.rd how10_2_0) sl36, RdS.cellN (OS.rd how10_2_0), RdS.cells (OS.rd how10_2_0), RdS.len (OS.rd hN) sl36, RdS.idx (OS.rd hN) sl36, RdS.cellN (OS.rd hN), RdS.cells (OS.rd hN), RdS.len hr13 sl22, RdS.idx hr13 sl22, R1.intB hr13 (Ext.pres xr14), RdS.cells hr13, wrap_id, hwd]
     refine CallA.pure (sLead_ok _ ((ech p (longP R)).getD k default) _ (RdS.pres hr13 (Ext.pres xr14))) ?_
     try simp -implicitDefEqProofs (disch := first | decide | assumption | omega) only [go_sem, RdS.len rR sl36, RdS.idx rR sl36, RdS.cellB rR (Ext.pres eB), RdS.cells rR, RdS.len (OS.rd how10_2_0) sl36, RdS.idx (OS.rd how10_2_0) sl36, RdS.cellN (OS.rd how10_2_0), RdS.cells (OS.rd how10_2_0), RdS.len (OS.rd hN) sl36, RdS.idx (OS.rd hN) sl36, RdS.cellN (OS.rd hN), RdS.cells (OS.rd hN), RdS.len hr13 sl22, RdS.idx hr13 sl22, R1.intB hr13 (Ext.pres xr14), RdS.cells hr13, wrap_id, hwd]
     refine hK _ _ ?_
     clear hK K
     refine den_cond rfl (fun c2 => ?_) (fun c2 => ?_)
     ·try simp only [decide_eq_true_eq, decide_eq_false_iff_not, beq_iff_eq, beq_eq_false_iff_ne, bne_iff_ne, ne_eq, Bool.not_eq_true', Bool.not_eq_false', Bool.and_eq_true, Bool.or_eq_true, bne_eq_false_iff_eq] at c2
      obtain ⟨vs, hes, hRs⟩ := RdS.dropV (k := .i64) (RdS.rowN (OS.rd how10_2_0) k (by omega)) sl22 (lo := (w : Int)) (by omega) (by have := hrE.len k (by omega); omega)
      rw [Int.toNat_natCast] at hRs
      have hdl_ : (((ech p (longP R)).getD k default).drop w).length ≤ 1000 := by rw [List.length_drop]; have := hrE.len k (by omega); omega
      refine den_region TTok ?_
      intro K hK
      have hr15 := RdS.rowN (OS.rd how10_2_0) k (by omega)
      have hlhr15 := RdS.le hr15
      have xr16 := Ext.refl h12
      simp -implicitDefEqProofs (disch := first | decide | assumption | omega) only [go_sem, ld22, RdS.len rR sl36, RdS.idx rR sl36, RdS.cellB rR (Ext.pres eB), RdS.cells rR, RdS.len (OS.rd how10_2_0) sl36, RdS.idx (OS.rd how10_2_0) sl36, RdS.cellN (OS.rd how10_2_0), RdS.cells (OS.rd how10_2_0), RdS.len (OS.rd hN) sl36, RdS.idx (OS.rd hN) sl36, RdS.cellN (OS.rd hN), RdS.cells (OS.rd hN), RdS.len hr13 sl22, RdS.idx hr13 sl22, R1.intB hr13 (Ext.pres xr14), RdS.cells hr13, RdS.len hr15 sl22, RdS.idx hr15 sl22, R1.intB hr15 (Ext.pres xr16), RdS.cells hr15, wrap_id, hwd, hes, Option.map_some, Option.map_none]
      try simp -implicitDefEqProofs (disch := first | decide | assumption | omega) only [go_sem, RdS.len rR sl36, RdS.idx rR sl36, RdS.cellB rR (Ext.pres eB), RdS.cells rR, RdS.len (OS.rd how10_2_0) sl36, RdS.idx (OS.rd how10_2_0) sl36, RdS.cellN (OS.rd how10_2_0), RdS.cells (OS.rd how10_2_0), RdS.len (OS.rd hN) sl36, RdS.idx (OS.rd hN) sl36, RdS.cellN (OS.rd hN), RdS.cells (OS.rd hN), RdS.len hr13 sl22, RdS.idx hr13 sl22, R1.intB hr13 (Ext.pres xr14), RdS.cells hr13, RdS.len hr15 sl22, RdS.idx hr15 sl22, R1.intB hr15 (Ext.pres xr16), RdS.cells hr15, wrap_id, hwd, hes, Option.map_some, Option.map_none]
      refine CallA.mono (sOwn_ok _ (((ech p (longP R)).getD k default).drop w) _ hRs (by omega)) ?_
      intro vw15_7_0 h15_7
      rintro ⟨zvw15_7_0, fw15_7_0, rfl, how15_7_0, hfw15_7_0, e15_7⟩
      replace how10_2_0 := OS.ext how10_2_0 e15_7
      replace hN := OS.ext hN e15_7
      have := Ext.size e15_7
      replace eB := Ext.trans eB e15_7
      replace xr14 := Ext.trans xr14 e15_7
      replace xr16 := Ext.trans xr16 e15_7
      replace cL10 := Chg.stepE cL10 e15_7
      have hlhow15_7_0 := OS.lt how15_7_0
      try simp -implicitDefEqProofs (disch := first | decide | assumption | omega) only [go_sem, RdS.len rR sl36, RdS.idx rR sl36, RdS.cellB rR (Ext.pres eB), RdS.cells rR, RdS.len (OS.rd how10_2_0) sl36, RdS.idx (OS.rd how10_2_0) sl36, RdS.cellN (OS.rd how10_2_0), RdS.cells (OS.rd how10_2_0), RdS.len (OS.rd hN) sl36, RdS.idx (OS.rd hN) sl36, RdS.cellN (OS.rd hN), RdS.cells (OS.rd hN), RdS.len (OS.rd how15_7_0) sl22, RdS.idx (OS.rd how15_7_0) sl22, R1.intN (OS.rd how15_7_0), RdS.cells (OS.rd how15_7_0), RdS.len hr13 sl22, RdS.idx hr13 sl22, R1.intB hr13 (Ext.pres xr14), RdS.cells hr13, RdS.len hr15 sl22, RdS.idx hr15 sl22, R1.intB hr15 (Ext.pres xr16), RdS.cells hr15, wrap_id, hwd, hes, Option.map_some, Option.map_none]
      refine op_bs1 sz36 rfl (OS.one how15_7_0).2 ?_
      try simp -implicitDefEqProofs (disch := first | decide | assumption | omega) only [go_sem, RdS.len rR sl36, RdS.idx rR sl36, RdS.cellB rR (Ext.pres eB), RdS.cells rR, RdS.len (OS.rd how10_2_0) sl36, RdS.idx (OS.rd how10_2_0) sl36, RdS.cellN (OS.rd how10_2_0), RdS.cells (OS.rd how10_2_0), RdS.len (OS.rd hN) sl36, RdS.idx (OS.rd hN) sl36, RdS.cellN (OS.rd hN), RdS.cells (OS.rd hN), RdS.len (OS.rd how15_7_0) sl22, RdS.idx (OS.rd how15_7_0) sl22, R1.intN (OS.rd how15_7_0), RdS.cells (OS.rd how15_7_0), RdS.len hr13 sl22, RdS.idx hr13 sl22, R1.intB hr13 (Ext.pres xr14), RdS.cells hr13, RdS.len hr15 sl22, RdS.idx hr15 sl22, R1.intB hr15 (Ext.pres xr16), RdS.cells hr15, wrap_id, hwd, hes, Option.map_some, Option.map_none]
      refine op_append1 sz36 hN hfhN.nodup how15_7_0 hfw15_7_0.nodup (apart_lt hlhN hfw15_7_0 (by omega)) (by first | omega | (simp; omega)) rfl rfl ?_
      intro v15_9 h15_9 fp15_9 ho15_9 hn15_9 hs15_9 c15_9
      have hsz15_9 := c15_9.size
      have hfho15_9 : Fresh h10_2.size fp15_9 := Fresh.appd hfhN hfw15_7_0 (by omega) (by omega) hn15_9 hs15_9
      have sb17 : Sub [h10_2.size] h10_3.size fp15_9 := Sub.grow sbhN (Sub.fresh hfw15_7_0 (by omega)) (by omega) hs15_9
      replace how10_2_0 := OS.chg how10_2_0 c15_9 (apart_lt hlhow10_2_0 hfhN (by omega))
      have := c15_9.size
      replace eB := Ext.then eB c15_9 (ge_of hfhN (by omega))
      replace cL10 := Chg.step cL10 c15_9 sbhN
      have hlho15_9 := OS.lt ho15_9
      try simp -implicitDefEqProofs (disch := first | decide | assumption | omega) only [go_sem, RdS.len rR sl36, RdS.idx rR sl36, RdS.cellB rR (Ext.pres eB), RdS.cells rR, RdS.len (OS.rd how10_2_0) sl36, RdS.idx (OS.rd how10_2_0) sl36, RdS.cellN (OS.rd how10_2_0), RdS.cells (OS.rd how10_2_0), RdS.len (OS.rd ho15_9) sl36, RdS.idx (OS.rd ho15_9) sl36, RdS.cellN (OS.rd ho15_9), RdS.cells (OS.rd ho15_9), wrap_id, hwd, hes, Option.map_some, Option.map_none]
      refine hK _ _ ?_
      clear hK K
      refine den_blk ?_
      refine den_region TTok ?_
      intro K hK
      simp -implicitDefEqProofs (disch := first | decide | assumption | omega) only [go_sem, RdS.len rR sl36, RdS.idx rR sl36, RdS.cellB rR (Ext.pres eB), RdS.cells rR, RdS.len (OS.rd how10_2_0) sl36, RdS.idx (OS.rd how10_2_0) sl36, RdS.cellN (OS.rd how10_2_0), RdS.cells (OS.rd how10_2_0), RdS.len (OS.rd ho15_9) sl36, RdS.idx (OS.rd ho15_9) sl36, RdS.cellN (OS.rd ho15_9), RdS.cells (OS.rd ho15_9), wrap_id]
      refine hK _ _ ?_
      clear hK K
      refine den_stop ?_
      first | rw [fm_yes (f := (fun r : List Int => decide ((w : Int) ≤ leadP r))) (g := (fun r : List Int => r.drop w)) (by omega) (decide_eq_true (by have h1 := c2; omega))] at ho15_9 | rw [fm_no (f := (fun r : List Int => decide ((w : Int) ≤ leadP r))) (g := (fun r : List Int => r.drop w)) (d := default) (by omega) (decide_eq_false (by have h1 := c2; omega))] at ho15_9
      exact ⟨(k + 1, v15_9, fp15_9), by simp [HasL, puts_at, hwd], ⟨by first | omega | (dsimp only; omega), ho15_9, hfho15_9, sb17, cL10⟩, by first | omega | (dsimp only; omega)⟩
     ·try simp only [decide_eq_true_eq, decide_eq_false_iff_not, beq_iff_eq, beq_eq_false_iff_ne, bne_iff_ne, ne_eq, Bool.not_eq_true', Bool.not_eq_false', Bool.and_eq_true, Bool.or_eq_true, bne_eq_false_iff_eq] at c2
      refine den_skip ?_
      refine den_blk ?_
      refine den_region TTok ?_
      intro K hK
      simp -implicitDefEqProofs (disch := first | decide | assumption | omega) only [go_sem, RdS.len rR sl36, RdS.idx rR sl36, RdS.cellB rR (Ext.pres eB), RdS.cells rR, RdS.len (OS.rd how10_2_0) sl36, RdS.idx (OS.rd how10_2_0) sl36, RdS.cellN (OS.rd how10_2_0), RdS.cells (OS.rd how10_2_0), RdS.len (OS.rd hN) sl36, RdS.idx (OS.rd hN) sl36, RdS.cellN (OS.rd hN), RdS.cells (OS.rd hN), RdS.len hr13 sl22, RdS.idx hr13 sl22, R1.intB hr13 (Ext.pres xr14), RdS.cells hr13, wrap_id]
      refine hK _ _ ?_
      clear hK K
      refine den_stop ?_
      first | rw [fm_yes (f := (fun r : List Int => decide ((w : Int) ≤ leadP r))) (g := (fun r : List Int => r.drop w)) (by omega) (decide_eq_true (by have h1 := c2; omega))] at hN | rw [fm_no (f := (fun r : List Int => decide ((w : Int) ≤ leadP r))) (g := (fun r : List Int => r.drop w)) (d := default) (by omega) (decide_eq_false (by have h1 := c2; omega))] at hN
      exact ⟨(k + 1, vhN, fphN), by simp [HasL, puts_at, hwd], ⟨by first | omega | (dsimp only; omega), hN, hfhN, sbhN, cL10⟩, by first | omega | (dsimp only; omega)⟩
    ·try simp only [decide_eq_true_eq, decide_eq_false_iff_not, beq_iff_eq, beq_eq_false_iff_ne, bne_iff_ne, ne_eq, Bool.not_eq_true', Bool.not_eq_false', Bool.and_eq_true, Bool.or_eq_true, bne_eq_false_iff_eq] at c1
     refine den_exit ?_
     refine denX_code ?_
     refine denX_stop ?_
     refine denX_hit ?_
     refine den_seq ?_
     refine den_region TTok ?_
     intro K hK
     simp -implicitDefEqProofs (disch := first | decide | assumption | omega) only [go_sem, RdS.len rR sl36, RdS.idx rR sl36, RdS.cellB rR (Ext.pres eB), RdS.cells rR, RdS.len (OS.rd hN) sl36, RdS.idx (OS.rd hN) sl36, RdS.cellN (OS.rd hN), RdS.cells (OS.rd hN), wrap_id]
     refine hK _ _ ?_
     clear hK K
     refine den_ret ?_
     simp (disch := decide) only [resP_1, puts_same, puts_ne]
     have hec : kerQ p R = (((ech p (longP R)).take k).filter (fun r : List Int => decide ((w : Int) ≤ leadP r))).map (fun r : List Int => r.drop w) := by
      by_cases e_ : R = []
      ·subst e_
       rw [kerQ_nil hp.1, List.length_eq_zero_iff.1 (hE0 rfl)]; simp
      ·rw [kerQ_w hT e_, kerP, List.take_of_length_le (i := k) (by omega)]
     rw [hec]
     exact ⟨_, _, rfl, hN, hfhN.mono (by omega), eB⟩

set_option maxRecDepth 100000 in
theorem iCyc_ok (vX : Value) (X : Cx) (n : Int) (h : Heap) (rX : RC h vX X) (hC : IsC X) (hn : -1000 ≤ n ∧ n ≤ 1000) : CallA Try.prog 62 #[vX, .int .i64 n] h fun v' h' => ∃ w0 f0, v' = w0 ∧ O2 h' w0 (cycP X n) f0 ∧ Fresh h.size f0 ∧ Ext h h' := by
 obtain ⟨vdX, vmX, rfl, hdX, hmX⟩ := rX
 have hledX := RdS.le hdX
 have hlemX := RdS.le hmX
 have hml := hC.ml
 have hlX := hC.len
 have hdb := dimP_bnd hC n
 have hpb := isP_bnd hC.p
 refine callA_intro TTok (args := [_, _]) Try.func62 (by kernel_rfl) rfl 26 rfl (by simp) [.tmp 4] rfl ?_
 simp only [idxs, Nat.reduceAdd]
 refine den_seq ?_
 refine den_region TTok ?_
 intro K hK
 simp -implicitDefEqProofs (disch := first | decide | assumption | omega) only [go_sem, RdS.len hdX sl22, RdS.idx hdX sl22, R1.intB hdX (HPres.refl _), RdS.cells hdX, RdS.len hmX sl23, RdS.idx hmX sl23, RdS.cellB hmX (HPres.refl _), RdS.cells hmX, wrap_id]
 refine op_box (cs := #[.int .i64 (X.p), vdX, vmX]) rfl ?_
 intro h0_0 e0_0 hb0_0 z0_0
 have := Ext.size e0_0
 have eB := e0_0
 have hfhb0_0 : Fresh h.size [h.size] := Fresh.one _
 have hlhb0_0 := one_lt (show h.size < h0_0.size by omega)
 try simp -implicitDefEqProofs (disch := first | decide | assumption | omega) only [go_sem, RdS.len hdX sl22, RdS.idx hdX sl22, R1.intB hdX (Ext.pres eB), RdS.cells hdX, RdS.len hmX sl23, RdS.idx hmX sl23, RdS.cellB hmX (Ext.pres eB), RdS.cells hmX, BoxAt.cell hb0_0, wrap_id]
 refine hK _ _ ?_
 clear hK K
 refine den_seq ?_
 refine den_seq ?_
 refine den_merge [(12, .bool (((decide (n ≤ (0 : Int))) || (decide ((((X.dims).length : Int) - 1) < n)))))] [1, 2] (fun H => Ext h0_0 H) ?_ ?_
  -- a way
 ·refine den_region TTok ?_
  intro K hK
  simp -implicitDefEqProofs (disch := first | decide | assumption | (simp (disch := decide) only [slotOf_zero, slotOf_succ, Option.map_some, puts_same, puts_ne, gv_bool, gv_undef, tt, tf, ft, ff, eq_self, if_true, if_false, Bool.false_eq_true, Bool.not_true, Bool.not_false]; done) | omega) only [go_sem, RdS.len hdX sl22, RdS.idx hdX sl22, R1.intB hdX (Ext.pres eB), RdS.cells hdX, RdS.len hmX sl23, RdS.idx hmX sl23, RdS.cellB hmX (Ext.pres eB), RdS.cells hmX, BoxAt.cell hb0_0, wrap_id]
  refine opsP_F (by simp (disch := decide) only [slotOf_zero, slotOf_succ, Option.map_some, puts_same, puts_ne, gv_bool, gv_undef, tt, tf, ft, ff, eq_self, if_true, if_false, Bool.false_eq_true, Bool.not_true, Bool.not_false]; rfl) (fun g1 => ?_) (fun g1 => ?_)
  ·try simp -implicitDefEqProofs (disch := first | decide | assumption | (simp (disch := decide) only [slotOf_zero, slotOf_succ, Option.map_some, puts_same, puts_ne, gv_bool, gv_undef, tt, tf, ft, ff, eq_self, if_true, if_false, Bool.false_eq_true, Bool.not_true, Bool.not_false, g1]; done) | omega) only [go_sem, ld30, RdS.len hdX sl22, RdS.idx hdX sl22, R1.intB hdX (Ext.pres eB), RdS.cells hdX, RdS.len hmX sl23, RdS.idx hmX sl23, RdS.cellB hmX (Ext.pres eB), RdS.cells hmX, BoxAt.cell hb0_0, wrap_id, g1, eq_self, if_true, if_false, Bool.false_eq_true]
   try simp -implicitDefEqProofs (disch := first | decide | assumption | omega) only [go_sem, RdS.len hdX sl22, RdS.idx hdX sl22, R1.intB hdX (Ext.pres eB), RdS.cells hdX, RdS.len hmX sl23, RdS.idx hmX sl23, RdS.cellB hmX (Ext.pres eB), RdS.cells hmX, BoxAt.cell hb0_0, wrap_id]
   refine CallA.mono (top_ok _ X _ ⟨_, _, rfl, (RdS.pres hdX (Ext.pres eB)), (RdS.pres hmX (Ext.pres eB))⟩) ?_
   intro v_ h1_5
   rintro ⟨rfl, e1_5⟩
   replace hb0_0 := BoxAt.ext hb0_0 e1_5
   have := Ext.size e1_5
   replace eB := Ext.trans eB e1_5
   try simp -implicitDefEqProofs (disch := first | decide | assumption | (simp (disch := decide) only [slotOf_zero, slotOf_succ, Option.map_some, puts_same, puts_ne, gv_bool, gv_undef, tt, tf, ft, ff, eq_self, if_true, if_false, Bool.false_eq_true, Bool.not_true, Bool.not_false, g1]; done) | omega) only [go_sem, RdS.len hdX sl22, RdS.idx hdX sl22, R1.intB hdX (Ext.pres eB), RdS.cells hdX, RdS.len hmX sl23, RdS.idx hmX sl23, RdS.cellB hmX (Ext.pres eB), RdS.cells hmX, BoxAt.cell hb0_0, wrap_id, g1, eq_self, if_true, if_false, Bool.false_eq_true]
   refine hK _ _ ?_
   clear hK K
   refine den_stop ?_
   refine ⟨?_, e1_5⟩
   first | (simp (disch := decide) only [go_sem, g1, eq_self, Bool.true_and, Bool.and_true, Bool.false_and, Bool.and_false, Bool.true_or, Bool.or_true, Bool.false_or, Bool.or_false, if_true, if_false, Bool.false_eq_true]; done) | simp [HasL, sel, puts_at, g1]
  ·try simp -implicitDefEqProofs (disch := first | decide | assumption | (simp (disch := decide) only [slotOf_zero, slotOf_succ, Option.map_some, puts_same, puts_ne, gv_bool, gv_undef, tt, tf, ft, ff, eq_self, if_true, if_false, Bool.false_eq_true, Bool.not_true, Bool.not_false, g1]; done) | omega) only [go_sem, RdS.len hdX sl22, RdS.idx hdX sl22, R1.intB hdX (Ext.pres eB), RdS.cells hdX, RdS.len hmX sl23, RdS.idx hmX sl23, RdS.cellB hmX (Ext.pres eB), RdS.cells hmX, BoxAt.cell hb0_0, wrap_id, g1, eq_self, if_true, if_false, Bool.false_eq_true]
   refine hK _ _ ?_
   clear hK K
   refine den_stop ?_
   refine ⟨?_, Ext.refl _⟩
   first | (simp (disch := decide) only [go_sem, g1, eq_self, Bool.true_and, Bool.and_true, Bool.false_and, Bool.and_false, Bool.true_or, Bool.or_true, Bool.false_or, Bool.or_false, if_true, if_false, Bool.false_eq_true]; done) | simp [HasL, sel, puts_at, g1]
 intro en2 h3 e4
 replace hb0_0 := BoxAt.ext hb0_0 e4
 have := Ext.size e4
 replace eB := Ext.trans eB e4
 simp (disch := decide) only [go_sem]
 refine den_cond rfl (fun c0 => ?_) (fun c0 => ?_)
 ·try simp only [decide_eq_true_eq, decide_eq_false_iff_not, beq_iff_eq, beq_eq_false_iff_ne, bne_iff_ne, ne_eq, Bool.not_eq_true', Bool.not_eq_false', Bool.and_eq_true, Bool.or_eq_true, bne_eq_false_iff_eq, Bool.or_eq_false_iff, Bool.or_eq_true] at c0
  refine den_seq ?_
  refine den_region TTok ?_
  intro K hK
  simp -implicitDefEqProofs (disch := first | decide | assumption | omega) only [go_sem, ld30, RdS.len hdX sl22, RdS.idx hdX sl22, R1.intB hdX (Ext.pres eB), RdS.cells hdX, RdS.len hmX sl23, RdS.idx hmX sl23, RdS.cellB hmX (Ext.pres eB), RdS.cells hmX, BoxAt.cell hb0_0, wrap_id]
  try simp -implicitDefEqProofs (disch := first | decide | assumption | omega) only [go_sem, RdS.len hdX sl22, RdS.idx hdX sl22, R1.intB hdX (Ext.pres eB), RdS.cells hdX, RdS.len hmX sl23, RdS.idx hmX sl23, RdS.cellB hmX (Ext.pres eB), RdS.cells hmX, BoxAt.cell hb0_0, wrap_id]
  refine CallA.mono (iDim_ok _ X _ _ ⟨_, _, rfl, (RdS.pres hdX (Ext.pres eB)), (RdS.pres hmX (Ext.pres eB))⟩) ?_
  intro v_ h2_2
  rintro ⟨rfl, e2_2⟩
  replace hb0_0 := BoxAt.ext hb0_0 e2_2
  have := Ext.size e2_2
  replace eB := Ext.trans eB e2_2
  try simp -implicitDefEqProofs (disch := first | decide | assumption | omega) only [go_sem, RdS.len hdX sl22, RdS.idx hdX sl22, R1.intB hdX (Ext.pres eB), RdS.cells hdX, RdS.len hmX sl23, RdS.idx hmX sl23, RdS.cellB hmX (Ext.pres eB), RdS.cells hmX, BoxAt.cell hb0_0, wrap_id]
  try simp -implicitDefEqProofs (disch := first | decide | assumption | omega) only [go_sem, RdS.len hdX sl22, RdS.idx hdX sl22, R1.intB hdX (Ext.pres eB), RdS.cells hdX, RdS.len hmX sl23, RdS.idx hmX sl23, RdS.cellB hmX (Ext.pres eB), RdS.cells hmX, BoxAt.cell hb0_0, wrap_id]
  refine CallA.mono (iUnits_ok  (dimP X n) _  (by omega)) ?_
  intro vw2_3_0 h2_3
  rintro ⟨zvw2_3_0, fw2_3_0, rfl, how2_3_0, hfw2_3_0, e2_3⟩
  replace hb0_0 := BoxAt.ext hb0_0 e2_3
  have := Ext.size e2_3
  replace eB := Ext.trans eB e2_3
  have hlhow2_3_0 := OS.lt how2_3_0
  try simp -implicitDefEqProofs (disch := first | decide | assumption | omega) only [go_sem, RdS.len hdX sl22, RdS.idx hdX sl22, R1.intB hdX (Ext.pres eB), RdS.cells hdX, RdS.len hmX sl23, RdS.idx hmX sl23, RdS.cellB hmX (Ext.pres eB), RdS.cells hmX, RdS.len (OS.rd how2_3_0) sl36, RdS.idx (OS.rd how2_3_0) sl36, RdS.cellN (OS.rd how2_3_0), RdS.cells (OS.rd how2_3_0), BoxAt.cell hb0_0, wrap_id]
  refine hK _ _ ?_
  clear hK K
  refine den_ret ?_
  simp (disch := decide) only [resP_1, puts_same, puts_ne]
  have hz := cycP_out hC (n := n) (by first | omega | (rcases c0 with h | h <;> omega))
  rw [hz]
  exact ⟨_, _, rfl, how2_3_0, hfw2_3_0.mono (by omega), eB⟩
 ·try simp only [decide_eq_true_eq, decide_eq_false_iff_not, beq_iff_eq, beq_eq_false_iff_ne, bne_iff_ne, ne_eq, Bool.not_eq_true', Bool.not_eq_false', Bool.and_eq_true, Bool.or_eq_true, bne_eq_false_iff_eq, Bool.or_eq_false_iff, Bool.or_eq_true] at c0
  refine den_skip ?_
  refine den_seq ?_
  have hmt := mapP_tbl hC n
  rw [mapP_in (by omega) (by omega)] at hmt
  have hP := hC.p
  have hkerT := hmt.2
  rw [if_pos (show 1 ≤ n by omega)] at hkerT
  have hkw := dimP_bnd hC (n - 1)
  have hkl : (X.maps.getD (n - 1).toNat default).length ≤ 8 := by have := hmt.1; omega
  refine den_draw TTok mixed [] [(0, true), (1, true), (2, true), (3, true), (4, true), (5, true), (6, true), (7, true), (8, false), (9, true)] (by kernel_rfl) ?_
  intro K hK
  have hr5 := RdS.rowN hmX ((n - (1 : Int))).toNat (by omega)
  have hlhr5 := RdS.le hr5
  simp -implicitDefEqProofs (disch := first | decide | assumption | omega) only [go_sem, fa30_0, fa30_2, ld23, ld36, ld2, RdS.len hdX sl22, RdS.idx hdX sl22, R1.intB hdX (Ext.pres eB), RdS.cells hdX, RdS.len hmX sl23, RdS.idx hmX sl23, RdS.cellB hmX (Ext.pres eB), RdS.cells hmX, RdS.len hr5 sl36, RdS.idx hr5 sl36, RdS.cellB hr5 (Ext.pres eB), RdS.cells hr5, BoxAt.cell hb0_0, wrap_id]
  try simp -implicitDefEqProofs (disch := first | decide | assumption | omega) only [go_sem, RdS.len hdX sl22, RdS.idx hdX sl22, R1.intB hdX (Ext.pres eB), RdS.cells hdX, RdS.len hmX sl23, RdS.idx hmX sl23, RdS.cellB hmX (Ext.pres eB), RdS.cells hmX, RdS.len hr5 sl36, RdS.idx hr5 sl36, RdS.cellB hr5 (Ext.pres eB), RdS.cells hr5, BoxAt.cell hb0_0, wrap_id]
  refine CallA.mono (iKernel_ok _ X.p ((X.maps).getD ((n - (1 : Int))).toNat default) _ (RdS.pres hr5 (Ext.pres eB)) hP hkerT (by omega) (by omega)) ?_
  intro vw3_8_0 h3_8
  rintro ⟨zvw3_8_0, fw3_8_0, rfl, how3_8_0, hfw3_8_0, e3_8⟩
  replace hb0_0 := BoxAt.ext hb0_0 e3_8
  have := Ext.size e3_8
  replace eB := Ext.trans eB e3_8
  have hlhow3_8_0 := OS.lt how3_8_0
  try simp (disch := decide) only [outv_some, outv_none, put_puts]
  refine plK_pres (Ext.pres e3_8) ?_
  try simp -implicitDefEqProofs (disch := first | decide | assumption | omega) only [go_sem, RdS.len hdX sl22, RdS.idx hdX sl22, R1.intB hdX (Ext.pres eB), RdS.cells hdX, RdS.len hmX sl23, RdS.idx hmX sl23, RdS.cellB hmX (Ext.pres eB), RdS.cells hmX, RdS.len hr5 sl36, RdS.idx hr5 sl36, RdS.cellB hr5 (Ext.pres eB), RdS.cells hr5, RdS.len (OS.rd how3_8_0) sl36, RdS.idx (OS.rd how3_8_0) sl36, RdS.cellN (OS.rd how3_8_0), RdS.cells (OS.rd how3_8_0), BoxAt.cell hb0_0, wrap_id]
  refine hK _ _ ?_
  clear hK K
  refine den_ret ?_
  simp (disch := decide) only [resP_1, puts_same, puts_ne]
  have hz := cycP_in (X := X) (n := n) (by omega) (by omega)
  rw [hz]
  exact ⟨_, _, rfl, how3_8_0, hfw3_8_0.mono (by omega), eB⟩

set_option maxRecDepth 100000 in
theorem iBnd_ok (vX : Value) (X : Cx) (n : Int) (h : Heap) (rX : RC h vX X) (hC : IsC X) (hn : 0 ≤ n ∧ n ≤ 1000) : CallA Try.prog 67 #[vX, .int .i64 n] h fun v' h' => ∃ w0 f0, v' = w0 ∧ O2 h' w0 (bndP X n) f0 ∧ Fresh h.size f0 ∧ Ext h h' := by
 obtain ⟨vdX, vmX, rfl, hdX, hmX⟩ := rX
 have hledX := RdS.le hdX
 have hlemX := RdS.le hmX
 have hml := hC.ml
 have hlX := hC.len
 have hpb := isP_bnd hC.p
 refine callA_intro TTok (args := [_, _]) Try.func67 (by kernel_rfl) rfl 21 rfl (by simp) [.tmp 4] rfl ?_
 simp only [idxs, Nat.reduceAdd]
 refine den_seq ?_
 refine den_region TTok ?_
 intro K hK
 simp -implicitDefEqProofs (disch := first | decide | assumption | omega) only [go_sem, RdS.len hdX sl22, RdS.idx hdX sl22, R1.intB hdX (HPres.refl _), RdS.cells hdX, RdS.len hmX sl23, RdS.idx hmX sl23, RdS.cellB hmX (HPres.refl _), RdS.cells hmX, wrap_id]
 refine op_box (cs := #[.int .i64 (X.p), vdX, vmX]) rfl ?_
 intro h0_0 e0_0 hb0_0 z0_0
 have := Ext.size e0_0
 have eB := e0_0
 have hfhb0_0 : Fresh h.size [h.size] := Fresh.one _
 have hlhb0_0 := one_lt (show h.size < h0_0.size by omega)
 try simp -implicitDefEqProofs (disch := first | decide | assumption | omega) only [go_sem, RdS.len hdX sl22, RdS.idx hdX sl22, R1.intB hdX (Ext.pres eB), RdS.cells hdX, RdS.len hmX sl23, RdS.idx hmX sl23, RdS.cellB hmX (Ext.pres eB), RdS.cells hmX, BoxAt.cell hb0_0, wrap_id]
 refine hK _ _ ?_
 clear hK K
 refine den_seq ?_
 refine den_seq ?_
 refine den_merge [(12, .bool (((decide (n < (0 : Int))) || (decide ((((X.dims).length : Int) - 1) ≤ n)))))] [1, 2] (fun H => Ext h0_0 H) ?_ ?_
  -- a way
 ·refine den_region TTok ?_
  intro K hK
  simp -implicitDefEqProofs (disch := first | decide | assumption | (simp (disch := decide) only [slotOf_zero, slotOf_succ, Option.map_some, puts_same, puts_ne, gv_bool, gv_undef, tt, tf, ft, ff, eq_self, if_true, if_false, Bool.false_eq_true, Bool.not_true, Bool.not_false]; done) | omega) only [go_sem, RdS.len hdX sl22, RdS.idx hdX sl22, R1.intB hdX (Ext.pres eB), RdS.cells hdX, RdS.len hmX sl23, RdS.idx hmX sl23, RdS.cellB hmX (Ext.pres eB), RdS.cells hmX, BoxAt.cell hb0_0, wrap_id]
  refine opsP_F (by simp (disch := decide) only [slotOf_zero, slotOf_succ, Option.map_some, puts_same, puts_ne, gv_bool, gv_undef, tt, tf, ft, ff, eq_self, if_true, if_false, Bool.false_eq_true, Bool.not_true, Bool.not_false]; rfl) (fun g1 => ?_) (fun g1 => ?_)
  ·try simp -implicitDefEqProofs (disch := first | decide | assumption | (simp (disch := decide) only [slotOf_zero, slotOf_succ, Option.map_some, puts_same, puts_ne, gv_bool, gv_undef, tt, tf, ft, ff, eq_self, if_true, if_false, Bool.false_eq_true, Bool.not_true, Bool.not_false, g1]; done) | omega) only [go_sem, ld30, RdS.len hdX sl22, RdS.idx hdX sl22, R1.intB hdX (Ext.pres eB), RdS.cells hdX, RdS.len hmX sl23, RdS.idx hmX sl23, RdS.cellB hmX (Ext.pres eB), RdS.cells hmX, BoxAt.cell hb0_0, wrap_id, g1, eq_self, if_true, if_false, Bool.false_eq_true]
   try simp -implicitDefEqProofs (disch := first | decide | assumption | omega) only [go_sem, RdS.len hdX sl22, RdS.idx hdX sl22, R1.intB hdX (Ext.pres eB), RdS.cells hdX, RdS.len hmX sl23, RdS.idx hmX sl23, RdS.cellB hmX (Ext.pres eB), RdS.cells hmX, BoxAt.cell hb0_0, wrap_id]
   refine CallA.mono (top_ok _ X _ ⟨_, _, rfl, (RdS.pres hdX (Ext.pres eB)), (RdS.pres hmX (Ext.pres eB))⟩) ?_
   intro v_ h1_5
   rintro ⟨rfl, e1_5⟩
   replace hb0_0 := BoxAt.ext hb0_0 e1_5
   have := Ext.size e1_5
   replace eB := Ext.trans eB e1_5
   try simp -implicitDefEqProofs (disch := first | decide | assumption | (simp (disch := decide) only [slotOf_zero, slotOf_succ, Option.map_some, puts_same, puts_ne, gv_bool, gv_undef, tt, tf, ft, ff, eq_self, if_true, if_false, Bool.false_eq_true, Bool.not_true, Bool.not_false, g1]; done) | omega) only [go_sem, RdS.len hdX sl22, RdS.idx hdX sl22, R1.intB hdX (Ext.pres eB), RdS.cells hdX, RdS.len hmX sl23, RdS.idx hmX sl23, RdS.cellB hmX (Ext.pres eB), RdS.cells hmX, BoxAt.cell hb0_0, wrap_id, g1, eq_self, if_true, if_false, Bool.false_eq_true]
   refine hK _ _ ?_
   clear hK K
   refine den_stop ?_
   refine ⟨?_, e1_5⟩
   first | (simp (disch := decide) only [go_sem, g1, eq_self, Bool.true_and, Bool.and_true, Bool.false_and, Bool.and_false, Bool.true_or, Bool.or_true, Bool.false_or, Bool.or_false, if_true, if_false, Bool.false_eq_true]; done) | simp [HasL, sel, puts_at, g1]
  ·try simp -implicitDefEqProofs (disch := first | decide | assumption | (simp (disch := decide) only [slotOf_zero, slotOf_succ, Option.map_some, puts_same, puts_ne, gv_bool, gv_undef, tt, tf, ft, ff, eq_self, if_true, if_false, Bool.false_eq_true, Bool.not_true, Bool.not_false, g1]; done) | omega) only [go_sem, RdS.len hdX sl22, RdS.idx hdX sl22, R1.intB hdX (Ext.pres eB), RdS.cells hdX, RdS.len hmX sl23, RdS.idx hmX sl23, RdS.cellB hmX (Ext.pres eB), RdS.cells hmX, BoxAt.cell hb0_0, wrap_id, g1, eq_self, if_true, if_false, Bool.false_eq_true]
   refine hK _ _ ?_
   clear hK K
   refine den_stop ?_
   refine ⟨?_, Ext.refl _⟩
   first | (simp (disch := decide) only [go_sem, g1, eq_self, Bool.true_and, Bool.and_true, Bool.false_and, Bool.and_false, Bool.true_or, Bool.or_true, Bool.false_or, Bool.or_false, if_true, if_false, Bool.false_eq_true]; done) | simp [HasL, sel, puts_at, g1]
 intro en2 h3 e4
 replace hb0_0 := BoxAt.ext hb0_0 e4
 have := Ext.size e4
 replace eB := Ext.trans eB e4
 simp (disch := decide) only [go_sem]
 refine den_cond rfl (fun c0 => ?_) (fun c0 => ?_)
 ·try simp only [decide_eq_true_eq, decide_eq_false_iff_not, beq_iff_eq, beq_eq_false_iff_ne, bne_iff_ne, ne_eq, Bool.not_eq_true', Bool.not_eq_false', Bool.and_eq_true, Bool.or_eq_true, bne_eq_false_iff_eq, Bool.or_eq_false_iff, Bool.or_eq_true] at c0
  refine den_seq ?_
  refine den_region TTok ?_
  intro K hK
  simp -implicitDefEqProofs (disch := first | decide | assumption | omega) only [go_sem, RdS.len hdX sl22, RdS.idx hdX sl22, R1.intB hdX (Ext.pres eB), RdS.cells hdX, RdS.len hmX sl23, RdS.idx hmX sl23, RdS.cellB hmX (Ext.pres eB), RdS.cells hmX, wrap_id]
  refine hK _ _ ?_
  clear hK K
  refine den_ret ?_
  simp (disch := decide) only [resP_1, puts_same, puts_ne]
  have hz := bndP_out hC (n := n) (by omega) (by first | omega | (rcases c0 with h | h <;> omega))
  rw [hz]
  exact ⟨.slice none 0 0, [], rfl, OS.nil, Fresh.nil _, eB⟩
 ·try simp only [decide_eq_true_eq, decide_eq_false_iff_not, beq_iff_eq, beq_eq_false_iff_ne, bne_iff_ne, ne_eq, Bool.not_eq_true', Bool.not_eq_false', Bool.and_eq_true, Bool.or_eq_true, bne_eq_false_iff_eq, Bool.or_eq_false_iff, Bool.or_eq_true] at c0
  refine den_skip ?_
  refine den_seq ?_
  have hmt := mapP_tbl hC (n + 1)
  rw [mapP_in (by omega) (by omega), Int.add_sub_cancel] at hmt
  have hP := hC.p
  have hredT := hmt.2
  rw [if_pos (show 1 ≤ n + 1 by omega)] at hredT
  have hkw := dimP_bnd hC n
  have hkd := dimP_bnd hC (n + 1)
  have hkl : (X.maps.getD n.toNat default).length ≤ 8 := by have := hmt.1; omega
  refine den_draw TTok mixed [] [(0, true), (1, true), (2, true), (3, true), (4, true), (5, true), (6, true), (7, false), (8, true)] (by kernel_rfl) ?_
  intro K hK
  have hr5 := RdS.rowN hmX (n).toNat (by omega)
  have hlhr5 := RdS.le hr5
  simp -implicitDefEqProofs (disch := first | decide | assumption | omega) only [go_sem, fa30_0, fa30_2, ld23, ld36, ld2, RdS.len hdX sl22, RdS.idx hdX sl22, R1.intB hdX (Ext.pres eB), RdS.cells hdX, RdS.len hmX sl23, RdS.idx hmX sl23, RdS.cellB hmX (Ext.pres eB), RdS.cells hmX, RdS.len hr5 sl36, RdS.idx hr5 sl36, RdS.cellB hr5 (Ext.pres eB), RdS.cells hr5, BoxAt.cell hb0_0, wrap_id]
  try simp -implicitDefEqProofs (disch := first | decide | assumption | omega) only [go_sem, RdS.len hdX sl22, RdS.idx hdX sl22, R1.intB hdX (Ext.pres eB), RdS.cells hdX, RdS.len hmX sl23, RdS.idx hmX sl23, RdS.cellB hmX (Ext.pres eB), RdS.cells hmX, RdS.len hr5 sl36, RdS.idx hr5 sl36, RdS.cellB hr5 (Ext.pres eB), RdS.cells hr5, BoxAt.cell hb0_0, wrap_id]
  refine CallA.mono (iReduce_ok _ X.p ((X.maps).getD (n).toNat default) _ (RdS.pres hr5 (Ext.pres eB)) hP hredT (by omega) (by omega)) ?_
  intro vw3_7_0 h3_7
  rintro ⟨zvw3_7_0, fw3_7_0, rfl, how3_7_0, hfw3_7_0, e3_7⟩
  replace hb0_0 := BoxAt.ext hb0_0 e3_7
  have := Ext.size e3_7
  replace eB := Ext.trans eB e3_7
  have hlhow3_7_0 := OS.lt how3_7_0
  try simp (disch := decide) only [outv_some, outv_none, put_puts]
  refine plK_pres (Ext.pres e3_7) ?_
  try simp -implicitDefEqProofs (disch := first | decide | assumption | omega) only [go_sem, RdS.len hdX sl22, RdS.idx hdX sl22, R1.intB hdX (Ext.pres eB), RdS.cells hdX, RdS.len hmX sl23, RdS.idx hmX sl23, RdS.cellB hmX (Ext.pres eB), RdS.cells hmX, RdS.len hr5 sl36, RdS.idx hr5 sl36, RdS.cellB hr5 (Ext.pres eB), RdS.cells hr5, RdS.len (OS.rd how3_7_0) sl36, RdS.idx (OS.rd how3_7_0) sl36, RdS.cellN (OS.rd how3_7_0), RdS.cells (OS.rd how3_7_0), BoxAt.cell hb0_0, wrap_id]
  refine hK _ _ ?_
  clear hK K
  refine den_ret ?_
  simp (disch := decide) only [resP_1, puts_same, puts_ne]
  have hz := bndP_in (X := X) (n := n) (by omega) (by omega)
  rw [hz]
  exact ⟨_, _, rfl, how3_7_0, hfw3_7_0.mono (by omega), eB⟩

set_option maxRecDepth 100000 in
theorem sCyc_ok (vX : Value) (X : Cx) (n : Int) (h : Heap) (rX : RC h vX X) (hC : IsC X) (hn : -1000 ≤ n ∧ n ≤ 1000) : CallA Try.prog 81 #[vX, .int .i64 n] h fun v' h' => ∃ w0 f0, v' = w0 ∧ O2 h' w0 (cycP X n) f0 ∧ Fresh h.size f0 ∧ Ext h h' := by
 obtain ⟨vdX, vmX, rfl, hdX, hmX⟩ := rX
 have hledX := RdS.le hdX
 have hlemX := RdS.le hmX
 have hP := hC.p
 have hmt := mapP_tbl hC n
 have hkerT := hmt.2
 have hkern := hmt.1.symm
 have hkl := mapP_len hC n
 have hkw : (if 1 ≤ n then (dimP X (n - 1)).toNat else 0) ≤ 8 := mapW_le hC n
 refine callA_intro TTok (args := [_, _]) Try.func81 (by kernel_rfl) rfl 14 rfl (by simp) [.tmp 4] rfl ?_
 simp only [idxs, Nat.reduceAdd]
 refine den_seq ?_
 refine den_region TTok ?_
 intro K hK
 simp -implicitDefEqProofs (disch := first | decide | assumption | omega) only [go_sem, RdS.len hdX sl22, RdS.idx hdX sl22, R1.intB hdX (HPres.refl _), RdS.cells hdX, RdS.len hmX sl23, RdS.idx hmX sl23, RdS.cellB hmX (HPres.refl _), RdS.cells hmX, wrap_id]
 refine op_box (cs := #[.int .i64 (X.p), vdX, vmX]) rfl ?_
 intro h0_0 e0_0 hb0_0 z0_0
 have := Ext.size e0_0
 have eB := e0_0
 have hfhb0_0 : Fresh h.size [h.size] := Fresh.one _
 have hlhb0_0 := one_lt (show h.size < h0_0.size by omega)
 try simp -implicitDefEqProofs (disch := first | decide | assumption | omega) only [go_sem, RdS.len hdX sl22, RdS.idx hdX sl22, R1.intB hdX (Ext.pres eB), RdS.cells hdX, RdS.len hmX sl23, RdS.idx hmX sl23, RdS.cellB hmX (Ext.pres eB), RdS.cells hmX, BoxAt.cell hb0_0, wrap_id]
 refine hK _ _ ?_
 clear hK K
 refine den_seq ?_
 refine den_draw TTok mixed [] [(0, true), (1, true), (2, true), (3, true), (5, true), (6, true), (4, false), (7, false), (8, false), (9, true)] (by kernel_rfl) ?_
 intro K hK
 simp -implicitDefEqProofs (disch := first | decide | assumption | omega) only [go_sem, fa30_0, ld2, ld30, RdS.len hdX sl22, RdS.idx hdX sl22, R1.intB hdX (Ext.pres eB), RdS.cells hdX, RdS.len hmX sl23, RdS.idx hmX sl23, RdS.cellB hmX (Ext.pres eB), RdS.cells hmX, BoxAt.cell hb0_0, wrap_id]
 try simp -implicitDefEqProofs (disch := first | decide | assumption | omega) only [go_sem, RdS.len hdX sl22, RdS.idx hdX sl22, R1.intB hdX (Ext.pres eB), RdS.cells hdX, RdS.len hmX sl23, RdS.idx hmX sl23, RdS.cellB hmX (Ext.pres eB), RdS.cells hmX, BoxAt.cell hb0_0, wrap_id]
 refine CallA.mono (sDim_ok _ X _ _ ⟨_, _, rfl, (RdS.pres hdX (Ext.pres eB)), (RdS.pres hmX (Ext.pres eB))⟩) ?_
 intro v_ h1_4
 rintro ⟨rfl, e1_4⟩
 replace hb0_0 := BoxAt.ext hb0_0 e1_4
 have := Ext.size e1_4
 replace eB := Ext.trans eB e1_4
 try simp (disch := decide) only [outv_some, outv_none, put_puts]
 refine plK_pres (Ext.pres e1_4) ?_
 try simp -implicitDefEqProofs (disch := first | decide | assumption | omega) only [go_sem, RdS.len hdX sl22, RdS.idx hdX sl22, R1.intB hdX (Ext.pres eB), RdS.cells hdX, RdS.len hmX sl23, RdS.idx hmX sl23, RdS.cellB hmX (Ext.pres eB), RdS.cells hmX, BoxAt.cell hb0_0, wrap_id]
 try simp -implicitDefEqProofs (disch := first | decide | assumption | omega) only [go_sem, RdS.len hdX sl22, RdS.idx hdX sl22, R1.intB hdX (Ext.pres eB), RdS.cells hdX, RdS.len hmX sl23, RdS.idx hmX sl23, RdS.cellB hmX (Ext.pres eB), RdS.cells hmX, BoxAt.cell hb0_0, wrap_id]
 refine CallA.mono (sMap_ok _ X n _ ⟨_, _, rfl, (RdS.pres hdX (Ext.pres eB)), (RdS.pres hmX (Ext.pres eB))⟩ hC) ?_
 intro vw1_7_0 h1_7
 rintro ⟨zvw1_7_0, rfl, hrw1_7_0, e1_7⟩
 replace hb0_0 := BoxAt.ext hb0_0 e1_7
 have := Ext.size e1_7
 replace eB := Ext.trans eB e1_7
 have xrw1_7_0 := Ext.refl h1_7
 have hlrw1_7_0 := RdS.le hrw1_7_0
 try simp (disch := decide) only [outv_some, outv_none, put_puts]
 refine plK_pres (Ext.pres e1_7) ?_
 try simp -implicitDefEqProofs (disch := first | decide | assumption | omega) only [go_sem, RdS.len hdX sl22, RdS.idx hdX sl22, R1.intB hdX (Ext.pres eB), RdS.cells hdX, RdS.len hmX sl23, RdS.idx hmX sl23, RdS.cellB hmX (Ext.pres eB), RdS.cells hmX, BoxAt.cell hb0_0, RdS.len hrw1_7_0 sl36, RdS.idx hrw1_7_0 sl36, RdS.cellB hrw1_7_0 (Ext.pres xrw1_7_0), RdS.cells hrw1_7_0, wrap_id]
 try simp -implicitDefEqProofs (disch := first | decide | assumption | omega) only [go_sem, RdS.len hdX sl22, RdS.idx hdX sl22, R1.intB hdX (Ext.pres eB), RdS.cells hdX, RdS.len hmX sl23, RdS.idx hmX sl23, RdS.cellB hmX (Ext.pres eB), RdS.cells hmX, BoxAt.cell hb0_0, RdS.len hrw1_7_0 sl36, RdS.idx hrw1_7_0 sl36, RdS.cellB hrw1_7_0 (Ext.pres xrw1_7_0), RdS.cells hrw1_7_0, wrap_id]
 refine CallA.mono (sKernel_ok _ X.p (dimP X n) (mapP X n) _ (RdS.pres hrw1_7_0 (Ext.pres xrw1_7_0)) hP hkerT (by omega) (by omega) hkern) ?_
 intro vw1_8_0 h1_8
 rintro ⟨zvw1_8_0, fw1_8_0, rfl, how1_8_0, hfw1_8_0, e1_8⟩
 replace hb0_0 := BoxAt.ext hb0_0 e1_8
 have := Ext.size e1_8
 replace eB := Ext.trans eB e1_8
 replace xrw1_7_0 := Ext.trans xrw1_7_0 e1_8
 have hlhow1_8_0 := OS.lt how1_8_0
 try simp (disch := decide) only [outv_some, outv_none, put_puts]
 refine plK_pres (Ext.pres e1_8) ?_
 try simp -implicitDefEqProofs (disch := first | decide | assumption | omega) only [go_sem, RdS.len hdX sl22, RdS.idx hdX sl22, R1.intB hdX (Ext.pres eB), RdS.cells hdX, RdS.len hmX sl23, RdS.idx hmX sl23, RdS.cellB hmX (Ext.pres eB), RdS.cells hmX, RdS.len (OS.rd how1_8_0) sl36, RdS.idx (OS.rd how1_8_0) sl36, RdS.cellN (OS.rd how1_8_0), RdS.cells (OS.rd how1_8_0), BoxAt.cell hb0_0, RdS.len hrw1_7_0 sl36, RdS.idx hrw1_7_0 sl36, RdS.cellB hrw1_7_0 (Ext.pres xrw1_7_0), RdS.cells hrw1_7_0, wrap_id]
 refine hK _ _ ?_
 clear hK K
 refine den_ret ?_
 simp (disch := decide) only [resP_1, puts_same, puts_ne]
 exact ⟨_, _, rfl, how1_8_0, hfw1_8_0.mono (by omega), eB⟩

set_option maxRecDepth 100000 in
theorem sBnd_ok (vX : Value) (X : Cx) (n : Int) (h : Heap) (rX : RC h vX X) (hC : IsC X) (hn : 0 ≤ n ∧ n ≤ 1000) : CallA Try.prog 69 #[vX, .int .i64 n] h fun v' h' => ∃ w0 f0, v' = w0 ∧ O2 h' w0 (bndP X n) f0 ∧ Fresh h.size f0 ∧ Ext h h' := by
 obtain ⟨vdX, vmX, rfl, hdX, hmX⟩ := rX
 have hledX := RdS.le hdX
 have hlemX := RdS.le hmX
 have hP := hC.p
 have hmt := mapP_tbl hC (n + 1)
 have hredT := hmt.2
 have hkl := mapP_len hC (n + 1)
 have hkw : (if 1 ≤ n + 1 then (dimP X (n + 1 - 1)).toNat else 0) ≤ 8 := mapW_le hC (n + 1)
 refine callA_intro TTok (args := [_, _]) Try.func69 (by kernel_rfl) rfl 12 rfl (by simp) [.tmp 4] rfl ?_
 simp only [idxs, Nat.reduceAdd]
 refine den_seq ?_
 refine den_region TTok ?_
 intro K hK
 simp -implicitDefEqProofs (disch := first | decide | assumption | omega) only [go_sem, RdS.len hdX sl22, RdS.idx hdX sl22, R1.intB hdX (HPres.refl _), RdS.cells hdX, RdS.len hmX sl23, RdS.idx hmX sl23, RdS.cellB hmX (HPres.refl _), RdS.cells hmX, wrap_id]
 refine op_box (cs := #[.int .i64 (X.p), vdX, vmX]) rfl ?_
 intro h0_0 e0_0 hb0_0 z0_0
 have := Ext.size e0_0
 have eB := e0_0
 have hfhb0_0 : Fresh h.size [h.size] := Fresh.one _
 have hlhb0_0 := one_lt (show h.size < h0_0.size by omega)
 try simp -implicitDefEqProofs (disch := first | decide | assumption | omega) only [go_sem, RdS.len hdX sl22, RdS.idx hdX sl22, R1.intB hdX (Ext.pres eB), RdS.cells hdX, RdS.len hmX sl23, RdS.idx hmX sl23, RdS.cellB hmX (Ext.pres eB), RdS.cells hmX, BoxAt.cell hb0_0, wrap_id]
 refine hK _ _ ?_
 clear hK K
 refine den_seq ?_
 refine den_draw TTok mixed [] [(0, true), (1, true), (2, true), (3, true), (4, true), (5, false), (6, false), (7, true)] (by kernel_rfl) ?_
 intro K hK
 simp -implicitDefEqProofs (disch := first | decide | assumption | omega) only [go_sem, fa30_0, ld2, ld30, RdS.len hdX sl22, RdS.idx hdX sl22, R1.intB hdX (Ext.pres eB), RdS.cells hdX, RdS.len hmX sl23, RdS.idx hmX sl23, RdS.cellB hmX (Ext.pres eB), RdS.cells hmX, BoxAt.cell hb0_0, wrap_id]
 try simp -implicitDefEqProofs (disch := first | decide | assumption | omega) only [go_sem, RdS.len hdX sl22, RdS.idx hdX sl22, R1.intB hdX (Ext.pres eB), RdS.cells hdX, RdS.len hmX sl23, RdS.idx hmX sl23, RdS.cellB hmX (Ext.pres eB), RdS.cells hmX, BoxAt.cell hb0_0, wrap_id]
 refine CallA.mono (sMap_ok _ X (n + (1 : Int)) _ ⟨_, _, rfl, (RdS.pres hdX (Ext.pres eB)), (RdS.pres hmX (Ext.pres eB))⟩ hC) ?_
 intro vw1_5_0 h1_5
 rintro ⟨zvw1_5_0, rfl, hrw1_5_0, e1_5⟩
 replace hb0_0 := BoxAt.ext hb0_0 e1_5
 have := Ext.size e1_5
 replace eB := Ext.trans eB e1_5
 have xrw1_5_0 := Ext.refl h1_5
 have hlrw1_5_0 := RdS.le hrw1_5_0
 try simp (disch := decide) only [outv_some, outv_none, put_puts]
 refine plK_pres (Ext.pres e1_5) ?_
 try simp -implicitDefEqProofs (disch := first | decide | assumption | omega) only [go_sem, RdS.len hdX sl22, RdS.idx hdX sl22, R1.intB hdX (Ext.pres eB), RdS.cells hdX, RdS.len hmX sl23, RdS.idx hmX sl23, RdS.cellB hmX (Ext.pres eB), RdS.cells hmX, BoxAt.cell hb0_0, RdS.len hrw1_5_0 sl36, RdS.idx hrw1_5_0 sl36, RdS.cellB hrw1_5_0 (Ext.pres xrw1_5_0), RdS.cells hrw1_5_0, wrap_id]
 try simp -implicitDefEqProofs (disch := first | decide | assumption | omega) only [go_sem, RdS.len hdX sl22, RdS.idx hdX sl22, R1.intB hdX (Ext.pres eB), RdS.cells hdX, RdS.len hmX sl23, RdS.idx hmX sl23, RdS.cellB hmX (Ext.pres eB), RdS.cells hmX, BoxAt.cell hb0_0, RdS.len hrw1_5_0 sl36, RdS.idx hrw1_5_0 sl36, RdS.cellB hrw1_5_0 (Ext.pres xrw1_5_0), RdS.cells hrw1_5_0, wrap_id]
 refine CallA.mono (sEch_ok _ X.p (mapP X (n + (1 : Int))) _ (RdS.pres hrw1_5_0 (Ext.pres xrw1_5_0)) hP hredT (by omega) (by omega)) ?_
 intro vw1_6_0 h1_6
 rintro ⟨zvw1_6_0, fw1_6_0, rfl, how1_6_0, hfw1_6_0, e1_6⟩
 replace hb0_0 := BoxAt.ext hb0_0 e1_6
 have := Ext.size e1_6
 replace eB := Ext.trans eB e1_6
 replace xrw1_5_0 := Ext.trans xrw1_5_0 e1_6
 have hlhow1_6_0 := OS.lt how1_6_0
 try simp (disch := decide) only [outv_some, outv_none, put_puts]
 refine plK_pres (Ext.pres e1_6) ?_
 try simp -implicitDefEqProofs (disch := first | decide | assumption | omega) only [go_sem, RdS.len hdX sl22, RdS.idx hdX sl22, R1.intB hdX (Ext.pres eB), RdS.cells hdX, RdS.len hmX sl23, RdS.idx hmX sl23, RdS.cellB hmX (Ext.pres eB), RdS.cells hmX, RdS.len (OS.rd how1_6_0) sl36, RdS.idx (OS.rd how1_6_0) sl36, RdS.cellN (OS.rd how1_6_0), RdS.cells (OS.rd how1_6_0), BoxAt.cell hb0_0, RdS.len hrw1_5_0 sl36, RdS.idx hrw1_5_0 sl36, RdS.cellB hrw1_5_0 (Ext.pres xrw1_5_0), RdS.cells hrw1_5_0, wrap_id]
 refine hK _ _ ?_
 clear hK K
 refine den_ret ?_
 simp (disch := decide) only [resP_1, puts_same, puts_ne]
 exact ⟨_, _, rfl, how1_6_0, hfw1_6_0.mono (by omega), eB⟩
end Go.Proofs.Ytbplnadngahgaaa

namespace Go.Proofs.Ytbplnadngahgaaa
open Go
theorem cyc_len {X : Cx} (hC : IsC X) (n : Int) : (cycP X n).length ≤ 8 := by
 obtain ⟨l, r⟩ := cyc_rr hC n
 have := r.le_w
 have := dimP_bnd hC n
 omega
theorem bnd_len {X : Cx} (hC : IsC X) {n : Int} (h : 0 ≤ n) : (bndP X n).length ≤ 8 := by
 obtain ⟨l, r⟩ := bnd_rr hC h
 have := r.le_w
 have := dimP_bnd hC n
 omega
end Go.Proofs.Ytbplnadngahgaaa

namespace Go.Proofs.Ytbplnadngahgaaa
open Go
structure PvOk (X Y : Cx) (i : Int) (u : List Int) (j : Int) (v : List Int) : Prop where
 cX : IsC X
 cY : IsC Y
 p : 0 < X.p ∧ X.p ≤ 7
 ci : 0 ≤ i ∧ i ≤ (X.dims.length : Int) - 1
 cj : 0 ≤ j ∧ j ≤ (Y.dims.length : Int) - 1
 lX : X.dims.length ≤ 6
 lY : Y.dims.length ≤ 6
 cu : (u.length : Int) = dimP X i ∧ Bnd X.p u
 cv : (v.length : Int) = dimP Y j ∧ Bnd X.p v
end Go.Proofs.Ytbplnadngahgaaa
