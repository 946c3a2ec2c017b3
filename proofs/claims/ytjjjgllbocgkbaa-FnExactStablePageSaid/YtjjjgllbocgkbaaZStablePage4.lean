/-
  What the statement FnExactStablePage uses of the walks, part 4.
  Conditions: each theorem's own.
-/
import Derived.Test.YtjjjgllbocgkbaaG16
import Derived.Test.YtjjjgllbocgkbaaG17
import Derived.Test.YtjjjgllbocgkbaaG14
import Derived.Test.YtjjjgllbocgkbaaG13
import Derived.Test.YtjjjgllbocgkbaaG15
import Derived.Test.YtjjjgllbocgkbaaG18
import Derived.Test.YtjjjgllbocgkbaaG19
import Derived.Test.YtjjjgllbocgkbaaZStablePage1
import Derived.Test.YtjjjgllbocgkbaaZStablePage2
import Derived.Test.YtjjjgllbocgkbaaZStablePage3
set_option linter.unusedVariables false
set_option linter.unusedSimpArgs false
namespace Go.Proofs.Ytjjjgllbocgkbaa
open Go
set_option maxRecDepth 100000 in
theorem iCo_ok (vv vR vB : Value) (p : Int) (v : List Int) (R : List (List Int)) (B : List (List Int)) (h : Heap) (rv : R1 h vv v) (rR : R2 h vR R) (rB : R2 h vB B) {w_ : Nat} {lr lb : Nat → Nat} (hP : isP p = true) (hR : Rr p w_ R lr) (hB : Rr p w_ B lb) (hv : v.length = w_ ∧ w_ ≤ 1000) (hb : Bnd p v) : CallA Try.prog 168 #[.int .i64 p, vv, vR, vB] h fun v' h' => ∃ w0 f0, v' = w0 ∧ O1 h' w0 (tlP R (restP p B v)) f0 ∧ Fresh h.size f0 ∧ Ext h h' := by
 have hlev := RdS.le rv
 have hleR := RdS.le rR
 have hleB := RdS.le rB
 have hp := isP_two hP
 have hrr := hB
 have hrv := hv
 have hrb := hb
 have hRl := hR.le_w
 have hrl := restP_len p B v
 refine callA_intro TTok (args := [_, _, _, _]) Try.func168 (by kernel_rfl) rfl 33 rfl (by simp) [.tmp 8] rfl ?_
 simp only [idxs, Nat.reduceAdd]
 refine den_seq ?_
 refine den_region TTok ?_
 intro K hK
 simp -implicitDefEqProofs (disch := first | decide | assumption | omega) only [go_sem, wrap_id]
 refine hK _ _ ?_
 clear hK K
 refine den_seq ?_
 refine den_region TTok ?_
 intro K hK
 simp -implicitDefEqProofs (disch := first | decide | assumption | omega) only [go_sem, RdS.len rv sl22, RdS.idx rv sl22, R1.intB rv (HPres.refl _), RdS.cells rv, RdS.len rB sl26, RdS.idx rB sl26, RdS.cellB rB (HPres.refl _), RdS.cells rB, wrap_id]
 try simp -implicitDefEqProofs (disch := first | decide | assumption | omega) only [go_sem, wrap_id]
 refine CallA.mono (iModulo_ok _ _ p v B _ rv rB hP hrr hrv hrb) ?_
 intro vw1_3_0 h1_3
 rintro ⟨zvw1_3_0, fw1_3_0, rfl, how1_3_0, hfw1_3_0, e1_3⟩
 have := Ext.size e1_3
 have eB := e1_3
 have hlhow1_3_0 := OS.lt how1_3_0
 try simp -implicitDefEqProofs (disch := first | decide | assumption | omega) only [go_sem, RdS.len (OS.rd how1_3_0) sl22, RdS.idx (OS.rd how1_3_0) sl22, R1.intN (OS.rd how1_3_0), RdS.cells (OS.rd how1_3_0), wrap_id]
 refine hK _ _ ?_
 clear hK K
 refine den_seq ?_
 refine den_region TTok ?_
 intro K hK
 simp -implicitDefEqProofs (disch := first | decide | assumption | omega) only [go_sem, wrap_id]
 refine op_bs0 sz22 OI ?_
 intro v2_0 h2_0 ho2_0 e2_0
 replace how1_3_0 := OS.ext how1_3_0 e2_0
 have := Ext.size e2_0
 replace eB := Ext.trans eB e2_0
 have hfho2_0 : Fresh h1_3.size [h1_3.size] := Fresh.one _
 have hlho2_0 := OS.lt ho2_0
 try simp -implicitDefEqProofs (disch := first | decide | assumption | omega) only [go_sem, RdS.len (OS.rd ho2_0) sl22, RdS.idx (OS.rd ho2_0) sl22, R1.intN (OS.rd ho2_0), RdS.cells (OS.rd ho2_0), wrap_id]
 refine hK _ _ ?_
 clear hK K
 refine den_seq ?_
 refine den_seq ?_
 refine den_region TTok ?_
 intro K hK
 simp -implicitDefEqProofs (disch := first | decide | assumption | omega) only [go_sem, RdS.len rR sl26, RdS.idx rR sl26, RdS.cellB rR (Ext.pres eB), RdS.cells rR, wrap_id]
 try simp -implicitDefEqProofs (disch := first | decide | assumption | omega) only [go_sem, wrap_id]
 refine CallA.mono (iLeads_ok _ R _ (RdS.pres rR (Ext.pres eB)) (by omega)) ?_
 intro vw3_1_0 h3_1
 rintro ⟨zvw3_1_0, fw3_1_0, rfl, how3_1_0, hfw3_1_0, e3_1⟩
 replace how1_3_0 := OS.ext how1_3_0 e3_1
 replace ho2_0 := OS.ext ho2_0 e3_1
 have := Ext.size e3_1
 replace eB := Ext.trans eB e3_1
 have hlhow3_1_0 := OS.lt how3_1_0
 try simp -implicitDefEqProofs (disch := first | decide | assumption | omega) only [go_sem, RdS.len (OS.rd how3_1_0) sl175, RdS.idx (OS.rd how3_1_0) sl175, R1.intN (OS.rd how3_1_0), RdS.cells (OS.rd how3_1_0), wrap_id]
 refine hK _ _ ?_
 clear hK K
 refine den_block ?_
 refine den_sel [9, 20, 1, 18, 19] ?_
 intro env_1
 simp only [go_sem]
 refine den_loopS (σ := Nat × Value × List Nat) (fun st_ => [(9, st_.2.1), (20, .int .i64 (st_.1 : Int))]) (fun st_ H => (st_.1 ≤ (R.map leadP).length) ∧ (O1 H st_.2.1 ((R.take st_.1).map (fun row => (restP p B v).getD (leadP row).toNat 0)) st_.2.2) ∧ (Fresh (h1_3.size) st_.2.2) ∧ (Sub [h1_3.size] h3_1.size st_.2.2) ∧ (Chg [h1_3.size] h3_1 H)) (fun st_ => (R.map leadP).length - st_.1) (0, v2_0, [h1_3.size]) ?_ ?_
 ·exact ⟨by first | (simp; done) | (dsimp only; omega) | (simp; omega), by simpa using ho2_0, hfho2_0, Sub.refl, Chg.refl _ _⟩
 ·rintro ⟨k, vhO, fphO⟩ h4 ee3 ⟨hi0, hO, hfhO, sbhO, cL2⟩
  dsimp only at hi0 hO hfhO sbhO cL2
  replace how1_3_0 := OS.chg how1_3_0 cL2 (apart_lt hlhow1_3_0 hfho2_0 (by omega))
  replace how3_1_0 := OS.chg how3_1_0 cL2 (apart_gt hfw3_1_0 hlho2_0 (by omega))
  have := cL2.size
  replace eB := Ext.then eB cL2 (ge_of hfho2_0 (by omega))
  have ap5 : Apart fw3_1_0 fphO := Apart.sub_ hlhow3_1_0 (by omega) (apart_gt hfw3_1_0 hlho2_0 (by omega)) sbhO
  have hlhO := OS.lt hO
  simp only [List.cons_append, List.nil_append]
  have hml0 : (R.map leadP).length = R.length := by simp
  refine den_seq ?_
  refine den_region TTok ?_
  intro K hK
  simp -implicitDefEqProofs (disch := first | decide | assumption | omega) only [go_sem, wrap_id]
  refine hK _ _ ?_
  clear hK K
  refine den_seq ?_
  refine den_cond rfl (fun c0 => ?_) (fun c0 => ?_)
  ·try simp only [decide_eq_true_eq, decide_eq_false_iff_not, beq_iff_eq, beq_eq_false_iff_ne, bne_iff_ne, ne_eq, Bool.not_eq_true', Bool.not_eq_false', Bool.and_eq_true, Bool.or_eq_true, bne_eq_false_iff_eq] at c0
   refine den_skip ?_
   refine den_seq ?_
   refine den_block ?_
   refine den_seq ?_
   have hml_ : (R.map leadP).length = R.length := by simp
   have hge := getD_mapL (R := R) (k := k) (by omega)
   have hld := hR.lead (i := k) (by omega)
   have hlw := hR.lt k (by omega)
   refine den_region TTok ?_
   intro K hK
   simp -implicitDefEqProofs (disch := first | decide | assumption | omega) only [go_sem, ld3, RdS.len (OS.rd how3_1_0) sl175, RdS.idx (OS.rd how3_1_0) sl175, R1.intN (OS.rd how3_1_0), RdS.cells (OS.rd how3_1_0), wrap_id]
   refine hK _ _ ?_
   clear hK K
   have hmt : ((R.take k).map fun row => (restP p B v).getD (leadP row).toNat 0).length ≤ 1000 := by rw [List.length_map, List.length_take]; omega
   refine den_region TTok ?_
   intro K hK
   simp -implicitDefEqProofs (disch := first | decide | assumption | omega) only [go_sem, ld2, RdS.len (OS.rd how1_3_0) sl22, RdS.idx (OS.rd how1_3_0) sl22, R1.intN (OS.rd how1_3_0), RdS.cells (OS.rd how1_3_0), RdS.len (OS.rd hO) sl22, RdS.idx (OS.rd hO) sl22, R1.intN (OS.rd hO), RdS.cells (OS.rd hO), wrap_id]
   refine op_bs1 sz22 rfl rfl ?_
   try simp -implicitDefEqProofs (disch := first | decide | assumption | omega) only [go_sem, wrap_id]
   refine op_append1 sz22 hO hfhO.nodup ⟨rfl, rfl⟩ List.nodup_nil (Apart.nil _) (by first | omega | (simp; omega)) rfl rfl ?_
   intro v6_6 h6_6 fp6_6 ho6_6 hn6_6 hs6_6 c6_6
   have hsz6_6 := c6_6.size
   have hfho6_6 : Fresh h1_3.size fp6_6 := Fresh.appd hfhO (Fresh.nil h4.size) (by omega) (by omega) hn6_6 hs6_6
   have sb6 : Sub [h1_3.size] h3_1.size fp6_6 := Sub.grow sbhO Sub.nil (by omega) hs6_6
   replace how1_3_0 := OS.chg how1_3_0 c6_6 (apart_lt hlhow1_3_0 hfhO (by omega))
   replace how3_1_0 := OS.chg how3_1_0 c6_6 ap5
   have := c6_6.size
   replace eB := Ext.then eB c6_6 (ge_of hfhO (by omega))
   replace cL2 := Chg.step cL2 c6_6 sbhO
   have ap7 : Apart fw3_1_0 fp6_6 := Apart.grow hlhow3_1_0 (by omega) ap5 (Apart.nil _) hs6_6
   have hlho6_6 := OS.lt ho6_6
   try simp -implicitDefEqProofs (disch := first | decide | assumption | omega) only [go_sem, RdS.len (OS.rd ho6_6) sl22, RdS.idx (OS.rd ho6_6) sl22, R1.intN (OS.rd ho6_6), RdS.cells (OS.rd ho6_6), wrap_id]
   refine hK _ _ ?_
   clear hK K
   refine den_blk ?_
   refine den_region TTok ?_
   intro K hK
   simp -implicitDefEqProofs (disch := first | decide | assumption | omega) only [go_sem, wrap_id]
   refine hK _ _ ?_
   clear hK K
   refine den_stop ?_
   rw [hge, map_takeLc (f := fun row => (restP p B v).getD (leadP row).toNat 0) (d := default) (by omega)] at ho6_6
   exact ⟨(k + 1, v6_6, fp6_6), by simp [HasL, puts_at], ⟨by first | omega | (dsimp only; omega), ho6_6, hfho6_6, sb6, cL2⟩, by first | omega | (dsimp only; omega)⟩
  ·try simp only [decide_eq_true_eq, decide_eq_false_iff_not, beq_iff_eq, beq_eq_false_iff_ne, bne_iff_ne, ne_eq, Bool.not_eq_true', Bool.not_eq_false', Bool.and_eq_true, Bool.or_eq_true, bne_eq_false_iff_eq] at c0
   refine den_exit ?_
   refine denX_code ?_
   refine denX_stop ?_
   refine denX_hit ?_
   refine den_seq ?_
   refine den_region TTok ?_
   intro K hK
   simp -implicitDefEqProofs (disch := first | decide | assumption | omega) only [go_sem, RdS.len (OS.rd hO) sl22, RdS.idx (OS.rd hO) sl22, R1.intN (OS.rd hO), RdS.cells (OS.rd hO), wrap_id]
   refine hK _ _ ?_
   clear hK K
   refine den_ret ?_
   simp (disch := decide) only [resP_1, puts_same, puts_ne]
   have hml0 : (R.map leadP).length = R.length := by simp
   rw [map_takeEc (by omega)] at hO
   exact ⟨_, _, rfl, hO, hfhO.mono (by omega), eB⟩

set_option maxRecDepth 100000 in
theorem sTold_ok (vR vv : Value) (R : List (List Int)) (v : List Int) (h : Heap) (rR : R2 h vR R) (rv : R1 h vv v) {p : Int} {w_ : Nat} {lr : Nat → Nat} (hR : Rr p w_ R lr) (hv : v.length = w_ ∧ w_ ≤ 1000) : CallA Try.prog 162 #[vR, vv] h fun v' h' => ∃ w0 f0, v' = w0 ∧ O1 h' w0 (tlP R v) f0 ∧ Fresh h.size f0 ∧ Ext h h' := by
 have hleR := RdS.le rR
 have hlev := RdS.le rv
 have hRl := hR.le_w
 refine callA_intro TTok (args := [_, _]) Try.func162 (by kernel_rfl) rfl 26 rfl (by simp) [.tmp 4] rfl ?_
 simp only [idxs, Nat.reduceAdd]
 refine den_seq ?_
 refine den_region TTok ?_
 intro K hK
 simp -implicitDefEqProofs (disch := first | decide | assumption | omega) only [go_sem, wrap_id]
 refine hK _ _ ?_
 clear hK K
 refine den_seq ?_
 refine den_region TTok ?_
 intro K hK
 simp -implicitDefEqProofs (disch := first | decide | assumption | omega) only [go_sem, wrap_id]
 refine op_bs0 sz22 OI ?_
 intro v1_0 h1_0 ho1_0 e1_0
 have := Ext.size e1_0
 have eB := e1_0
 have hfho1_0 : Fresh h.size [h.size] := Fresh.one _
 have hlho1_0 := OS.lt ho1_0
 try simp -implicitDefEqProofs (disch := first | decide | assumption | omega) only [go_sem, RdS.len (OS.rd ho1_0) sl22, RdS.idx (OS.rd ho1_0) sl22, R1.intN (OS.rd ho1_0), RdS.cells (OS.rd ho1_0), wrap_id]
 refine hK _ _ ?_
 clear hK K
 refine den_seq ?_
 refine den_seq ?_
 refine den_region TTok ?_
 intro K hK
 simp -implicitDefEqProofs (disch := first | decide | assumption | omega) only [go_sem, wrap_id]
 refine hK _ _ ?_
 clear hK K
 refine den_block ?_
 refine den_sel [5, 6, 0, 1] ?_
 intro env_1
 simp only [go_sem]
 refine den_loopS (σ := Nat × Value × List Nat) (fun st_ => [(5, st_.2.1), (6, .int .i64 (st_.1 : Int))]) (fun st_ H => (st_.1 ≤ R.length) ∧ (O1 H st_.2.1 ((R.take st_.1).map (fun row => v.getD (leadP row).toNat 0)) st_.2.2) ∧ (Fresh (h.size) st_.2.2) ∧ (Sub [h.size] h1_0.size st_.2.2) ∧ (Chg [h.size] h1_0 H)) (fun st_ => R.length - st_.1) (0, v1_0, [h.size]) ?_ ?_
 ·exact ⟨by first | (simp; done) | (dsimp only; omega) | (simp; omega), by simpa using ho1_0, hfho1_0, Sub.refl, Chg.refl _ _⟩
 ·rintro ⟨k, vhO, fphO⟩ h4 ee3 ⟨hi0, hO, hfhO, sbhO, cL2⟩
  dsimp only at hi0 hO hfhO sbhO cL2
  have := cL2.size
  replace eB := Ext.then eB cL2 (ge_of hfho1_0 (by omega))
  have hlhO := OS.lt hO
  simp only [List.cons_append, List.nil_append]
  refine den_seq ?_
  refine den_seq ?_
  refine den_region TTok ?_
  intro K hK
  simp -implicitDefEqProofs (disch := first | decide | assumption | omega) only [go_sem, RdS.len rR sl26, RdS.idx rR sl26, RdS.cellB rR (Ext.pres eB), RdS.cells rR, wrap_id]
  refine hK _ _ ?_
  clear hK K
  refine den_cond rfl (fun c0 => ?_) (fun c0 => ?_)
  ·try simp only [decide_eq_true_eq, decide_eq_false_iff_not, beq_iff_eq, beq_eq_false_iff_ne, bne_iff_ne, ne_eq, Bool.not_eq_true', Bool.not_eq_false', Bool.and_eq_true, Bool.or_eq_true, bne_eq_false_iff_eq] at c0
   refine den_skip ?_
   refine den_seq ?_
   refine den_block ?_
   have hld := hR.lead (i := k) (by omega)
   have hlw := hR.lt k (by omega)
   have hmt : ((R.take k).map fun row => v.getD (leadP row).toNat 0).length ≤ 1000 := by rw [List.length_map, List.length_take]; omega
   refine den_region TTok ?_
   intro K hK
   have hr5 := RdS.rowN rR k (by omega)
   have hlhr5 := RdS.le hr5
   simp -implicitDefEqProofs (disch := first | decide | assumption | omega) only [go_sem, ld22, RdS.len rR sl26, RdS.idx rR sl26, RdS.cellB rR (Ext.pres eB), RdS.cells rR, RdS.len rv sl22, RdS.idx rv sl22, R1.intB rv (Ext.pres eB), RdS.cells rv, RdS.len hr5 sl22, RdS.idx hr5 sl22, R1.intB hr5 (Ext.pres eB), RdS.cells hr5, RdS.len (OS.rd hO) sl22, RdS.idx (OS.rd hO) sl22, R1.intN (OS.rd hO), RdS.cells (OS.rd hO), wrap_id]
   try simp -implicitDefEqProofs (disch := first | decide | assumption | omega) only [go_sem, wrap_id]
   refine CallA.pure (sLead_ok _ ((R).getD k default) _ (RdS.pres hr5 (Ext.pres eB))) ?_
   try simp -implicitDefEqProofs (disch := first | decide | assumption | omega) only [go_sem, ld2, RdS.len rv sl22, RdS.idx rv sl22, R1.intB rv (Ext.pres eB), RdS.cells rv, wrap_id]
   refine op_bs1 sz22 rfl rfl ?_
   try simp -implicitDefEqProofs (disch := first | decide | assumption | omega) only [go_sem, wrap_id]
   refine op_append1 sz22 hO hfhO.nodup ⟨rfl, rfl⟩ List.nodup_nil (Apart.nil _) (by first | omega | (simp; omega)) rfl rfl ?_
   intro v5_10 h5_10 fp5_10 ho5_10 hn5_10 hs5_10 c5_10
   have hsz5_10 := c5_10.size
   have hfho5_10 : Fresh h.size fp5_10 := Fresh.appd hfhO (Fresh.nil h4.size) (by omega) (by omega) hn5_10 hs5_10
   have sb6 : Sub [h.size] h1_0.size fp5_10 := Sub.grow sbhO Sub.nil (by omega) hs5_10
   have := c5_10.size
   replace eB := Ext.then eB c5_10 (ge_of hfhO (by omega))
   replace cL2 := Chg.step cL2 c5_10 sbhO
   have hlho5_10 := OS.lt ho5_10
   try simp -implicitDefEqProofs (disch := first | decide | assumption | omega) only [go_sem, RdS.len (OS.rd ho5_10) sl22, RdS.idx (OS.rd ho5_10) sl22, R1.intN (OS.rd ho5_10), RdS.cells (OS.rd ho5_10), wrap_id]
   refine hK _ _ ?_
   clear hK K
   refine den_blk ?_
   refine den_region TTok ?_
   intro K hK
   simp -implicitDefEqProofs (disch := first | decide | assumption | omega) only [go_sem, wrap_id]
   refine hK _ _ ?_
   clear hK K
   refine den_stop ?_
   rw [map_takeLc (f := fun row => v.getD (leadP row).toNat 0) (d := default) (by omega)] at ho5_10
   exact ⟨(k + 1, v5_10, fp5_10), by simp [HasL, puts_at], ⟨by first | omega | (dsimp only; omega), ho5_10, hfho5_10, sb6, cL2⟩, by first | omega | (dsimp only; omega)⟩
  ·try simp only [decide_eq_true_eq, decide_eq_false_iff_not, beq_iff_eq, beq_eq_false_iff_ne, bne_iff_ne, ne_eq, Bool.not_eq_true', Bool.not_eq_false', Bool.and_eq_true, Bool.or_eq_true, bne_eq_false_iff_eq] at c0
   refine den_exit ?_
   refine denX_code ?_
   refine denX_stop ?_
   refine denX_hit ?_
   refine den_seq ?_
   refine den_region TTok ?_
   intro K hK
   simp -implicitDefEqProofs (disch := first | decide | assumption | omega) only [go_sem, RdS.len (OS.rd hO) sl22, RdS.idx (OS.rd hO) sl22, R1.intN (OS.rd hO), RdS.cells (OS.rd hO), wrap_id]
   refine hK _ _ ?_
   clear hK K
   refine den_ret ?_
   simp (disch := decide) only [resP_1, puts_same, puts_ne]
   rw [map_takeEc (by omega)] at hO
   exact ⟨_, _, rfl, hO, hfhO.mono (by omega), eB⟩

set_option maxRecDepth 100000 in
theorem iDf_ok (vX : Value) (X : Cp) (h : Heap) (rX : RP h vX X) (hC : IsCp X) : CallA Try.prog 165 #[vX] h fun v' h' => ∃ w0 f0, v' = w0 ∧ O2 h' w0 (dfL X) f0 ∧ Fresh h.size f0 ∧ Ext h h' := by
 obtain ⟨viX, vjX, vkX, rfl, hiX, hjX, hkX⟩ := rX
 have hleiX := RdS.le hiX
 have hlejX := RdS.le hjX
 have hlekX := RdS.le hkX
 have hd := hC.d
 have he := hC.e
 have hll := hC.lens
 have hpb := isP_bnd hC.p
 refine callA_intro TTok (args := [_]) Try.func165 (by kernel_rfl) rfl 27 rfl (by simp) [.tmp 2] rfl ?_
 simp only [idxs, Nat.reduceAdd]
 refine den_seq ?_
 refine den_region TTok ?_
 intro K hK
 simp -implicitDefEqProofs (disch := first | decide | assumption | omega) only [go_sem, wrap_id]
 refine op_box (cs := #[.int .i64 (X.p), .int .i64 (X.d), .int .i64 (X.e), viX, vjX, vkX]) rfl ?_
 intro h0_0 e0_0 hb0_0 z0_0
 have := Ext.size e0_0
 have eB := e0_0
 have hfhb0_0 : Fresh h.size [h.size] := Fresh.one _
 have hlhb0_0 := one_lt (show h.size < h0_0.size by omega)
 try simp -implicitDefEqProofs (disch := first | decide | assumption | omega) only [go_sem, wrap_id]
 refine hK _ _ ?_
 clear hK K
 refine den_seq ?_
 refine den_region TTok ?_
 intro K hK
 simp -implicitDefEqProofs (disch := first | decide | assumption | omega) only [go_sem, wrap_id]
 refine op_bs0 sz26 O1 ?_
 intro v1_0 h1_0 ho1_0 e1_0
 replace hb0_0 := BoxAt.ext hb0_0 e1_0
 have := Ext.size e1_0
 replace eB := Ext.trans eB e1_0
 have hfho1_0 : Fresh h0_0.size [h0_0.size] := Fresh.one _
 have hlho1_0 := OS.lt ho1_0
 try simp -implicitDefEqProofs (disch := first | decide | assumption | omega) only [go_sem, RdS.len (OS.rd ho1_0) sl26, RdS.idx (OS.rd ho1_0) sl26, RdS.cellN (OS.rd ho1_0), RdS.cells (OS.rd ho1_0), wrap_id]
 refine hK _ _ ?_
 clear hK K
 refine den_seq ?_
 refine den_seq ?_
 refine den_region TTok ?_
 intro K hK
 simp -implicitDefEqProofs (disch := first | decide | assumption | omega) only [go_sem, fa53_5, ld26, RdS.len hiX sl26, RdS.idx hiX sl26, RdS.cellB hiX (Ext.pres eB), RdS.cells hiX, RdS.len hjX sl26, RdS.idx hjX sl26, RdS.cellB hjX (Ext.pres eB), RdS.cells hjX, RdS.len hkX sl26, RdS.idx hkX sl26, RdS.cellB hkX (Ext.pres eB), RdS.cells hkX, BoxAt.cell hb0_0, wrap_id]
 refine hK _ _ ?_
 clear hK K
 refine den_block ?_
 refine den_sel [3, 10, 1, 8, 9] ?_
 intro env_1
 simp only [go_sem]
 refine den_loopS (σ := Nat × Value × List Nat) (fun st_ => [(3, st_.2.1), (10, .int .i64 (st_.1 : Int))]) (fun st_ H => (st_.1 ≤ X.k.length) ∧ (O2 H st_.2.1 ((X.k.take st_.1).map (fun row => mvP X.p X.j X.e.toNat row)) st_.2.2) ∧ (Fresh (h0_0.size) st_.2.2) ∧ (Sub [h0_0.size] h1_0.size st_.2.2) ∧ (Chg [h0_0.size] h1_0 H)) (fun st_ => X.k.length - st_.1) (0, v1_0, [h0_0.size]) ?_ ?_
 ·exact ⟨by first | (simp; done) | (dsimp only; omega) | (simp; omega), by simpa using ho1_0, hfho1_0, Sub.refl, Chg.refl _ _⟩
 ·rintro ⟨k, vhO, fphO⟩ h4 ee3 ⟨hi0, hO, hfhO, sbhO, cL2⟩
  dsimp only at hi0 hO hfhO sbhO cL2
  replace hb0_0 := BoxAt.chgA hb0_0 cL2 (apart_lt hlhb0_0 hfho1_0 (by omega))
  have := cL2.size
  replace eB := Ext.then eB cL2 (ge_of hfho1_0 (by omega))
  have hlhO := OS.lt hO
  simp only [List.cons_append, List.nil_append]
  refine den_seq ?_
  refine den_region TTok ?_
  intro K hK
  simp -implicitDefEqProofs (disch := first | decide | assumption | omega) only [go_sem, wrap_id]
  refine hK _ _ ?_
  clear hK K
  refine den_seq ?_
  refine den_cond rfl (fun c0 => ?_) (fun c0 => ?_)
  ·try simp only [decide_eq_true_eq, decide_eq_false_iff_not, beq_iff_eq, beq_eq_false_iff_ne, bne_iff_ne, ne_eq, Bool.not_eq_true', Bool.not_eq_false', Bool.and_eq_true, Bool.or_eq_true, bne_eq_false_iff_eq] at c0
   refine den_skip ?_
   refine den_seq ?_
   refine den_block ?_
   refine den_seq ?_
   refine den_region TTok ?_
   intro K hK
   have hr5 := RdS.rowN hkX k (by omega)
   have hlhr5 := RdS.le hr5
   simp -implicitDefEqProofs (disch := first | decide | assumption | omega) only [go_sem, ld22, RdS.len hkX sl26, RdS.idx hkX sl26, RdS.cellB hkX (Ext.pres eB), RdS.cells hkX, RdS.len hr5 sl22, RdS.idx hr5 sl22, R1.intB hr5 (Ext.pres eB), RdS.cells hr5, wrap_id]
   refine hK _ _ ?_
   clear hK K
   have hrw := hC.kr _ (getD_mem (k := k) (by omega))
   have hbv := hrw.2
   have hbt : Tbl X.p X.e X.j := fun r hr => by have := hC.jr r hr; exact ⟨by omega, this.2⟩
   have hmt : ((X.k.take k).map (fun row => mvP X.p X.j X.e.toNat row)).length ≤ 24 := by rw [List.length_map, List.length_take]; omega
   refine den_region TTok ?_
   intro K hK
   simp -implicitDefEqProofs (disch := first | decide | assumption | omega) only [go_sem, fa53_0, fa53_2, fa53_4, ld26, ld2, RdS.len hiX sl26, RdS.idx hiX sl26, RdS.cellB hiX (Ext.pres eB), RdS.cells hiX, RdS.len hjX sl26, RdS.idx hjX sl26, RdS.cellB hjX (Ext.pres eB), RdS.cells hjX, RdS.len hkX sl26, RdS.idx hkX sl26, RdS.cellB hkX (Ext.pres eB), RdS.cells hkX, RdS.len hr5 sl22, RdS.idx hr5 sl22, R1.intB hr5 (Ext.pres eB), RdS.cells hr5, RdS.len (OS.rd hO) sl26, RdS.idx (OS.rd hO) sl26, RdS.cellN (OS.rd hO), RdS.cells (OS.rd hO), BoxAt.cell hb0_0, wrap_id]
   try simp -implicitDefEqProofs (disch := first | decide | assumption | omega) only [go_sem, wrap_id]
   refine CallA.mono (iApply_ok _ _ _ _ _ _ _ (RdS.pres hr5 (Ext.pres eB)) (RdS.pres hjX (Ext.pres eB)) (by omega) (by omega) (by omega) hbv hbt) ?_
   intro v5_8 h5_8
   rintro ⟨f5_8, ho5_8, hf5_8, e5_8⟩
   replace hO := OS.ext hO e5_8
   replace hb0_0 := BoxAt.ext hb0_0 e5_8
   have := Ext.size e5_8
   replace eB := Ext.trans eB e5_8
   replace cL2 := Chg.stepE cL2 e5_8
   have hlho5_8 := OS.lt ho5_8
   try simp -implicitDefEqProofs (disch := first | decide | assumption | omega) only [go_sem, wrap_id]
   refine op_bs1 sz26 rfl (OS.one ho5_8).2 ?_
   try simp -implicitDefEqProofs (disch := first | decide | assumption | omega) only [go_sem, wrap_id]
   refine op_append1 sz26 hO hfhO.nodup ho5_8 hf5_8.nodup (apart_lt hlhO hf5_8 (by omega)) (by first | omega | (simp; omega)) rfl rfl ?_
   intro v5_10 h5_10 fp5_10 ho5_10 hn5_10 hs5_10 c5_10
   have hsz5_10 := c5_10.size
   have hfho5_10 : Fresh h0_0.size fp5_10 := Fresh.appd hfhO hf5_8 (by omega) (by omega) hn5_10 hs5_10
   have sb6 : Sub [h0_0.size] h1_0.size fp5_10 := Sub.grow sbhO (Sub.fresh hf5_8 (by omega)) (by omega) hs5_10
   replace hb0_0 := BoxAt.chgA hb0_0 c5_10 (apart_lt hlhb0_0 hfhO (by omega))
   have := c5_10.size
   replace eB := Ext.then eB c5_10 (ge_of hfhO (by omega))
   replace cL2 := Chg.step cL2 c5_10 sbhO
   have hlho5_10 := OS.lt ho5_10
   try simp -implicitDefEqProofs (disch := first | decide | assumption | omega) only [go_sem, RdS.len (OS.rd ho5_10) sl26, RdS.idx (OS.rd ho5_10) sl26, RdS.cellN (OS.rd ho5_10), RdS.cells (OS.rd ho5_10), wrap_id]
   refine hK _ _ ?_
   clear hK K
   refine den_blk ?_
   refine den_region TTok ?_
   intro K hK
   simp -implicitDefEqProofs (disch := first | decide | assumption | omega) only [go_sem, wrap_id]
   refine hK _ _ ?_
   clear hK K
   refine den_stop ?_
   rw [show accP X.p (X.k.getD k default) X.j (List.replicate X.e.toNat 0) = mvP X.p X.j X.e.toNat (X.k.getD k default) from rfl, map_takeLc (f := fun row => mvP X.p X.j X.e.toNat row) (d := default) (by omega)] at ho5_10
   exact ⟨(k + 1, v5_10, fp5_10), by simp [HasL, puts_at], ⟨by first | omega | (dsimp only; omega), ho5_10, hfho5_10, sb6, cL2⟩, by first | omega | (dsimp only; omega)⟩
  ·try simp only [decide_eq_true_eq, decide_eq_false_iff_not, beq_iff_eq, beq_eq_false_iff_ne, bne_iff_ne, ne_eq, Bool.not_eq_true', Bool.not_eq_false', Bool.and_eq_true, Bool.or_eq_true, bne_eq_false_iff_eq] at c0
   refine den_exit ?_
   refine denX_code ?_
   refine denX_stop ?_
   refine denX_hit ?_
   refine den_seq ?_
   refine den_region TTok ?_
   intro K hK
   simp -implicitDefEqProofs (disch := first | decide | assumption | omega) only [go_sem, RdS.len (OS.rd hO) sl26, RdS.idx (OS.rd hO) sl26, RdS.cellN (OS.rd hO), RdS.cells (OS.rd hO), wrap_id]
   refine hK _ _ ?_
   clear hK K
   refine den_ret ?_
   simp (disch := decide) only [resP_1, puts_same, puts_ne]
   rw [map_takeEc (by omega)] at hO
   exact ⟨_, _, rfl, hO, hfhO.mono (by omega), eB⟩

set_option maxRecDepth 100000 in
theorem sDf_ok (vX : Value) (X : Cp) (h : Heap) (rX : RP h vX X) (hC : IsCp X) : CallA Try.prog 160 #[vX] h fun v' h' => ∃ w0 f0, v' = w0 ∧ O2 h' w0 (dfL X) f0 ∧ Fresh h.size f0 ∧ Ext h h' := by
 obtain ⟨viX, vjX, vkX, rfl, hiX, hjX, hkX⟩ := rX
 have hleiX := RdS.le hiX
 have hlejX := RdS.le hjX
 have hlekX := RdS.le hkX
 have hd := hC.d
 have he := hC.e
 have hll := hC.lens
 have hpb := isP_bnd hC.p
 refine callA_intro TTok (args := [_]) Try.func160 (by kernel_rfl) rfl 29 rfl (by simp) [.tmp 2] rfl ?_
 simp only [idxs, Nat.reduceAdd]
 refine den_seq ?_
 refine den_region TTok ?_
 intro K hK
 simp -implicitDefEqProofs (disch := first | decide | assumption | omega) only [go_sem, wrap_id]
 refine op_box (cs := #[.int .i64 (X.p), .int .i64 (X.d), .int .i64 (X.e), viX, vjX, vkX]) rfl ?_
 intro h0_0 e0_0 hb0_0 z0_0
 have := Ext.size e0_0
 have eB := e0_0
 have hfhb0_0 : Fresh h.size [h.size] := Fresh.one _
 have hlhb0_0 := one_lt (show h.size < h0_0.size by omega)
 try simp -implicitDefEqProofs (disch := first | decide | assumption | omega) only [go_sem, wrap_id]
 refine hK _ _ ?_
 clear hK K
 refine den_seq ?_
 refine den_region TTok ?_
 intro K hK
 simp -implicitDefEqProofs (disch := first | decide | assumption | omega) only [go_sem, wrap_id]
 refine op_bs0 sz26 O1 ?_
 intro v1_0 h1_0 ho1_0 e1_0
 replace hb0_0 := BoxAt.ext hb0_0 e1_0
 have := Ext.size e1_0
 replace eB := Ext.trans eB e1_0
 have hfho1_0 : Fresh h0_0.size [h0_0.size] := Fresh.one _
 have hlho1_0 := OS.lt ho1_0
 try simp -implicitDefEqProofs (disch := first | decide | assumption | omega) only [go_sem, RdS.len (OS.rd ho1_0) sl26, RdS.idx (OS.rd ho1_0) sl26, RdS.cellN (OS.rd ho1_0), RdS.cells (OS.rd ho1_0), wrap_id]
 refine hK _ _ ?_
 clear hK K
 refine den_seq ?_
 refine den_seq ?_
 refine den_region TTok ?_
 intro K hK
 simp -implicitDefEqProofs (disch := first | decide | assumption | omega) only [go_sem, wrap_id]
 refine hK _ _ ?_
 clear hK K
 refine den_block ?_
 refine den_sel [3, 4, 1] ?_
 intro env_1
 simp only [go_sem]
 refine den_loopS (σ := Nat × Value × List Nat) (fun st_ => [(3, st_.2.1), (4, .int .i64 (st_.1 : Int))]) (fun st_ H => (st_.1 ≤ X.k.length) ∧ (O2 H st_.2.1 ((X.k.take st_.1).map (fun row => mvP X.p X.j X.e.toNat row)) st_.2.2) ∧ (Fresh (h0_0.size) st_.2.2) ∧ (Sub [h0_0.size] h1_0.size st_.2.2) ∧ (Chg [h0_0.size] h1_0 H)) (fun st_ => X.k.length - st_.1) (0, v1_0, [h0_0.size]) ?_ ?_
 ·exact ⟨by first | (simp; done) | (dsimp only; omega) | (simp; omega), by simpa using ho1_0, hfho1_0, Sub.refl, Chg.refl _ _⟩
 ·rintro ⟨k, vhO, fphO⟩ h4 ee3 ⟨hi0, hO, hfhO, sbhO, cL2⟩
  dsimp only at hi0 hO hfhO sbhO cL2
  replace hb0_0 := BoxAt.chgA hb0_0 cL2 (apart_lt hlhb0_0 hfho1_0 (by omega))
  have := cL2.size
  replace eB := Ext.then eB cL2 (ge_of hfho1_0 (by omega))
  have hlhO := OS.lt hO
  simp only [List.cons_append, List.nil_append]
  refine den_seq ?_
  refine den_seq ?_
  refine den_region TTok ?_
  intro K hK
  simp -implicitDefEqProofs (disch := first | decide | assumption | omega) only [go_sem, fa53_5, ld26, RdS.len hiX sl26, RdS.idx hiX sl26, RdS.cellB hiX (Ext.pres eB), RdS.cells hiX, RdS.len hjX sl26, RdS.idx hjX sl26, RdS.cellB hjX (Ext.pres eB), RdS.cells hjX, RdS.len hkX sl26, RdS.idx hkX sl26, RdS.cellB hkX (Ext.pres eB), RdS.cells hkX, BoxAt.cell hb0_0, wrap_id]
  refine hK _ _ ?_
  clear hK K
  refine den_cond rfl (fun c0 => ?_) (fun c0 => ?_)
  ·try simp only [decide_eq_true_eq, decide_eq_false_iff_not, beq_iff_eq, beq_eq_false_iff_ne, bne_iff_ne, ne_eq, Bool.not_eq_true', Bool.not_eq_false', Bool.and_eq_true, Bool.or_eq_true, bne_eq_false_iff_eq] at c0
   refine den_skip ?_
   refine den_seq ?_
   refine den_block ?_
   have hrw := hC.kr _ (getD_mem (k := k) (by omega))
   have hbv := hrw.2
   have hbt : Tbl X.p X.e X.j := fun r hr => by have := hC.jr r hr; exact ⟨by omega, this.2⟩
   have hmt : ((X.k.take k).map (fun row => mvP X.p X.j X.e.toNat row)).length ≤ 24 := by rw [List.length_map, List.length_take]; omega
   refine den_draw TTok mixed [14] [(0, true), (1, true), (2, true), (3, true), (4, true), (5, true), (6, true), (7, true), (8, true), (9, true), (10, true), (11, true), (12, false), (13, false), (14, false), (15, true)] (by kernel_rfl) ?_
   intro K hK
   have hr5 := RdS.rowN hkX k (by omega)
   have hlhr5 := RdS.le hr5
   simp -implicitDefEqProofs (disch := first | decide | assumption | omega) only [go_sem, fa53_0, fa53_2, fa53_4, fa53_5, ld26, ld22, ld2, RdS.len hiX sl26, RdS.idx hiX sl26, RdS.cellB hiX (Ext.pres eB), RdS.cells hiX, RdS.len hjX sl26, RdS.idx hjX sl26, RdS.cellB hjX (Ext.pres eB), RdS.cells hjX, RdS.len hkX sl26, RdS.idx hkX sl26, RdS.cellB hkX (Ext.pres eB), RdS.cells hkX, RdS.len hr5 sl22, RdS.idx hr5 sl22, R1.intB hr5 (Ext.pres eB), RdS.cells hr5, RdS.len (OS.rd hO) sl26, RdS.idx (OS.rd hO) sl26, RdS.cellN (OS.rd hO), RdS.cells (OS.rd hO), BoxAt.cell hb0_0, wrap_id]
   try simp -implicitDefEqProofs (disch := first | decide | assumption | omega) only [go_sem, wrap_id]
   refine CallA.mono (sApply_ok _ _ _ _ _ _ _ (RdS.pres hr5 (Ext.pres eB)) (RdS.pres hjX (Ext.pres eB)) (by omega) (by omega) (by omega) hbv hbt) ?_
   intro v5_12 h5_12
   rintro ⟨f5_12, ho5_12, hf5_12, e5_12⟩
   replace hO := OS.ext hO e5_12
   replace hb0_0 := BoxAt.ext hb0_0 e5_12
   have := Ext.size e5_12
   replace eB := Ext.trans eB e5_12
   replace cL2 := Chg.stepE cL2 e5_12
   have hlho5_12 := OS.lt ho5_12
   try simp (disch := decide) only [outv_some, outv_none, put_puts]
   refine plK_pres (Ext.pres e5_12) ?_
   try simp -implicitDefEqProofs (disch := first | decide | assumption | omega) only [go_sem, wrap_id]
   refine op_bs1 sz26 rfl (OS.one ho5_12).2 ?_
   try simp (disch := decide) only [outv_some, outv_none, put_puts]
   refine plK_pres (Ext.pres (Ext.push _ _)) ?_
   try simp -implicitDefEqProofs (disch := first | decide | assumption | omega) only [go_sem, wrap_id]
   refine op_append1 sz26 hO hfhO.nodup ho5_12 hf5_12.nodup (apart_lt hlhO hf5_12 (by omega)) (by first | omega | (simp; omega)) rfl rfl ?_
   intro v5_14 h5_14 fp5_14 ho5_14 hn5_14 hs5_14 c5_14
   have hsz5_14 := c5_14.size
   have hfho5_14 : Fresh h0_0.size fp5_14 := Fresh.appd hfhO hf5_12 (by omega) (by omega) hn5_14 hs5_14
   have sb6 : Sub [h0_0.size] h1_0.size fp5_14 := Sub.grow sbhO (Sub.fresh hf5_12 (by omega)) (by omega) hs5_14
   replace hb0_0 := BoxAt.chgA hb0_0 c5_14 (apart_lt hlhb0_0 hfhO (by omega))
   have := c5_14.size
   replace eB := Ext.then eB c5_14 (ge_of hfhO (by omega))
   replace cL2 := Chg.step cL2 c5_14 sbhO
   have hlho5_14 := OS.lt ho5_14
   try simp (disch := decide) only [outv_some, outv_none, put_puts]
   refine plK_last (by decide) ?_
   try simp -implicitDefEqProofs (disch := first | decide | assumption | omega) only [go_sem, RdS.len (OS.rd ho5_14) sl26, RdS.idx (OS.rd ho5_14) sl26, RdS.cellN (OS.rd ho5_14), RdS.cells (OS.rd ho5_14), wrap_id]
   refine hK _ _ ?_
   clear hK K
   refine den_blk ?_
   refine den_region TTok ?_
   intro K hK
   simp -implicitDefEqProofs (disch := first | decide | assumption | omega) only [go_sem, wrap_id]
   refine hK _ _ ?_
   clear hK K
   refine den_stop ?_
   rw [show accP X.p (X.k.getD k default) X.j (List.replicate X.e.toNat 0) = mvP X.p X.j X.e.toNat (X.k.getD k default) from rfl, map_takeLc (f := fun row => mvP X.p X.j X.e.toNat row) (d := default) (by omega)] at ho5_14
   exact ⟨(k + 1, v5_14, fp5_14), by simp [HasL, puts_at], ⟨by first | omega | (dsimp only; omega), ho5_14, hfho5_14, sb6, cL2⟩, by first | omega | (dsimp only; omega)⟩
  ·try simp only [decide_eq_true_eq, decide_eq_false_iff_not, beq_iff_eq, beq_eq_false_iff_ne, bne_iff_ne, ne_eq, Bool.not_eq_true', Bool.not_eq_false', Bool.and_eq_true, Bool.or_eq_true, bne_eq_false_iff_eq] at c0
   refine den_exit ?_
   refine denX_code ?_
   refine denX_stop ?_
   refine denX_hit ?_
   refine den_seq ?_
   refine den_region TTok ?_
   intro K hK
   simp -implicitDefEqProofs (disch := first | decide | assumption | omega) only [go_sem, RdS.len (OS.rd hO) sl26, RdS.idx (OS.rd hO) sl26, RdS.cellN (OS.rd hO), RdS.cells (OS.rd hO), wrap_id]
   refine hK _ _ ?_
   clear hK K
   refine den_ret ?_
   simp (disch := decide) only [resP_1, puts_same, puts_ne]
   rw [map_takeEc (by omega)] at hO
   exact ⟨_, _, rfl, hO, hfhO.mono (by omega), eB⟩
end Go.Proofs.Ytjjjgllbocgkbaa

namespace Go.Proofs.Ytjjjgllbocgkbaa
open Go
theorem ES.takeR {h0 h : Heap} {vE : Value} {E : List (List Int)} {fE : List Nat} (hE : O2 h vE E fE) (hn : fE.Nodup) (hag : ∀ b ∈ fE, h[b]? = h0[b]?) {i : Nat} (hi : i < E.length) {k : IntKind} {hi_ : Int} (hl0 : 0 ≤ hi_) (hl1 : hi_ ≤ (E.getD i default).length) {u : Value} (hs : sliceV TT 22 (rowV h vE i) none (some (.int k hi_)) none = some u) {H : Heap} : ESt h0 fE H u ((E.getD i default).take hi_.toNat) [] := by
 obtain ⟨f, hO, hsub, _, _⟩ := OS.elem hE hn i hi
 have key : ∀ h' : Heap, (∀ b ∈ fE, h'[b]? = h0[b]?) → R1 h' u ((E.getD i default).take hi_.toNat) := fun h' hg => by
  have hr : R1 h' (rowV h vE i) (E.getD i default) := OS.rd (show O1 h' (rowV h vE i) (E.getD i default) f from Own.loc (fun b hb => (hg b (hsub b hb)).trans (hag b (hsub b hb)).symm) hO)
  obtain ⟨v', e1, e2⟩ := RdS.takeV (k := k) hr sl22 hl0 hl1
  rw [hs] at e1
  injection e1 with e1
  rw [e1]; exact e2
 exact ⟨rfl, RdS.oneC (key h0 (fun _ _ => rfl)), key⟩
def srcQ (w : Nat) : List Int → Bool := fun r => !decide ((w : Int) ≤ leadP r)
noncomputable def srcM (p : Int) (T : List (List Int)) (w : Nat) : List (List Int) := ((ech p (longP T)).filter (srcQ w)).map fun r => r.take w
noncomputable def srcF (p : Int) (T : List (List Int)) (w : Nat) : List (List Int) := ((ech p (longP T)).filter (srcQ w)).map fun r => r.drop w
theorem src_filter {p : Int} {W w : Nat} {R : List (List Int)} {l : Nat → Nat} (r : Rr p W R l) : R.filter (srcQ w) = R.take (posP R w) := by
 obtain ⟨h1, h2, h3⟩ := posP_ok (at_ := w) r
 conv => lhs; rw [← List.take_append_drop (posP R w) R]
 rw [List.filter_append]
 have e1 : (R.take (posP R w)).filter (srcQ w) = R.take (posP R w) := by
  rw [List.filter_eq_self]
  intro a ha
  obtain ⟨i, hi, rfl⟩ := List.getElem_of_mem ha
  rw [List.length_take] at hi
  have := r.lead (i := i) (by omega)
  rw [List.getD_eq_getElem?_getD, List.getElem?_eq_getElem (by omega), Option.getD_some] at this
  have h4 := h2 i (by omega)
  rw [List.getElem_take, srcQ, this]
  simp; omega
 have e2 : (R.drop (posP R w)).filter (srcQ w) = [] := by
  rw [List.filter_eq_nil_iff]
  intro a ha
  obtain ⟨i, hi, rfl⟩ := List.getElem_of_mem ha
  rw [List.length_drop] at hi
  have := r.lead (i := posP R w + i) (by omega)
  rw [List.getD_eq_getElem?_getD, List.getElem?_eq_getElem (by omega), Option.getD_some] at this
  have h4 := h3 (posP R w + i) (by omega) (by omega)
  rw [List.getElem_drop, srcQ, this]
  simp; omega
 rw [e1, e2, List.append_nil]
section
variable {p : Int} {w : Nat} {T : List (List Int)}
theorem take_getD0 {r : List Int} {w j : Nat} : (r.take w).getD j 0 = if j < w then r.getD j 0 else 0 := by
 rw [List.getD_eq_getElem?_getD, List.getElem?_take]
 split
 ·rw [List.getD_eq_getElem?_getD]
 ·rfl
theorem src_red (hP : isP p = true) (hT : TB p w T) : ∃ l, Rr p (w + T.length) (ech p (longP T)) l ∧ Eqv p (ech p (longP T)) (longP T) := by
 obtain ⟨⟨l, r⟩, e⟩ := ech_red hP (longP_tbl (isP_two hP).1 hT)
 exact ⟨l, r, e⟩
theorem src_row {l : Nat → Nat} (r : Rr p (w + T.length) (ech p (longP T)) l) {i : Nat} (hi : i < posP (ech p (longP T)) w) : (srcM p T w).getD i default = ((ech p (longP T)).getD i default).take w ∧ (srcF p T w).getD i default = ((ech p (longP T)).getD i default).drop w := by
 have h1 := (posP_ok (at_ := w) r).1
 have key : ∀ f : List Int → List Int, (((ech p (longP T)).take (posP (ech p (longP T)) w)).map f).getD i default = f ((ech p (longP T)).getD i default) := fun f => by
  rw [List.getD_eq_getElem?_getD, List.getElem?_map, List.getElem?_take, if_pos hi, List.getElem?_eq_getElem (by omega), List.getD_eq_getElem?_getD, List.getElem?_eq_getElem (by omega)]; rfl
 rw [srcM, srcF, src_filter r]
 exact ⟨key _, key _⟩
theorem src_len {l : Nat → Nat} (r : Rr p (w + T.length) (ech p (longP T)) l) : (srcM p T w).length = posP (ech p (longP T)) w ∧ (srcF p T w).length = posP (ech p (longP T)) w := by
 have h1 := (posP_ok (at_ := w) r).1
 rw [srcM, srcF, src_filter r, List.length_map, List.length_map, List.length_take]; omega
theorem src_g2 {l : Nat → Nat} (r : Rr p (w + T.length) (ech p (longP T)) l) {i : Nat} (hi : i < posP (ech p (longP T)) w) (j : Nat) : g2 (srcM p T w) i j = if j < w then g2 (ech p (longP T)) i j else 0 := by
 rw [g2, (src_row r hi).1, take_getD0]
/-- What a row of the long list tells. -/
theorem src_cg (hT : TB p w T) {l : Nat → Nat} (r : Rr p (w + T.length) (ech p (longP T)) l) (e : Eqv p (ech p (longP T)) (longP T)) {i : Nat} (hi : i < (ech p (longP T)).length) {j : Nat} (hj : j < w) : Cg p (g2 (ech p (longP T)) i j) (apV T (fun k => g2 (ech p (longP T)) i (w + k)) j) :=
 ((long_sp (fun r hr => (hT r hr).1)).1 (e.1 i hi)).1 j hj
theorem src_made (hP : isP p = true) (hT : TB p w T) : srcM p T w = ech p T := by
 obtain ⟨l, r, e⟩ := src_red hP hT
 have hp := isP_two hP
 obtain ⟨h1, h2, h3⟩ := posP_ok (at_ := w) r
 obtain ⟨hl, _⟩ := src_len r
 refine (ech_eq hp.1 (w := w) (l := l) (L := srcM p T w) ⟨fun i hi => ?_, fun i hi => ?_, fun i hi => h2 i (by omega), fun i hi => ?_, fun i j hi hj => ?_, fun i k hik hk => r.inc i k hik (by omega), fun i k hi hk hne => ?_⟩ ⟨fun i hi => ?_, fun i hi => ?_⟩ (fun hn => wd_ok hT hn)).symm
 ·rw [(src_row r (by omega)).1, List.length_take, r.len i (by omega)]; omega
 ·rw [(src_row r (by omega)).1]
  exact fun x hx => r.bnd i (by omega) x (List.mem_of_mem_take hx)
 ·have := h2 i (by omega)
  rw [src_g2 r (by omega), if_pos this]; exact r.one i (by omega)
 ·have := h2 i (by omega)
  rw [src_g2 r (by omega), if_pos (by omega)]; exact r.zb i j (by omega) hj
 ·have := h2 i (by omega)
  rw [src_g2 r (by omega), if_pos this]; exact r.cl i k (by omega) (by omega) hne
 ·refine ⟨fun k => g2 (ech p (longP T)) i (w + k), fun j => ?_⟩
  rw [src_g2 r (by omega)]
  split
  ·rename_i hj; exact src_cg hT r e (by omega) hj
  ·rename_i hj; exact Cg.of_eq (apV_out (fun r hr => (hT r hr).1) (by omega)).symm
 ·obtain ⟨c, hc⟩ := e.2 i (by rw [len_longP]; exact hi)
  refine ⟨c, fun j => ?_⟩
  rw [hl]
  by_cases hj : j < w
  ·have hg := hc j
   rw [long_lo (fun r hr => (hT r hr).1) hi hj, show (ech p (longP T)).length = posP (ech p (longP T)) w + ((ech p (longP T)).length - posP (ech p (longP T)) w) by omega, sm_split, sm_zero (n := (ech p (longP T)).length - posP (ech p (longP T)) w) (fun q hq => by rw [r.zb _ j (by omega) (by have := h3 (posP (ech p (longP T)) w + q) (by omega) (by omega); omega), Int.mul_zero]), Int.add_zero] at hg
   exact hg.trans (sm_cg fun q hq => Cg.of_eq (by rw [src_g2 r hq, if_pos hj]))
  ·rw [g2_out (by rw [(hT _ (getD_mem hi)).1]; omega), sm_zero (fun q hq => by rw [src_g2 r hq, if_neg hj, Int.mul_zero])]; exact Cg.refl _
end
theorem src_lift {C : Cp} (h : IsCp C) {i : Nat} (hi : i < (mdL C).length) : IsLift C ((mdL C).getD i default) ((srcF C.p C.i C.d.toNat).getD i default) := by
 obtain ⟨l, r, e⟩ := src_red h.p h.ir
 have hp := h.pos
 have hll := h.lens
 have em : mdL C = srcM C.p C.i C.d.toNat := (src_made h.p h.ir).symm
 have hpos := (src_len r).1
 rw [em] at hi ⊢
 rw [hpos] at hi
 have h1 := (posP_ok (at_ := C.d.toNat) r).1
 obtain ⟨e1, e2⟩ := src_row r hi
 have hrl := r.len i (by omega)
 have hrb := r.bnd i (by omega)
 rw [e1, e2]
 have fl : (((ech C.p (longP C.i)).getD i default).drop C.d.toNat).length = C.d.toNat := by rw [List.length_drop, hrl]; omega
 have fb : Bnd C.p (((ech C.p (longP C.i)).getD i default).drop C.d.toNat) := fun x hx => hrb x (List.mem_of_mem_drop hx)
 refine ⟨fl, fb, list_cg (by rw [mvP_len h.ir, List.length_take, hrl]; omega) (mvP_bnd hp h.ir fb) (fun x hx => hrb x (List.mem_of_mem_take hx)) fun j => ?_⟩
 refine (mvP_cg hp h.ir (by omega) fb j).trans ?_
 rw [take_getD0]
 have e3 : apV C.i (fun q => (((ech C.p (longP C.i)).getD i default).drop C.d.toNat).getD q 0) j = apV C.i (fun k => g2 (ech C.p (longP C.i)) i (C.d.toNat + k)) j := sm_eq fun q _ => by dsimp only; rw [drop_getD]
 rw [e3]
 split
 ·rename_i hj; exact (src_cg h.ir r e (by omega) hj).symm
 ·rename_i hj; exact Cg.of_eq (apV_out (fun r hr => (h.ir r hr).1) (by omega))
theorem srcF_len {C : Cp} (h : IsCp C) : (srcF C.p C.i C.d.toNat).length = (mdL C).length := by
 obtain ⟨l, r, e⟩ := src_red h.p h.ir
 rw [(src_len r).2, show mdL C = srcM C.p C.i C.d.toNat from (src_made h.p h.ir).symm, (src_len r).1]

set_option maxRecDepth 100000 in
set_option maxHeartbeats 4000000 in
theorem iSrc_ok (vT : Value) (p : Int) (n : Int) (T : List (List Int)) (h : Heap) (rT : R2 h vT T) (hP : isP p = true) (hT : TB p n.toNat T) (hn : 0 ≤ n ∧ n ≤ 24 ∧ T.length ≤ 24) : CallA Try.prog 166 #[.int .i64 p, .int .i64 n, vT] h fun v' h' => ∃ w0 f0 w1 f1, v' = .tuple #[w0, w1] ∧ O2 h' w0 (ech p T) f0 ∧ Fresh h.size f0 ∧ O2 h' w1 (srcF p T n.toNat) f1 ∧ Fresh h.size f1 ∧ Apart f0 f1 ∧ Ext h h' := by
 have hleT := RdS.le rT
 have hp := isP_two hP
 obtain ⟨l, hrE, _⟩ := src_red hP hT
 have hEl := hrE.le_w
 refine callA_intro TTok (args := [_, _, _]) Try.func166 (by kernel_rfl) rfl 66 rfl (by simp) [.tmp 6, .tmp 7] rfl ?_
 simp only [idxs, Nat.reduceAdd]
 refine den_seq ?_
 refine den_region TTok ?_
 intro K hK
 simp -implicitDefEqProofs (disch := first | decide | assumption | omega) only [go_sem, wrap_id]
 refine hK _ _ ?_
 clear hK K
 refine den_seq ?_
 refine den_region TTok ?_
 intro K hK
 simp -implicitDefEqProofs (disch := first | decide | assumption | omega) only [go_sem, wrap_id]
 refine op_bs0 sz26 O1 ?_
 intro v1_0 h1_0 ho1_0 e1_0
 have := Ext.size e1_0
 have eB := e1_0
 have hfho1_0 : Fresh h.size [h.size] := Fresh.one _
 have hlho1_0 := OS.lt ho1_0
 try simp -implicitDefEqProofs (disch := first | decide | assumption | omega) only [go_sem, RdS.len (OS.rd ho1_0) sl26, RdS.idx (OS.rd ho1_0) sl26, RdS.cellN (OS.rd ho1_0), RdS.cells (OS.rd ho1_0), wrap_id]
 refine hK _ _ ?_
 clear hK K
 refine den_seq ?_
 refine den_seq ?_
 refine den_region TTok ?_
 intro K hK
 simp -implicitDefEqProofs (disch := first | decide | assumption | omega) only [go_sem, RdS.len rT sl26, RdS.idx rT sl26, RdS.cellB rT (Ext.pres eB), RdS.cells rT, wrap_id]
 refine hK _ _ ?_
 clear hK K
 refine den_block ?_
 refine den_sel [8, 18, 0, 1, 2, 16, 17] ?_
 intro env_1
 simp only [go_sem]
 refine den_loopS (σ := Nat × Value × List Nat) (fun st_ => [(8, st_.2.1), (18, .int .i64 (st_.1 : Int))]) (fun st_ H => (st_.1 ≤ T.length) ∧ (O2 H st_.2.1 ((List.range st_.1).map fun i => T.getD i default ++ unitP T.length i) st_.2.2) ∧ (Fresh (h.size) st_.2.2) ∧ (Sub [h.size] h1_0.size st_.2.2) ∧ (Chg [h.size] h1_0 H)) (fun st_ => T.length - st_.1) (0, v1_0, [h.size]) ?_ ?_
 ·exact ⟨by first | (simp; done) | (dsimp only; omega) | (simp; omega), by simpa using ho1_0, hfho1_0, Sub.refl, Chg.refl _ _⟩
 ·rintro ⟨k, vhL, fphL⟩ h4 ee3 ⟨hi0, hL, hfhL, sbhL, cL2⟩
  dsimp only at hi0 hL hfhL sbhL cL2
  have := cL2.size
  replace eB := Ext.then eB cL2 (ge_of hfho1_0 (by omega))
  have hlhL := OS.lt hL
  simp only [List.cons_append, List.nil_append]
  have hlo_ : ((List.range k).map fun i => T.getD i default ++ unitP T.length i).length = k := by simp
  refine den_seq ?_
  refine den_region TTok ?_
  intro K hK
  simp -implicitDefEqProofs (disch := first | decide | assumption | omega) only [go_sem, wrap_id]
  refine hK _ _ ?_
  clear hK K
  refine den_seq ?_
  refine den_cond rfl (fun c0 => ?_) (fun c0 => ?_)
  ·try simp only [decide_eq_true_eq, decide_eq_false_iff_not, beq_iff_eq, beq_eq_false_iff_ne, bne_iff_ne, ne_eq, Bool.not_eq_true', Bool.not_eq_false', Bool.and_eq_true, Bool.or_eq_true, bne_eq_false_iff_eq] at c0
   refine den_skip ?_
   refine den_seq ?_
   refine den_block ?_
   refine den_seq ?_
   refine den_region TTok ?_
   intro K hK
   have hr5 := RdS.rowN rT k (by omega)
   have hlhr5 := RdS.le hr5
   simp -implicitDefEqProofs (disch := first | decide | assumption | omega) only [go_sem, ld22, RdS.len rT sl26, RdS.idx rT sl26, RdS.cellB rT (Ext.pres eB), RdS.cells rT, RdS.len hr5 sl22, RdS.idx hr5 sl22, R1.intB hr5 (Ext.pres eB), RdS.cells hr5, wrap_id]
   refine hK _ _ ?_
   clear hK K
   have hri := hT _ (getD_mem (k := k) (by omega))
   have hul : (unitP ((T.length : Int)).toNat ((k : Int)).toNat).length = T.length := by rw [unitP, List.length_set, List.length_replicate]; omega
   refine den_region TTok ?_
   intro K hK
   simp -implicitDefEqProofs (disch := first | decide | assumption | omega) only [go_sem, RdS.len hr5 sl22, RdS.idx hr5 sl22, R1.intB hr5 (Ext.pres eB), RdS.cells hr5, RdS.len (OS.rd hL) sl26, RdS.idx (OS.rd hL) sl26, RdS.cellN (OS.rd hL), RdS.cells (OS.rd hL), wrap_id]
   try simp -implicitDefEqProofs (disch := first | decide | assumption | omega) only [go_sem, wrap_id]
   refine CallA.mono (clone1_ok _ ((T).getD k default) _ (RdS.pres hr5 (Ext.pres eB)) (by omega)) ?_
   intro vw5_2_0 h5_2
   rintro ⟨zvw5_2_0, fw5_2_0, rfl, how5_2_0, hfw5_2_0, e5_2⟩
   replace hL := OS.ext hL e5_2
   have := Ext.size e5_2
   replace eB := Ext.trans eB e5_2
   replace cL2 := Chg.stepE cL2 e5_2
   have hlhow5_2_0 := OS.lt how5_2_0
   try simp -implicitDefEqProofs (disch := first | decide | assumption | omega) only [go_sem, RdS.len rT sl26, RdS.idx rT sl26, RdS.cellB rT (Ext.pres eB), RdS.cells rT, wrap_id]
   try simp -implicitDefEqProofs (disch := first | decide | assumption | omega) only [go_sem, wrap_id]
   refine CallA.pure (size2_ok _ _ _ (RdS.pres rT (Ext.pres eB))) ?_
   try simp -implicitDefEqProofs (disch := first | decide | assumption | omega) only [go_sem, wrap_id]
   try simp -implicitDefEqProofs (disch := first | decide | assumption | omega) only [go_sem, wrap_id]
   refine CallA.mono (iUnit_ok  ((T).length : Int) (k : Int) _  (by omega)) ?_
   intro vw5_6_0 h5_6
   rintro ⟨zvw5_6_0, fw5_6_0, rfl, how5_6_0, hfw5_6_0, e5_6⟩
   replace hL := OS.ext hL e5_6
   replace how5_2_0 := OS.ext how5_2_0 e5_6
   have := Ext.size e5_6
   replace eB := Ext.trans eB e5_6
   replace cL2 := Chg.stepE cL2 e5_6
   have hlhow5_6_0 := OS.lt how5_6_0
   try simp -implicitDefEqProofs (disch := first | decide | assumption | omega) only [go_sem, wrap_id]
   refine op_appendR how5_2_0 (OS.rd how5_6_0) (by first | omega | (simp; omega)) rfl ?_
   intro v5_7 h5_7 fp5_7 ho5_7 hn5_7 hs5_7 c5_7
   have hsz5_7 := c5_7.size
   have hfho5_7 : Fresh h4.size fp5_7 := Fresh.appd hfw5_2_0 (Fresh.nil h5_6.size) (by omega) (by omega) hn5_7 hs5_7
   replace hL := OS.chg hL c5_7 (apart_lt hlhL hfw5_2_0 (by omega))
   replace how5_6_0 := OS.chg how5_6_0 c5_7 (apart_gt hfw5_6_0 hlhow5_2_0 (by omega))
   have := c5_7.size
   replace eB := Ext.then eB c5_7 (ge_of hfw5_2_0 (by omega))
   replace cL2 := Chg.step cL2 c5_7 (Sub.fresh hfw5_2_0 (by omega))
   have ap6 : Apart fw5_6_0 fp5_7 := Apart.grow hlhow5_6_0 (by omega) (apart_gt hfw5_6_0 hlhow5_2_0 (by omega)) (Apart.nil _) hs5_7
   have hlho5_7 := OS.lt ho5_7
   try simp -implicitDefEqProofs (disch := first | decide | assumption | omega) only [go_sem, wrap_id]
   refine op_bs1 sz26 rfl (OS.one ho5_7).2 ?_
   try simp -implicitDefEqProofs (disch := first | decide | assumption | omega) only [go_sem, wrap_id]
   refine op_append1 sz26 hL hfhL.nodup ho5_7 hfho5_7.nodup (apart_lt hlhL hfho5_7 (by omega)) (by first | omega | (simp; omega)) rfl rfl ?_
   intro v5_9 h5_9 fp5_9 ho5_9 hn5_9 hs5_9 c5_9
   have hsz5_9 := c5_9.size
   have hfho5_9 : Fresh h.size fp5_9 := Fresh.appd hfhL hfho5_7 (by omega) (by omega) hn5_9 hs5_9
   have sb7 : Sub [h.size] h1_0.size fp5_9 := Sub.grow sbhL (Sub.fresh hfho5_7 (by omega)) (by omega) hs5_9
   replace how5_6_0 := OS.chg how5_6_0 c5_9 (apart_gt hfw5_6_0 hlhL (by omega))
   have := c5_9.size
   replace eB := Ext.then eB c5_9 (ge_of hfhL (by omega))
   replace cL2 := Chg.step cL2 c5_9 sbhL
   have ap8 : Apart fw5_6_0 fp5_9 := Apart.grow hlhow5_6_0 (by omega) (apart_gt hfw5_6_0 hlhL (by omega)) ap6 hs5_9
   have hlho5_9 := OS.lt ho5_9
   try simp -implicitDefEqProofs (disch := first | decide | assumption | omega) only [go_sem, RdS.len (OS.rd ho5_9) sl26, RdS.idx (OS.rd ho5_9) sl26, RdS.cellN (OS.rd ho5_9), RdS.cells (OS.rd ho5_9), wrap_id]
   refine hK _ _ ?_
   clear hK K
   refine den_blk ?_
   refine den_region TTok ?_
   intro K hK
   simp -implicitDefEqProofs (disch := first | decide | assumption | omega) only [go_sem, wrap_id]
   refine hK _ _ ?_
   clear hK K
   refine den_stop ?_
   rw [Int.toNat_natCast, Int.toNat_natCast, longP_step (by omega)] at ho5_9
   exact ⟨(k + 1, v5_9, fp5_9), by simp [HasL, puts_at], ⟨by first | omega | (dsimp only; omega), ho5_9, hfho5_9, sb7, cL2⟩, by first | omega | (dsimp only; omega)⟩
  ·try simp only [decide_eq_true_eq, decide_eq_false_iff_not, beq_iff_eq, beq_eq_false_iff_ne, bne_iff_ne, ne_eq, Bool.not_eq_true', Bool.not_eq_false', Bool.and_eq_true, Bool.or_eq_true, bne_eq_false_iff_eq] at c0
   refine den_exit ?_
   refine denX_code ?_
   refine denX_stop ?_
   refine denX_hit ?_
   refine den_seq ?_
   refine den_region TTok ?_
   intro K hK
   simp -implicitDefEqProofs (disch := first | decide | assumption | omega) only [go_sem, wrap_id]
   refine op_bs0 sz26 O1 ?_
   intro v7_0 h7_0 ho7_0 e7_0
   replace hL := OS.ext hL e7_0
   have := Ext.size e7_0
   replace eB := Ext.trans eB e7_0
   have hfho7_0 : Fresh h4.size [h4.size] := Fresh.one _
   have hlho7_0 := OS.lt ho7_0
   try simp -implicitDefEqProofs (disch := first | decide | assumption | omega) only [go_sem, wrap_id]
   refine op_bs0 sz26 O1 ?_
   intro v7_1 h7_1 ho7_1 e7_1
   replace hL := OS.ext hL e7_1
   replace ho7_0 := OS.ext ho7_0 e7_1
   have := Ext.size e7_1
   replace eB := Ext.trans eB e7_1
   have hfho7_1 : Fresh h7_0.size [h7_0.size] := Fresh.one _
   have hlho7_1 := OS.lt ho7_1
   try simp -implicitDefEqProofs (disch := first | decide | assumption | omega) only [go_sem, RdS.len (OS.rd ho7_0) sl26, RdS.idx (OS.rd ho7_0) sl26, RdS.cellN (OS.rd ho7_0), RdS.cells (OS.rd ho7_0), RdS.len (OS.rd ho7_1) sl26, RdS.idx (OS.rd ho7_1) sl26, RdS.cellN (OS.rd ho7_1), RdS.cells (OS.rd ho7_1), wrap_id]
   refine hK _ _ ?_
   clear hK K
   refine den_seq ?_
   refine den_seq ?_
   rw [show ((List.range k).map fun i => T.getD i default ++ unitP T.length i) = longP T by rw [longP, show T.length = k by omega]] at hL
   have hredT := longP_tbl hp.1 hT
   have hlT := len_longP T
   refine den_region TTok ?_
   intro K hK
   simp -implicitDefEqProofs (disch := first | decide | assumption | omega) only [go_sem, RdS.len (OS.rd hL) sl26, RdS.idx (OS.rd hL) sl26, RdS.cellN (OS.rd hL), RdS.cells (OS.rd hL), wrap_id]
   try simp -implicitDefEqProofs (disch := first | decide | assumption | omega) only [go_sem, wrap_id]
   refine CallA.mono (iReduce_ok _ p (longP T) _ (OS.rd hL) hP hredT (by omega) (by omega)) ?_
   intro vw8_2_0 h8_2
   rintro ⟨zvw8_2_0, fw8_2_0, rfl, how8_2_0, hfw8_2_0, e8_2⟩
   replace hL := OS.ext hL e8_2
   replace ho7_0 := OS.ext ho7_0 e8_2
   replace ho7_1 := OS.ext ho7_1 e8_2
   have := Ext.size e8_2
   replace eB := Ext.trans eB e8_2
   have hlhow8_2_0 := OS.lt how8_2_0
   try simp -implicitDefEqProofs (disch := first | decide | assumption | omega) only [go_sem, RdS.len (OS.rd how8_2_0) sl26, RdS.idx (OS.rd how8_2_0) sl26, RdS.cellN (OS.rd how8_2_0), RdS.cells (OS.rd how8_2_0), wrap_id]
   refine hK _ _ ?_
   clear hK K
   refine den_block ?_
   refine den_sel [11, 12, 40, 1, 38, 39] ?_
   intro env_9
   simp only [go_sem]
   refine den_loopS (σ := Nat × Value × List Nat × Value × List Nat) (fun st_ => [(11, st_.2.1), (12, st_.2.2.2.1), (40, .int .i64 (st_.1 : Int))]) (fun st_ H => (st_.1 ≤ (ech p (longP T)).length) ∧ (O2 H st_.2.1 ((((ech p (longP T)).take st_.1).filter (srcQ n.toNat)).map (fun r => r.take n.toNat)) st_.2.2.1) ∧ (Fresh (h4.size) st_.2.2.1) ∧ (Sub ([h4.size] ++ ([h7_0.size])) h8_2.size st_.2.2.1) ∧ (O2 H st_.2.2.2.1 ((((ech p (longP T)).take st_.1).filter (srcQ n.toNat)).map (fun r => r.drop n.toNat)) st_.2.2.2.2) ∧ (Fresh (h7_0.size) st_.2.2.2.2) ∧ (Sub ([h4.size] ++ ([h7_0.size])) h8_2.size st_.2.2.2.2) ∧ (Apart st_.2.2.1 st_.2.2.2.2) ∧ (Chg ([h4.size] ++ ([h7_0.size])) h8_2 H)) (fun st_ => (ech p (longP T)).length - st_.1) (0, v7_0, [h4.size], v7_1, [h7_0.size]) ?_ ?_
   ·exact ⟨by first | (simp; done) | (dsimp only; omega) | (simp; omega), by simpa using ho7_0, hfho7_0, (Sub.left Sub.refl), by simpa using ho7_1, hfho7_1, (Sub.right Sub.refl), (apart_lt hlho7_0 hfho7_1 (by omega)), Chg.refl _ _⟩
   ·rintro ⟨k, vhM, fphM, vhF, fphF⟩ h12 ee11 ⟨hi0, hM, hfhM, sbhM, hF, hfhF, sbhF, ap_hM_hF, cL10⟩
    dsimp only at hi0 hM hfhM sbhM hF hfhF sbhF ap_hM_hF cL10
    replace hL := OS.chg hL cL10 (Apart.app (apart_lt hlhL hfho7_0 (by omega)) (apart_lt hlhL hfho7_1 (by omega)))
    replace how8_2_0 := OS.chg how8_2_0 cL10 (Apart.app (apart_gt hfw8_2_0 hlho7_0 (by omega)) (apart_gt hfw8_2_0 hlho7_1 (by omega)))
    have := cL10.size
    replace eB := Ext.then eB cL10 (ge_app (ge_of hfho7_0 (by omega)) (ge_of hfho7_1 (by omega)))
    have ap13 : Apart fw8_2_0 fphM := Apart.sub_ hlhow8_2_0 (by omega) (Apart.app (apart_gt hfw8_2_0 hlho7_0 (by omega)) (apart_gt hfw8_2_0 hlho7_1 (by omega))) sbhM
    have ap14 : Apart fw8_2_0 fphF := Apart.sub_ hlhow8_2_0 (by omega) (Apart.app (apart_gt hfw8_2_0 hlho7_0 (by omega)) (apart_gt hfw8_2_0 hlho7_1 (by omega))) sbhF
    have hlhM := OS.lt hM
    have hlhF := OS.lt hF
    simp only [List.cons_append, List.nil_append]
    have hol1 := fm_len (f := srcQ n.toNat) (g := fun r => r.take n.toNat) (xs := ech p (longP T)) (k := k) (by omega)
    have hol2 := fm_len (f := srcQ n.toNat) (g := fun r => r.drop n.toNat) (xs := ech p (longP T)) (k := k) (by omega)
    refine den_seq ?_
    refine den_region TTok ?_
    intro K hK
    simp -implicitDefEqProofs (disch := first | decide | assumption | omega) only [go_sem, wrap_id]
    refine hK _ _ ?_
    clear hK K
    refine den_seq ?_
    refine den_cond rfl (fun c1 => ?_) (fun c1 => ?_)
    ·try simp only [decide_eq_true_eq, decide_eq_false_iff_not, beq_iff_eq, beq_eq_false_iff_ne, bne_iff_ne, ne_eq, Bool.not_eq_true', Bool.not_eq_false', Bool.and_eq_true, Bool.or_eq_true, bne_eq_false_iff_eq] at c1
     refine den_skip ?_
     refine den_seq ?_
     refine den_block ?_
     refine den_seq ?_
     refine den_region TTok ?_
     intro K hK
     have hr15 := RdS.rowN (OS.rd how8_2_0) k (by omega)
     have hlhr15 := RdS.le hr15
     have xr16 := Ext.refl h12
     simp -implicitDefEqProofs (disch := first | decide | assumption | omega) only [go_sem, ld22, RdS.len (OS.rd how8_2_0) sl26, RdS.idx (OS.rd how8_2_0) sl26, RdS.cellN (OS.rd how8_2_0), RdS.cells (OS.rd how8_2_0), RdS.len hr15 sl22, RdS.idx hr15 sl22, R1.intB hr15 (Ext.pres xr16), RdS.cells hr15, wrap_id]
     refine hK _ _ ?_
     clear hK K
     refine den_seq ?_
     have hkl := hrE.len k (by omega)
     obtain ⟨vz, hez, hRz⟩ := RdS.takeV (k := .i64) (RdS.rowN (OS.rd how8_2_0) k (by omega)) sl22 (hi := n) (by omega) (by omega)
     obtain ⟨vs, hes, hRs⟩ := RdS.dropV (k := .i64) (RdS.rowN (OS.rd how8_2_0) k (by omega)) sl22 (lo := n) (by omega) (by omega)
     have hETk := ES.takeR (H := h12) (h0 := h12) how8_2_0 hfw8_2_0.nodup (fun _ _ => rfl) (i := k) (by omega) (by omega) (by omega) hez
     have hEDr := ES.mk (H := h12) (h0 := h12) how8_2_0 hfw8_2_0.nodup (fun _ _ => rfl) (i := k) (by omega) (by omega) (by omega) hes
     have agS := Agr.refl fw8_2_0 h12
     have hzt := zero_take (w := n.toNat) hrE (i := k) (by omega)
     have htl : (((ech p (longP T)).getD k default).take n.toNat).length ≤ 100 := by rw [List.length_take]; omega
     have hdl : (((ech p (longP T)).getD k default).drop n.toNat).length ≤ 100 := by rw [List.length_drop]; omega
     refine den_region TTok ?_
     intro K hK
     simp -implicitDefEqProofs (disch := first | decide | assumption | omega) only [go_sem, RdS.len (OS.rd how8_2_0) sl26, RdS.idx (OS.rd how8_2_0) sl26, RdS.cellN (OS.rd how8_2_0), RdS.cells (OS.rd how8_2_0), RdS.len hr15 sl22, RdS.idx hr15 sl22, R1.intB hr15 (Ext.pres xr16), RdS.cells hr15, wrap_id, hez, Option.map_some, Option.map_none]
     try simp -implicitDefEqProofs (disch := first | decide | assumption | omega) only [go_sem, wrap_id, hez, Option.map_some, Option.map_none]
     refine CallA.mono (isZero_ok _ _ _ hRz) ?_
     intro v_ h11_3
     rintro ⟨rfl, e11_3⟩
     replace agS := Agr.ext agS (OS.lt how8_2_0) e11_3
     replace how8_2_0 := OS.ext how8_2_0 e11_3
     replace hM := OS.ext hM e11_3
     replace hF := OS.ext hF e11_3
     have := Ext.size e11_3
     replace eB := Ext.trans eB e11_3
     replace xr16 := Ext.trans xr16 e11_3
     replace cL10 := Chg.stepE cL10 e11_3
     try simp -implicitDefEqProofs (disch := first | decide | assumption | omega) only [go_sem, wrap_id, hez, Option.map_some, Option.map_none]
     refine hK _ _ ?_
     clear hK K
     refine den_cond rfl (fun c2 => ?_) (fun c2 => ?_)
     ·try simp only [decide_eq_true_eq, decide_eq_false_iff_not, beq_iff_eq, beq_eq_false_iff_ne, bne_iff_ne, ne_eq, Bool.not_eq_true', Bool.not_eq_false', Bool.and_eq_true, Bool.or_eq_true, bne_eq_false_iff_eq] at c2
      refine den_draw TTok mixed [6, 13] [(0, true), (1, true), (2, true), (3, true), (7, true), (8, true), (9, true), (10, true), (4, false), (5, false), (6, false), (11, false), (12, false), (13, false), (14, true), (15, true)] (by kernel_rfl) ?_
      intro K hK
      simp -implicitDefEqProofs (disch := first | decide | assumption | omega) only [go_sem, RdS.len (OS.rd how8_2_0) sl26, RdS.idx (OS.rd how8_2_0) sl26, RdS.cellN (OS.rd how8_2_0), RdS.cells (OS.rd how8_2_0), RdS.len (OS.rd hM) sl26, RdS.idx (OS.rd hM) sl26, RdS.cellN (OS.rd hM), RdS.cells (OS.rd hM), RdS.len (OS.rd hF) sl26, RdS.idx (OS.rd hF) sl26, RdS.cellN (OS.rd hF), RdS.cells (OS.rd hF), RdS.len hr15 sl22, RdS.idx hr15 sl22, R1.intB hr15 (Ext.pres xr16), RdS.cells hr15, wrap_id, hez, hes, Option.map_some, Option.map_none]
      try simp -implicitDefEqProofs (disch := first | decide | assumption | omega) only [go_sem, wrap_id, hez, hes, Option.map_some, Option.map_none]
      refine CallA.mono (clone1_ok _ (((ech p (longP T)).getD k default).take n.toNat) _ (hETk.2.2 _ agS) (by omega)) ?_
      intro vw12_4_0 h12_4
      rintro ⟨zvw12_4_0, fw12_4_0, rfl, how12_4_0, hfw12_4_0, e12_4⟩
      replace agS := Agr.ext agS (OS.lt how8_2_0) e12_4
      replace how8_2_0 := OS.ext how8_2_0 e12_4
      replace hM := OS.ext hM e12_4
      replace hF := OS.ext hF e12_4
      have := Ext.size e12_4
      replace eB := Ext.trans eB e12_4
      replace xr16 := Ext.trans xr16 e12_4
      replace cL10 := Chg.stepE cL10 e12_4
      have hlhow12_4_0 := OS.lt how12_4_0
      try simp (disch := decide) only [outv_some, outv_none, put_puts]
      refine plK_pres (Ext.pres e12_4) ?_
      try simp -implicitDefEqProofs (disch := first | decide | assumption | omega) only [go_sem, wrap_id, hez, hes, Option.map_some, Option.map_none]
      refine op_bs1 sz26 rfl (OS.one how12_4_0).2 ?_
      try simp (disch := decide) only [outv_some, outv_none, put_puts]
      refine plK_pres (Ext.pres (Ext.push _ _)) ?_
      try simp -implicitDefEqProofs (disch := first | decide | assumption | omega) only [go_sem, wrap_id, hez, hes, Option.map_some, Option.map_none]
      refine op_append1 sz26 hM hfhM.nodup how12_4_0 hfw12_4_0.nodup (apart_lt hlhM hfw12_4_0 (by omega)) (by first | omega | (simp; omega)) rfl rfl ?_
      intro v12_6 h12_6 fp12_6 ho12_6 hn12_6 hs12_6 c12_6
      have hsz12_6 := c12_6.size
      have hfho12_6 : Fresh h4.size fp12_6 := Fresh.appd hfhM hfw12_4_0 (by omega) (by omega) hn12_6 hs12_6
      have sb17 : Sub ([h4.size] ++ ([h7_0.size])) h8_2.size fp12_6 := Sub.grow sbhM (Sub.fresh hfw12_4_0 (by omega)) (by omega) hs12_6
      replace agS := Agr.chg agS (OS.lt how8_2_0) c12_6 ap13
      replace how8_2_0 := OS.chg how8_2_0 c12_6 ap13
      replace hF := OS.chg hF c12_6 (Apart.symm ap_hM_hF)
      have := c12_6.size
      replace eB := Ext.then eB c12_6 (ge_of hfhM (by omega))
      replace cL10 := Chg.step cL10 c12_6 sbhM
      have ap18 : Apart fw8_2_0 fp12_6 := Apart.grow hlhow8_2_0 (by omega) ap13 (apart_lt hlhow8_2_0 hfw12_4_0 (by omega)) hs12_6
      have ap19 : Apart fphF fp12_6 := Apart.grow hlhF (by omega) (Apart.symm ap_hM_hF) (apart_lt hlhF hfw12_4_0 (by omega)) hs12_6
      have hlho12_6 := OS.lt ho12_6
      try simp (disch := decide) only [outv_some, outv_none, put_puts]
      refine plK_last (by decide) ?_
      try simp -implicitDefEqProofs (disch := first | decide | assumption | omega) only [go_sem, wrap_id, hez, hes, Option.map_some, Option.map_none]
      try simp -implicitDefEqProofs (disch := first | decide | assumption | omega) only [go_sem, wrap_id, hez, hes, Option.map_some, Option.map_none]
      refine CallA.mono (clone1_ok _ (((ech p (longP T)).getD k default).drop n.toNat) _ (hEDr.2.2 _ agS) (by omega)) ?_
      intro vw12_11_0 h12_11
      rintro ⟨zvw12_11_0, fw12_11_0, rfl, how12_11_0, hfw12_11_0, e12_11⟩
      replace agS := Agr.ext agS (OS.lt how8_2_0) e12_11
      replace how8_2_0 := OS.ext how8_2_0 e12_11
      replace hF := OS.ext hF e12_11
      replace ho12_6 := OS.ext ho12_6 e12_11
      have := Ext.size e12_11
      replace eB := Ext.trans eB e12_11
      replace cL10 := Chg.stepE cL10 e12_11
      have hlhow12_11_0 := OS.lt how12_11_0
      try simp (disch := decide) only [outv_some, outv_none, put_puts]
      refine plK_pres (Ext.pres e12_11) ?_
      try simp -implicitDefEqProofs (disch := first | decide | assumption | omega) only [go_sem, wrap_id, hez, hes, Option.map_some, Option.map_none]
      refine op_bs1 sz26 rfl (OS.one how12_11_0).2 ?_
      try simp (disch := decide) only [outv_some, outv_none, put_puts]
      refine plK_pres (Ext.pres (Ext.push _ _)) ?_
      try simp -implicitDefEqProofs (disch := first | decide | assumption | omega) only [go_sem, wrap_id, hez, hes, Option.map_some, Option.map_none]
      refine op_append1 sz26 hF hfhF.nodup how12_11_0 hfw12_11_0.nodup (apart_lt hlhF hfw12_11_0 (by omega)) (by first | omega | (simp; omega)) rfl rfl ?_
      intro v12_13 h12_13 fp12_13 ho12_13 hn12_13 hs12_13 c12_13
      have hsz12_13 := c12_13.size
      have hfho12_13 : Fresh h7_0.size fp12_13 := Fresh.appd hfhF hfw12_11_0 (by omega) (by omega) hn12_13 hs12_13
      have sb20 : Sub ([h4.size] ++ ([h7_0.size])) h8_2.size fp12_13 := Sub.grow sbhF (Sub.fresh hfw12_11_0 (by omega)) (by omega) hs12_13
      replace agS := Agr.chg agS (OS.lt how8_2_0) c12_13 ap14
      replace how8_2_0 := OS.chg how8_2_0 c12_13 ap14
      replace ho12_6 := OS.chg ho12_6 c12_13 (Apart.symm ap19)
      have := c12_13.size
      replace eB := Ext.then eB c12_13 (ge_of hfhF (by omega))
      replace cL10 := Chg.step cL10 c12_13 sbhF
      have ap21 : Apart fw8_2_0 fp12_13 := Apart.grow hlhow8_2_0 (by omega) ap14 (apart_lt hlhow8_2_0 hfw12_11_0 (by omega)) hs12_13
      have ap22 : Apart fp12_6 fp12_13 := Apart.grow hlho12_6 (by omega) (Apart.symm ap19) (apart_lt hlho12_6 hfw12_11_0 (by omega)) hs12_13
      have hlho12_13 := OS.lt ho12_13
      try simp (disch := decide) only [outv_some, outv_none, put_puts]
      refine plK_last (by decide) ?_
      try simp -implicitDefEqProofs (disch := first | decide | assumption | omega) only [go_sem, RdS.len (OS.rd ho12_6) sl26, RdS.idx (OS.rd ho12_6) sl26, RdS.cellN (OS.rd ho12_6), RdS.cells (OS.rd ho12_6), RdS.len (OS.rd ho12_13) sl26, RdS.idx (OS.rd ho12_13) sl26, RdS.cellN (OS.rd ho12_13), RdS.cells (OS.rd ho12_13), wrap_id, hez, hes, Option.map_some, Option.map_none]
      refine hK _ _ ?_
      clear hK K
      refine den_blk ?_
      refine den_region TTok ?_
      intro K hK
      simp -implicitDefEqProofs (disch := first | decide | assumption | omega) only [go_sem, wrap_id]
      refine hK _ _ ?_
      clear hK K
      refine den_stop ?_
      first | rw [fm_yes (f := srcQ n.toNat) (g := fun r => r.take n.toNat) (d := default) (by omega) (by show (!decide _) = true; rw [← hzt]; simpa using c2)] at ho12_6 | rw [fm_no (f := srcQ n.toNat) (g := fun r => r.take n.toNat) (d := default) (by omega) (by show (!decide _) = false; rw [← hzt]; simpa using c2)] at ho12_6
      first | rw [fm_yes (f := srcQ n.toNat) (g := fun r => r.drop n.toNat) (d := default) (by omega) (by show (!decide _) = true; rw [← hzt]; simpa using c2)] at ho12_13 | rw [fm_no (f := srcQ n.toNat) (g := fun r => r.drop n.toNat) (d := default) (by omega) (by show (!decide _) = false; rw [← hzt]; simpa using c2)] at ho12_13
      exact ⟨(k + 1, v12_6, fp12_6, v12_13, fp12_13), by simp [HasL, puts_at], ⟨by first | omega | (dsimp only; omega), ho12_6, hfho12_6, sb17, ho12_13, hfho12_13, sb20, ap22, cL10⟩, by first | omega | (dsimp only; omega)⟩
     ·try simp only [decide_eq_true_eq, decide_eq_false_iff_not, beq_iff_eq, beq_eq_false_iff_ne, bne_iff_ne, ne_eq, Bool.not_eq_true', Bool.not_eq_false', Bool.and_eq_true, Bool.or_eq_true, bne_eq_false_iff_eq] at c2
      refine den_skip ?_
      refine den_blk ?_
      refine den_region TTok ?_
      intro K hK
      simp -implicitDefEqProofs (disch := first | decide | assumption | omega) only [go_sem, wrap_id]
      refine hK _ _ ?_
      clear hK K
      refine den_stop ?_
      first | rw [fm_yes (f := srcQ n.toNat) (g := fun r => r.take n.toNat) (d := default) (by omega) (by show (!decide _) = true; rw [← hzt]; simpa using c2)] at hM | rw [fm_no (f := srcQ n.toNat) (g := fun r => r.take n.toNat) (d := default) (by omega) (by show (!decide _) = false; rw [← hzt]; simpa using c2)] at hM
      first | rw [fm_yes (f := srcQ n.toNat) (g := fun r => r.drop n.toNat) (d := default) (by omega) (by show (!decide _) = true; rw [← hzt]; simpa using c2)] at hF | rw [fm_no (f := srcQ n.toNat) (g := fun r => r.drop n.toNat) (d := default) (by omega) (by show (!decide _) = false; rw [← hzt]; simpa using c2)] at hF
      exact ⟨(k + 1, vhM, fphM, vhF, fphF), by simp [HasL, puts_at], ⟨by first | omega | (dsimp only; omega), hM, hfhM, sbhM, hF, hfhF, sbhF, ap_hM_hF, cL10⟩, by first | omega | (dsimp only; omega)⟩
    ·try simp only [decide_eq_true_eq, decide_eq_false_iff_not, beq_iff_eq, beq_eq_false_iff_ne, bne_iff_ne, ne_eq, Bool.not_eq_true', Bool.not_eq_false', Bool.and_eq_true, Bool.or_eq_true, bne_eq_false_iff_eq] at c1
     refine den_exit ?_
     refine denX_code ?_
     refine denX_stop ?_
     refine denX_hit ?_
     refine den_seq ?_
     refine den_region TTok ?_
     intro K hK
     simp -implicitDefEqProofs (disch := first | decide | assumption | omega) only [go_sem, RdS.len (OS.rd hM) sl26, RdS.idx (OS.rd hM) sl26, RdS.cellN (OS.rd hM), RdS.cells (OS.rd hM), RdS.len (OS.rd hF) sl26, RdS.idx (OS.rd hF) sl26, RdS.cellN (OS.rd hF), RdS.cells (OS.rd hF), wrap_id]
     refine hK _ _ ?_
     clear hK K
     refine den_ret ?_
     simp (disch := decide) only [resP_2, puts_same, puts_ne]
     rw [List.take_of_length_le (by omega)] at hM hF
     change O2 _ _ (srcM p T n.toNat) _ at hM
     rw [src_made hP hT] at hM
     exact ⟨_, _, _, _, rfl, hM, hfhM.mono (by omega), hF, hfhF.mono (by omega), ap_hM_hF, eB⟩
end Go.Proofs.Ytjjjgllbocgkbaa

namespace Go.Proofs.Ytjjjgllbocgkbaa
open Go
theorem mul36s {x y p : Int} (hx : 0 ≤ x ∧ x < p) (hy : 0 ≤ y ∧ y < p) (hp : p ≤ 7) : 0 ≤ x * y ∧ x * y ≤ 36 := by
 have h1 := Int.mul_nonneg hx.1 hy.1
 have h2 := Int.mul_le_mul (show x ≤ 6 by omega) (show y ≤ 6 by omega) hy.1 (by omega)
 omega

set_option maxRecDepth 100000 in
set_option maxHeartbeats 4000000 in
theorem sBef_ok (vT vu : Value) (p : Int) (T : List (List Int)) (n : Int) (u : List Int) (h : Heap) (rT : R2 h vT T) (ru : R1 h vu u) (hP : isP p = true) (hT : TB p n.toNat T) (hu : u.length = n.toNat ∧ Bnd p u) (hn : 0 ≤ n ∧ n ≤ 24 ∧ T.length = n.toNat) : CallA Try.prog 164 #[.int .i64 p, vT, .int .i64 n, vu] h fun v' h' => ∃ w0 f0, v' = w0 ∧ O1 h' w0 (befL p T n.toNat u) f0 ∧ Fresh h.size f0 ∧ Ext h h' := by
 have hleT := RdS.le rT
 have hleu := RdS.le ru
 have hp := isP_two hP
 have hkerT : TB p n.toNat (T ++ [u]) := fun r hr => by
  rcases List.mem_append.1 hr with h1 | h1
  ·exact hT r h1
  ·rw [List.mem_singleton.1 h1]; exact hu
 have hlen : (T ++ [u]).length = n.toNat + 1 := by simp; omega
 have hkern : n + (1 : Int) = ((T ++ [u]).length : Int) := by omega
 have hkt := kerQ_tb2 hP hkerT
 obtain ⟨lk, hrk⟩ := kerQ_rr hP hkerT
 have hkl := hrk.le_w
 refine callA_intro TTok (args := [_, _, _, _]) Try.func164 (by kernel_rfl) rfl 71 rfl (by simp) [.tmp 8] rfl ?_
 simp only [idxs, Nat.reduceAdd]
 refine den_seq ?_
 refine den_region TTok ?_
 intro K hK
 simp -implicitDefEqProofs (disch := first | decide | assumption | omega) only [go_sem, wrap_id]
 refine hK _ _ ?_
 clear hK K
 refine den_seq ?_
 refine den_region TTok ?_
 intro K hK
 simp -implicitDefEqProofs (disch := first | decide | assumption | omega) only [go_sem, wrap_id]
 refine op_bs0 sz26 O1 ?_
 intro v1_0 h1_0 ho1_0 e1_0
 have := Ext.size e1_0
 have eB := e1_0
 have hfho1_0 : Fresh h.size [h.size] := Fresh.one _
 have hlho1_0 := OS.lt ho1_0
 try simp -implicitDefEqProofs (disch := first | decide | assumption | omega) only [go_sem, RdS.len rT sl26, RdS.idx rT sl26, RdS.cellB rT (Ext.pres eB), RdS.cells rT, wrap_id]
 replace ho1_0 : O2R h _ _ _ _ := O2R.nil ho1_0
 refine op_appendM sz26 ho1_0 hfho1_0.nodup (RdS.pres rT (Ext.pres eB)) rfl (fun j hj => (ER.row (H := h1_0) rT eB hj).2.1.1) (fun j hj h'' => by rw [getD_elemR hj]; exact ER.row rT eB hj) (by first | omega | (simp; omega)) rfl ?_
 intro v1_2 h1_2 fp1_2 ho1_2 hn1_2 hs1_2 c1_2
 have hsz1_2 := c1_2.size
 have hfho1_2 : Fresh h.size fp1_2 := Fresh.appd hfho1_0 (Fresh.nil h1_0.size) (by omega) (by omega) hn1_2 hs1_2
 have := c1_2.size
 replace eB := Ext.then eB c1_2 (ge_of hfho1_0 (by omega))
 have hlho1_2 := OS.lt ho1_2
 rw [List.nil_append] at ho1_2
 try simp -implicitDefEqProofs (disch := first | decide | assumption | omega) only [go_sem, RdS.len ru sl22, RdS.idx ru sl22, R1.intB ru (Ext.pres eB), RdS.cells ru, wrap_id]
 refine op_bs1 sz26 rfl (RdS.cells ru) ?_
 try simp -implicitDefEqProofs (disch := first | decide | assumption | omega) only [go_sem, wrap_id]
 refine op_append1 sz26 ho1_2 hfho1_2.nodup (ER.one ru) List.nodup_nil (Apart.nil _) (by first | omega | (simp; omega)) rfl rfl ?_
 intro v1_5 h1_5 fp1_5 ho1_5 hn1_5 hs1_5 c1_5
 have hsz1_5 := c1_5.size
 have hfho1_5 : Fresh h.size fp1_5 := Fresh.appd hfho1_2 (Fresh.nil h1_2.size) (by omega) (by omega) hn1_5 hs1_5
 have := c1_5.size
 replace eB := Ext.then eB c1_5 (ge_of hfho1_2 (by omega))
 have hlho1_5 := OS.lt ho1_5
 try simp -implicitDefEqProofs (disch := first | decide | assumption | omega) only [go_sem, wrap_id]
 refine hK _ _ ?_
 clear hK K
 refine den_seq ?_
 refine den_region TTok ?_
 intro K hK
 simp -implicitDefEqProofs (disch := first | decide | assumption | omega) only [go_sem, wrap_id]
 try simp -implicitDefEqProofs (disch := first | decide | assumption | omega) only [go_sem, wrap_id]
 refine CallA.mono (sKernel_ok _ p (n + (1 : Int)) (T ++ [u]) _ (O2R.rd ho1_5 eB) hP hkerT (by omega) (by omega) hkern) ?_
 intro vw2_4_0 h2_4
 rintro ⟨zvw2_4_0, fw2_4_0, rfl, how2_4_0, hfw2_4_0, e2_4⟩
 replace ho1_5 := OS.ext ho1_5 e2_4
 have := Ext.size e2_4
 replace eB := Ext.trans eB e2_4
 have hlhow2_4_0 := OS.lt how2_4_0
 try simp -implicitDefEqProofs (disch := first | decide | assumption | omega) only [go_sem, RdS.len (OS.rd how2_4_0) sl26, RdS.idx (OS.rd how2_4_0) sl26, RdS.cellN (OS.rd how2_4_0), RdS.cells (OS.rd how2_4_0), wrap_id]
 refine hK _ _ ?_
 clear hK K
 refine den_seq ?_
 refine den_seq ?_
 refine den_region TTok ?_
 intro K hK
 simp -implicitDefEqProofs (disch := first | decide | assumption | omega) only [go_sem, wrap_id]
 refine hK _ _ ?_
 clear hK K
 refine den_block ?_
 refine den_sel [11, 0, 2, 10] ?_
 intro env_1
 simp only [go_sem]
 refine den_loopS (σ := Nat) (fun st_ => [(11, .int .i64 (st_ : Int))]) (fun st_ H => (st_ ≤ (kerQ p (T ++ [u])).length) ∧ (∀ j, j < st_ → ((kerQ p (T ++ [u])).getD j default).getD n.toNat 0 = 0) ∧ (Ext h2_4 H)) (fun st_ => (kerQ p (T ++ [u])).length - st_) 0 ?_ ?_
 ·exact ⟨by omega, fun j h => by omega, Ext.refl _⟩
 ·rintro k h4 ee3 ⟨hk0, hz, cL2⟩
  replace how2_4_0 := OS.ext how2_4_0 cL2
  have := Ext.size cL2
  replace eB := Ext.trans eB cL2
  simp only [List.cons_append, List.nil_append]
  refine den_seq ?_
  refine den_seq ?_
  refine den_region TTok ?_
  intro K hK
  simp -implicitDefEqProofs (disch := first | decide | assumption | omega) only [go_sem, RdS.len (OS.rd how2_4_0) sl26, RdS.idx (OS.rd how2_4_0) sl26, RdS.cellN (OS.rd how2_4_0), RdS.cells (OS.rd how2_4_0), wrap_id]
  refine hK _ _ ?_
  clear hK K
  refine den_cond rfl (fun c0 => ?_) (fun c0 => ?_)
  ·try simp only [decide_eq_true_eq, decide_eq_false_iff_not, beq_iff_eq, beq_eq_false_iff_ne, bne_iff_ne, ne_eq, Bool.not_eq_true', Bool.not_eq_false', Bool.and_eq_true, Bool.or_eq_true, bne_eq_false_iff_eq] at c0
   refine den_skip ?_
   refine den_seq ?_
   refine den_block ?_
   refine den_seq ?_
   have hkr := hkt _ (getD_mem (k := k) (by omega))
   have hxb := hkr.2.at (k := n.toNat) (by omega)
   refine den_region TTok ?_
   intro K hK
   have hr5 := RdS.rowN (OS.rd how2_4_0) k (by omega)
   have hlhr5 := RdS.le hr5
   have xr6 := Ext.refl h4
   simp -implicitDefEqProofs (disch := first | decide | assumption | omega) only [go_sem, ld22, ld2, RdS.len (OS.rd how2_4_0) sl26, RdS.idx (OS.rd how2_4_0) sl26, RdS.cellN (OS.rd how2_4_0), RdS.cells (OS.rd how2_4_0), RdS.len hr5 sl22, RdS.idx hr5 sl22, R1.intB hr5 (Ext.pres xr6), RdS.cells hr5, wrap_id]
   refine hK _ _ ?_
   clear hK K
   refine den_seq ?_
   refine den_region TTok ?_
   intro K hK
   simp -implicitDefEqProofs (disch := first | decide | assumption | omega) only [go_sem, wrap_id]
   refine hK _ _ ?_
   clear hK K
   refine den_cond rfl (fun c1 => ?_) (fun c1 => ?_)
   ·try simp only [decide_eq_true_eq, decide_eq_false_iff_not, beq_iff_eq, beq_eq_false_iff_ne, bne_iff_ne, ne_eq, Bool.not_eq_true', Bool.not_eq_false', Bool.and_eq_true, Bool.or_eq_true, bne_eq_false_iff_eq] at c1
    have hi_ := invP_ok hP (x := ((kerQ p (T ++ [u])).getD k default).getD n.toNat 0) (by omega) (by omega)
    have hfb : 0 ≤ (((0 : Int) - invP p (((kerQ p (T ++ [u])).getD k default).getD n.toNat 0)) % p) ∧ (((0 : Int) - invP p (((kerQ p (T ++ [u])).getD k default).getD n.toNat 0)) % p) < p := ⟨Int.emod_nonneg _ (by omega), Int.emod_lt_of_pos _ (by omega)⟩
    refine den_seq ?_
    refine den_region TTok ?_
    intro K hK
    simp -implicitDefEqProofs (disch := first | decide | assumption | omega) only [go_sem, wrap_id]
    refine op_bs0 sz22 OI ?_
    intro v8_0 h8_0 ho8_0 e8_0
    replace how2_4_0 := OS.ext how2_4_0 e8_0
    have := Ext.size e8_0
    replace eB := Ext.trans eB e8_0
    replace xr6 := Ext.trans xr6 e8_0
    replace cL2 := Ext.trans cL2 e8_0
    have hfho8_0 : Fresh h4.size [h4.size] := Fresh.one _
    have hlho8_0 := OS.lt ho8_0
    try simp -implicitDefEqProofs (disch := first | decide | assumption | omega) only [go_sem, wrap_id]
    try simp -implicitDefEqProofs (disch := first | decide | assumption | omega) only [go_sem, wrap_id]
    refine CallA.mono (sInv_ok  p (((kerQ p (T ++ [u])).getD k default).getD (n).toNat 0) _  hP (by omega)) ?_
    intro v_ h8_4
    rintro ⟨rfl, e8_4⟩
    replace how2_4_0 := OS.ext how2_4_0 e8_4
    replace ho8_0 := OS.ext ho8_0 e8_4
    have := Ext.size e8_4
    replace eB := Ext.trans eB e8_4
    replace xr6 := Ext.trans xr6 e8_4
    replace cL2 := Ext.trans cL2 e8_4
    try simp -implicitDefEqProofs (disch := first | decide | assumption | omega) only [go_sem, wrap_id]
    try simp -implicitDefEqProofs (disch := first | decide | assumption | omega) only [go_sem, wrap_id]
    refine CallA.mono (sMod_ok  p ((0 : Int) - invP p (((kerQ p (T ++ [u])).getD k default).getD n.toNat 0)) _  (by omega) (by omega)) ?_
    intro v_ h8_6
    rintro ⟨rfl, e8_6⟩
    replace how2_4_0 := OS.ext how2_4_0 e8_6
    replace ho8_0 := OS.ext ho8_0 e8_6
    have := Ext.size e8_6
    replace eB := Ext.trans eB e8_6
    replace xr6 := Ext.trans xr6 e8_6
    replace cL2 := Ext.trans cL2 e8_6
    try simp -implicitDefEqProofs (disch := first | decide | assumption | omega) only [go_sem, RdS.len (OS.rd ho8_0) sl22, RdS.idx (OS.rd ho8_0) sl22, R1.intN (OS.rd ho8_0), RdS.cells (OS.rd ho8_0), wrap_id]
    refine hK _ _ ?_
    clear hK K
    refine den_seq ?_
    refine den_seq ?_
    refine den_region TTok ?_
    intro K hK
    simp -implicitDefEqProofs (disch := first | decide | assumption | omega) only [go_sem, wrap_id]
    refine hK _ _ ?_
    clear hK K
    refine den_block ?_
    refine den_sel [13, 15, 0, 2, 10, 11, 14] ?_
    intro env_7
    simp only [go_sem]
    refine den_loopS (σ := Nat × Value × List Nat) (fun st_ => [(13, st_.2.1), (15, .int .i64 (st_.1 : Int))]) (fun st_ H => ((st_.1 : Int) ≤ n) ∧ (O1 H st_.2.1 ((List.range st_.1).map (fun z : Nat => (((kerQ p (T ++ [u])).getD k default).getD z 0 * (((0 : Int) - invP p (((kerQ p (T ++ [u])).getD k default).getD n.toNat 0)) % p)) % p)) st_.2.2) ∧ (Fresh (h4.size) st_.2.2) ∧ (Sub [h4.size] h8_6.size st_.2.2) ∧ (Chg [h4.size] h8_6 H)) (fun st_ => n.toNat - st_.1) (0, v8_0, [h4.size]) ?_ ?_
    ·exact ⟨by first | (simp; done) | (dsimp only; omega) | (simp; omega), by simpa using ho8_0, hfho8_0, Sub.refl, Chg.refl _ _⟩
    ·rintro ⟨q, vhO, fphO⟩ h10 ee9 ⟨hi0, hO, hfhO, sbhO, cL8⟩
     dsimp only at hi0 hO hfhO sbhO cL8
     replace how2_4_0 := OS.chg how2_4_0 cL8 (apart_lt hlhow2_4_0 hfho8_0 (by omega))
     have := cL8.size
     replace eB := Ext.then eB cL8 (ge_of hfho8_0 (by omega))
     replace xr6 := Ext.then xr6 cL8 (ge_of hfho8_0 (by omega))
     replace cL2 := Ext.then cL2 cL8 (ge_of hfho8_0 (by omega))
     have hlhO := OS.lt hO
     simp only [List.cons_append, List.nil_append]
     refine den_seq ?_
     refine den_seq ?_
     refine den_region TTok ?_
     intro K hK
     simp -implicitDefEqProofs (disch := first | decide | assumption | omega) only [go_sem, wrap_id]
     refine hK _ _ ?_
     clear hK K
     refine den_cond rfl (fun c2 => ?_) (fun c2 => ?_)
     ·try simp only [decide_eq_true_eq, decide_eq_false_iff_not, beq_iff_eq, beq_eq_false_iff_ne, bne_iff_ne, ne_eq, Bool.not_eq_true', Bool.not_eq_false', Bool.and_eq_true, Bool.or_eq_true, bne_eq_false_iff_eq] at c2
      refine den_skip ?_
      refine den_seq ?_
      refine den_block ?_
      have hqb := hkr.2.at (k := q) (by omega)
      have hq36 := mul36s hqb hfb hp.2
      have hqe := tmod_e (p := p) hq36.1
      have hmt : ((List.range q).map (fun z : Nat => (((kerQ p (T ++ [u])).getD k default).getD z 0 * (((0 : Int) - invP p (((kerQ p (T ++ [u])).getD k default).getD n.toNat 0)) % p)) % p)).length ≤ 24 := by rw [List.length_map, List.length_range]; omega
      refine den_region TTok ?_
      intro K hK
      have hr11 := RdS.rowN (OS.rd how2_4_0) k (by omega)
      have hlhr11 := RdS.le hr11
      have xr12 := Ext.refl h10
      simp -implicitDefEqProofs (disch := first | decide | assumption | omega) only [go_sem, ld22, ld2, RdS.len (OS.rd how2_4_0) sl26, RdS.idx (OS.rd how2_4_0) sl26, RdS.cellN (OS.rd how2_4_0), RdS.cells (OS.rd how2_4_0), RdS.len (OS.rd hO) sl22, RdS.idx (OS.rd hO) sl22, R1.intN (OS.rd hO), RdS.cells (OS.rd hO), RdS.len hr11 sl22, RdS.idx hr11 sl22, R1.intB hr11 (Ext.pres xr12), RdS.cells hr11, wrap_id]
      refine op_bs1 sz22 rfl rfl ?_
      try simp -implicitDefEqProofs (disch := first | decide | assumption | omega) only [go_sem, wrap_id]
      refine op_append1 sz22 hO hfhO.nodup ⟨rfl, rfl⟩ List.nodup_nil (Apart.nil _) (by first | omega | (simp; omega)) rfl rfl ?_
      intro v12_13 h12_13 fp12_13 ho12_13 hn12_13 hs12_13 c12_13
      have hsz12_13 := c12_13.size
      have hfho12_13 : Fresh h4.size fp12_13 := Fresh.appd hfhO (Fresh.nil h10.size) (by omega) (by omega) hn12_13 hs12_13
      have sb13 : Sub [h4.size] h8_6.size fp12_13 := Sub.grow sbhO Sub.nil (by omega) hs12_13
      replace how2_4_0 := OS.chg how2_4_0 c12_13 (apart_lt hlhow2_4_0 hfhO (by omega))
      have := c12_13.size
      replace eB := Ext.then eB c12_13 (ge_of hfhO (by omega))
      replace xr6 := Ext.then xr6 c12_13 (ge_of hfhO (by omega))
      replace cL2 := Ext.then cL2 c12_13 (ge_of hfhO (by omega))
      replace cL8 := Chg.step cL8 c12_13 sbhO
      have hlho12_13 := OS.lt ho12_13
      try simp -implicitDefEqProofs (disch := first | decide | assumption | omega) only [go_sem, RdS.len (OS.rd ho12_13) sl22, RdS.idx (OS.rd ho12_13) sl22, R1.intN (OS.rd ho12_13), RdS.cells (OS.rd ho12_13), wrap_id]
      refine hK _ _ ?_
      clear hK K
      refine den_blk ?_
      refine den_region TTok ?_
      intro K hK
      simp -implicitDefEqProofs (disch := first | decide | assumption | omega) only [go_sem, wrap_id]
      refine hK _ _ ?_
      clear hK K
      refine den_stop ?_
      rw [hqe, range_step (fun z : Nat => (((kerQ p (T ++ [u])).getD k default).getD z 0 * (((0 : Int) - invP p (((kerQ p (T ++ [u])).getD k default).getD n.toNat 0)) % p)) % p) q] at ho12_13
      exact ⟨(q + 1, v12_13, fp12_13), by simp [HasL, puts_at], ⟨by first | omega | (dsimp only; omega), ho12_13, hfho12_13, sb13, cL8⟩, by first | omega | (dsimp only; omega)⟩
     ·try simp only [decide_eq_true_eq, decide_eq_false_iff_not, beq_iff_eq, beq_eq_false_iff_ne, bne_iff_ne, ne_eq, Bool.not_eq_true', Bool.not_eq_false', Bool.and_eq_true, Bool.or_eq_true, bne_eq_false_iff_eq] at c2
      refine den_exit ?_
      refine denX_code ?_
      refine denX_stop ?_
      refine denX_hit ?_
      refine den_seq ?_
      refine den_region TTok ?_
      intro K hK
      simp -implicitDefEqProofs (disch := first | decide | assumption | omega) only [go_sem, RdS.len (OS.rd hO) sl22, RdS.idx (OS.rd hO) sl22, R1.intN (OS.rd hO), RdS.cells (OS.rd hO), wrap_id]
      refine hK _ _ ?_
      clear hK K
      refine den_ret ?_
      simp (disch := decide) only [resP_1, puts_same, puts_ne]
      have hz2 : befL p T n.toNat u = (List.range q).map (fun z : Nat => (((kerQ p (T ++ [u])).getD k default).getD z 0 * (((0 : Int) - invP p (((kerQ p (T ++ [u])).getD k default).getD n.toNat 0)) % p)) % p) := by
       rw [befL, find_hit (k := k) (d := default) (by omega) (fun j hj => by have := hz j hj; rw [this]; rfl) (by simpa using c1), show q = n.toNat by omega]; simp only [befP, Int.zero_sub]
      rw [hz2]
      exact ⟨_, _, rfl, hO, hfhO.mono (by omega), eB⟩
   ·try simp only [decide_eq_true_eq, decide_eq_false_iff_not, beq_iff_eq, beq_eq_false_iff_ne, bne_iff_ne, ne_eq, Bool.not_eq_true', Bool.not_eq_false', Bool.and_eq_true, Bool.or_eq_true, bne_eq_false_iff_eq] at c1
    refine den_skip ?_
    refine den_blk ?_
    refine den_region TTok ?_
    intro K hK
    simp -implicitDefEqProofs (disch := first | decide | assumption | omega) only [go_sem, wrap_id]
    refine hK _ _ ?_
    clear hK K
    refine den_stop ?_
    exact ⟨k + 1, by simp [HasL, puts_at], ⟨by first | omega | (dsimp only; omega), fun j hj => by
 by_cases hjk : j < k
 ·exact hz j hjk
 ·rw [show j = k by omega]; simpa using c1, cL2⟩, by first | omega | (dsimp only; omega)⟩
  ·try simp only [decide_eq_true_eq, decide_eq_false_iff_not, beq_iff_eq, beq_eq_false_iff_ne, bne_iff_ne, ne_eq, Bool.not_eq_true', Bool.not_eq_false', Bool.and_eq_true, Bool.or_eq_true, bne_eq_false_iff_eq] at c0
   refine den_exit ?_
   refine denX_code ?_
   refine denX_stop ?_
   refine denX_hit ?_
   refine den_seq ?_
   refine den_region TTok ?_
   intro K hK
   simp -implicitDefEqProofs (disch := first | decide | assumption | omega) only [go_sem, wrap_id]
   refine op_make sz22 rfl rfl (by omega) (by omega) OI 0 (fun _ => ⟨rfl, rfl⟩) ?_
   intro v14_1 h14_1 ho14_1 e14_1
   have := Ext.size e14_1
   replace eB := Ext.trans eB e14_1
   have hfho14_1 : Fresh h4.size [h4.size] := Fresh.one _
   have hlenho14_1 : (List.replicate (n).toNat (0 : Int)).length = (n).toNat := List.length_replicate
   have hlho14_1 := OS.lt ho14_1
   try simp -implicitDefEqProofs (disch := first | decide | assumption | omega) only [go_sem, RdS.len (OS.rd ho14_1) sl22, RdS.idx (OS.rd ho14_1) sl22, R1.intN (OS.rd ho14_1), RdS.cells (OS.rd ho14_1), wrap_id]
   refine hK _ _ ?_
   clear hK K
   refine den_ret ?_
   simp (disch := decide) only [resP_1, puts_same, puts_ne]
   have hz2 : befL p T n.toNat u = List.replicate n.toNat 0 := by
    rw [befL, find_none (d := default) (fun j hj => by have := hz j (by omega); rw [this]; rfl)]
   rw [hz2]
   exact ⟨_, _, rfl, ho14_1, hfho14_1.mono (by omega), eB⟩
end Go.Proofs.Ytjjjgllbocgkbaa

namespace Go.Proofs.Ytjjjgllbocgkbaa
open Go
theorem bP0 : buildV TT 53 [] = some (.agg #[.int .i64 0, .int .i64 0, .int .i64 0, .slice none 0 0, .slice none 0 0, .slice none 0 0]) := by kernel_rfl
theorem bP3 (p d e : Int) : buildV TT 53 [(0, .int .i64 p), (1, .int .i64 d), (2, .int .i64 e)] = some (.agg #[.int .i64 p, .int .i64 d, .int .i64 e, .slice none 0 0, .slice none 0 0, .slice none 0 0]) := by kernel_rfl
theorem bP6 {v w x : Value} (hv : ∃ A n c, v = .slice A n c) (hw : ∃ A n c, w = .slice A n c) (hx : ∃ A n c, x = .slice A n c) (p d e : Int) : buildV TT 53 [(0, .int .i64 p), (1, .int .i64 d), (2, .int .i64 e), (3, v), (4, w), (5, x)] = some (.agg #[.int .i64 p, .int .i64 d, .int .i64 e, v, w, x]) := by
 obtain ⟨A, n, c, rfl⟩ := hv
 obtain ⟨A', n', c', rfl⟩ := hw
 obtain ⟨B, m, b, rfl⟩ := hx
 kernel_rfl

set_option maxRecDepth 100000 in
set_option maxHeartbeats 4000000 in
theorem iDer_ok (vX : Value) (X : Cp) (h : Heap) (rX : RP h vX X) (hE : Ex3 X) : CallA Try.prog 102 #[vX] h fun v' h' => ∃ wi0 wj0 wk0 fi0 fj0 fk0, v' = .agg #[.int .i64 (dcp X).p, .int .i64 (dcp X).d, .int .i64 (dcp X).e, wi0, wj0, wk0] ∧ O2 h' wi0 (dcp X).i fi0 ∧ O2 h' wj0 (dcp X).j fj0 ∧ O2 h' wk0 (dcp X).k fk0 ∧ Fresh h.size (fi0 ++ (fj0 ++ fk0)) ∧ Ext h h' := by
 obtain ⟨viX, vjX, vkX, rfl, hiX, hjX, hkX⟩ := rX
 have hleiX := RdS.le hiX
 have hlejX := RdS.le hjX
 have hlekX := RdS.le hkX
 have hC := hE.c
 have hP := hC.p
 have hp := hC.pos
 have hd := hC.d
 have he := hC.e
 have hll := hC.lens
 have hpb := isP_bnd hC.p
 obtain ⟨⟨lm, rm⟩, _⟩ := md_red hC
 obtain ⟨⟨lb, rb⟩, _⟩ := bd_red hC
 obtain ⟨⟨lc, rc⟩, _⟩ := cl_red hC
 have hml := rm.le_w
 have hbl := rb.le_w
 have hcl := rc.le_w
 have hsf := srcF_len hC
 have hdl := df_len X
 have hcyt := cy_tb hC
 have hnil : Rr X.p X.d.toNat [] (fun i => i) := Rr.nil
 obtain ⟨lk, hky⟩ := kerQ_rr hC.p (df_tb hC)
 have hkyl := hky.le_w
 have hcyl : (cyL X).length ≤ (dfL X).length := hkyl
 refine callA_intro TTok (args := [_]) Try.func102 (by kernel_rfl) rfl 107 rfl (by simp) [.cell 2 53] rfl ?_
 simp only [idxs, Nat.reduceAdd]
 refine den_seq ?_
 refine den_region TTok ?_
 intro K hK
 simp -implicitDefEqProofs (disch := first | decide | assumption | omega) only [go_sem, wrap_id, bP0, bP3]
 refine op_box (cs := #[.int .i64 (X.p), .int .i64 (X.d), .int .i64 (X.e), viX, vjX, vkX]) rfl ?_
 intro h0_0 e0_0 hb0_0 z0_0
 have := Ext.size e0_0
 have eB := e0_0
 have hfhb0_0 : Fresh h.size [h.size] := Fresh.one _
 have hlhb0_0 := one_lt (show h.size < h0_0.size by omega)
 try simp -implicitDefEqProofs (disch := first | decide | assumption | omega) only [go_sem, wrap_id, bP0, bP3]
 refine op_alloc (cs := #[.int .i64 0, .int .i64 0, .int .i64 0, .slice none 0 0, .slice none 0 0, .slice none 0 0]) (by kernel_rfl) ?_
 intro h0_1 e0_1 hb0_1 z0_1
 replace hb0_0 := BoxAt.ext hb0_0 e0_1
 have := Ext.size e0_1
 replace eB := Ext.trans eB e0_1
 have hfhb0_1 : Fresh h0_0.size [h0_0.size] := Fresh.one _
 have hlhb0_1 := one_lt (show h0_0.size < h0_1.size by omega)
 try simp -implicitDefEqProofs (disch := first | decide | assumption | omega) only [go_sem, BoxAt.cell hb0_1, wrap_id, bP0, bP3]
 refine hK _ _ ?_
 clear hK K
 refine den_seq ?_
 refine den_draw TTok mixed [] [(0, true), (1, true), (2, true), (3, false), (4, true), (5, true)] (by kernel_rfl) ?_
 intro K hK
 simp -implicitDefEqProofs (disch := first | decide | assumption | omega) only [go_sem, fa53_0, ld2, ld53, RdS.len hiX sl26, RdS.idx hiX sl26, RdS.cellB hiX (Ext.pres eB), RdS.cells hiX, RdS.len hjX sl26, RdS.idx hjX sl26, RdS.cellB hjX (Ext.pres eB), RdS.cells hjX, RdS.len hkX sl26, RdS.idx hkX sl26, RdS.cellB hkX (Ext.pres eB), RdS.cells hkX, BoxAt.cell hb0_0, wrap_id, bP0, bP3]
 try simp -implicitDefEqProofs (disch := first | decide | assumption | omega) only [go_sem, BoxAt.cell hb0_1, wrap_id, bP0, bP3]
 refine CallA.mono (iDf_ok _ X _ ⟨_, _, _, rfl, (RdS.pres hiX (Ext.pres eB)), (RdS.pres hjX (Ext.pres eB)), (RdS.pres hkX (Ext.pres eB))⟩ hC) ?_
 intro vw1_3_0 h1_3
 rintro ⟨zvw1_3_0, fw1_3_0, rfl, how1_3_0, hfw1_3_0, e1_3⟩
 replace hb0_0 := BoxAt.ext hb0_0 e1_3
 replace hb0_1 := BoxAt.ext hb0_1 e1_3
 have := Ext.size e1_3
 replace eB := Ext.trans eB e1_3
 have hlhow1_3_0 := OS.lt how1_3_0
 try simp (disch := decide) only [outv_some, outv_none, put_puts]
 refine plK_pres (Ext.pres e1_3) ?_
 try simp -implicitDefEqProofs (disch := first | decide | assumption | omega) only [go_sem, RdS.len (OS.rd how1_3_0) sl26, RdS.idx (OS.rd how1_3_0) sl26, RdS.cellN (OS.rd how1_3_0), RdS.cells (OS.rd how1_3_0), wrap_id, bP0, bP3]
 refine hK _ _ ?_
 clear hK K
 refine den_seq ?_
 refine den_region TTok ?_
 intro K hK
 simp -implicitDefEqProofs (disch := first | decide | assumption | omega) only [go_sem, fa53_1, fa53_3, ld26, ld2, RdS.len hiX sl26, RdS.idx hiX sl26, RdS.cellB hiX (Ext.pres eB), RdS.cells hiX, RdS.len hjX sl26, RdS.idx hjX sl26, RdS.cellB hjX (Ext.pres eB), RdS.cells hjX, RdS.len hkX sl26, RdS.idx hkX sl26, RdS.cellB hkX (Ext.pres eB), RdS.cells hkX, BoxAt.cell hb0_0, wrap_id, bP0, bP3]
 try simp -implicitDefEqProofs (disch := first | decide | assumption | omega) only [go_sem, BoxAt.cell hb0_1, wrap_id, bP0, bP3]
 refine CallA.mono (iSrc_ok _ X.p X.d X.i _ (RdS.pres hiX (Ext.pres eB)) hC.p hC.ir (by omega)) ?_
 intro v_ h2_5
 rintro ⟨vw2_5_0, fw2_5_0, vw2_5_1, fw2_5_1, rfl, how2_5_0, hfw2_5_0, how2_5_1, hfw2_5_1, hap2_5_0_1, e2_5⟩
 replace how1_3_0 := OS.ext how1_3_0 e2_5
 replace hb0_0 := BoxAt.ext hb0_0 e2_5
 replace hb0_1 := BoxAt.ext hb0_1 e2_5
 have := Ext.size e2_5
 replace eB := Ext.trans eB e2_5
 have hlhow2_5_0 := OS.lt how2_5_0
 have hlhow2_5_1 := OS.lt how2_5_1
 have ap1 : Apart fw2_5_0 fw2_5_1 := hap2_5_0_1
 try simp -implicitDefEqProofs (disch := first | decide | assumption | omega) only [go_sem, RdS.len (OS.rd how2_5_0) sl26, RdS.idx (OS.rd how2_5_0) sl26, RdS.cellN (OS.rd how2_5_0), RdS.cells (OS.rd how2_5_0), RdS.len (OS.rd how2_5_1) sl26, RdS.idx (OS.rd how2_5_1) sl26, RdS.cellN (OS.rd how2_5_1), RdS.cells (OS.rd how2_5_1), wrap_id, bP0, bP3]
 refine hK _ _ ?_
 clear hK K
 refine den_seq ?_
 change O2 _ _ (mdL X) _ at how2_5_0
 have hredT := df_tb hC
 have hkerT := df_tb hC
 refine den_region TTok ?_
 intro K hK
 simp -implicitDefEqProofs (disch := first | decide | assumption | omega) only [go_sem, RdS.len (OS.rd how1_3_0) sl26, RdS.idx (OS.rd how1_3_0) sl26, RdS.cellN (OS.rd how1_3_0), RdS.cells (OS.rd how1_3_0), wrap_id, bP0, bP3]
 try simp -implicitDefEqProofs (disch := first | decide | assumption | omega) only [go_sem, BoxAt.cell hb0_1, wrap_id, bP0, bP3]
 refine CallA.mono (iReduce_ok _ X.p (dfL X) _ (OS.rd how1_3_0) hP hredT (by omega) (by omega)) ?_
 intro vw3_2_0 h3_2
 rintro ⟨zvw3_2_0, fw3_2_0, rfl, how3_2_0, hfw3_2_0, e3_2⟩
 replace how1_3_0 := OS.ext how1_3_0 e3_2
 replace how2_5_0 := OS.ext how2_5_0 e3_2
 replace how2_5_1 := OS.ext how2_5_1 e3_2
 replace hb0_0 := BoxAt.ext hb0_0 e3_2
 replace hb0_1 := BoxAt.ext hb0_1 e3_2
 have := Ext.size e3_2
 replace eB := Ext.trans eB e3_2
 have hlhow3_2_0 := OS.lt how3_2_0
 try simp -implicitDefEqProofs (disch := first | decide | assumption | omega) only [go_sem, RdS.len (OS.rd how3_2_0) sl26, RdS.idx (OS.rd how3_2_0) sl26, RdS.cellN (OS.rd how3_2_0), RdS.cells (OS.rd how3_2_0), wrap_id, bP0, bP3]
 refine hK _ _ ?_
 clear hK K
 refine den_seq ?_
 change O2 _ _ (bdL X) _ at how3_2_0
 have hkerT := df_tb hC
 have hapB := rb
 have hapT : ∀ r ∈ kerQ X.p (dfL X), r.length = X.e.toNat ∧ Bnd X.p r := cy_tb hC
 have hapw : X.e.toNat ≤ 1000 ∧ (kerQ X.p (dfL X)).length ≤ 1000 := ⟨by omega, by omega⟩
 refine den_region TTok ?_
 intro K hK
 simp -implicitDefEqProofs (disch := first | decide | assumption | omega) only [go_sem, RdS.len (OS.rd how1_3_0) sl26, RdS.idx (OS.rd how1_3_0) sl26, RdS.cellN (OS.rd how1_3_0), RdS.cells (OS.rd how1_3_0), wrap_id, bP0, bP3]
 try simp -implicitDefEqProofs (disch := first | decide | assumption | omega) only [go_sem, BoxAt.cell hb0_1, wrap_id, bP0, bP3]
 refine CallA.mono (iKernel_ok _ X.p (dfL X) _ (OS.rd how1_3_0) hP hkerT (by omega) (by omega)) ?_
 intro vw4_3_0 h4_3
 rintro ⟨zvw4_3_0, fw4_3_0, rfl, how4_3_0, hfw4_3_0, e4_3⟩
 replace how1_3_0 := OS.ext how1_3_0 e4_3
 replace how2_5_0 := OS.ext how2_5_0 e4_3
 replace how2_5_1 := OS.ext how2_5_1 e4_3
 replace how3_2_0 := OS.ext how3_2_0 e4_3
 replace hb0_0 := BoxAt.ext hb0_0 e4_3
 replace hb0_1 := BoxAt.ext hb0_1 e4_3
 have := Ext.size e4_3
 replace eB := Ext.trans eB e4_3
 have hlhow4_3_0 := OS.lt how4_3_0
 try simp -implicitDefEqProofs (disch := first | decide | assumption | omega) only [go_sem, RdS.len (OS.rd how3_2_0) sl26, RdS.idx (OS.rd how3_2_0) sl26, RdS.cellN (OS.rd how3_2_0), RdS.cells (OS.rd how3_2_0), wrap_id, bP0, bP3]
 try simp -implicitDefEqProofs (disch := first | decide | assumption | omega) only [go_sem, BoxAt.cell hb0_1, wrap_id, bP0, bP3]
 refine CallA.mono (iApart_ok _ _ X.p (kerQ X.p (dfL X)) (bdL X) _ (OS.rd how4_3_0) (OS.rd how3_2_0) hP hapB hapT hapw) ?_
 intro vw4_5_0 h4_5
 rintro ⟨zvw4_5_0, fw4_5_0, rfl, how4_5_0, hfw4_5_0, e4_5⟩
 replace how1_3_0 := OS.ext how1_3_0 e4_5
 replace how2_5_0 := OS.ext how2_5_0 e4_5
 replace how2_5_1 := OS.ext how2_5_1 e4_5
 replace how3_2_0 := OS.ext how3_2_0 e4_5
 replace how4_3_0 := OS.ext how4_3_0 e4_5
 replace hb0_0 := BoxAt.ext hb0_0 e4_5
 replace hb0_1 := BoxAt.ext hb0_1 e4_5
 have := Ext.size e4_5
 replace eB := Ext.trans eB e4_5
 have hlhow4_5_0 := OS.lt how4_5_0
 try simp -implicitDefEqProofs (disch := first | decide | assumption | omega) only [go_sem, RdS.len (OS.rd how4_5_0) sl26, RdS.idx (OS.rd how4_5_0) sl26, RdS.cellN (OS.rd how4_5_0), RdS.cells (OS.rd how4_5_0), wrap_id, bP0, bP3]
 refine hK _ _ ?_
 clear hK K
 refine den_seq ?_
 change O2 _ _ (clL X) _ at how4_5_0
 refine den_region TTok ?_
 intro K hK
 simp -implicitDefEqProofs (disch := first | decide | assumption | omega) only [go_sem, RdS.len (OS.rd how2_5_0) sl26, RdS.idx (OS.rd how2_5_0) sl26, RdS.cellN (OS.rd how2_5_0), RdS.cells (OS.rd how2_5_0), wrap_id, bP0, bP3]
 try simp -implicitDefEqProofs (disch := first | decide | assumption | omega) only [go_sem, BoxAt.cell hb0_1, wrap_id, bP0, bP3]
 refine CallA.pure (size2_ok _ _ _ (OS.rd how2_5_0)) ?_
 try simp -implicitDefEqProofs (disch := first | decide | assumption | omega) only [go_sem, RdS.len (OS.rd how4_5_0) sl26, RdS.idx (OS.rd how4_5_0) sl26, RdS.cellN (OS.rd how4_5_0), RdS.cells (OS.rd how4_5_0), wrap_id, bP0, bP3]
 try simp -implicitDefEqProofs (disch := first | decide | assumption | omega) only [go_sem, BoxAt.cell hb0_1, wrap_id, bP0, bP3]
 refine CallA.pure (size2_ok _ _ _ (OS.rd how4_5_0)) ?_
 try simp -implicitDefEqProofs (disch := first | decide | assumption | omega) only [go_sem, wrap_id, bP0, bP3]
 refine op_alloc (cs := #[.int .i64 0, .int .i64 0, .int .i64 0, .slice none 0 0, .slice none 0 0, .slice none 0 0]) (by kernel_rfl) ?_
 intro h5_6 e5_6 hb5_6 z5_6
 replace how2_5_0 := OS.ext how2_5_0 e5_6
 replace how2_5_1 := OS.ext how2_5_1 e5_6
 replace how3_2_0 := OS.ext how3_2_0 e5_6
 replace how4_5_0 := OS.ext how4_5_0 e5_6
 replace hb0_0 := BoxAt.ext hb0_0 e5_6
 replace hb0_1 := BoxAt.ext hb0_1 e5_6
 have := Ext.size e5_6
 replace eB := Ext.trans eB e5_6
 have hfhb5_6 : Fresh h4_5.size [h4_5.size] := Fresh.one _
 have hlhb5_6 := one_lt (show h4_5.size < h5_6.size by omega)
 try simp -implicitDefEqProofs (disch := first | decide | assumption | omega) only [go_sem, BoxAt.cell hb0_1, wrap_id, bP0, bP3]
 refine op_storeB (cs' := #[.int .i64 (X.p), .int .i64 (((mdL X).length : Int)), .int .i64 (((clL X).length : Int)), .slice none 0 0, .slice none 0 0, .slice none 0 0]) st53 hb5_6 rfl rfl rfl (by simp) (allOne_mem (l := [.int .i64 (X.p), .int .i64 (((mdL X).length : Int)), .int .i64 (((clL X).length : Int)), .slice none 0 0, .slice none 0 0, .slice none 0 0]) ⟨rfl, rfl, rfl, rfl, rfl, rfl, trivial⟩) rfl ?_
 intro h5_7 hb5_6 c5_7
 replace how2_5_0 := OS.chg how2_5_0 c5_7 (apart_lt hlhow2_5_0 hfhb5_6 (by omega))
 replace how2_5_1 := OS.chg how2_5_1 c5_7 (apart_lt hlhow2_5_1 hfhb5_6 (by omega))
 replace how3_2_0 := OS.chg how3_2_0 c5_7 (apart_lt hlhow3_2_0 hfhb5_6 (by omega))
 replace how4_5_0 := OS.chg how4_5_0 c5_7 (apart_lt hlhow4_5_0 hfhb5_6 (by omega))
 replace hb0_0 := BoxAt.chgA hb0_0 c5_7 (apart_lt hlhb0_0 hfhb5_6 (by omega))
 replace hb0_1 := BoxAt.chgA hb0_1 c5_7 (apart_lt hlhb0_1 hfhb5_6 (by omega))
 have := c5_7.size
 replace eB := Ext.then eB c5_7 (ge_of hfhb5_6 (by omega))
 try simp -implicitDefEqProofs (disch := first | decide | assumption | omega) only [go_sem, BoxAt.cell hb0_1, wrap_id, bP0, bP3]
 refine hK _ _ ?_
 clear hK K
 refine den_seq ?_
 refine den_seq ?_
 refine den_region TTok ?_
 intro K hK
 simp -implicitDefEqProofs (disch := first | decide | assumption | omega) only [go_sem, RdS.len (OS.rd how2_5_0) sl26, RdS.idx (OS.rd how2_5_0) sl26, RdS.cellN (OS.rd how2_5_0), RdS.cells (OS.rd how2_5_0), wrap_id, bP0, bP3]
 refine hK _ _ ?_
 clear hK K
 refine den_block ?_
 have hnil2 : O2 h5_7 (.slice none 0 0) [] [] := OS.nil
 have hfhnil2 : Fresh h5_7.size [] := Fresh.nil _
 have hlhnil2 := OS.lt hnil2
 have hnil3 : O2 h5_7 (.slice none 0 0) [] [] := OS.nil
 have hfhnil3 : Fresh h5_7.size [] := Fresh.nil _
 have hlhnil3 := OS.lt hnil3
 refine den_sel [44, 1, 2, 3, 5, 6, 7, 8, 9, 42, 43] ?_
 intro env_4
 simp only [go_sem]
 refine den_loopS (σ := Nat × Value × List Nat × Value × List Nat) (fun st_ => [(44, .int .i64 (st_.1 : Int))]) (fun st_ H => (st_.1 ≤ (mdL X).length) ∧ (O2 H st_.2.1 (((mdL X).take st_.1).map (fun r => tlP (mdL X) (mvP X.p X.i X.d.toNat r))) st_.2.2.1) ∧ (Fresh (h5_7.size) st_.2.2.1) ∧ (Sub (([] : List Nat) ++ (([] : List Nat) ++ ([h4_5.size]))) h5_7.size st_.2.2.1) ∧ (O2 H st_.2.2.2.1 (((mdL X).take st_.1).map (jdP X)) st_.2.2.2.2) ∧ (Fresh (h5_7.size) st_.2.2.2.2) ∧ (Sub (([] : List Nat) ++ (([] : List Nat) ++ ([h4_5.size]))) h5_7.size st_.2.2.2.2) ∧ (BoxAt H (h4_5.size) #[.int .i64 (X.p), .int .i64 (((mdL X).length : Int)), .int .i64 (((clL X).length : Int)), st_.2.1, st_.2.2.2.1, .slice none 0 0] 53) ∧ (Apart st_.2.2.1 st_.2.2.2.2) ∧ (Apart st_.2.2.1 [h4_5.size]) ∧ (Apart st_.2.2.2.2 [h4_5.size]) ∧ (Chg (([] : List Nat) ++ (([] : List Nat) ++ ([h4_5.size]))) h5_7 H)) (fun st_ => (mdL X).length - st_.1) (0, .slice none 0 0, ([] : List Nat), .slice none 0 0, ([] : List Nat)) ?_ ?_
 ·exact ⟨by first | (simp; done) | (dsimp only; omega) | (simp; omega), by show O2 _ _ [] _; exact hnil2, hfhnil2, (Sub.left Sub.refl), by show O2 _ _ [] _; exact hnil3, hfhnil3, (Sub.right (Sub.left Sub.refl)), by simpa using hb5_6, (apart_lt hlhnil2 hfhnil3 (by omega)), (apart_gt hfhnil2 hlhb5_6 (by omega)), (apart_gt hfhnil3 hlhb5_6 (by omega)), Chg.refl _ _⟩
 ·rintro ⟨i, vhI, fphI, vhJ, fphJ⟩ h7 ee6 ⟨hi0, hI, hfhI, sbhI, hJ, hfhJ, sbhJ, hbx9, ap_hI_hJ, ap_hI_hbx9, ap_hJ_hbx9, cL5⟩
  dsimp only at hi0 hI hfhI sbhI hJ hfhJ sbhJ hbx9 ap_hI_hJ ap_hI_hbx9 ap_hJ_hbx9 cL5
  replace how2_5_0 := OS.chg how2_5_0 cL5 (Apart.app (apart_lt hlhow2_5_0 hfhnil2 (by omega)) (Apart.app (apart_lt hlhow2_5_0 hfhnil3 (by omega)) (apart_lt hlhow2_5_0 hfhb5_6 (by omega))))
  replace how2_5_1 := OS.chg how2_5_1 cL5 (Apart.app (apart_lt hlhow2_5_1 hfhnil2 (by omega)) (Apart.app (apart_lt hlhow2_5_1 hfhnil3 (by omega)) (apart_lt hlhow2_5_1 hfhb5_6 (by omega))))
  replace how3_2_0 := OS.chg how3_2_0 cL5 (Apart.app (apart_lt hlhow3_2_0 hfhnil2 (by omega)) (Apart.app (apart_lt hlhow3_2_0 hfhnil3 (by omega)) (apart_lt hlhow3_2_0 hfhb5_6 (by omega))))
  replace how4_5_0 := OS.chg how4_5_0 cL5 (Apart.app (apart_lt hlhow4_5_0 hfhnil2 (by omega)) (Apart.app (apart_lt hlhow4_5_0 hfhnil3 (by omega)) (apart_lt hlhow4_5_0 hfhb5_6 (by omega))))
  replace hb0_0 := BoxAt.chgA hb0_0 cL5 (Apart.app (apart_lt hlhb0_0 hfhnil2 (by omega)) (Apart.app (apart_lt hlhb0_0 hfhnil3 (by omega)) (apart_lt hlhb0_0 hfhb5_6 (by omega))))
  replace hb0_1 := BoxAt.chgA hb0_1 cL5 (Apart.app (apart_lt hlhb0_1 hfhnil2 (by omega)) (Apart.app (apart_lt hlhb0_1 hfhnil3 (by omega)) (apart_lt hlhb0_1 hfhb5_6 (by omega))))
  have := cL5.size
  replace eB := Ext.then eB cL5 (ge_app (ge_of hfhnil2 (by omega)) (ge_app (ge_of hfhnil3 (by omega)) (ge_of hfhb5_6 (by omega))))
  have hlhI := OS.lt hI
  have hlhJ := OS.lt hJ
  have hfhbx9 := hfhb5_6
  have hlhbx9 := hlhb5_6
  simp only [List.cons_append, List.nil_append]
  refine den_seq ?_
  refine den_region TTok ?_
  intro K hK
  simp -implicitDefEqProofs (disch := first | decide | assumption | omega) only [go_sem, wrap_id, bP0, bP3]
  refine hK _ _ ?_
  clear hK K
  refine den_seq ?_
  refine den_cond rfl (fun c0 => ?_) (fun c0 => ?_)
  ·try simp only [decide_eq_true_eq, decide_eq_false_iff_not, beq_iff_eq, beq_eq_false_iff_ne, bne_iff_ne, ne_eq, Bool.not_eq_true', Bool.not_eq_false', Bool.and_eq_true, Bool.or_eq_true, bne_eq_false_iff_eq] at c0
   refine den_skip ?_
   refine den_seq ?_
   refine den_block ?_
   refine den_seq ?_
   refine den_region TTok ?_
   intro K hK
   have hr8 := RdS.rowN (OS.rd how2_5_0) i (by omega)
   have hlhr8 := RdS.le hr8
   have xr9 := Ext.refl h7
   simp -implicitDefEqProofs (disch := first | decide | assumption | omega) only [go_sem, ld22, RdS.len (OS.rd how2_5_0) sl26, RdS.idx (OS.rd how2_5_0) sl26, RdS.cellN (OS.rd how2_5_0), RdS.cells (OS.rd how2_5_0), RdS.len hr8 sl22, RdS.idx hr8 sl22, R1.intB hr8 (Ext.pres xr9), RdS.cells hr8, wrap_id, bP0, bP3]
   refine hK _ _ ?_
   clear hK K
   refine den_seq ?_
   have hbw := md_tb hC _ (getD_mem (k := i) (by omega))
   have hbv := hbw.2
   have hbt : Tbl X.p X.d X.i := fun r hr => by have := hC.ir r hr; exact ⟨by omega, this.2⟩
   have hcoV : (mvP X.p X.i X.d.toNat ((mdL X).getD i default)).length = X.d.toNat ∧ X.d.toNat ≤ 1000 := ⟨mvP_len hC.ir _, by omega⟩
   have hcoD : Bnd X.p (mvP X.p X.i X.d.toNat ((mdL X).getD i default)) := mvP_bnd hp hC.ir hbv
   have hcoR := rm
   have hcoB := hnil
   have hmt0 : (((mdL X).take i).map (fun r => tlP (mdL X) (mvP X.p X.i X.d.toNat r))).length ≤ 24 := by rw [List.length_map, List.length_take]; omega
   have hmt1 : (((mdL X).take i).map (jdP X)).length ≤ 24 := by rw [List.length_map, List.length_take]; omega
   refine den_draw TTok mixed [13, 15] [(0, true), (1, true), (2, true), (3, true), (4, true), (5, true), (6, true), (7, true), (8, true), (10, true), (9, false), (11, false), (12, false), (13, false), (14, true), (15, false)] (by kernel_rfl) ?_
   intro K hK
   simp -implicitDefEqProofs (disch := first | decide | assumption | omega) only [go_sem, fa53_1, fa53_3, ld26, ld2, RdS.len hiX sl26, RdS.idx hiX sl26, RdS.cellB hiX (Ext.pres eB), RdS.cells hiX, RdS.len hjX sl26, RdS.idx hjX sl26, RdS.cellB hjX (Ext.pres eB), RdS.cells hjX, RdS.len hkX sl26, RdS.idx hkX sl26, RdS.cellB hkX (Ext.pres eB), RdS.cells hkX, RdS.len (OS.rd how2_5_0) sl26, RdS.idx (OS.rd how2_5_0) sl26, RdS.cellN (OS.rd how2_5_0), RdS.cells (OS.rd how2_5_0), RdS.len (OS.rd hI) sl26, RdS.idx (OS.rd hI) sl26, RdS.cellN (OS.rd hI), RdS.cells (OS.rd hI), RdS.len (OS.rd hJ) sl26, RdS.idx (OS.rd hJ) sl26, RdS.cellN (OS.rd hJ), RdS.cells (OS.rd hJ), BoxAt.cell hb0_0, BoxAt.cell hbx9, RdS.len hr8 sl22, RdS.idx hr8 sl22, R1.intB hr8 (Ext.pres xr9), RdS.cells hr8, wrap_id, bP0, bP3]
   try simp -implicitDefEqProofs (disch := first | decide | assumption | omega) only [go_sem, BoxAt.cell hb0_1, wrap_id, bP0, bP3]
   refine CallA.mono (iApply_ok _ _ _ _ _ _ _ (RdS.pres hr8 (Ext.pres xr9)) (RdS.pres hiX (Ext.pres eB)) (by omega) (by omega) (by omega) hbv hbt) ?_
   intro v9_9 h9_9
   rintro ⟨f9_9, ho9_9, hf9_9, e9_9⟩
   replace how2_5_0 := OS.ext how2_5_0 e9_9
   replace how2_5_1 := OS.ext how2_5_1 e9_9
   replace how3_2_0 := OS.ext how3_2_0 e9_9
   replace how4_5_0 := OS.ext how4_5_0 e9_9
   replace hI := OS.ext hI e9_9
   replace hJ := OS.ext hJ e9_9
   replace hb0_0 := BoxAt.ext hb0_0 e9_9
   replace hb0_1 := BoxAt.ext hb0_1 e9_9
   replace hbx9 := BoxAt.ext hbx9 e9_9
   have := Ext.size e9_9
   replace eB := Ext.trans eB e9_9
   replace xr9 := Ext.trans xr9 e9_9
   replace cL5 := Chg.stepE cL5 e9_9
   have hlho9_9 := OS.lt ho9_9
   try simp (disch := decide) only [outv_some, outv_none, put_puts]
   refine plK_pres (Ext.pres e9_9) ?_
   try simp -implicitDefEqProofs (disch := first | decide | assumption | omega) only [go_sem, BoxAt.cell hb0_1, wrap_id, bP0, bP3]
   try simp -implicitDefEqProofs (disch := first | decide | assumption | omega) only [go_sem, BoxAt.cell hb0_1, wrap_id, bP0, bP3]
   refine CallA.mono (iCo_ok _ _ _ X.p (accP X.p ((mdL X).getD i default) X.i (List.replicate (X.d).toNat 0)) (mdL X) ([] : List (List Int)) _ (OS.rd ho9_9) (OS.rd how2_5_0) (nil2 _) hP hcoR hcoB hcoV hcoD) ?_
   intro vw9_11_0 h9_11
   rintro ⟨zvw9_11_0, fw9_11_0, rfl, how9_11_0, hfw9_11_0, e9_11⟩
   replace how2_5_0 := OS.ext how2_5_0 e9_11
   replace how2_5_1 := OS.ext how2_5_1 e9_11
   replace how3_2_0 := OS.ext how3_2_0 e9_11
   replace how4_5_0 := OS.ext how4_5_0 e9_11
   replace hI := OS.ext hI e9_11
   replace hJ := OS.ext hJ e9_11
   replace ho9_9 := OS.ext ho9_9 e9_11
   replace hb0_0 := BoxAt.ext hb0_0 e9_11
   replace hb0_1 := BoxAt.ext hb0_1 e9_11
   replace hbx9 := BoxAt.ext hbx9 e9_11
   have := Ext.size e9_11
   replace eB := Ext.trans eB e9_11
   replace xr9 := Ext.trans xr9 e9_11
   replace cL5 := Chg.stepE cL5 e9_11
   have hlhow9_11_0 := OS.lt how9_11_0
   try simp (disch := decide) only [outv_some, outv_none, put_puts]
   refine plK_pres (Ext.pres e9_11) ?_
   try simp -implicitDefEqProofs (disch := first | decide | assumption | omega) only [go_sem, BoxAt.cell hb0_1, wrap_id, bP0, bP3]
   refine op_bs1 sz26 rfl (OS.one how9_11_0).2 ?_
   try simp (disch := decide) only [outv_some, outv_none, put_puts]
   refine plK_pres (Ext.pres (Ext.push _ _)) ?_
   try simp -implicitDefEqProofs (disch := first | decide | assumption | omega) only [go_sem, BoxAt.cell hb0_1, wrap_id, bP0, bP3]
   refine op_append1 sz26 hI hfhI.nodup how9_11_0 hfw9_11_0.nodup (apart_lt hlhI hfw9_11_0 (by omega)) (by first | omega | (simp; omega)) rfl rfl ?_
   intro v9_13 h9_13 fp9_13 ho9_13 hn9_13 hs9_13 c9_13
   have hsz9_13 := c9_13.size
   have hfho9_13 : Fresh h5_7.size fp9_13 := Fresh.appd hfhI hfw9_11_0 (by omega) (by omega) hn9_13 hs9_13
   have sb10 : Sub (([] : List Nat) ++ (([] : List Nat) ++ ([h4_5.size]))) h5_7.size fp9_13 := Sub.grow sbhI (Sub.fresh hfw9_11_0 (by omega)) (by omega) hs9_13
   replace how2_5_0 := OS.chg how2_5_0 c9_13 (apart_lt hlhow2_5_0 hfhI (by omega))
   replace how2_5_1 := OS.chg how2_5_1 c9_13 (apart_lt hlhow2_5_1 hfhI (by omega))
   replace how3_2_0 := OS.chg how3_2_0 c9_13 (apart_lt hlhow3_2_0 hfhI (by omega))
   replace how4_5_0 := OS.chg how4_5_0 c9_13 (apart_lt hlhow4_5_0 hfhI (by omega))
   replace hJ := OS.chg hJ c9_13 (Apart.symm ap_hI_hJ)
   replace ho9_9 := OS.chg ho9_9 c9_13 (apart_gt hf9_9 hlhI (by omega))
   replace hb0_0 := BoxAt.chgA hb0_0 c9_13 (apart_lt hlhb0_0 hfhI (by omega))
   replace hb0_1 := BoxAt.chgA hb0_1 c9_13 (apart_lt hlhb0_1 hfhI (by omega))
   replace hbx9 := BoxAt.chgA hbx9 c9_13 (Apart.symm ap_hI_hbx9)
   have := c9_13.size
   replace eB := Ext.then eB c9_13 (ge_of hfhI (by omega))
   replace cL5 := Chg.step cL5 c9_13 sbhI
   have ap11 : Apart fphJ fp9_13 := Apart.grow hlhJ (by omega) (Apart.symm ap_hI_hJ) (apart_lt hlhJ hfw9_11_0 (by omega)) hs9_13
   have ap12 : Apart f9_9 fp9_13 := Apart.grow hlho9_9 (by omega) (apart_gt hf9_9 hlhI (by omega)) (apart_lt hlho9_9 hfw9_11_0 (by omega)) hs9_13
   have ap13 : Apart [h4_5.size] fp9_13 := Apart.grow hlhbx9 (by omega) (Apart.symm ap_hI_hbx9) (apart_lt hlhbx9 hfw9_11_0 (by omega)) hs9_13
   have hlho9_13 := OS.lt ho9_13
   try simp (disch := decide) only [outv_some, outv_none, put_puts]
   refine plK_last (by decide) ?_
   try simp -implicitDefEqProofs (disch := first | decide | assumption | omega) only [go_sem, fa53_3, RdS.len (OS.rd hJ) sl26, RdS.idx (OS.rd hJ) sl26, RdS.cellN (OS.rd hJ), RdS.cells (OS.rd hJ), BoxAt.cell hbx9, wrap_id, bP0, bP3]
   refine op_storeB (cs' := #[.int .i64 (X.p), .int .i64 (((mdL X).length : Int)), .int .i64 (((clL X).length : Int)), v9_13, vhJ, .slice none 0 0]) st26 hbx9 rfl (OS.one ho9_13).2 rfl (by simp) (allOne_mem (l := [v9_13]) ⟨(OS.one ho9_13).1, trivial⟩) rfl ?_
   intro h9_15 hbx9 c9_15
   replace how2_5_0 := OS.chg how2_5_0 c9_15 (apart_lt hlhow2_5_0 hfhbx9 (by omega))
   replace how2_5_1 := OS.chg how2_5_1 c9_15 (apart_lt hlhow2_5_1 hfhbx9 (by omega))
   replace how3_2_0 := OS.chg how3_2_0 c9_15 (apart_lt hlhow3_2_0 hfhbx9 (by omega))
   replace how4_5_0 := OS.chg how4_5_0 c9_15 (apart_lt hlhow4_5_0 hfhbx9 (by omega))
   replace hJ := OS.chg hJ c9_15 ap_hJ_hbx9
   replace ho9_9 := OS.chg ho9_9 c9_15 (apart_gt hf9_9 hlhbx9 (by omega))
   replace ho9_13 := OS.chg ho9_13 c9_15 (Apart.symm ap13)
   replace hb0_0 := BoxAt.chgA hb0_0 c9_15 (apart_lt hlhb0_0 hfhbx9 (by omega))
   replace hb0_1 := BoxAt.chgA hb0_1 c9_15 (apart_lt hlhb0_1 hfhbx9 (by omega))
   have := c9_15.size
   replace eB := Ext.then eB c9_15 (ge_of hfhbx9 (by omega))
   replace cL5 := Chg.step cL5 c9_15 (Sub.right (Sub.right Sub.refl))
   try simp (disch := decide) only [outv_some, outv_none, put_puts]
   refine plK_last (by decide) ?_
   try simp -implicitDefEqProofs (disch := first | decide | assumption | omega) only [go_sem, BoxAt.cell hb0_1, wrap_id, bP0, bP3]
   refine hK _ _ ?_
   clear hK K
   have hlf := src_lift hC (i := i) (by omega)
   have hbw := (⟨hlf.1, hlf.2.1⟩ : ((srcF X.p X.i X.d.toNat).getD i default).length = X.d.toNat ∧ Bnd X.p ((srcF X.p X.i X.d.toNat).getD i default))
   have hbv := hbw.2
   have hbt : Tbl X.p X.e X.j := fun r hr => by have := hC.jr r hr; exact ⟨by omega, this.2⟩
   have hcoV : (mvP X.p X.j X.e.toNat ((srcF X.p X.i X.d.toNat).getD i default)).length = X.e.toNat ∧ X.e.toNat ≤ 1000 := ⟨mvP_len hC.jr _, by omega⟩
   have hcoD : Bnd X.p (mvP X.p X.j X.e.toNat ((srcF X.p X.i X.d.toNat).getD i default)) := mvP_bnd hp hC.jr hbv
   have hcoR := rc
   have hcoB := rb
   have hmt0 : (((mdL X).take i).map (fun r => tlP (mdL X) (mvP X.p X.i X.d.toNat r))).length ≤ 24 := by rw [List.length_map, List.length_take]; omega
   have hmt1 : (((mdL X).take i).map (jdP X)).length ≤ 24 := by rw [List.length_map, List.length_take]; omega
   refine den_draw TTok mixed [17, 19] [(0, true), (1, true), (2, true), (3, true), (4, true), (5, true), (6, true), (7, true), (8, true), (9, true), (10, true), (11, true), (13, true), (14, true), (12, false), (15, false), (16, false), (17, false), (18, true), (19, false)] (by kernel_rfl) ?_
   intro K hK
   have hr14 := RdS.rowN (OS.rd how2_5_1) i (by omega)
   have hlhr14 := RdS.le hr14
   have xr15 := Ext.refl h9_15
   simp -implicitDefEqProofs (disch := first | decide | assumption | omega) only [go_sem, fa53_2, fa53_4, ld26, ld22, ld2, RdS.len hiX sl26, RdS.idx hiX sl26, RdS.cellB hiX (Ext.pres eB), RdS.cells hiX, RdS.len hjX sl26, RdS.idx hjX sl26, RdS.cellB hjX (Ext.pres eB), RdS.cells hjX, RdS.len hkX sl26, RdS.idx hkX sl26, RdS.cellB hkX (Ext.pres eB), RdS.cells hkX, RdS.len (OS.rd how2_5_1) sl26, RdS.idx (OS.rd how2_5_1) sl26, RdS.cellN (OS.rd how2_5_1), RdS.cells (OS.rd how2_5_1), RdS.len (OS.rd how3_2_0) sl26, RdS.idx (OS.rd how3_2_0) sl26, RdS.cellN (OS.rd how3_2_0), RdS.cells (OS.rd how3_2_0), RdS.len (OS.rd how4_5_0) sl26, RdS.idx (OS.rd how4_5_0) sl26, RdS.cellN (OS.rd how4_5_0), RdS.cells (OS.rd how4_5_0), RdS.len (OS.rd hJ) sl26, RdS.idx (OS.rd hJ) sl26, RdS.cellN (OS.rd hJ), RdS.cells (OS.rd hJ), RdS.len (OS.rd ho9_13) sl26, RdS.idx (OS.rd ho9_13) sl26, RdS.cellN (OS.rd ho9_13), RdS.cells (OS.rd ho9_13), BoxAt.cell hb0_0, BoxAt.cell hbx9, RdS.len hr14 sl22, RdS.idx hr14 sl22, R1.intB hr14 (Ext.pres xr15), RdS.cells hr14, wrap_id, bP0, bP3]
   try simp -implicitDefEqProofs (disch := first | decide | assumption | omega) only [go_sem, BoxAt.cell hb0_1, wrap_id, bP0, bP3]
   refine CallA.mono (iApply_ok _ _ _ _ _ _ _ (RdS.pres hr14 (Ext.pres xr15)) (RdS.pres hjX (Ext.pres eB)) (by omega) (by omega) (by omega) hbv hbt) ?_
   intro v10_12 h10_12
   rintro ⟨f10_12, ho10_12, hf10_12, e10_12⟩
   replace how2_5_0 := OS.ext how2_5_0 e10_12
   replace how2_5_1 := OS.ext how2_5_1 e10_12
   replace how3_2_0 := OS.ext how3_2_0 e10_12
   replace how4_5_0 := OS.ext how4_5_0 e10_12
   replace hJ := OS.ext hJ e10_12
   replace ho9_13 := OS.ext ho9_13 e10_12
   replace hb0_0 := BoxAt.ext hb0_0 e10_12
   replace hb0_1 := BoxAt.ext hb0_1 e10_12
   replace hbx9 := BoxAt.ext hbx9 e10_12
   have := Ext.size e10_12
   replace eB := Ext.trans eB e10_12
   replace xr15 := Ext.trans xr15 e10_12
   replace cL5 := Chg.stepE cL5 e10_12
   have hlho10_12 := OS.lt ho10_12
   try simp (disch := decide) only [outv_some, outv_none, put_puts]
   refine plK_pres (Ext.pres e10_12) ?_
   try simp -implicitDefEqProofs (disch := first | decide | assumption | omega) only [go_sem, BoxAt.cell hb0_1, wrap_id, bP0, bP3]
   try simp -implicitDefEqProofs (disch := first | decide | assumption | omega) only [go_sem, BoxAt.cell hb0_1, wrap_id, bP0, bP3]
   refine CallA.mono (iCo_ok _ _ _ X.p (accP X.p ((srcF X.p X.i X.d.toNat).getD i default) X.j (List.replicate (X.e).toNat 0)) (clL X) (bdL X) _ (OS.rd ho10_12) (OS.rd how4_5_0) (OS.rd how3_2_0) hP hcoR hcoB hcoV hcoD) ?_
   intro vw10_15_0 h10_15
   rintro ⟨zvw10_15_0, fw10_15_0, rfl, how10_15_0, hfw10_15_0, e10_15⟩
   replace how2_5_0 := OS.ext how2_5_0 e10_15
   replace how2_5_1 := OS.ext how2_5_1 e10_15
   replace how3_2_0 := OS.ext how3_2_0 e10_15
   replace how4_5_0 := OS.ext how4_5_0 e10_15
   replace hJ := OS.ext hJ e10_15
   replace ho9_13 := OS.ext ho9_13 e10_15
   replace ho10_12 := OS.ext ho10_12 e10_15
   replace hb0_0 := BoxAt.ext hb0_0 e10_15
   replace hb0_1 := BoxAt.ext hb0_1 e10_15
   replace hbx9 := BoxAt.ext hbx9 e10_15
   have := Ext.size e10_15
   replace eB := Ext.trans eB e10_15
   replace xr15 := Ext.trans xr15 e10_15
   replace cL5 := Chg.stepE cL5 e10_15
   have hlhow10_15_0 := OS.lt how10_15_0
   try simp (disch := decide) only [outv_some, outv_none, put_puts]
   refine plK_pres (Ext.pres e10_15) ?_
   try simp -implicitDefEqProofs (disch := first | decide | assumption | omega) only [go_sem, BoxAt.cell hb0_1, wrap_id, bP0, bP3]
   refine op_bs1 sz26 rfl (OS.one how10_15_0).2 ?_
   try simp (disch := decide) only [outv_some, outv_none, put_puts]
   refine plK_pres (Ext.pres (Ext.push _ _)) ?_
   try simp -implicitDefEqProofs (disch := first | decide | assumption | omega) only [go_sem, BoxAt.cell hb0_1, wrap_id, bP0, bP3]
   refine op_append1 sz26 hJ hfhJ.nodup how10_15_0 hfw10_15_0.nodup (apart_lt hlhJ hfw10_15_0 (by omega)) (by first | omega | (simp; omega)) rfl rfl ?_
   intro v10_17 h10_17 fp10_17 ho10_17 hn10_17 hs10_17 c10_17
   have hsz10_17 := c10_17.size
   have hfho10_17 : Fresh h5_7.size fp10_17 := Fresh.appd hfhJ hfw10_15_0 (by omega) (by omega) hn10_17 hs10_17
   have sb16 : Sub (([] : List Nat) ++ (([] : List Nat) ++ ([h4_5.size]))) h5_7.size fp10_17 := Sub.grow sbhJ (Sub.fresh hfw10_15_0 (by omega)) (by omega) hs10_17
   replace how2_5_0 := OS.chg how2_5_0 c10_17 (apart_lt hlhow2_5_0 hfhJ (by omega))
   replace how2_5_1 := OS.chg how2_5_1 c10_17 (apart_lt hlhow2_5_1 hfhJ (by omega))
   replace how3_2_0 := OS.chg how3_2_0 c10_17 (apart_lt hlhow3_2_0 hfhJ (by omega))
   replace how4_5_0 := OS.chg how4_5_0 c10_17 (apart_lt hlhow4_5_0 hfhJ (by omega))
   replace ho9_13 := OS.chg ho9_13 c10_17 (Apart.symm ap11)
   replace ho10_12 := OS.chg ho10_12 c10_17 (apart_gt hf10_12 hlhJ (by omega))
   replace hb0_0 := BoxAt.chgA hb0_0 c10_17 (apart_lt hlhb0_0 hfhJ (by omega))
   replace hb0_1 := BoxAt.chgA hb0_1 c10_17 (apart_lt hlhb0_1 hfhJ (by omega))
   replace hbx9 := BoxAt.chgA hbx9 c10_17 (Apart.symm ap_hJ_hbx9)
   have := c10_17.size
   replace eB := Ext.then eB c10_17 (ge_of hfhJ (by omega))
   replace cL5 := Chg.step cL5 c10_17 sbhJ
   have ap17 : Apart fp9_13 fp10_17 := Apart.grow hlho9_13 (by omega) (Apart.symm ap11) (apart_lt hlho9_13 hfw10_15_0 (by omega)) hs10_17
   have ap18 : Apart f10_12 fp10_17 := Apart.grow hlho10_12 (by omega) (apart_gt hf10_12 hlhJ (by omega)) (apart_lt hlho10_12 hfw10_15_0 (by omega)) hs10_17
   have ap19 : Apart [h4_5.size] fp10_17 := Apart.grow hlhbx9 (by omega) (Apart.symm ap_hJ_hbx9) (apart_lt hlhbx9 hfw10_15_0 (by omega)) hs10_17
   have hlho10_17 := OS.lt ho10_17
   try simp (disch := decide) only [outv_some, outv_none, put_puts]
   refine plK_last (by decide) ?_
   try simp -implicitDefEqProofs (disch := first | decide | assumption | omega) only [go_sem, fa53_4, RdS.len (OS.rd ho9_13) sl26, RdS.idx (OS.rd ho9_13) sl26, RdS.cellN (OS.rd ho9_13), RdS.cells (OS.rd ho9_13), BoxAt.cell hbx9, wrap_id, bP0, bP3]
   refine op_storeB (cs' := #[.int .i64 (X.p), .int .i64 (((mdL X).length : Int)), .int .i64 (((clL X).length : Int)), v9_13, v10_17, .slice none 0 0]) st26 hbx9 rfl (OS.one ho10_17).2 rfl (by simp) (allOne_mem (l := [v10_17]) ⟨(OS.one ho10_17).1, trivial⟩) rfl ?_
   intro h10_19 hbx9 c10_19
   replace how2_5_0 := OS.chg how2_5_0 c10_19 (apart_lt hlhow2_5_0 hfhbx9 (by omega))
   replace how2_5_1 := OS.chg how2_5_1 c10_19 (apart_lt hlhow2_5_1 hfhbx9 (by omega))
   replace how3_2_0 := OS.chg how3_2_0 c10_19 (apart_lt hlhow3_2_0 hfhbx9 (by omega))
   replace how4_5_0 := OS.chg how4_5_0 c10_19 (apart_lt hlhow4_5_0 hfhbx9 (by omega))
   replace ho9_13 := OS.chg ho9_13 c10_19 (Apart.symm ap13)
   replace ho10_12 := OS.chg ho10_12 c10_19 (apart_gt hf10_12 hlhbx9 (by omega))
   replace ho10_17 := OS.chg ho10_17 c10_19 (Apart.symm ap19)
   replace hb0_0 := BoxAt.chgA hb0_0 c10_19 (apart_lt hlhb0_0 hfhbx9 (by omega))
   replace hb0_1 := BoxAt.chgA hb0_1 c10_19 (apart_lt hlhb0_1 hfhbx9 (by omega))
   have := c10_19.size
   replace eB := Ext.then eB c10_19 (ge_of hfhbx9 (by omega))
   replace cL5 := Chg.step cL5 c10_19 (Sub.right (Sub.right Sub.refl))
   try simp (disch := decide) only [outv_some, outv_none, put_puts]
   refine plK_last (by decide) ?_
   try simp -implicitDefEqProofs (disch := first | decide | assumption | omega) only [go_sem, BoxAt.cell hb0_1, wrap_id, bP0, bP3]
   refine hK _ _ ?_
   clear hK K
   refine den_blk ?_
   refine den_region TTok ?_
   intro K hK
   simp -implicitDefEqProofs (disch := first | decide | assumption | omega) only [go_sem, wrap_id, bP0, bP3]
   refine hK _ _ ?_
   clear hK K
   refine den_stop ?_
   rw [show restP X.p [] (accP X.p ((mdL X).getD i default) X.i (List.replicate X.d.toNat 0)) = mvP X.p X.i X.d.toNat ((mdL X).getD i default) from rfl, map_takeLc (f := fun r => tlP (mdL X) (mvP X.p X.i X.d.toNat r)) (d := default) (by omega)] at ho9_13
   rw [show accP X.p ((srcF X.p X.i X.d.toNat).getD i default) X.j (List.replicate X.e.toNat 0) = mvP X.p X.j X.e.toNat ((srcF X.p X.i X.d.toNat).getD i default) from rfl, jd_eq hE (by omega) (src_lift hC (by omega)), map_takeLc (f := jdP X) (d := default) (by omega)] at ho10_17
   exact ⟨(i + 1, v9_13, fp9_13, v10_17, fp10_17), by simp [HasL, puts_at], ⟨by first | omega | (dsimp only; omega), ho9_13, hfho9_13, sb10, ho10_17, hfho10_17, sb16, hbx9, ap17, (Apart.symm ap13), (Apart.symm ap19), cL5⟩, by first | omega | (dsimp only; omega)⟩
  ·try simp only [decide_eq_true_eq, decide_eq_false_iff_not, beq_iff_eq, beq_eq_false_iff_ne, bne_iff_ne, ne_eq, Bool.not_eq_true', Bool.not_eq_false', Bool.and_eq_true, Bool.or_eq_true, bne_eq_false_iff_eq] at c0
   refine den_exit ?_
   refine denX_code ?_
   refine denX_stop ?_
   refine denX_hit ?_
   refine den_seq ?_
   refine den_seq ?_
   refine den_region TTok ?_
   intro K hK
   simp -implicitDefEqProofs (disch := first | decide | assumption | omega) only [go_sem, RdS.len (OS.rd how4_5_0) sl26, RdS.idx (OS.rd how4_5_0) sl26, RdS.cellN (OS.rd how4_5_0), RdS.cells (OS.rd how4_5_0), wrap_id, bP0, bP3]
   refine hK _ _ ?_
   clear hK K
   refine den_block ?_
   have hnil20 : O2 h7 (.slice none 0 0) [] [] := OS.nil
   have hfhnil20 : Fresh h7.size [] := Fresh.nil _
   have hlhnil20 := OS.lt hnil20
   refine den_sel [86, 1, 2, 3, 5, 9, 84, 85] ?_
   intro env_21
   simp only [go_sem]
   refine den_loopS (σ := Nat × Value × List Nat) (fun st_ => [(86, .int .i64 (st_.1 : Int))]) (fun st_ H => (st_.1 ≤ (clL X).length) ∧ (O2 H st_.2.1 (((clL X).take st_.1).map (fun r => tlP (mdL X) (mvP X.p X.k X.d.toNat r))) st_.2.2) ∧ (Fresh (h7.size) st_.2.2) ∧ (Sub (([] : List Nat) ++ ([h4_5.size])) h7.size st_.2.2) ∧ (BoxAt H (h4_5.size) #[.int .i64 (X.p), .int .i64 (((mdL X).length : Int)), .int .i64 (((clL X).length : Int)), vhI, vhJ, st_.2.1] 53) ∧ (Apart st_.2.2 [h4_5.size]) ∧ (Chg (([] : List Nat) ++ ([h4_5.size])) h7 H)) (fun st_ => (clL X).length - st_.1) (0, .slice none 0 0, ([] : List Nat)) ?_ ?_
   ·exact ⟨by first | (simp; done) | (dsimp only; omega) | (simp; omega), by show O2 _ _ [] _; exact hnil20, hfhnil20, (Sub.left Sub.refl), by simpa using hbx9, (apart_gt hfhnil20 hlhbx9 (by omega)), Chg.refl _ _⟩
   ·rintro ⟨i, vhG, fphG⟩ h24 ee23 ⟨hi0, hG, hfhG, sbhG, hbx9, ap_hG_hbx9, cL22⟩
    dsimp only at hi0 hG hfhG sbhG hbx9 ap_hG_hbx9 cL22
    replace how2_5_0 := OS.chg how2_5_0 cL22 (Apart.app (apart_lt hlhow2_5_0 hfhnil20 (by omega)) (apart_lt hlhow2_5_0 hfhbx9 (by omega)))
    replace how4_5_0 := OS.chg how4_5_0 cL22 (Apart.app (apart_lt hlhow4_5_0 hfhnil20 (by omega)) (apart_lt hlhow4_5_0 hfhbx9 (by omega)))
    replace hI := OS.chg hI cL22 (Apart.app (apart_lt hlhI hfhnil20 (by omega)) ap_hI_hbx9)
    replace hJ := OS.chg hJ cL22 (Apart.app (apart_lt hlhJ hfhnil20 (by omega)) ap_hJ_hbx9)
    replace hb0_0 := BoxAt.chgA hb0_0 cL22 (Apart.app (apart_lt hlhb0_0 hfhnil20 (by omega)) (apart_lt hlhb0_0 hfhbx9 (by omega)))
    replace hb0_1 := BoxAt.chgA hb0_1 cL22 (Apart.app (apart_lt hlhb0_1 hfhnil20 (by omega)) (apart_lt hlhb0_1 hfhbx9 (by omega)))
    have := cL22.size
    replace eB := Ext.then eB cL22 (ge_app (ge_of hfhnil20 (by omega)) (ge_of hfhbx9 (by omega)))
    have hlhG := OS.lt hG
    have hfhbx9 := hfhbx9
    have hlhbx9 := hlhbx9
    simp only [List.cons_append, List.nil_append]
    refine den_seq ?_
    refine den_region TTok ?_
    intro K hK
    simp -implicitDefEqProofs (disch := first | decide | assumption | omega) only [go_sem, wrap_id, bP0, bP3]
    refine hK _ _ ?_
    clear hK K
    refine den_seq ?_
    refine den_cond rfl (fun c1 => ?_) (fun c1 => ?_)
    ·try simp only [decide_eq_true_eq, decide_eq_false_iff_not, beq_iff_eq, beq_eq_false_iff_ne, bne_iff_ne, ne_eq, Bool.not_eq_true', Bool.not_eq_false', Bool.and_eq_true, Bool.or_eq_true, bne_eq_false_iff_eq] at c1
     refine den_skip ?_
     refine den_seq ?_
     refine den_block ?_
     refine den_seq ?_
     refine den_region TTok ?_
     intro K hK
     have hr25 := RdS.rowN (OS.rd how4_5_0) i (by omega)
     have hlhr25 := RdS.le hr25
     have xr26 := Ext.refl h24
     simp -implicitDefEqProofs (disch := first | decide | assumption | omega) only [go_sem, ld22, RdS.len (OS.rd how4_5_0) sl26, RdS.idx (OS.rd how4_5_0) sl26, RdS.cellN (OS.rd how4_5_0), RdS.cells (OS.rd how4_5_0), RdS.len hr25 sl22, RdS.idx hr25 sl22, R1.intB hr25 (Ext.pres xr26), RdS.cells hr25, wrap_id, bP0, bP3]
     refine hK _ _ ?_
     clear hK K
     have hbw := cl_tb hC _ (getD_mem (k := i) (by omega))
     have hbv := hbw.2
     have hbt : Tbl X.p X.d X.k := fun r hr => by have := hC.kr r hr; exact ⟨by omega, this.2⟩
     have hcoV : (mvP X.p X.k X.d.toNat ((clL X).getD i default)).length = X.d.toNat ∧ X.d.toNat ≤ 1000 := ⟨mvP_len hC.kr _, by omega⟩
     have hcoD : Bnd X.p (mvP X.p X.k X.d.toNat ((clL X).getD i default)) := mvP_bnd hp hC.kr hbv
     have hcoR := rm
     have hcoB := hnil
     have hmt0 : (((clL X).take i).map (fun r => tlP (mdL X) (mvP X.p X.k X.d.toNat r))).length ≤ 24 := by rw [List.length_map, List.length_take]; omega
     refine den_draw TTok mixed [13, 15] [(0, true), (1, true), (2, true), (3, true), (4, true), (5, true), (6, true), (7, true), (8, true), (10, true), (9, false), (11, false), (12, false), (13, false), (14, true), (15, false)] (by kernel_rfl) ?_
     intro K hK
     simp -implicitDefEqProofs (disch := first | decide | assumption | omega) only [go_sem, fa53_1, fa53_5, ld26, ld2, RdS.len hiX sl26, RdS.idx hiX sl26, RdS.cellB hiX (Ext.pres eB), RdS.cells hiX, RdS.len hjX sl26, RdS.idx hjX sl26, RdS.cellB hjX (Ext.pres eB), RdS.cells hjX, RdS.len hkX sl26, RdS.idx hkX sl26, RdS.cellB hkX (Ext.pres eB), RdS.cells hkX, RdS.len (OS.rd how2_5_0) sl26, RdS.idx (OS.rd how2_5_0) sl26, RdS.cellN (OS.rd how2_5_0), RdS.cells (OS.rd how2_5_0), RdS.len (OS.rd how4_5_0) sl26, RdS.idx (OS.rd how4_5_0) sl26, RdS.cellN (OS.rd how4_5_0), RdS.cells (OS.rd how4_5_0), RdS.len (OS.rd hI) sl26, RdS.idx (OS.rd hI) sl26, RdS.cellN (OS.rd hI), RdS.cells (OS.rd hI), RdS.len (OS.rd hJ) sl26, RdS.idx (OS.rd hJ) sl26, RdS.cellN (OS.rd hJ), RdS.cells (OS.rd hJ), RdS.len (OS.rd hG) sl26, RdS.idx (OS.rd hG) sl26, RdS.cellN (OS.rd hG), RdS.cells (OS.rd hG), BoxAt.cell hb0_0, BoxAt.cell hbx9, RdS.len hr25 sl22, RdS.idx hr25 sl22, R1.intB hr25 (Ext.pres xr26), RdS.cells hr25, wrap_id, bP0, bP3]
     try simp -implicitDefEqProofs (disch := first | decide | assumption | omega) only [go_sem, BoxAt.cell hb0_1, wrap_id, bP0, bP3]
     refine CallA.mono (iApply_ok _ _ _ _ _ _ _ (RdS.pres hr25 (Ext.pres xr26)) (RdS.pres hkX (Ext.pres eB)) (by omega) (by omega) (by omega) hbv hbt) ?_
     intro v15_9 h15_9
     rintro ⟨f15_9, ho15_9, hf15_9, e15_9⟩
     replace how2_5_0 := OS.ext how2_5_0 e15_9
     replace how4_5_0 := OS.ext how4_5_0 e15_9
     replace hI := OS.ext hI e15_9
     replace hJ := OS.ext hJ e15_9
     replace hG := OS.ext hG e15_9
     replace hb0_0 := BoxAt.ext hb0_0 e15_9
     replace hb0_1 := BoxAt.ext hb0_1 e15_9
     replace hbx9 := BoxAt.ext hbx9 e15_9
     have := Ext.size e15_9
     replace eB := Ext.trans eB e15_9
     replace xr26 := Ext.trans xr26 e15_9
     replace cL22 := Chg.stepE cL22 e15_9
     have hlho15_9 := OS.lt ho15_9
     try simp (disch := decide) only [outv_some, outv_none, put_puts]
     refine plK_pres (Ext.pres e15_9) ?_
     try simp -implicitDefEqProofs (disch := first | decide | assumption | omega) only [go_sem, BoxAt.cell hb0_1, wrap_id, bP0, bP3]
     try simp -implicitDefEqProofs (disch := first | decide | assumption | omega) only [go_sem, BoxAt.cell hb0_1, wrap_id, bP0, bP3]
     refine CallA.mono (iCo_ok _ _ _ X.p (accP X.p ((clL X).getD i default) X.k (List.replicate (X.d).toNat 0)) (mdL X) ([] : List (List Int)) _ (OS.rd ho15_9) (OS.rd how2_5_0) (nil2 _) hP hcoR hcoB hcoV hcoD) ?_
     intro vw15_11_0 h15_11
     rintro ⟨zvw15_11_0, fw15_11_0, rfl, how15_11_0, hfw15_11_0, e15_11⟩
     replace how2_5_0 := OS.ext how2_5_0 e15_11
     replace how4_5_0 := OS.ext how4_5_0 e15_11
     replace hI := OS.ext hI e15_11
     replace hJ := OS.ext hJ e15_11
     replace hG := OS.ext hG e15_11
     replace ho15_9 := OS.ext ho15_9 e15_11
     replace hb0_0 := BoxAt.ext hb0_0 e15_11
     replace hb0_1 := BoxAt.ext hb0_1 e15_11
     replace hbx9 := BoxAt.ext hbx9 e15_11
     have := Ext.size e15_11
     replace eB := Ext.trans eB e15_11
     replace xr26 := Ext.trans xr26 e15_11
     replace cL22 := Chg.stepE cL22 e15_11
     have hlhow15_11_0 := OS.lt how15_11_0
     try simp (disch := decide) only [outv_some, outv_none, put_puts]
     refine plK_pres (Ext.pres e15_11) ?_
     try simp -implicitDefEqProofs (disch := first | decide | assumption | omega) only [go_sem, BoxAt.cell hb0_1, wrap_id, bP0, bP3]
     refine op_bs1 sz26 rfl (OS.one how15_11_0).2 ?_
     try simp (disch := decide) only [outv_some, outv_none, put_puts]
     refine plK_pres (Ext.pres (Ext.push _ _)) ?_
     try simp -implicitDefEqProofs (disch := first | decide | assumption | omega) only [go_sem, BoxAt.cell hb0_1, wrap_id, bP0, bP3]
     refine op_append1 sz26 hG hfhG.nodup how15_11_0 hfw15_11_0.nodup (apart_lt hlhG hfw15_11_0 (by omega)) (by first | omega | (simp; omega)) rfl rfl ?_
     intro v15_13 h15_13 fp15_13 ho15_13 hn15_13 hs15_13 c15_13
     have hsz15_13 := c15_13.size
     have hfho15_13 : Fresh h7.size fp15_13 := Fresh.appd hfhG hfw15_11_0 (by omega) (by omega) hn15_13 hs15_13
     have sb27 : Sub (([] : List Nat) ++ ([h4_5.size])) h7.size fp15_13 := Sub.grow sbhG (Sub.fresh hfw15_11_0 (by omega)) (by omega) hs15_13
     replace how2_5_0 := OS.chg how2_5_0 c15_13 (apart_lt hlhow2_5_0 hfhG (by omega))
     replace how4_5_0 := OS.chg how4_5_0 c15_13 (apart_lt hlhow4_5_0 hfhG (by omega))
     replace hI := OS.chg hI c15_13 (apart_lt hlhI hfhG (by omega))
     replace hJ := OS.chg hJ c15_13 (apart_lt hlhJ hfhG (by omega))
     replace ho15_9 := OS.chg ho15_9 c15_13 (apart_gt hf15_9 hlhG (by omega))
     replace hb0_0 := BoxAt.chgA hb0_0 c15_13 (apart_lt hlhb0_0 hfhG (by omega))
     replace hb0_1 := BoxAt.chgA hb0_1 c15_13 (apart_lt hlhb0_1 hfhG (by omega))
     replace hbx9 := BoxAt.chgA hbx9 c15_13 (Apart.symm ap_hG_hbx9)
     have := c15_13.size
     replace eB := Ext.then eB c15_13 (ge_of hfhG (by omega))
     replace cL22 := Chg.step cL22 c15_13 sbhG
     have ap28 : Apart f15_9 fp15_13 := Apart.grow hlho15_9 (by omega) (apart_gt hf15_9 hlhG (by omega)) (apart_lt hlho15_9 hfw15_11_0 (by omega)) hs15_13
     have ap29 : Apart [h4_5.size] fp15_13 := Apart.grow hlhbx9 (by omega) (Apart.symm ap_hG_hbx9) (apart_lt hlhbx9 hfw15_11_0 (by omega)) hs15_13
     have hlho15_13 := OS.lt ho15_13
     try simp (disch := decide) only [outv_some, outv_none, put_puts]
     refine plK_last (by decide) ?_
     try simp -implicitDefEqProofs (disch := first | decide | assumption | omega) only [go_sem, fa53_5, RdS.len (OS.rd hI) sl26, RdS.idx (OS.rd hI) sl26, RdS.cellN (OS.rd hI), RdS.cells (OS.rd hI), RdS.len (OS.rd hJ) sl26, RdS.idx (OS.rd hJ) sl26, RdS.cellN (OS.rd hJ), RdS.cells (OS.rd hJ), BoxAt.cell hbx9, wrap_id, bP0, bP3]
     refine op_storeB (cs' := #[.int .i64 (X.p), .int .i64 (((mdL X).length : Int)), .int .i64 (((clL X).length : Int)), vhI, vhJ, v15_13]) st26 hbx9 rfl (OS.one ho15_13).2 rfl (by simp) (allOne_mem (l := [v15_13]) ⟨(OS.one ho15_13).1, trivial⟩) rfl ?_
     intro h15_15 hbx9 c15_15
     replace how2_5_0 := OS.chg how2_5_0 c15_15 (apart_lt hlhow2_5_0 hfhbx9 (by omega))
     replace how4_5_0 := OS.chg how4_5_0 c15_15 (apart_lt hlhow4_5_0 hfhbx9 (by omega))
     replace hI := OS.chg hI c15_15 ap_hI_hbx9
     replace hJ := OS.chg hJ c15_15 ap_hJ_hbx9
     replace ho15_9 := OS.chg ho15_9 c15_15 (apart_gt hf15_9 hlhbx9 (by omega))
     replace ho15_13 := OS.chg ho15_13 c15_15 (Apart.symm ap29)
     replace hb0_0 := BoxAt.chgA hb0_0 c15_15 (apart_lt hlhb0_0 hfhbx9 (by omega))
     replace hb0_1 := BoxAt.chgA hb0_1 c15_15 (apart_lt hlhb0_1 hfhbx9 (by omega))
     have := c15_15.size
     replace eB := Ext.then eB c15_15 (ge_of hfhbx9 (by omega))
     replace cL22 := Chg.step cL22 c15_15 (Sub.right Sub.refl)
     try simp (disch := decide) only [outv_some, outv_none, put_puts]
     refine plK_last (by decide) ?_
     try simp -implicitDefEqProofs (disch := first | decide | assumption | omega) only [go_sem, BoxAt.cell hb0_1, wrap_id, bP0, bP3]
     refine hK _ _ ?_
     clear hK K
     refine den_blk ?_
     refine den_region TTok ?_
     intro K hK
     simp -implicitDefEqProofs (disch := first | decide | assumption | omega) only [go_sem, wrap_id, bP0, bP3]
     refine hK _ _ ?_
     clear hK K
     refine den_stop ?_
     rw [show restP X.p [] (accP X.p ((clL X).getD i default) X.k (List.replicate X.d.toNat 0)) = mvP X.p X.k X.d.toNat ((clL X).getD i default) from rfl, map_takeLc (f := fun r => tlP (mdL X) (mvP X.p X.k X.d.toNat r)) (d := default) (by omega)] at ho15_13
     exact ⟨(i + 1, v15_13, fp15_13), by simp [HasL, puts_at], ⟨by first | omega | (dsimp only; omega), ho15_13, hfho15_13, sb27, hbx9, (Apart.symm ap29), cL22⟩, by first | omega | (dsimp only; omega)⟩
    ·try simp only [decide_eq_true_eq, decide_eq_false_iff_not, beq_iff_eq, beq_eq_false_iff_ne, bne_iff_ne, ne_eq, Bool.not_eq_true', Bool.not_eq_false', Bool.and_eq_true, Bool.or_eq_true, bne_eq_false_iff_eq] at c1
     refine den_exit ?_
     refine denX_code ?_
     refine denX_stop ?_
     refine denX_hit ?_
     refine den_seq ?_
     refine den_region TTok ?_
     intro K hK
     simp -implicitDefEqProofs (disch := first | decide | assumption | omega) only [go_sem, ld53, RdS.len (OS.rd hI) sl26, RdS.idx (OS.rd hI) sl26, RdS.cellN (OS.rd hI), RdS.cells (OS.rd hI), RdS.len (OS.rd hJ) sl26, RdS.idx (OS.rd hJ) sl26, RdS.cellN (OS.rd hJ), RdS.cells (OS.rd hJ), RdS.len (OS.rd hG) sl26, RdS.idx (OS.rd hG) sl26, RdS.cellN (OS.rd hG), RdS.cells (OS.rd hG), BoxAt.cell hbx9, wrap_id, bP0, bP3]
     refine op_storeB (cs' := #[.int .i64 (X.p), .int .i64 (((mdL X).length : Int)), .int .i64 (((clL X).length : Int)), vhI, vhJ, vhG]) st53 hb0_1 rfl rfl rfl (by simp) (allOne_mem (l := [.int .i64 (X.p), .int .i64 (((mdL X).length : Int)), .int .i64 (((clL X).length : Int)), vhI, vhJ, vhG]) ⟨rfl, rfl, rfl, (OS.one hI).1, (OS.one hJ).1, (OS.one hG).1, trivial⟩) rfl ?_
     intro h17_1 hb0_1 c17_1
     replace hI := OS.chg hI c17_1 (apart_gt hfhI hlhb0_1 (by omega))
     replace hJ := OS.chg hJ c17_1 (apart_gt hfhJ hlhb0_1 (by omega))
     replace hG := OS.chg hG c17_1 (apart_gt hfhG hlhb0_1 (by omega))
     replace hbx9 := BoxAt.chgA hbx9 c17_1 (apart_gt hfhbx9 hlhb0_1 (by omega))
     have := c17_1.size
     replace eB := Ext.then eB c17_1 (ge_of hfhb0_1 (by omega))
     try simp -implicitDefEqProofs (disch := first | decide | assumption | omega) only [go_sem, RdS.len (OS.rd hI) sl26, RdS.idx (OS.rd hI) sl26, RdS.cellN (OS.rd hI), RdS.cells (OS.rd hI), RdS.len (OS.rd hJ) sl26, RdS.idx (OS.rd hJ) sl26, RdS.cellN (OS.rd hJ), RdS.cells (OS.rd hJ), RdS.len (OS.rd hG) sl26, RdS.idx (OS.rd hG) sl26, RdS.cellN (OS.rd hG), RdS.cells (OS.rd hG), BoxAt.cell hb0_1, wrap_id, bP0, bP3]
     refine hK _ _ ?_
     clear hK K
     refine den_ret ?_
     simp -implicitDefEqProofs (disch := first | decide | assumption | omega) only [go_sem, RdS.len (OS.rd hI) sl26, RdS.idx (OS.rd hI) sl26, RdS.cellN (OS.rd hI), RdS.cells (OS.rd hI), RdS.len (OS.rd hJ) sl26, RdS.idx (OS.rd hJ) sl26, RdS.cellN (OS.rd hJ), RdS.cells (OS.rd hJ), RdS.len (OS.rd hG) sl26, RdS.idx (OS.rd hG) sl26, RdS.cellN (OS.rd hG), RdS.cells (OS.rd hG), BoxAt.cell hb0_1, wrap_id, bP0, bP3, resP_c1, ld53]
     have hI := hI
     have hJ := hJ
     have hG := hG
     rw [map_takeEc (by omega)] at hI hJ hG
     exact ⟨_, _, _, _, _, _, rfl, hI, hJ, hG, (Fresh.two (lo := h.size) hfhI (Fresh.two (lo := h.size) hfhJ hfhG (apart_lt hlhJ hfhG (by omega)) (by omega) (by omega)) (Apart.app ap_hI_hJ (apart_lt hlhI hfhG (by omega))) (by omega) (by omega)), eB⟩
end Go.Proofs.Ytjjjgllbocgkbaa

namespace Go.Proofs.Ytjjjgllbocgkbaa
open Go
set_option maxRecDepth 100000 in
set_option maxHeartbeats 4000000 in
theorem sDer_ok (vX : Value) (X : Cp) (h : Heap) (rX : RP h vX X) (hE : Ex3 X) : CallA Try.prog 100 #[vX] h fun v' h' => ∃ wi0 wj0 wk0 fi0 fj0 fk0, v' = .agg #[.int .i64 (dcp X).p, .int .i64 (dcp X).d, .int .i64 (dcp X).e, wi0, wj0, wk0] ∧ O2 h' wi0 (dcp X).i fi0 ∧ O2 h' wj0 (dcp X).j fj0 ∧ O2 h' wk0 (dcp X).k fk0 ∧ Fresh h.size (fi0 ++ (fj0 ++ fk0)) ∧ Ext h h' := by
 obtain ⟨viX, vjX, vkX, rfl, hiX, hjX, hkX⟩ := rX
 have hleiX := RdS.le hiX
 have hlejX := RdS.le hjX
 have hlekX := RdS.le hkX
 have hC := hE.c
 have hP := hC.p
 have hp := hC.pos
 have hd := hC.d
 have he := hC.e
 have hll := hC.lens
 have hpb := isP_bnd hC.p
 obtain ⟨⟨lm, rm⟩, _⟩ := md_red hC
 obtain ⟨⟨lb, rb⟩, _⟩ := bd_red hC
 obtain ⟨⟨lc, rc⟩, _⟩ := cl_red hC
 have hml := rm.le_w
 have hbl := rb.le_w
 have hcl := rc.le_w
 have hsf := srcF_len hC
 have hdl := df_len X
 have hcyt := cy_tb hC
 have hnil : Rr X.p X.d.toNat [] (fun i => i) := Rr.nil
 obtain ⟨lk, hky⟩ := kerQ_rr hC.p (df_tb hC)
 have hkyl := hky.le_w
 have hcyl : (cyL X).length ≤ (dfL X).length := hkyl
 refine callA_intro TTok (args := [_]) Try.func100 (by kernel_rfl) rfl 134 rfl (by simp) [.cell 2 53] rfl ?_
 simp only [idxs, Nat.reduceAdd]
 refine den_seq ?_
 refine den_region TTok ?_
 intro K hK
 simp -implicitDefEqProofs (disch := first | decide | assumption | omega) only [go_sem, wrap_id, bP0]
 refine op_box (cs := #[.int .i64 (X.p), .int .i64 (X.d), .int .i64 (X.e), viX, vjX, vkX]) rfl ?_
 intro h0_0 e0_0 hb0_0 z0_0
 have := Ext.size e0_0
 have eB := e0_0
 have hfhb0_0 : Fresh h.size [h.size] := Fresh.one _
 have hlhb0_0 := one_lt (show h.size < h0_0.size by omega)
 try simp -implicitDefEqProofs (disch := first | decide | assumption | omega) only [go_sem, wrap_id, bP0]
 refine op_alloc (cs := #[.int .i64 0, .int .i64 0, .int .i64 0, .slice none 0 0, .slice none 0 0, .slice none 0 0]) (by kernel_rfl) ?_
 intro h0_1 e0_1 hb0_1 z0_1
 replace hb0_0 := BoxAt.ext hb0_0 e0_1
 have := Ext.size e0_1
 replace eB := Ext.trans eB e0_1
 have hfhb0_1 : Fresh h0_0.size [h0_0.size] := Fresh.one _
 have hlhb0_1 := one_lt (show h0_0.size < h0_1.size by omega)
 try simp -implicitDefEqProofs (disch := first | decide | assumption | omega) only [go_sem, BoxAt.cell hb0_1, wrap_id, bP0]
 refine hK _ _ ?_
 clear hK K
 refine den_seq ?_
 refine den_draw TTok mixed [] [(0, true), (1, true), (2, true), (3, false), (4, true), (5, true)] (by kernel_rfl) ?_
 intro K hK
 simp -implicitDefEqProofs (disch := first | decide | assumption | omega) only [go_sem, fa53_0, ld2, ld53, RdS.len hiX sl26, RdS.idx hiX sl26, RdS.cellB hiX (Ext.pres eB), RdS.cells hiX, RdS.len hjX sl26, RdS.idx hjX sl26, RdS.cellB hjX (Ext.pres eB), RdS.cells hjX, RdS.len hkX sl26, RdS.idx hkX sl26, RdS.cellB hkX (Ext.pres eB), RdS.cells hkX, BoxAt.cell hb0_0, wrap_id, bP0]
 try simp -implicitDefEqProofs (disch := first | decide | assumption | omega) only [go_sem, BoxAt.cell hb0_1, wrap_id, bP0]
 refine CallA.mono (sDf_ok _ X _ ⟨_, _, _, rfl, (RdS.pres hiX (Ext.pres eB)), (RdS.pres hjX (Ext.pres eB)), (RdS.pres hkX (Ext.pres eB))⟩ hC) ?_
 intro vw1_3_0 h1_3
 rintro ⟨zvw1_3_0, fw1_3_0, rfl, how1_3_0, hfw1_3_0, e1_3⟩
 replace hb0_0 := BoxAt.ext hb0_0 e1_3
 replace hb0_1 := BoxAt.ext hb0_1 e1_3
 have := Ext.size e1_3
 replace eB := Ext.trans eB e1_3
 have hlhow1_3_0 := OS.lt how1_3_0
 try simp (disch := decide) only [outv_some, outv_none, put_puts]
 refine plK_pres (Ext.pres e1_3) ?_
 try simp -implicitDefEqProofs (disch := first | decide | assumption | omega) only [go_sem, RdS.len (OS.rd how1_3_0) sl26, RdS.idx (OS.rd how1_3_0) sl26, RdS.cellN (OS.rd how1_3_0), RdS.cells (OS.rd how1_3_0), wrap_id, bP0]
 refine hK _ _ ?_
 clear hK K
 refine den_seq ?_
 have hredT := hC.ir
 have hredD := df_tb hC
 have hkerT := df_tb hC
 have hkern : X.e = ((dfL X).length : Int) := by omega
 refine den_draw TTok mixed [] [(0, true), (1, true), (2, true), (4, true), (5, true), (7, true), (8, true), (9, true), (10, true), (3, false), (6, false), (11, false), (12, true), (13, true), (14, true)] (by kernel_rfl) ?_
 intro K hK
 simp -implicitDefEqProofs (disch := first | decide | assumption | omega) only [go_sem, fa53_2, fa53_3, ld26, ld2, RdS.len hiX sl26, RdS.idx hiX sl26, RdS.cellB hiX (Ext.pres eB), RdS.cells hiX, RdS.len hjX sl26, RdS.idx hjX sl26, RdS.cellB hjX (Ext.pres eB), RdS.cells hjX, RdS.len hkX sl26, RdS.idx hkX sl26, RdS.cellB hkX (Ext.pres eB), RdS.cells hkX, RdS.len (OS.rd how1_3_0) sl26, RdS.idx (OS.rd how1_3_0) sl26, RdS.cellN (OS.rd how1_3_0), RdS.cells (OS.rd how1_3_0), BoxAt.cell hb0_0, wrap_id, bP0]
 try simp -implicitDefEqProofs (disch := first | decide | assumption | omega) only [go_sem, BoxAt.cell hb0_1, wrap_id, bP0]
 refine CallA.mono (sEch_ok _ X.p X.i _ (RdS.pres hiX (Ext.pres eB)) hP hredT (by omega) (by omega)) ?_
 intro vw2_3_0 h2_3
 rintro ⟨zvw2_3_0, fw2_3_0, rfl, how2_3_0, hfw2_3_0, e2_3⟩
 replace how1_3_0 := OS.ext how1_3_0 e2_3
 replace hb0_0 := BoxAt.ext hb0_0 e2_3
 replace hb0_1 := BoxAt.ext hb0_1 e2_3
 have := Ext.size e2_3
 replace eB := Ext.trans eB e2_3
 have hlhow2_3_0 := OS.lt how2_3_0
 try simp (disch := decide) only [outv_some, outv_none, put_puts]
 refine plK_pres (Ext.pres e2_3) ?_
 try simp -implicitDefEqProofs (disch := first | decide | assumption | omega) only [go_sem, BoxAt.cell hb0_1, wrap_id, bP0]
 try simp -implicitDefEqProofs (disch := first | decide | assumption | omega) only [go_sem, BoxAt.cell hb0_1, wrap_id, bP0]
 refine CallA.mono (sEch_ok _ X.p (dfL X) _ (OS.rd how1_3_0) hP hredD (by omega) (by omega)) ?_
 intro vw2_6_0 h2_6
 rintro ⟨zvw2_6_0, fw2_6_0, rfl, how2_6_0, hfw2_6_0, e2_6⟩
 replace how1_3_0 := OS.ext how1_3_0 e2_6
 replace how2_3_0 := OS.ext how2_3_0 e2_6
 replace hb0_0 := BoxAt.ext hb0_0 e2_6
 replace hb0_1 := BoxAt.ext hb0_1 e2_6
 have := Ext.size e2_6
 replace eB := Ext.trans eB e2_6
 have hlhow2_6_0 := OS.lt how2_6_0
 try simp (disch := decide) only [outv_some, outv_none, put_puts]
 refine plK_pres (Ext.pres e2_6) ?_
 try simp -implicitDefEqProofs (disch := first | decide | assumption | omega) only [go_sem, BoxAt.cell hb0_1, wrap_id, bP0]
 try simp -implicitDefEqProofs (disch := first | decide | assumption | omega) only [go_sem, BoxAt.cell hb0_1, wrap_id, bP0]
 refine CallA.mono (sKernel_ok _ X.p X.e (dfL X) _ (OS.rd how1_3_0) hP hkerT (by omega) (by omega) hkern) ?_
 intro vw2_11_0 h2_11
 rintro ⟨zvw2_11_0, fw2_11_0, rfl, how2_11_0, hfw2_11_0, e2_11⟩
 replace how1_3_0 := OS.ext how1_3_0 e2_11
 replace how2_3_0 := OS.ext how2_3_0 e2_11
 replace how2_6_0 := OS.ext how2_6_0 e2_11
 replace hb0_0 := BoxAt.ext hb0_0 e2_11
 replace hb0_1 := BoxAt.ext hb0_1 e2_11
 have := Ext.size e2_11
 replace eB := Ext.trans eB e2_11
 have hlhow2_11_0 := OS.lt how2_11_0
 try simp (disch := decide) only [outv_some, outv_none, put_puts]
 refine plK_pres (Ext.pres e2_11) ?_
 try simp -implicitDefEqProofs (disch := first | decide | assumption | omega) only [go_sem, RdS.len (OS.rd how2_3_0) sl26, RdS.idx (OS.rd how2_3_0) sl26, RdS.cellN (OS.rd how2_3_0), RdS.cells (OS.rd how2_3_0), RdS.len (OS.rd how2_6_0) sl26, RdS.idx (OS.rd how2_6_0) sl26, RdS.cellN (OS.rd how2_6_0), RdS.cells (OS.rd how2_6_0), RdS.len (OS.rd how2_11_0) sl26, RdS.idx (OS.rd how2_11_0) sl26, RdS.cellN (OS.rd how2_11_0), RdS.cells (OS.rd how2_11_0), wrap_id, bP0]
 refine hK _ _ ?_
 clear hK K
 refine den_seq ?_
 change O2 _ _ (mdL X) _ at how2_3_0
 change O2 _ _ (bdL X) _ at how2_6_0
 change O2 _ _ (cyL X) _ at how2_11_0
 refine den_region TTok ?_
 intro K hK
 simp -implicitDefEqProofs (disch := first | decide | assumption | omega) only [go_sem, BoxAt.cell hb0_1, wrap_id, bP0]
 refine op_bs0 sz26 O1 ?_
 intro v3_0 h3_0 ho3_0 e3_0
 replace how2_3_0 := OS.ext how2_3_0 e3_0
 replace how2_6_0 := OS.ext how2_6_0 e3_0
 replace how2_11_0 := OS.ext how2_11_0 e3_0
 replace hb0_0 := BoxAt.ext hb0_0 e3_0
 replace hb0_1 := BoxAt.ext hb0_1 e3_0
 have := Ext.size e3_0
 replace eB := Ext.trans eB e3_0
 have hfho3_0 : Fresh h2_11.size [h2_11.size] := Fresh.one _
 have hlho3_0 := OS.lt ho3_0
 try simp -implicitDefEqProofs (disch := first | decide | assumption | omega) only [go_sem, RdS.len (OS.rd ho3_0) sl26, RdS.idx (OS.rd ho3_0) sl26, RdS.cellN (OS.rd ho3_0), RdS.cells (OS.rd ho3_0), wrap_id, bP0]
 refine hK _ _ ?_
 clear hK K
 refine den_seq ?_
 refine den_seq ?_
 refine den_region TTok ?_
 intro K hK
 simp -implicitDefEqProofs (disch := first | decide | assumption | omega) only [go_sem, wrap_id, bP0]
 refine hK _ _ ?_
 clear hK K
 refine den_block ?_
 refine den_sel [8, 9, 1, 2, 3, 5, 6, 7] ?_
 intro env_1
 simp only [go_sem]
 refine den_loopS (σ := Nat × Value × List Nat) (fun st_ => [(8, st_.2.1), (9, .int .i64 (st_.1 : Int))]) (fun st_ H => (st_.1 ≤ (cyL X).length) ∧ (O2 H st_.2.1 (((cyL X).take st_.1).map (restP X.p (bdL X))) st_.2.2) ∧ (Fresh (h2_11.size) st_.2.2) ∧ (Sub [h2_11.size] h3_0.size st_.2.2) ∧ (Chg [h2_11.size] h3_0 H)) (fun st_ => (cyL X).length - st_.1) (0, v3_0, [h2_11.size]) ?_ ?_
 ·exact ⟨by first | (simp; done) | (dsimp only; omega) | (simp; omega), by simpa using ho3_0, hfho3_0, Sub.refl, Chg.refl _ _⟩
 ·rintro ⟨i, vhL, fphL⟩ h4 ee3 ⟨hi0, hL, hfhL, sbhL, cL2⟩
  dsimp only at hi0 hL hfhL sbhL cL2
  replace how2_3_0 := OS.chg how2_3_0 cL2 (apart_lt hlhow2_3_0 hfho3_0 (by omega))
  replace how2_6_0 := OS.chg how2_6_0 cL2 (apart_lt hlhow2_6_0 hfho3_0 (by omega))
  replace how2_11_0 := OS.chg how2_11_0 cL2 (apart_lt hlhow2_11_0 hfho3_0 (by omega))
  replace hb0_0 := BoxAt.chgA hb0_0 cL2 (apart_lt hlhb0_0 hfho3_0 (by omega))
  replace hb0_1 := BoxAt.chgA hb0_1 cL2 (apart_lt hlhb0_1 hfho3_0 (by omega))
  have := cL2.size
  replace eB := Ext.then eB cL2 (ge_of hfho3_0 (by omega))
  have hlhL := OS.lt hL
  simp only [List.cons_append, List.nil_append]
  refine den_seq ?_
  refine den_seq ?_
  refine den_region TTok ?_
  intro K hK
  simp -implicitDefEqProofs (disch := first | decide | assumption | omega) only [go_sem, RdS.len (OS.rd how2_11_0) sl26, RdS.idx (OS.rd how2_11_0) sl26, RdS.cellN (OS.rd how2_11_0), RdS.cells (OS.rd how2_11_0), wrap_id, bP0]
  refine hK _ _ ?_
  clear hK K
  refine den_cond rfl (fun c0 => ?_) (fun c0 => ?_)
  ·try simp only [decide_eq_true_eq, decide_eq_false_iff_not, beq_iff_eq, beq_eq_false_iff_ne, bne_iff_ne, ne_eq, Bool.not_eq_true', Bool.not_eq_false', Bool.and_eq_true, Bool.or_eq_true, bne_eq_false_iff_eq] at c0
   refine den_skip ?_
   refine den_seq ?_
   refine den_block ?_
   have hcw := hcyt _ (getD_mem (k := i) (by omega))
   have hrv : ((cyL X).getD i default).length = X.e.toNat ∧ X.e.toNat ≤ 1000 := ⟨hcw.1, by omega⟩
   have hrb := hcw.2
   have hrr := rb
   have hmt0 : (((cyL X).take i).map (restP X.p (bdL X))).length ≤ 24 := by rw [List.length_map, List.length_take]; omega
   refine den_region TTok ?_
   intro K hK
   have hr5 := RdS.rowN (OS.rd how2_11_0) i (by omega)
   have hlhr5 := RdS.le hr5
   have xr6 := Ext.refl h4
   simp -implicitDefEqProofs (disch := first | decide | assumption | omega) only [go_sem, ld22, RdS.len (OS.rd how2_6_0) sl26, RdS.idx (OS.rd how2_6_0) sl26, RdS.cellN (OS.rd how2_6_0), RdS.cells (OS.rd how2_6_0), RdS.len (OS.rd how2_11_0) sl26, RdS.idx (OS.rd how2_11_0) sl26, RdS.cellN (OS.rd how2_11_0), RdS.cells (OS.rd how2_11_0), RdS.len (OS.rd hL) sl26, RdS.idx (OS.rd hL) sl26, RdS.cellN (OS.rd hL), RdS.cells (OS.rd hL), RdS.len hr5 sl22, RdS.idx hr5 sl22, R1.intB hr5 (Ext.pres xr6), RdS.cells hr5, wrap_id, bP0]
   try simp -implicitDefEqProofs (disch := first | decide | assumption | omega) only [go_sem, BoxAt.cell hb0_1, wrap_id, bP0]
   refine CallA.mono (sRest_ok _ _ X.p (bdL X) ((cyL X).getD i default) _ (OS.rd how2_6_0) (RdS.pres hr5 (Ext.pres xr6)) hP hrr hrv hrb) ?_
   intro vw7_7_0 h7_7
   rintro ⟨zvw7_7_0, fw7_7_0, rfl, how7_7_0, hfw7_7_0, e7_7⟩
   replace how2_3_0 := OS.ext how2_3_0 e7_7
   replace how2_6_0 := OS.ext how2_6_0 e7_7
   replace how2_11_0 := OS.ext how2_11_0 e7_7
   replace hL := OS.ext hL e7_7
   replace hb0_0 := BoxAt.ext hb0_0 e7_7
   replace hb0_1 := BoxAt.ext hb0_1 e7_7
   have := Ext.size e7_7
   replace eB := Ext.trans eB e7_7
   replace xr6 := Ext.trans xr6 e7_7
   replace cL2 := Chg.stepE cL2 e7_7
   have hlhow7_7_0 := OS.lt how7_7_0
   try simp -implicitDefEqProofs (disch := first | decide | assumption | omega) only [go_sem, BoxAt.cell hb0_1, wrap_id, bP0]
   refine op_bs1 sz26 rfl (OS.one how7_7_0).2 ?_
   try simp -implicitDefEqProofs (disch := first | decide | assumption | omega) only [go_sem, BoxAt.cell hb0_1, wrap_id, bP0]
   refine op_append1 sz26 hL hfhL.nodup how7_7_0 hfw7_7_0.nodup (apart_lt hlhL hfw7_7_0 (by omega)) (by first | omega | (simp; omega)) rfl rfl ?_
   intro v7_9 h7_9 fp7_9 ho7_9 hn7_9 hs7_9 c7_9
   have hsz7_9 := c7_9.size
   have hfho7_9 : Fresh h2_11.size fp7_9 := Fresh.appd hfhL hfw7_7_0 (by omega) (by omega) hn7_9 hs7_9
   have sb7 : Sub [h2_11.size] h3_0.size fp7_9 := Sub.grow sbhL (Sub.fresh hfw7_7_0 (by omega)) (by omega) hs7_9
   replace how2_3_0 := OS.chg how2_3_0 c7_9 (apart_lt hlhow2_3_0 hfhL (by omega))
   replace how2_6_0 := OS.chg how2_6_0 c7_9 (apart_lt hlhow2_6_0 hfhL (by omega))
   replace how2_11_0 := OS.chg how2_11_0 c7_9 (apart_lt hlhow2_11_0 hfhL (by omega))
   replace hb0_0 := BoxAt.chgA hb0_0 c7_9 (apart_lt hlhb0_0 hfhL (by omega))
   replace hb0_1 := BoxAt.chgA hb0_1 c7_9 (apart_lt hlhb0_1 hfhL (by omega))
   have := c7_9.size
   replace eB := Ext.then eB c7_9 (ge_of hfhL (by omega))
   replace cL2 := Chg.step cL2 c7_9 sbhL
   have hlho7_9 := OS.lt ho7_9
   try simp -implicitDefEqProofs (disch := first | decide | assumption | omega) only [go_sem, RdS.len (OS.rd ho7_9) sl26, RdS.idx (OS.rd ho7_9) sl26, RdS.cellN (OS.rd ho7_9), RdS.cells (OS.rd ho7_9), wrap_id, bP0]
   refine hK _ _ ?_
   clear hK K
   refine den_blk ?_
   refine den_region TTok ?_
   intro K hK
   simp -implicitDefEqProofs (disch := first | decide | assumption | omega) only [go_sem, wrap_id, bP0]
   refine hK _ _ ?_
   clear hK K
   refine den_stop ?_
   rw [map_takeLc (f := restP X.p (bdL X)) (d := default) (by omega)] at ho7_9
   exact ⟨(i + 1, v7_9, fp7_9), by simp [HasL, puts_at], ⟨by first | omega | (dsimp only; omega), ho7_9, hfho7_9, sb7, cL2⟩, by first | omega | (dsimp only; omega)⟩
  ·try simp only [decide_eq_true_eq, decide_eq_false_iff_not, beq_iff_eq, beq_eq_false_iff_ne, bne_iff_ne, ne_eq, Bool.not_eq_true', Bool.not_eq_false', Bool.and_eq_true, Bool.or_eq_true, bne_eq_false_iff_eq] at c0
   refine den_exit ?_
   refine denX_code ?_
   refine denX_stop ?_
   refine denX_hit ?_
   refine den_seq ?_
   rw [map_takeEc (f := restP X.p (bdL X)) (by omega)] at hL
   change O2 _ _ (restL X.p (cyL X) (bdL X)) _ at hL
   have hrll : (restL X.p (cyL X) (bdL X)).length = (cyL X).length := List.length_map _
   have hredT := restL_tbl hp (B := bdL X) (cy_tb hC)
   refine den_region TTok ?_
   intro K hK
   simp -implicitDefEqProofs (disch := first | decide | assumption | omega) only [go_sem, RdS.len (OS.rd hL) sl26, RdS.idx (OS.rd hL) sl26, RdS.cellN (OS.rd hL), RdS.cells (OS.rd hL), wrap_id, bP0]
   try simp -implicitDefEqProofs (disch := first | decide | assumption | omega) only [go_sem, BoxAt.cell hb0_1, wrap_id, bP0]
   refine CallA.mono (sEch_ok _ X.p (restL X.p (cyL X) (bdL X)) _ (OS.rd hL) hP hredT (by omega) (by omega)) ?_
   intro vw8_2_0 h8_2
   rintro ⟨zvw8_2_0, fw8_2_0, rfl, how8_2_0, hfw8_2_0, e8_2⟩
   replace how2_3_0 := OS.ext how2_3_0 e8_2
   replace how2_6_0 := OS.ext how2_6_0 e8_2
   replace hL := OS.ext hL e8_2
   replace hb0_0 := BoxAt.ext hb0_0 e8_2
   replace hb0_1 := BoxAt.ext hb0_1 e8_2
   have := Ext.size e8_2
   replace eB := Ext.trans eB e8_2
   have hlhow8_2_0 := OS.lt how8_2_0
   try simp -implicitDefEqProofs (disch := first | decide | assumption | omega) only [go_sem, RdS.len (OS.rd how8_2_0) sl26, RdS.idx (OS.rd how8_2_0) sl26, RdS.cellN (OS.rd how8_2_0), RdS.cells (OS.rd how8_2_0), wrap_id, bP0]
   refine hK _ _ ?_
   clear hK K
   refine den_seq ?_
   change O2 _ _ (clL X) _ at how8_2_0
   refine den_region TTok ?_
   intro K hK
   simp -implicitDefEqProofs (disch := first | decide | assumption | omega) only [go_sem, RdS.len (OS.rd how2_3_0) sl26, RdS.idx (OS.rd how2_3_0) sl26, RdS.cellN (OS.rd how2_3_0), RdS.cells (OS.rd how2_3_0), RdS.len (OS.rd how8_2_0) sl26, RdS.idx (OS.rd how8_2_0) sl26, RdS.cellN (OS.rd how8_2_0), RdS.cells (OS.rd how8_2_0), wrap_id, bP0]
   refine op_bs0 sz26 O1 ?_
   intro v9_5 h9_5 ho9_5 e9_5
   replace how2_3_0 := OS.ext how2_3_0 e9_5
   replace how2_6_0 := OS.ext how2_6_0 e9_5
   replace how8_2_0 := OS.ext how8_2_0 e9_5
   replace hb0_0 := BoxAt.ext hb0_0 e9_5
   replace hb0_1 := BoxAt.ext hb0_1 e9_5
   have := Ext.size e9_5
   replace eB := Ext.trans eB e9_5
   have hfho9_5 : Fresh h8_2.size [h8_2.size] := Fresh.one _
   have hlho9_5 := OS.lt ho9_5
   try simp -implicitDefEqProofs (disch := first | decide | assumption | omega) only [go_sem, BoxAt.cell hb0_1, wrap_id, bP0]
   refine op_bs0 sz26 O1 ?_
   intro v9_6 h9_6 ho9_6 e9_6
   replace how2_3_0 := OS.ext how2_3_0 e9_6
   replace how2_6_0 := OS.ext how2_6_0 e9_6
   replace how8_2_0 := OS.ext how8_2_0 e9_6
   replace ho9_5 := OS.ext ho9_5 e9_6
   replace hb0_0 := BoxAt.ext hb0_0 e9_6
   replace hb0_1 := BoxAt.ext hb0_1 e9_6
   have := Ext.size e9_6
   replace eB := Ext.trans eB e9_6
   have hfho9_6 : Fresh h9_5.size [h9_5.size] := Fresh.one _
   have hlho9_6 := OS.lt ho9_6
   try simp -implicitDefEqProofs (disch := first | decide | assumption | omega) only [go_sem, BoxAt.cell hb0_1, wrap_id, bP0]
   refine op_bs0 sz26 O1 ?_
   intro v9_7 h9_7 ho9_7 e9_7
   replace how2_3_0 := OS.ext how2_3_0 e9_7
   replace how2_6_0 := OS.ext how2_6_0 e9_7
   replace how8_2_0 := OS.ext how8_2_0 e9_7
   replace ho9_5 := OS.ext ho9_5 e9_7
   replace ho9_6 := OS.ext ho9_6 e9_7
   replace hb0_0 := BoxAt.ext hb0_0 e9_7
   replace hb0_1 := BoxAt.ext hb0_1 e9_7
   have := Ext.size e9_7
   replace eB := Ext.trans eB e9_7
   have hfho9_7 : Fresh h9_6.size [h9_6.size] := Fresh.one _
   have hlho9_7 := OS.lt ho9_7
   try simp -implicitDefEqProofs (disch := first | decide | assumption | omega) only [go_sem, RdS.len (OS.rd ho9_5) sl26, RdS.idx (OS.rd ho9_5) sl26, RdS.cellN (OS.rd ho9_5), RdS.cells (OS.rd ho9_5), RdS.len (OS.rd ho9_6) sl26, RdS.idx (OS.rd ho9_6) sl26, RdS.cellN (OS.rd ho9_6), RdS.cells (OS.rd ho9_6), RdS.len (OS.rd ho9_7) sl26, RdS.idx (OS.rd ho9_7) sl26, RdS.cellN (OS.rd ho9_7), RdS.cells (OS.rd ho9_7), wrap_id, bP0, bP6 (OS.isSl ho9_5) (OS.isSl ho9_6) (OS.isSl ho9_7)]
   refine op_alloc (cs := #[.int .i64 0, .int .i64 0, .int .i64 0, .slice none 0 0, .slice none 0 0, .slice none 0 0]) (by kernel_rfl) ?_
   intro h9_9 e9_9 hb9_9 z9_9
   replace how2_3_0 := OS.ext how2_3_0 e9_9
   replace how2_6_0 := OS.ext how2_6_0 e9_9
   replace how8_2_0 := OS.ext how8_2_0 e9_9
   replace ho9_5 := OS.ext ho9_5 e9_9
   replace ho9_6 := OS.ext ho9_6 e9_9
   replace ho9_7 := OS.ext ho9_7 e9_9
   replace hb0_0 := BoxAt.ext hb0_0 e9_9
   replace hb0_1 := BoxAt.ext hb0_1 e9_9
   have := Ext.size e9_9
   replace eB := Ext.trans eB e9_9
   have hfhb9_9 : Fresh h9_7.size [h9_7.size] := Fresh.one _
   have hlhb9_9 := one_lt (show h9_7.size < h9_9.size by omega)
   try simp -implicitDefEqProofs (disch := first | decide | assumption | omega) only [go_sem, BoxAt.cell hb0_1, wrap_id, bP0, bP6 (OS.isSl ho9_5) (OS.isSl ho9_6) (OS.isSl ho9_7)]
   refine op_storeB (cs' := #[.int .i64 (X.p), .int .i64 (((mdL X).length : Int)), .int .i64 (((clL X).length : Int)), v9_5, v9_6, v9_7]) st53 hb9_9 rfl rfl rfl (by simp) (allOne_mem (l := [.int .i64 (X.p), .int .i64 (((mdL X).length : Int)), .int .i64 (((clL X).length : Int)), v9_5, v9_6, v9_7]) ⟨rfl, rfl, rfl, (OS.one ho9_5).1, (OS.one ho9_6).1, (OS.one ho9_7).1, trivial⟩) rfl ?_
   intro h9_10 hb9_9 c9_10
   replace how2_3_0 := OS.chg how2_3_0 c9_10 (apart_lt hlhow2_3_0 hfhb9_9 (by omega))
   replace how2_6_0 := OS.chg how2_6_0 c9_10 (apart_lt hlhow2_6_0 hfhb9_9 (by omega))
   replace how8_2_0 := OS.chg how8_2_0 c9_10 (apart_lt hlhow8_2_0 hfhb9_9 (by omega))
   replace ho9_5 := OS.chg ho9_5 c9_10 (apart_lt hlho9_5 hfhb9_9 (by omega))
   replace ho9_6 := OS.chg ho9_6 c9_10 (apart_lt hlho9_6 hfhb9_9 (by omega))
   replace ho9_7 := OS.chg ho9_7 c9_10 (apart_lt hlho9_7 hfhb9_9 (by omega))
   replace hb0_0 := BoxAt.chgA hb0_0 c9_10 (apart_lt hlhb0_0 hfhb9_9 (by omega))
   replace hb0_1 := BoxAt.chgA hb0_1 c9_10 (apart_lt hlhb0_1 hfhb9_9 (by omega))
   have := c9_10.size
   replace eB := Ext.then eB c9_10 (ge_of hfhb9_9 (by omega))
   try simp -implicitDefEqProofs (disch := first | decide | assumption | omega) only [go_sem, BoxAt.cell hb0_1, wrap_id, bP0, bP6 (OS.isSl ho9_5) (OS.isSl ho9_6) (OS.isSl ho9_7)]
   refine hK _ _ ?_
   clear hK K
   refine den_seq ?_
   refine den_seq ?_
   refine den_region TTok ?_
   intro K hK
   simp -implicitDefEqProofs (disch := first | decide | assumption | omega) only [go_sem, wrap_id, bP0]
   refine hK _ _ ?_
   clear hK K
   refine den_block ?_
   refine den_sel [12, 1, 2, 3, 5, 6, 10, 11] ?_
   intro env_8
   simp only [go_sem]
   refine den_loopS (σ := Nat × Value × List Nat × Value × List Nat) (fun st_ => [(12, .int .i64 (st_.1 : Int))]) (fun st_ H => (st_.1 ≤ (mdL X).length) ∧ (O2 H st_.2.1 (((mdL X).take st_.1).map (fun r => tlP (mdL X) (mvP X.p X.i X.d.toNat r))) st_.2.2.1) ∧ (Fresh (h8_2.size) st_.2.2.1) ∧ (Sub ([h8_2.size] ++ ([h9_5.size] ++ ([h9_7.size]))) h9_10.size st_.2.2.1) ∧ (O2 H st_.2.2.2.1 (((mdL X).take st_.1).map (jdP X)) st_.2.2.2.2) ∧ (Fresh (h9_5.size) st_.2.2.2.2) ∧ (Sub ([h8_2.size] ++ ([h9_5.size] ++ ([h9_7.size]))) h9_10.size st_.2.2.2.2) ∧ (BoxAt H (h9_7.size) #[.int .i64 (X.p), .int .i64 (((mdL X).length : Int)), .int .i64 (((clL X).length : Int)), st_.2.1, st_.2.2.2.1, v9_7] 53) ∧ (Apart st_.2.2.1 st_.2.2.2.2) ∧ (Apart st_.2.2.1 [h9_7.size]) ∧ (Apart st_.2.2.2.2 [h9_7.size]) ∧ (Chg ([h8_2.size] ++ ([h9_5.size] ++ ([h9_7.size]))) h9_10 H)) (fun st_ => (mdL X).length - st_.1) (0, v9_5, [h8_2.size], v9_6, [h9_5.size]) ?_ ?_
   ·exact ⟨by first | (simp; done) | (dsimp only; omega) | (simp; omega), by show O2 _ _ [] _; exact ho9_5, hfho9_5, (Sub.left Sub.refl), by show O2 _ _ [] _; exact ho9_6, hfho9_6, (Sub.right (Sub.left Sub.refl)), by simpa using hb9_9, (apart_lt hlho9_5 hfho9_6 (by omega)), (apart_lt hlho9_5 hfhb9_9 (by omega)), (apart_lt hlho9_6 hfhb9_9 (by omega)), Chg.refl _ _⟩
   ·rintro ⟨i, vhI, fphI, vhJ, fphJ⟩ h11 ee10 ⟨hi0, hI, hfhI, sbhI, hJ, hfhJ, sbhJ, hbx11, ap_hI_hJ, ap_hI_hbx11, ap_hJ_hbx11, cL9⟩
    dsimp only at hi0 hI hfhI sbhI hJ hfhJ sbhJ hbx11 ap_hI_hJ ap_hI_hbx11 ap_hJ_hbx11 cL9
    replace how2_3_0 := OS.chg how2_3_0 cL9 (Apart.app (apart_lt hlhow2_3_0 hfho9_5 (by omega)) (Apart.app (apart_lt hlhow2_3_0 hfho9_6 (by omega)) (apart_lt hlhow2_3_0 hfhb9_9 (by omega))))
    replace how2_6_0 := OS.chg how2_6_0 cL9 (Apart.app (apart_lt hlhow2_6_0 hfho9_5 (by omega)) (Apart.app (apart_lt hlhow2_6_0 hfho9_6 (by omega)) (apart_lt hlhow2_6_0 hfhb9_9 (by omega))))
    replace how8_2_0 := OS.chg how8_2_0 cL9 (Apart.app (apart_lt hlhow8_2_0 hfho9_5 (by omega)) (Apart.app (apart_lt hlhow8_2_0 hfho9_6 (by omega)) (apart_lt hlhow8_2_0 hfhb9_9 (by omega))))
    replace ho9_7 := OS.chg ho9_7 cL9 (Apart.app (apart_gt hfho9_7 hlho9_5 (by omega)) (Apart.app (apart_gt hfho9_7 hlho9_6 (by omega)) (apart_lt hlho9_7 hfhb9_9 (by omega))))
    replace hb0_0 := BoxAt.chgA hb0_0 cL9 (Apart.app (apart_lt hlhb0_0 hfho9_5 (by omega)) (Apart.app (apart_lt hlhb0_0 hfho9_6 (by omega)) (apart_lt hlhb0_0 hfhb9_9 (by omega))))
    replace hb0_1 := BoxAt.chgA hb0_1 cL9 (Apart.app (apart_lt hlhb0_1 hfho9_5 (by omega)) (Apart.app (apart_lt hlhb0_1 hfho9_6 (by omega)) (apart_lt hlhb0_1 hfhb9_9 (by omega))))
    have := cL9.size
    replace eB := Ext.then eB cL9 (ge_app (ge_of hfho9_5 (by omega)) (ge_app (ge_of hfho9_6 (by omega)) (ge_of hfhb9_9 (by omega))))
    have ap12 : Apart [h9_6.size] fphI := Apart.sub_ hlho9_7 (by omega) (Apart.app (apart_gt hfho9_7 hlho9_5 (by omega)) (Apart.app (apart_gt hfho9_7 hlho9_6 (by omega)) (apart_lt hlho9_7 hfhb9_9 (by omega)))) sbhI
    have ap13 : Apart [h9_6.size] fphJ := Apart.sub_ hlho9_7 (by omega) (Apart.app (apart_gt hfho9_7 hlho9_5 (by omega)) (Apart.app (apart_gt hfho9_7 hlho9_6 (by omega)) (apart_lt hlho9_7 hfhb9_9 (by omega)))) sbhJ
    have hlhI := OS.lt hI
    have hlhJ := OS.lt hJ
    have hfhbx11 := hfhb9_9
    have hlhbx11 := hlhb9_9
    simp only [List.cons_append, List.nil_append]
    refine den_seq ?_
    refine den_seq ?_
    refine den_region TTok ?_
    intro K hK
    simp -implicitDefEqProofs (disch := first | decide | assumption | omega) only [go_sem, RdS.len (OS.rd how2_3_0) sl26, RdS.idx (OS.rd how2_3_0) sl26, RdS.cellN (OS.rd how2_3_0), RdS.cells (OS.rd how2_3_0), wrap_id, bP0]
    refine hK _ _ ?_
    clear hK K
    refine den_cond rfl (fun c1 => ?_) (fun c1 => ?_)
    ·try simp only [decide_eq_true_eq, decide_eq_false_iff_not, beq_iff_eq, beq_eq_false_iff_ne, bne_iff_ne, ne_eq, Bool.not_eq_true', Bool.not_eq_false', Bool.and_eq_true, Bool.or_eq_true, bne_eq_false_iff_eq] at c1
     refine den_skip ?_
     refine den_seq ?_
     refine den_block ?_
     refine den_seq ?_
     have hbw := md_tb hC _ (getD_mem (k := i) (by omega))
     have hbv := hbw.2
     have hbt : Tbl X.p X.d X.i := fun r hr => by have := hC.ir r hr; exact ⟨by omega, this.2⟩
     have hcoV : (mvP X.p X.i X.d.toNat ((mdL X).getD i default)).length = X.d.toNat ∧ X.d.toNat ≤ 1000 := ⟨mvP_len hC.ir _, by omega⟩
     have hcoD : Bnd X.p (mvP X.p X.i X.d.toNat ((mdL X).getD i default)) := mvP_bnd hp hC.ir hbv
     have hcoR := rm
     have hmt0 : (((mdL X).take i).map (fun r => tlP (mdL X) (mvP X.p X.i X.d.toNat r))).length ≤ 24 := by rw [List.length_map, List.length_take]; omega
     have hmt1 : (((mdL X).take i).map (jdP X)).length ≤ 24 := by rw [List.length_map, List.length_take]; omega
     refine den_draw TTok mixed [15, 17] [(0, true), (1, true), (2, true), (3, true), (4, true), (5, true), (6, true), (7, true), (8, true), (9, true), (10, true), (11, true), (12, false), (13, false), (14, false), (15, false), (16, true), (17, false)] (by kernel_rfl) ?_
     intro K hK
     have hr14 := RdS.rowN (OS.rd how2_3_0) i (by omega)
     have hlhr14 := RdS.le hr14
     have xr15 := Ext.refl h11
     simp -implicitDefEqProofs (disch := first | decide | assumption | omega) only [go_sem, fa53_1, fa53_3, ld26, ld22, ld2, RdS.len hiX sl26, RdS.idx hiX sl26, RdS.cellB hiX (Ext.pres eB), RdS.cells hiX, RdS.len hjX sl26, RdS.idx hjX sl26, RdS.cellB hjX (Ext.pres eB), RdS.cells hjX, RdS.len hkX sl26, RdS.idx hkX sl26, RdS.cellB hkX (Ext.pres eB), RdS.cells hkX, RdS.len (OS.rd how2_3_0) sl26, RdS.idx (OS.rd how2_3_0) sl26, RdS.cellN (OS.rd how2_3_0), RdS.cells (OS.rd how2_3_0), RdS.len (OS.rd ho9_7) sl26, RdS.idx (OS.rd ho9_7) sl26, RdS.cellN (OS.rd ho9_7), RdS.cells (OS.rd ho9_7), RdS.len (OS.rd hI) sl26, RdS.idx (OS.rd hI) sl26, RdS.cellN (OS.rd hI), RdS.cells (OS.rd hI), RdS.len (OS.rd hJ) sl26, RdS.idx (OS.rd hJ) sl26, RdS.cellN (OS.rd hJ), RdS.cells (OS.rd hJ), BoxAt.cell hb0_0, BoxAt.cell hbx11, RdS.len hr14 sl22, RdS.idx hr14 sl22, R1.intB hr14 (Ext.pres xr15), RdS.cells hr14, wrap_id, bP0]
     try simp -implicitDefEqProofs (disch := first | decide | assumption | omega) only [go_sem, BoxAt.cell hb0_1, wrap_id, bP0]
     refine CallA.mono (sApply_ok _ _ _ _ _ _ _ (RdS.pres hr14 (Ext.pres xr15)) (RdS.pres hiX (Ext.pres eB)) (by omega) (by omega) (by omega) hbv hbt) ?_
     intro v13_12 h13_12
     rintro ⟨f13_12, ho13_12, hf13_12, e13_12⟩
     replace how2_3_0 := OS.ext how2_3_0 e13_12
     replace how2_6_0 := OS.ext how2_6_0 e13_12
     replace how8_2_0 := OS.ext how8_2_0 e13_12
     replace ho9_7 := OS.ext ho9_7 e13_12
     replace hI := OS.ext hI e13_12
     replace hJ := OS.ext hJ e13_12
     replace hb0_0 := BoxAt.ext hb0_0 e13_12
     replace hb0_1 := BoxAt.ext hb0_1 e13_12
     replace hbx11 := BoxAt.ext hbx11 e13_12
     have := Ext.size e13_12
     replace eB := Ext.trans eB e13_12
     replace xr15 := Ext.trans xr15 e13_12
     replace cL9 := Chg.stepE cL9 e13_12
     have hlho13_12 := OS.lt ho13_12
     try simp (disch := decide) only [outv_some, outv_none, put_puts]
     refine plK_pres (Ext.pres e13_12) ?_
     try simp -implicitDefEqProofs (disch := first | decide | assumption | omega) only [go_sem, BoxAt.cell hb0_1, wrap_id, bP0]
     try simp -implicitDefEqProofs (disch := first | decide | assumption | omega) only [go_sem, BoxAt.cell hb0_1, wrap_id, bP0]
     refine CallA.mono (sTold_ok _ _ (mdL X) (accP X.p ((mdL X).getD i default) X.i (List.replicate (X.d).toNat 0)) _ (OS.rd how2_3_0) (OS.rd ho13_12) hcoR hcoV) ?_
     intro vw13_13_0 h13_13
     rintro ⟨zvw13_13_0, fw13_13_0, rfl, how13_13_0, hfw13_13_0, e13_13⟩
     replace how2_3_0 := OS.ext how2_3_0 e13_13
     replace how2_6_0 := OS.ext how2_6_0 e13_13
     replace how8_2_0 := OS.ext how8_2_0 e13_13
     replace ho9_7 := OS.ext ho9_7 e13_13
     replace hI := OS.ext hI e13_13
     replace hJ := OS.ext hJ e13_13
     replace ho13_12 := OS.ext ho13_12 e13_13
     replace hb0_0 := BoxAt.ext hb0_0 e13_13
     replace hb0_1 := BoxAt.ext hb0_1 e13_13
     replace hbx11 := BoxAt.ext hbx11 e13_13
     have := Ext.size e13_13
     replace eB := Ext.trans eB e13_13
     replace xr15 := Ext.trans xr15 e13_13
     replace cL9 := Chg.stepE cL9 e13_13
     have hlhow13_13_0 := OS.lt how13_13_0
     try simp (disch := decide) only [outv_some, outv_none, put_puts]
     refine plK_pres (Ext.pres e13_13) ?_
     try simp -implicitDefEqProofs (disch := first | decide | assumption | omega) only [go_sem, BoxAt.cell hb0_1, wrap_id, bP0]
     refine op_bs1 sz26 rfl (OS.one how13_13_0).2 ?_
     try simp (disch := decide) only [outv_some, outv_none, put_puts]
     refine plK_pres (Ext.pres (Ext.push _ _)) ?_
     try simp -implicitDefEqProofs (disch := first | decide | assumption | omega) only [go_sem, BoxAt.cell hb0_1, wrap_id, bP0]
     refine op_append1 sz26 hI hfhI.nodup how13_13_0 hfw13_13_0.nodup (apart_lt hlhI hfw13_13_0 (by omega)) (by first | omega | (simp; omega)) rfl rfl ?_
     intro v13_15 h13_15 fp13_15 ho13_15 hn13_15 hs13_15 c13_15
     have hsz13_15 := c13_15.size
     have hfho13_15 : Fresh h8_2.size fp13_15 := Fresh.appd hfhI hfw13_13_0 (by omega) (by omega) hn13_15 hs13_15
     have sb16 : Sub ([h8_2.size] ++ ([h9_5.size] ++ ([h9_7.size]))) h9_10.size fp13_15 := Sub.grow sbhI (Sub.fresh hfw13_13_0 (by omega)) (by omega) hs13_15
     replace how2_3_0 := OS.chg how2_3_0 c13_15 (apart_lt hlhow2_3_0 hfhI (by omega))
     replace how2_6_0 := OS.chg how2_6_0 c13_15 (apart_lt hlhow2_6_0 hfhI (by omega))
     replace how8_2_0 := OS.chg how8_2_0 c13_15 (apart_lt hlhow8_2_0 hfhI (by omega))
     replace ho9_7 := OS.chg ho9_7 c13_15 ap12
     replace hJ := OS.chg hJ c13_15 (Apart.symm ap_hI_hJ)
     replace ho13_12 := OS.chg ho13_12 c13_15 (apart_gt hf13_12 hlhI (by omega))
     replace hb0_0 := BoxAt.chgA hb0_0 c13_15 (apart_lt hlhb0_0 hfhI (by omega))
     replace hb0_1 := BoxAt.chgA hb0_1 c13_15 (apart_lt hlhb0_1 hfhI (by omega))
     replace hbx11 := BoxAt.chgA hbx11 c13_15 (Apart.symm ap_hI_hbx11)
     have := c13_15.size
     replace eB := Ext.then eB c13_15 (ge_of hfhI (by omega))
     replace cL9 := Chg.step cL9 c13_15 sbhI
     have ap17 : Apart [h9_6.size] fp13_15 := Apart.grow hlho9_7 (by omega) ap12 (apart_lt hlho9_7 hfw13_13_0 (by omega)) hs13_15
     have ap18 : Apart fphJ fp13_15 := Apart.grow hlhJ (by omega) (Apart.symm ap_hI_hJ) (apart_lt hlhJ hfw13_13_0 (by omega)) hs13_15
     have ap19 : Apart f13_12 fp13_15 := Apart.grow hlho13_12 (by omega) (apart_gt hf13_12 hlhI (by omega)) (apart_lt hlho13_12 hfw13_13_0 (by omega)) hs13_15
     have ap20 : Apart [h9_7.size] fp13_15 := Apart.grow hlhbx11 (by omega) (Apart.symm ap_hI_hbx11) (apart_lt hlhbx11 hfw13_13_0 (by omega)) hs13_15
     have hlho13_15 := OS.lt ho13_15
     try simp (disch := decide) only [outv_some, outv_none, put_puts]
     refine plK_last (by decide) ?_
     try simp -implicitDefEqProofs (disch := first | decide | assumption | omega) only [go_sem, fa53_3, RdS.len (OS.rd ho9_7) sl26, RdS.idx (OS.rd ho9_7) sl26, RdS.cellN (OS.rd ho9_7), RdS.cells (OS.rd ho9_7), RdS.len (OS.rd hJ) sl26, RdS.idx (OS.rd hJ) sl26, RdS.cellN (OS.rd hJ), RdS.cells (OS.rd hJ), BoxAt.cell hbx11, wrap_id, bP0]
     refine op_storeB (cs' := #[.int .i64 (X.p), .int .i64 (((mdL X).length : Int)), .int .i64 (((clL X).length : Int)), v13_15, vhJ, v9_7]) st26 hbx11 rfl (OS.one ho13_15).2 rfl (by simp) (allOne_mem (l := [v13_15]) ⟨(OS.one ho13_15).1, trivial⟩) rfl ?_
     intro h13_17 hbx11 c13_17
     replace how2_3_0 := OS.chg how2_3_0 c13_17 (apart_lt hlhow2_3_0 hfhbx11 (by omega))
     replace how2_6_0 := OS.chg how2_6_0 c13_17 (apart_lt hlhow2_6_0 hfhbx11 (by omega))
     replace how8_2_0 := OS.chg how8_2_0 c13_17 (apart_lt hlhow8_2_0 hfhbx11 (by omega))
     replace ho9_7 := OS.chg ho9_7 c13_17 (apart_lt hlho9_7 hfhbx11 (by omega))
     replace hJ := OS.chg hJ c13_17 ap_hJ_hbx11
     replace ho13_12 := OS.chg ho13_12 c13_17 (apart_gt hf13_12 hlhbx11 (by omega))
     replace ho13_15 := OS.chg ho13_15 c13_17 (Apart.symm ap20)
     replace hb0_0 := BoxAt.chgA hb0_0 c13_17 (apart_lt hlhb0_0 hfhbx11 (by omega))
     replace hb0_1 := BoxAt.chgA hb0_1 c13_17 (apart_lt hlhb0_1 hfhbx11 (by omega))
     have := c13_17.size
     replace eB := Ext.then eB c13_17 (ge_of hfhbx11 (by omega))
     replace cL9 := Chg.step cL9 c13_17 (Sub.right (Sub.right Sub.refl))
     try simp (disch := decide) only [outv_some, outv_none, put_puts]
     refine plK_last (by decide) ?_
     try simp -implicitDefEqProofs (disch := first | decide | assumption | omega) only [go_sem, BoxAt.cell hb0_1, wrap_id, bP0]
     refine hK _ _ ?_
     clear hK K
     refine den_seq ?_
     have hbef := md_tb hC _ (getD_mem (k := i) (by omega))
     have hlb := bef_lift hC hbef.1 hbef.2 (md_sp hC (by omega))
     refine den_draw TTok mixed [] [(0, true), (1, true), (2, true), (3, true), (4, true), (5, true), (6, true), (7, true), (8, true), (9, false), (10, true)] (by kernel_rfl) ?_
     intro K hK
     have hr21 := RdS.rowN (OS.rd how2_3_0) i (by omega)
     have hlhr21 := RdS.le hr21
     have xr22 := Ext.refl h13_17
     simp -implicitDefEqProofs (disch := first | decide | assumption | omega) only [go_sem, fa53_1, fa53_3, ld26, ld22, ld2, RdS.len hiX sl26, RdS.idx hiX sl26, RdS.cellB hiX (Ext.pres eB), RdS.cells hiX, RdS.len hjX sl26, RdS.idx hjX sl26, RdS.cellB hjX (Ext.pres eB), RdS.cells hjX, RdS.len hkX sl26, RdS.idx hkX sl26, RdS.cellB hkX (Ext.pres eB), RdS.cells hkX, RdS.len (OS.rd how2_3_0) sl26, RdS.idx (OS.rd how2_3_0) sl26, RdS.cellN (OS.rd how2_3_0), RdS.cells (OS.rd how2_3_0), BoxAt.cell hb0_0, RdS.len hr21 sl22, RdS.idx hr21 sl22, R1.intB hr21 (Ext.pres xr22), RdS.cells hr21, wrap_id, bP0]
     try simp -implicitDefEqProofs (disch := first | decide | assumption | omega) only [go_sem, BoxAt.cell hb0_1, wrap_id, bP0]
     refine CallA.mono (sBef_ok _ _ X.p X.i X.d ((mdL X).getD i default) _ (RdS.pres hiX (Ext.pres eB)) (RdS.pres hr21 (Ext.pres xr22)) hC.p hC.ir hbef (by omega)) ?_
     intro vw14_9_0 h14_9
     rintro ⟨zvw14_9_0, fw14_9_0, rfl, how14_9_0, hfw14_9_0, e14_9⟩
     replace how2_3_0 := OS.ext how2_3_0 e14_9
     replace how2_6_0 := OS.ext how2_6_0 e14_9
     replace how8_2_0 := OS.ext how8_2_0 e14_9
     replace ho9_7 := OS.ext ho9_7 e14_9
     replace hJ := OS.ext hJ e14_9
     replace ho13_15 := OS.ext ho13_15 e14_9
     replace hb0_0 := BoxAt.ext hb0_0 e14_9
     replace hb0_1 := BoxAt.ext hb0_1 e14_9
     replace hbx11 := BoxAt.ext hbx11 e14_9
     have := Ext.size e14_9
     replace eB := Ext.trans eB e14_9
     replace xr22 := Ext.trans xr22 e14_9
     replace cL9 := Chg.stepE cL9 e14_9
     have hlhow14_9_0 := OS.lt how14_9_0
     try simp (disch := decide) only [outv_some, outv_none, put_puts]
     refine plK_pres (Ext.pres e14_9) ?_
     try simp -implicitDefEqProofs (disch := first | decide | assumption | omega) only [go_sem, RdS.len (OS.rd how14_9_0) sl22, RdS.idx (OS.rd how14_9_0) sl22, R1.intN (OS.rd how14_9_0), RdS.cells (OS.rd how14_9_0), wrap_id, bP0]
     refine hK _ _ ?_
     clear hK K
     have hbw := (⟨hlb.1, hlb.2.1⟩ : (befL X.p X.i X.d.toNat ((mdL X).getD i default)).length = X.d.toNat ∧ Bnd X.p (befL X.p X.i X.d.toNat ((mdL X).getD i default)))
     have hbv := hbw.2
     have hbt : Tbl X.p X.e X.j := fun r hr => by have := hC.jr r hr; exact ⟨by omega, this.2⟩
     have hrv : (mvP X.p X.j X.e.toNat (befL X.p X.i X.d.toNat ((mdL X).getD i default))).length = X.e.toNat ∧ X.e.toNat ≤ 1000 := ⟨mvP_len hC.jr _, by omega⟩
     have hrb : Bnd X.p (mvP X.p X.j X.e.toNat (befL X.p X.i X.d.toNat ((mdL X).getD i default))) := mvP_bnd hp hC.jr hbv
     have hrr := rb
     have hcoR := rc
     have hcoV : (restP X.p (bdL X) (mvP X.p X.j X.e.toNat (befL X.p X.i X.d.toNat ((mdL X).getD i default)))).length = X.e.toNat ∧ X.e.toNat ≤ 1000 := ⟨by rw [restP_len]; exact hrv.1, by omega⟩
     have hmt0 : (((mdL X).take i).map (fun r => tlP (mdL X) (mvP X.p X.i X.d.toNat r))).length ≤ 24 := by rw [List.length_map, List.length_take]; omega
     have hmt1 : (((mdL X).take i).map (jdP X)).length ≤ 24 := by rw [List.length_map, List.length_take]; omega
     refine den_draw TTok mixed [15, 17] [(0, true), (1, true), (2, true), (3, true), (4, true), (5, true), (6, true), (7, true), (8, true), (9, true), (10, true), (11, false), (12, false), (13, false), (14, false), (15, false), (16, true), (17, false)] (by kernel_rfl) ?_
     intro K hK
     simp -implicitDefEqProofs (disch := first | decide | assumption | omega) only [go_sem, fa53_2, fa53_4, ld26, ld2, RdS.len hiX sl26, RdS.idx hiX sl26, RdS.cellB hiX (Ext.pres eB), RdS.cells hiX, RdS.len hjX sl26, RdS.idx hjX sl26, RdS.cellB hjX (Ext.pres eB), RdS.cells hjX, RdS.len hkX sl26, RdS.idx hkX sl26, RdS.cellB hkX (Ext.pres eB), RdS.cells hkX, RdS.len (OS.rd how2_6_0) sl26, RdS.idx (OS.rd how2_6_0) sl26, RdS.cellN (OS.rd how2_6_0), RdS.cells (OS.rd how2_6_0), RdS.len (OS.rd how8_2_0) sl26, RdS.idx (OS.rd how8_2_0) sl26, RdS.cellN (OS.rd how8_2_0), RdS.cells (OS.rd how8_2_0), RdS.len (OS.rd ho9_7) sl26, RdS.idx (OS.rd ho9_7) sl26, RdS.cellN (OS.rd ho9_7), RdS.cells (OS.rd ho9_7), RdS.len (OS.rd hJ) sl26, RdS.idx (OS.rd hJ) sl26, RdS.cellN (OS.rd hJ), RdS.cells (OS.rd hJ), RdS.len (OS.rd ho13_15) sl26, RdS.idx (OS.rd ho13_15) sl26, RdS.cellN (OS.rd ho13_15), RdS.cells (OS.rd ho13_15), RdS.len (OS.rd how14_9_0) sl22, RdS.idx (OS.rd how14_9_0) sl22, R1.intN (OS.rd how14_9_0), RdS.cells (OS.rd how14_9_0), BoxAt.cell hb0_0, BoxAt.cell hbx11, wrap_id, bP0]
     try simp -implicitDefEqProofs (disch := first | decide | assumption | omega) only [go_sem, BoxAt.cell hb0_1, wrap_id, bP0]
     refine CallA.mono (sApply_ok _ _ _ _ _ _ _ (OS.rd how14_9_0) (RdS.pres hjX (Ext.pres eB)) (by omega) (by omega) (by omega) hbv hbt) ?_
     intro v15_11 h15_11
     rintro ⟨f15_11, ho15_11, hf15_11, e15_11⟩
     replace how2_3_0 := OS.ext how2_3_0 e15_11
     replace how2_6_0 := OS.ext how2_6_0 e15_11
     replace how8_2_0 := OS.ext how8_2_0 e15_11
     replace ho9_7 := OS.ext ho9_7 e15_11
     replace hJ := OS.ext hJ e15_11
     replace ho13_15 := OS.ext ho13_15 e15_11
     replace how14_9_0 := OS.ext how14_9_0 e15_11
     replace hb0_0 := BoxAt.ext hb0_0 e15_11
     replace hb0_1 := BoxAt.ext hb0_1 e15_11
     replace hbx11 := BoxAt.ext hbx11 e15_11
     have := Ext.size e15_11
     replace eB := Ext.trans eB e15_11
     replace xr22 := Ext.trans xr22 e15_11
     replace cL9 := Chg.stepE cL9 e15_11
     have hlho15_11 := OS.lt ho15_11
     try simp (disch := decide) only [outv_some, outv_none, put_puts]
     refine plK_pres (Ext.pres e15_11) ?_
     try simp -implicitDefEqProofs (disch := first | decide | assumption | omega) only [go_sem, BoxAt.cell hb0_1, wrap_id, bP0]
     try simp -implicitDefEqProofs (disch := first | decide | assumption | omega) only [go_sem, BoxAt.cell hb0_1, wrap_id, bP0]
     refine CallA.mono (sRest_ok _ _ X.p (bdL X) (accP X.p (befL X.p X.i X.d.toNat ((mdL X).getD i default)) X.j (List.replicate (X.e).toNat 0)) _ (OS.rd how2_6_0) (OS.rd ho15_11) hP hrr hrv hrb) ?_
     intro vw15_12_0 h15_12
     rintro ⟨zvw15_12_0, fw15_12_0, rfl, how15_12_0, hfw15_12_0, e15_12⟩
     replace how2_3_0 := OS.ext how2_3_0 e15_12
     replace how2_6_0 := OS.ext how2_6_0 e15_12
     replace how8_2_0 := OS.ext how8_2_0 e15_12
     replace ho9_7 := OS.ext ho9_7 e15_12
     replace hJ := OS.ext hJ e15_12
     replace ho13_15 := OS.ext ho13_15 e15_12
     replace how14_9_0 := OS.ext how14_9_0 e15_12
     replace ho15_11 := OS.ext ho15_11 e15_12
     replace hb0_0 := BoxAt.ext hb0_0 e15_12
     replace hb0_1 := BoxAt.ext hb0_1 e15_12
     replace hbx11 := BoxAt.ext hbx11 e15_12
     have := Ext.size e15_12
     replace eB := Ext.trans eB e15_12
     replace xr22 := Ext.trans xr22 e15_12
     replace cL9 := Chg.stepE cL9 e15_12
     have hlhow15_12_0 := OS.lt how15_12_0
     try simp (disch := decide) only [outv_some, outv_none, put_puts]
     refine plK_pres (Ext.pres e15_12) ?_
     try simp -implicitDefEqProofs (disch := first | decide | assumption | omega) only [go_sem, BoxAt.cell hb0_1, wrap_id, bP0]
     try simp -implicitDefEqProofs (disch := first | decide | assumption | omega) only [go_sem, BoxAt.cell hb0_1, wrap_id, bP0]
     refine CallA.mono (sTold_ok _ _ (clL X) (restP X.p (bdL X) (accP X.p (befL X.p X.i X.d.toNat ((mdL X).getD i default)) X.j (List.replicate (X.e).toNat 0))) _ (OS.rd how8_2_0) (OS.rd how15_12_0) hcoR hcoV) ?_
     intro vw15_13_0 h15_13
     rintro ⟨zvw15_13_0, fw15_13_0, rfl, how15_13_0, hfw15_13_0, e15_13⟩
     replace how2_3_0 := OS.ext how2_3_0 e15_13
     replace how2_6_0 := OS.ext how2_6_0 e15_13
     replace how8_2_0 := OS.ext how8_2_0 e15_13
     replace ho9_7 := OS.ext ho9_7 e15_13
     replace hJ := OS.ext hJ e15_13
     replace ho13_15 := OS.ext ho13_15 e15_13
     replace how14_9_0 := OS.ext how14_9_0 e15_13
     replace ho15_11 := OS.ext ho15_11 e15_13
     replace how15_12_0 := OS.ext how15_12_0 e15_13
     replace hb0_0 := BoxAt.ext hb0_0 e15_13
     replace hb0_1 := BoxAt.ext hb0_1 e15_13
     replace hbx11 := BoxAt.ext hbx11 e15_13
     have := Ext.size e15_13
     replace eB := Ext.trans eB e15_13
     replace xr22 := Ext.trans xr22 e15_13
     replace cL9 := Chg.stepE cL9 e15_13
     have hlhow15_13_0 := OS.lt how15_13_0
     try simp (disch := decide) only [outv_some, outv_none, put_puts]
     refine plK_pres (Ext.pres e15_13) ?_
     try simp -implicitDefEqProofs (disch := first | decide | assumption | omega) only [go_sem, BoxAt.cell hb0_1, wrap_id, bP0]
     refine op_bs1 sz26 rfl (OS.one how15_13_0).2 ?_
     try simp (disch := decide) only [outv_some, outv_none, put_puts]
     refine plK_pres (Ext.pres (Ext.push _ _)) ?_
     try simp -implicitDefEqProofs (disch := first | decide | assumption | omega) only [go_sem, BoxAt.cell hb0_1, wrap_id, bP0]
     refine op_append1 sz26 hJ hfhJ.nodup how15_13_0 hfw15_13_0.nodup (apart_lt hlhJ hfw15_13_0 (by omega)) (by first | omega | (simp; omega)) rfl rfl ?_
     intro v15_15 h15_15 fp15_15 ho15_15 hn15_15 hs15_15 c15_15
     have hsz15_15 := c15_15.size
     have hfho15_15 : Fresh h9_5.size fp15_15 := Fresh.appd hfhJ hfw15_13_0 (by omega) (by omega) hn15_15 hs15_15
     have sb23 : Sub ([h8_2.size] ++ ([h9_5.size] ++ ([h9_7.size]))) h9_10.size fp15_15 := Sub.grow sbhJ (Sub.fresh hfw15_13_0 (by omega)) (by omega) hs15_15
     replace how2_3_0 := OS.chg how2_3_0 c15_15 (apart_lt hlhow2_3_0 hfhJ (by omega))
     replace how2_6_0 := OS.chg how2_6_0 c15_15 (apart_lt hlhow2_6_0 hfhJ (by omega))
     replace how8_2_0 := OS.chg how8_2_0 c15_15 (apart_lt hlhow8_2_0 hfhJ (by omega))
     replace ho9_7 := OS.chg ho9_7 c15_15 ap13
     replace ho13_15 := OS.chg ho13_15 c15_15 (Apart.symm ap18)
     replace how14_9_0 := OS.chg how14_9_0 c15_15 (apart_gt hfw14_9_0 hlhJ (by omega))
     replace ho15_11 := OS.chg ho15_11 c15_15 (apart_gt hf15_11 hlhJ (by omega))
     replace how15_12_0 := OS.chg how15_12_0 c15_15 (apart_gt hfw15_12_0 hlhJ (by omega))
     replace hb0_0 := BoxAt.chgA hb0_0 c15_15 (apart_lt hlhb0_0 hfhJ (by omega))
     replace hb0_1 := BoxAt.chgA hb0_1 c15_15 (apart_lt hlhb0_1 hfhJ (by omega))
     replace hbx11 := BoxAt.chgA hbx11 c15_15 (Apart.symm ap_hJ_hbx11)
     have := c15_15.size
     replace eB := Ext.then eB c15_15 (ge_of hfhJ (by omega))
     replace cL9 := Chg.step cL9 c15_15 sbhJ
     have ap24 : Apart [h9_6.size] fp15_15 := Apart.grow hlho9_7 (by omega) ap13 (apart_lt hlho9_7 hfw15_13_0 (by omega)) hs15_15
     have ap25 : Apart fp13_15 fp15_15 := Apart.grow hlho13_15 (by omega) (Apart.symm ap18) (apart_lt hlho13_15 hfw15_13_0 (by omega)) hs15_15
     have ap26 : Apart fw14_9_0 fp15_15 := Apart.grow hlhow14_9_0 (by omega) (apart_gt hfw14_9_0 hlhJ (by omega)) (apart_lt hlhow14_9_0 hfw15_13_0 (by omega)) hs15_15
     have ap27 : Apart f15_11 fp15_15 := Apart.grow hlho15_11 (by omega) (apart_gt hf15_11 hlhJ (by omega)) (apart_lt hlho15_11 hfw15_13_0 (by omega)) hs15_15
     have ap28 : Apart fw15_12_0 fp15_15 := Apart.grow hlhow15_12_0 (by omega) (apart_gt hfw15_12_0 hlhJ (by omega)) (apart_lt hlhow15_12_0 hfw15_13_0 (by omega)) hs15_15
     have ap29 : Apart [h9_7.size] fp15_15 := Apart.grow hlhbx11 (by omega) (Apart.symm ap_hJ_hbx11) (apart_lt hlhbx11 hfw15_13_0 (by omega)) hs15_15
     have hlho15_15 := OS.lt ho15_15
     try simp (disch := decide) only [outv_some, outv_none, put_puts]
     refine plK_last (by decide) ?_
     try simp -implicitDefEqProofs (disch := first | decide | assumption | omega) only [go_sem, fa53_4, RdS.len (OS.rd ho9_7) sl26, RdS.idx (OS.rd ho9_7) sl26, RdS.cellN (OS.rd ho9_7), RdS.cells (OS.rd ho9_7), RdS.len (OS.rd ho13_15) sl26, RdS.idx (OS.rd ho13_15) sl26, RdS.cellN (OS.rd ho13_15), RdS.cells (OS.rd ho13_15), BoxAt.cell hbx11, wrap_id, bP0]
     refine op_storeB (cs' := #[.int .i64 (X.p), .int .i64 (((mdL X).length : Int)), .int .i64 (((clL X).length : Int)), v13_15, v15_15, v9_7]) st26 hbx11 rfl (OS.one ho15_15).2 rfl (by simp) (allOne_mem (l := [v15_15]) ⟨(OS.one ho15_15).1, trivial⟩) rfl ?_
     intro h15_17 hbx11 c15_17
     replace how2_3_0 := OS.chg how2_3_0 c15_17 (apart_lt hlhow2_3_0 hfhbx11 (by omega))
     replace how2_6_0 := OS.chg how2_6_0 c15_17 (apart_lt hlhow2_6_0 hfhbx11 (by omega))
     replace how8_2_0 := OS.chg how8_2_0 c15_17 (apart_lt hlhow8_2_0 hfhbx11 (by omega))
     replace ho9_7 := OS.chg ho9_7 c15_17 (apart_lt hlho9_7 hfhbx11 (by omega))
     replace ho13_15 := OS.chg ho13_15 c15_17 (Apart.symm ap20)
     replace how14_9_0 := OS.chg how14_9_0 c15_17 (apart_gt hfw14_9_0 hlhbx11 (by omega))
     replace ho15_11 := OS.chg ho15_11 c15_17 (apart_gt hf15_11 hlhbx11 (by omega))
     replace how15_12_0 := OS.chg how15_12_0 c15_17 (apart_gt hfw15_12_0 hlhbx11 (by omega))
     replace ho15_15 := OS.chg ho15_15 c15_17 (Apart.symm ap29)
     replace hb0_0 := BoxAt.chgA hb0_0 c15_17 (apart_lt hlhb0_0 hfhbx11 (by omega))
     replace hb0_1 := BoxAt.chgA hb0_1 c15_17 (apart_lt hlhb0_1 hfhbx11 (by omega))
     have := c15_17.size
     replace eB := Ext.then eB c15_17 (ge_of hfhbx11 (by omega))
     replace cL9 := Chg.step cL9 c15_17 (Sub.right (Sub.right Sub.refl))
     try simp (disch := decide) only [outv_some, outv_none, put_puts]
     refine plK_last (by decide) ?_
     try simp -implicitDefEqProofs (disch := first | decide | assumption | omega) only [go_sem, BoxAt.cell hb0_1, wrap_id, bP0]
     refine hK _ _ ?_
     clear hK K
     refine den_blk ?_
     refine den_region TTok ?_
     intro K hK
     simp -implicitDefEqProofs (disch := first | decide | assumption | omega) only [go_sem, wrap_id, bP0]
     refine hK _ _ ?_
     clear hK K
     refine den_stop ?_
     rw [show accP X.p ((mdL X).getD i default) X.i (List.replicate X.d.toNat 0) = mvP X.p X.i X.d.toNat ((mdL X).getD i default) from rfl, map_takeLc (f := fun r => tlP (mdL X) (mvP X.p X.i X.d.toNat r)) (d := default) (by omega)] at ho13_15
     rw [show accP X.p (befL X.p X.i X.d.toNat ((mdL X).getD i default)) X.j (List.replicate X.e.toNat 0) = mvP X.p X.j X.e.toNat (befL X.p X.i X.d.toNat ((mdL X).getD i default)) from rfl, jd_eq hE (by omega) hlb, map_takeLc (f := jdP X) (d := default) (by omega)] at ho15_15
     exact ⟨(i + 1, v13_15, fp13_15, v15_15, fp15_15), by simp [HasL, puts_at], ⟨by first | omega | (dsimp only; omega), ho13_15, hfho13_15, sb16, ho15_15, hfho15_15, sb23, hbx11, ap25, (Apart.symm ap20), (Apart.symm ap29), cL9⟩, by first | omega | (dsimp only; omega)⟩
    ·try simp only [decide_eq_true_eq, decide_eq_false_iff_not, beq_iff_eq, beq_eq_false_iff_ne, bne_iff_ne, ne_eq, Bool.not_eq_true', Bool.not_eq_false', Bool.and_eq_true, Bool.or_eq_true, bne_eq_false_iff_eq] at c1
     refine den_exit ?_
     refine denX_code ?_
     refine denX_stop ?_
     refine denX_hit ?_
     refine den_seq ?_
     refine den_seq ?_
     refine den_region TTok ?_
     intro K hK
     simp -implicitDefEqProofs (disch := first | decide | assumption | omega) only [go_sem, wrap_id, bP0]
     refine hK _ _ ?_
     clear hK K
     refine den_block ?_
     refine den_sel [14, 1, 2, 3, 5, 10, 11] ?_
     intro env_30
     simp only [go_sem]
     refine den_loopS (σ := Nat × Value × List Nat) (fun st_ => [(14, .int .i64 (st_.1 : Int))]) (fun st_ H => (st_.1 ≤ (clL X).length) ∧ (O2 H st_.2.1 (((clL X).take st_.1).map (fun r => tlP (mdL X) (mvP X.p X.k X.d.toNat r))) st_.2.2) ∧ (Fresh (h9_6.size) st_.2.2) ∧ (Sub ([h9_6.size] ++ ([h9_7.size])) h11.size st_.2.2) ∧ (BoxAt H (h9_7.size) #[.int .i64 (X.p), .int .i64 (((mdL X).length : Int)), .int .i64 (((clL X).length : Int)), vhI, vhJ, st_.2.1] 53) ∧ (Apart st_.2.2 [h9_7.size]) ∧ (Chg ([h9_6.size] ++ ([h9_7.size])) h11 H)) (fun st_ => (clL X).length - st_.1) (0, v9_7, [h9_6.size]) ?_ ?_
     ·exact ⟨by first | (simp; done) | (dsimp only; omega) | (simp; omega), by show O2 _ _ [] _; exact ho9_7, hfho9_7, (Sub.left Sub.refl), by simpa using hbx11, (apart_lt hlho9_7 hfhbx11 (by omega)), Chg.refl _ _⟩
     ·rintro ⟨i, vhG, fphG⟩ h33 ee32 ⟨hi0, hG, hfhG, sbhG, hbx11, ap_hG_hbx11, cL31⟩
      dsimp only at hi0 hG hfhG sbhG hbx11 ap_hG_hbx11 cL31
      replace how2_3_0 := OS.chg how2_3_0 cL31 (Apart.app (apart_lt hlhow2_3_0 hfho9_7 (by omega)) (apart_lt hlhow2_3_0 hfhbx11 (by omega)))
      replace how8_2_0 := OS.chg how8_2_0 cL31 (Apart.app (apart_lt hlhow8_2_0 hfho9_7 (by omega)) (apart_lt hlhow8_2_0 hfhbx11 (by omega)))
      replace hI := OS.chg hI cL31 (Apart.app (Apart.symm ap12) ap_hI_hbx11)
      replace hJ := OS.chg hJ cL31 (Apart.app (Apart.symm ap13) ap_hJ_hbx11)
      replace hb0_0 := BoxAt.chgA hb0_0 cL31 (Apart.app (apart_lt hlhb0_0 hfho9_7 (by omega)) (apart_lt hlhb0_0 hfhbx11 (by omega)))
      replace hb0_1 := BoxAt.chgA hb0_1 cL31 (Apart.app (apart_lt hlhb0_1 hfho9_7 (by omega)) (apart_lt hlhb0_1 hfhbx11 (by omega)))
      have := cL31.size
      replace eB := Ext.then eB cL31 (ge_app (ge_of hfho9_7 (by omega)) (ge_of hfhbx11 (by omega)))
      have ap34 : Apart fphI fphG := Apart.sub_ hlhI (by omega) (Apart.app (Apart.symm ap12) ap_hI_hbx11) sbhG
      have ap35 : Apart fphJ fphG := Apart.sub_ hlhJ (by omega) (Apart.app (Apart.symm ap13) ap_hJ_hbx11) sbhG
      have hlhG := OS.lt hG
      have hfhbx11 := hfhbx11
      have hlhbx11 := hlhbx11
      simp only [List.cons_append, List.nil_append]
      refine den_seq ?_
      refine den_seq ?_
      refine den_region TTok ?_
      intro K hK
      simp -implicitDefEqProofs (disch := first | decide | assumption | omega) only [go_sem, RdS.len (OS.rd how8_2_0) sl26, RdS.idx (OS.rd how8_2_0) sl26, RdS.cellN (OS.rd how8_2_0), RdS.cells (OS.rd how8_2_0), wrap_id, bP0]
      refine hK _ _ ?_
      clear hK K
      refine den_cond rfl (fun c2 => ?_) (fun c2 => ?_)
      ·try simp only [decide_eq_true_eq, decide_eq_false_iff_not, beq_iff_eq, beq_eq_false_iff_ne, bne_iff_ne, ne_eq, Bool.not_eq_true', Bool.not_eq_false', Bool.and_eq_true, Bool.or_eq_true, bne_eq_false_iff_eq] at c2
       refine den_skip ?_
       refine den_seq ?_
       refine den_block ?_
       have hbw := cl_tb hC _ (getD_mem (k := i) (by omega))
       have hbv := hbw.2
       have hbt : Tbl X.p X.d X.k := fun r hr => by have := hC.kr r hr; exact ⟨by omega, this.2⟩
       have hcoV : (mvP X.p X.k X.d.toNat ((clL X).getD i default)).length = X.d.toNat ∧ X.d.toNat ≤ 1000 := ⟨mvP_len hC.kr _, by omega⟩
       have hcoD : Bnd X.p (mvP X.p X.k X.d.toNat ((clL X).getD i default)) := mvP_bnd hp hC.kr hbv
       have hcoR := rm
       have hmt0 : (((clL X).take i).map (fun r => tlP (mdL X) (mvP X.p X.k X.d.toNat r))).length ≤ 24 := by rw [List.length_map, List.length_take]; omega
       refine den_draw TTok mixed [15, 17] [(0, true), (1, true), (2, true), (3, true), (4, true), (5, true), (6, true), (7, true), (8, true), (9, true), (10, true), (11, true), (12, false), (13, false), (14, false), (15, false), (16, true), (17, false)] (by kernel_rfl) ?_
       intro K hK
       have hr36 := RdS.rowN (OS.rd how8_2_0) i (by omega)
       have hlhr36 := RdS.le hr36
       have xr37 := Ext.refl h33
       simp -implicitDefEqProofs (disch := first | decide | assumption | omega) only [go_sem, fa53_1, fa53_5, ld26, ld22, ld2, RdS.len hiX sl26, RdS.idx hiX sl26, RdS.cellB hiX (Ext.pres eB), RdS.cells hiX, RdS.len hjX sl26, RdS.idx hjX sl26, RdS.cellB hjX (Ext.pres eB), RdS.cells hjX, RdS.len hkX sl26, RdS.idx hkX sl26, RdS.cellB hkX (Ext.pres eB), RdS.cells hkX, RdS.len (OS.rd how2_3_0) sl26, RdS.idx (OS.rd how2_3_0) sl26, RdS.cellN (OS.rd how2_3_0), RdS.cells (OS.rd how2_3_0), RdS.len (OS.rd how8_2_0) sl26, RdS.idx (OS.rd how8_2_0) sl26, RdS.cellN (OS.rd how8_2_0), RdS.cells (OS.rd how8_2_0), RdS.len (OS.rd hI) sl26, RdS.idx (OS.rd hI) sl26, RdS.cellN (OS.rd hI), RdS.cells (OS.rd hI), RdS.len (OS.rd hJ) sl26, RdS.idx (OS.rd hJ) sl26, RdS.cellN (OS.rd hJ), RdS.cells (OS.rd hJ), RdS.len (OS.rd hG) sl26, RdS.idx (OS.rd hG) sl26, RdS.cellN (OS.rd hG), RdS.cells (OS.rd hG), BoxAt.cell hb0_0, BoxAt.cell hbx11, RdS.len hr36 sl22, RdS.idx hr36 sl22, R1.intB hr36 (Ext.pres xr37), RdS.cells hr36, wrap_id, bP0]
       try simp -implicitDefEqProofs (disch := first | decide | assumption | omega) only [go_sem, BoxAt.cell hb0_1, wrap_id, bP0]
       refine CallA.mono (sApply_ok _ _ _ _ _ _ _ (RdS.pres hr36 (Ext.pres xr37)) (RdS.pres hkX (Ext.pres eB)) (by omega) (by omega) (by omega) hbv hbt) ?_
       intro v19_12 h19_12
       rintro ⟨f19_12, ho19_12, hf19_12, e19_12⟩
       replace how2_3_0 := OS.ext how2_3_0 e19_12
       replace how8_2_0 := OS.ext how8_2_0 e19_12
       replace hI := OS.ext hI e19_12
       replace hJ := OS.ext hJ e19_12
       replace hG := OS.ext hG e19_12
       replace hb0_0 := BoxAt.ext hb0_0 e19_12
       replace hb0_1 := BoxAt.ext hb0_1 e19_12
       replace hbx11 := BoxAt.ext hbx11 e19_12
       have := Ext.size e19_12
       replace eB := Ext.trans eB e19_12
       replace xr37 := Ext.trans xr37 e19_12
       replace cL31 := Chg.stepE cL31 e19_12
       have hlho19_12 := OS.lt ho19_12
       try simp (disch := decide) only [outv_some, outv_none, put_puts]
       refine plK_pres (Ext.pres e19_12) ?_
       try simp -implicitDefEqProofs (disch := first | decide | assumption | omega) only [go_sem, BoxAt.cell hb0_1, wrap_id, bP0]
       try simp -implicitDefEqProofs (disch := first | decide | assumption | omega) only [go_sem, BoxAt.cell hb0_1, wrap_id, bP0]
       refine CallA.mono (sTold_ok _ _ (mdL X) (accP X.p ((clL X).getD i default) X.k (List.replicate (X.d).toNat 0)) _ (OS.rd how2_3_0) (OS.rd ho19_12) hcoR hcoV) ?_
       intro vw19_13_0 h19_13
       rintro ⟨zvw19_13_0, fw19_13_0, rfl, how19_13_0, hfw19_13_0, e19_13⟩
       replace how2_3_0 := OS.ext how2_3_0 e19_13
       replace how8_2_0 := OS.ext how8_2_0 e19_13
       replace hI := OS.ext hI e19_13
       replace hJ := OS.ext hJ e19_13
       replace hG := OS.ext hG e19_13
       replace ho19_12 := OS.ext ho19_12 e19_13
       replace hb0_0 := BoxAt.ext hb0_0 e19_13
       replace hb0_1 := BoxAt.ext hb0_1 e19_13
       replace hbx11 := BoxAt.ext hbx11 e19_13
       have := Ext.size e19_13
       replace eB := Ext.trans eB e19_13
       replace xr37 := Ext.trans xr37 e19_13
       replace cL31 := Chg.stepE cL31 e19_13
       have hlhow19_13_0 := OS.lt how19_13_0
       try simp (disch := decide) only [outv_some, outv_none, put_puts]
       refine plK_pres (Ext.pres e19_13) ?_
       try simp -implicitDefEqProofs (disch := first | decide | assumption | omega) only [go_sem, BoxAt.cell hb0_1, wrap_id, bP0]
       refine op_bs1 sz26 rfl (OS.one how19_13_0).2 ?_
       try simp (disch := decide) only [outv_some, outv_none, put_puts]
       refine plK_pres (Ext.pres (Ext.push _ _)) ?_
       try simp -implicitDefEqProofs (disch := first | decide | assumption | omega) only [go_sem, BoxAt.cell hb0_1, wrap_id, bP0]
       refine op_append1 sz26 hG hfhG.nodup how19_13_0 hfw19_13_0.nodup (apart_lt hlhG hfw19_13_0 (by omega)) (by first | omega | (simp; omega)) rfl rfl ?_
       intro v19_15 h19_15 fp19_15 ho19_15 hn19_15 hs19_15 c19_15
       have hsz19_15 := c19_15.size
       have hfho19_15 : Fresh h9_6.size fp19_15 := Fresh.appd hfhG hfw19_13_0 (by omega) (by omega) hn19_15 hs19_15
       have sb38 : Sub ([h9_6.size] ++ ([h9_7.size])) h11.size fp19_15 := Sub.grow sbhG (Sub.fresh hfw19_13_0 (by omega)) (by omega) hs19_15
       replace how2_3_0 := OS.chg how2_3_0 c19_15 (apart_lt hlhow2_3_0 hfhG (by omega))
       replace how8_2_0 := OS.chg how8_2_0 c19_15 (apart_lt hlhow8_2_0 hfhG (by omega))
       replace hI := OS.chg hI c19_15 ap34
       replace hJ := OS.chg hJ c19_15 ap35
       replace ho19_12 := OS.chg ho19_12 c19_15 (apart_gt hf19_12 hlhG (by omega))
       replace hb0_0 := BoxAt.chgA hb0_0 c19_15 (apart_lt hlhb0_0 hfhG (by omega))
       replace hb0_1 := BoxAt.chgA hb0_1 c19_15 (apart_lt hlhb0_1 hfhG (by omega))
       replace hbx11 := BoxAt.chgA hbx11 c19_15 (Apart.symm ap_hG_hbx11)
       have := c19_15.size
       replace eB := Ext.then eB c19_15 (ge_of hfhG (by omega))
       replace cL31 := Chg.step cL31 c19_15 sbhG
       have ap39 : Apart fphI fp19_15 := Apart.grow hlhI (by omega) ap34 (apart_lt hlhI hfw19_13_0 (by omega)) hs19_15
       have ap40 : Apart fphJ fp19_15 := Apart.grow hlhJ (by omega) ap35 (apart_lt hlhJ hfw19_13_0 (by omega)) hs19_15
       have ap41 : Apart f19_12 fp19_15 := Apart.grow hlho19_12 (by omega) (apart_gt hf19_12 hlhG (by omega)) (apart_lt hlho19_12 hfw19_13_0 (by omega)) hs19_15
       have ap42 : Apart [h9_7.size] fp19_15 := Apart.grow hlhbx11 (by omega) (Apart.symm ap_hG_hbx11) (apart_lt hlhbx11 hfw19_13_0 (by omega)) hs19_15
       have hlho19_15 := OS.lt ho19_15
       try simp (disch := decide) only [outv_some, outv_none, put_puts]
       refine plK_last (by decide) ?_
       try simp -implicitDefEqProofs (disch := first | decide | assumption | omega) only [go_sem, fa53_5, RdS.len (OS.rd hI) sl26, RdS.idx (OS.rd hI) sl26, RdS.cellN (OS.rd hI), RdS.cells (OS.rd hI), RdS.len (OS.rd hJ) sl26, RdS.idx (OS.rd hJ) sl26, RdS.cellN (OS.rd hJ), RdS.cells (OS.rd hJ), BoxAt.cell hbx11, wrap_id, bP0]
       refine op_storeB (cs' := #[.int .i64 (X.p), .int .i64 (((mdL X).length : Int)), .int .i64 (((clL X).length : Int)), vhI, vhJ, v19_15]) st26 hbx11 rfl (OS.one ho19_15).2 rfl (by simp) (allOne_mem (l := [v19_15]) ⟨(OS.one ho19_15).1, trivial⟩) rfl ?_
       intro h19_17 hbx11 c19_17
       replace how2_3_0 := OS.chg how2_3_0 c19_17 (apart_lt hlhow2_3_0 hfhbx11 (by omega))
       replace how8_2_0 := OS.chg how8_2_0 c19_17 (apart_lt hlhow8_2_0 hfhbx11 (by omega))
       replace hI := OS.chg hI c19_17 ap_hI_hbx11
       replace hJ := OS.chg hJ c19_17 ap_hJ_hbx11
       replace ho19_12 := OS.chg ho19_12 c19_17 (apart_gt hf19_12 hlhbx11 (by omega))
       replace ho19_15 := OS.chg ho19_15 c19_17 (Apart.symm ap42)
       replace hb0_0 := BoxAt.chgA hb0_0 c19_17 (apart_lt hlhb0_0 hfhbx11 (by omega))
       replace hb0_1 := BoxAt.chgA hb0_1 c19_17 (apart_lt hlhb0_1 hfhbx11 (by omega))
       have := c19_17.size
       replace eB := Ext.then eB c19_17 (ge_of hfhbx11 (by omega))
       replace cL31 := Chg.step cL31 c19_17 (Sub.right Sub.refl)
       try simp (disch := decide) only [outv_some, outv_none, put_puts]
       refine plK_last (by decide) ?_
       try simp -implicitDefEqProofs (disch := first | decide | assumption | omega) only [go_sem, BoxAt.cell hb0_1, wrap_id, bP0]
       refine hK _ _ ?_
       clear hK K
       refine den_blk ?_
       refine den_region TTok ?_
       intro K hK
       simp -implicitDefEqProofs (disch := first | decide | assumption | omega) only [go_sem, wrap_id, bP0]
       refine hK _ _ ?_
       clear hK K
       refine den_stop ?_
       rw [show accP X.p ((clL X).getD i default) X.k (List.replicate X.d.toNat 0) = mvP X.p X.k X.d.toNat ((clL X).getD i default) from rfl, map_takeLc (f := fun r => tlP (mdL X) (mvP X.p X.k X.d.toNat r)) (d := default) (by omega)] at ho19_15
       exact ⟨(i + 1, v19_15, fp19_15), by simp [HasL, puts_at], ⟨by first | omega | (dsimp only; omega), ho19_15, hfho19_15, sb38, hbx11, (Apart.symm ap42), cL31⟩, by first | omega | (dsimp only; omega)⟩
      ·try simp only [decide_eq_true_eq, decide_eq_false_iff_not, beq_iff_eq, beq_eq_false_iff_ne, bne_iff_ne, ne_eq, Bool.not_eq_true', Bool.not_eq_false', Bool.and_eq_true, Bool.or_eq_true, bne_eq_false_iff_eq] at c2
       refine den_exit ?_
       refine denX_code ?_
       refine denX_stop ?_
       refine denX_hit ?_
       refine den_seq ?_
       refine den_region TTok ?_
       intro K hK
       simp -implicitDefEqProofs (disch := first | decide | assumption | omega) only [go_sem, ld53, RdS.len (OS.rd hI) sl26, RdS.idx (OS.rd hI) sl26, RdS.cellN (OS.rd hI), RdS.cells (OS.rd hI), RdS.len (OS.rd hJ) sl26, RdS.idx (OS.rd hJ) sl26, RdS.cellN (OS.rd hJ), RdS.cells (OS.rd hJ), RdS.len (OS.rd hG) sl26, RdS.idx (OS.rd hG) sl26, RdS.cellN (OS.rd hG), RdS.cells (OS.rd hG), BoxAt.cell hbx11, wrap_id, bP0]
       refine op_storeB (cs' := #[.int .i64 (X.p), .int .i64 (((mdL X).length : Int)), .int .i64 (((clL X).length : Int)), vhI, vhJ, vhG]) st53 hb0_1 rfl rfl rfl (by simp) (allOne_mem (l := [.int .i64 (X.p), .int .i64 (((mdL X).length : Int)), .int .i64 (((clL X).length : Int)), vhI, vhJ, vhG]) ⟨rfl, rfl, rfl, (OS.one hI).1, (OS.one hJ).1, (OS.one hG).1, trivial⟩) rfl ?_
       intro h20_1 hb0_1 c20_1
       replace hI := OS.chg hI c20_1 (apart_gt hfhI hlhb0_1 (by omega))
       replace hJ := OS.chg hJ c20_1 (apart_gt hfhJ hlhb0_1 (by omega))
       replace hG := OS.chg hG c20_1 (apart_gt hfhG hlhb0_1 (by omega))
       replace hbx11 := BoxAt.chgA hbx11 c20_1 (apart_gt hfhbx11 hlhb0_1 (by omega))
       have := c20_1.size
       replace eB := Ext.then eB c20_1 (ge_of hfhb0_1 (by omega))
       try simp -implicitDefEqProofs (disch := first | decide | assumption | omega) only [go_sem, RdS.len (OS.rd hI) sl26, RdS.idx (OS.rd hI) sl26, RdS.cellN (OS.rd hI), RdS.cells (OS.rd hI), RdS.len (OS.rd hJ) sl26, RdS.idx (OS.rd hJ) sl26, RdS.cellN (OS.rd hJ), RdS.cells (OS.rd hJ), RdS.len (OS.rd hG) sl26, RdS.idx (OS.rd hG) sl26, RdS.cellN (OS.rd hG), RdS.cells (OS.rd hG), BoxAt.cell hb0_1, wrap_id, bP0]
       refine hK _ _ ?_
       clear hK K
       refine den_ret ?_
       simp -implicitDefEqProofs (disch := first | decide | assumption | omega) only [go_sem, RdS.len (OS.rd hI) sl26, RdS.idx (OS.rd hI) sl26, RdS.cellN (OS.rd hI), RdS.cells (OS.rd hI), RdS.len (OS.rd hJ) sl26, RdS.idx (OS.rd hJ) sl26, RdS.cellN (OS.rd hJ), RdS.cells (OS.rd hJ), RdS.len (OS.rd hG) sl26, RdS.idx (OS.rd hG) sl26, RdS.cellN (OS.rd hG), RdS.cells (OS.rd hG), BoxAt.cell hb0_1, wrap_id, bP0, resP_c1, ld53]
       have hI := hI
       have hJ := hJ
       have hG := hG
       rw [map_takeEc (by omega)] at hI hJ hG
       exact ⟨_, _, _, _, _, _, rfl, hI, hJ, hG, (Fresh.two (lo := h.size) hfhI (Fresh.two (lo := h.size) hfhJ hfhG ap35 (by omega) (by omega)) (Apart.app ap_hI_hJ ap34) (by omega) (by omega)), eB⟩
end Go.Proofs.Ytjjjgllbocgkbaa

namespace Go.Proofs.Ytjjjgllbocgkbaa
open Go
/-- A reading that lasts while nothing but the blocks of fp is changed. -/
def GR (fp : List Nat) (h : Heap) (v : Value) (xs : List (List Int)) : Prop := ∀ h', Chg fp h h' → R2 h' v xs
theorem GR.rd {fp : List Nat} {h : Heap} {v : Value} {xs : List (List Int)} (g : GR fp h v xs) : R2 h v xs := g h (Chg.refl fp h)
theorem GR.ext {fp : List Nat} {h h' : Heap} {v : Value} {xs : List (List Int)} (g : GR fp h v xs) (e : Ext h h') : GR fp h' v xs := fun h'' c => g h'' ((e.chg fp).trans c)
theorem GR.chg {fp : List Nat} {h h' : Heap} {v : Value} {xs : List (List Int)} (g : GR fp h v xs) (k : Chg fp h h') : GR fp h' v xs := fun h'' c => g h'' (k.trans c)
theorem GR.own {fp fq : List Nat} {h : Heap} {v : Value} {xs : List (List Int)} (ho : O2 h v xs fq) (hd : ∀ b ∈ fq, b ∉ fp) : GR fp h v xs := fun _ c => OS.rd (OS.chg ho c hd)
theorem GR.base {fp : List Nat} {h0 h : Heap} {v : Value} {xs : List (List Int)} (r : R2 h0 v xs) (e : Ext h0 h) (hf : ∀ b ∈ fp, h0.size ≤ b) : GR fp h v xs := fun _ c => RdS.pres r (Ext.pres (Ext.then e c hf))
noncomputable def dit (X : Cp) : Nat → Cp
 | 0 => X
 | k + 1 => dcp (dit X k)
theorem dit_ex {X : Cp} (h : Ex3 X) : ∀ k, Ex3 (dit X k)
 | 0 => h
 | k + 1 => dcp_ex (dit_ex h k)
end Go.Proofs.Ytjjjgllbocgkbaa

namespace Go.Proofs.Ytjjjgllbocgkbaa
open Go
def IsSt (X : Cp) (k : Nat) : Prop := (∀ j, j < k → ((mdL (dit X j)).length : Int) < (dit X j).d) ∧ ¬ ((mdL (dit X k)).length : Int) < (dit X k).d
noncomputable def stP (X : Cp) : Nat := Classical.epsilon (IsSt X)
theorem stP_eq {X : Cp} {k : Nat} (h : IsSt X k) : stP X = k := by
 have h2 : IsSt X (stP X) := Classical.epsilon_spec ⟨k, h⟩
 rcases Nat.lt_trichotomy (stP X) k with h3 | h3 | h3
 ·exact absurd (h.1 _ h3) h2.2
 ·exact h3
 ·exact absurd (h2.1 _ h3) h.2
noncomputable def stR (X : Cp) : Int × Int := if cpC X = 0 then ((stP X : Int) + 1, 0) else (0, cpC X)
theorem stR_n {X : Cp} (h : cpC X ≠ 0) : stR X = (0, cpC X) := if_neg h
theorem stR_y {X : Cp} (h : cpC X = 0) {k : Nat} (hk : IsSt X k) : stR X = ((k : Int) + 1, 0) := by rw [stR, if_pos h, stP_eq hk]
theorem md_le {X : Cp} (h : IsCp X) : ((mdL X).length : Int) ≤ X.d := by
 obtain ⟨⟨l, r⟩, _⟩ := md_red h
 have := r.le_w
 have := h.d
 omega

set_option maxRecDepth 100000 in
theorem sRank_ok (vR : Value) (p : Int) (R : List (List Int)) (h : Heap) (rR : R2 h vR R) {w : Nat} (hP : isP p = true) (hT : ∀ r ∈ R, r.length = w ∧ Bnd p r) (hw : w ≤ 1000) (hl : R.length ≤ 1000) : CallA Try.prog 103 #[.int .i64 p, vR] h fun v' h' => v' = .int .i64 (((ech p R).length : Int)) ∧ Ext h h' := by
 have hleR := RdS.le rR
 have hredT := hT
 refine callA_intro TTok (args := [_, _]) Try.func103 (by kernel_rfl) rfl 9 rfl (by simp) [.tmp 4] rfl ?_
 simp only [idxs, Nat.reduceAdd]
 refine den_seq ?_
 refine den_region TTok ?_
 intro K hK
 simp -implicitDefEqProofs (disch := first | decide | assumption | omega) only [go_sem, wrap_id]
 refine hK _ _ ?_
 clear hK K
 refine den_seq ?_
 refine den_region TTok ?_
 intro K hK
 simp -implicitDefEqProofs (disch := first | decide | assumption | omega) only [go_sem, RdS.len rR sl26, RdS.idx rR sl26, RdS.cellB rR (HPres.refl _), RdS.cells rR, wrap_id]
 try simp -implicitDefEqProofs (disch := first | decide | assumption | omega) only [go_sem, wrap_id]
 refine CallA.mono (sEch_ok _ p R _ rR hP hredT (by omega) (by omega)) ?_
 intro vw1_2_0 h1_2
 rintro ⟨zvw1_2_0, fw1_2_0, rfl, how1_2_0, hfw1_2_0, e1_2⟩
 have := Ext.size e1_2
 have eB := e1_2
 have hlhow1_2_0 := OS.lt how1_2_0
 try simp -implicitDefEqProofs (disch := first | decide | assumption | omega) only [go_sem, RdS.len (OS.rd how1_2_0) sl26, RdS.idx (OS.rd how1_2_0) sl26, RdS.cellN (OS.rd how1_2_0), RdS.cells (OS.rd how1_2_0), wrap_id]
 refine hK _ _ ?_
 clear hK K
 refine den_ret ?_
 simp (disch := decide) only [resP_1, puts_same, puts_ne]
 exact ⟨by first | rfl | trivial, eB⟩

set_option maxRecDepth 100000 in
set_option maxHeartbeats 4000000 in
theorem iSP_ok (vX : Value) (X : Cp) (h : Heap) (rX : RP h vX X)  : CallA Try.prog 45 #[vX] h fun v' h' => v' = .tuple #[.int .i64 ((stR X).1), .int .i64 ((stR X).2)] ∧ Ext h h' := by
 obtain ⟨viX, vjX, vkX, rfl, hiX, hjX, hkX⟩ := rX
 have hleiX := RdS.le hiX
 have hlejX := RdS.le hjX
 have hlekX := RdS.le hkX
 refine callA_intro TTok (args := [_]) Try.func45 (by kernel_rfl) rfl 25 rfl (by simp) [.tmp 2, .tmp 3] rfl ?_
 simp only [idxs, Nat.reduceAdd]
 refine den_seq ?_
 refine den_region TTok ?_
 intro K hK
 simp -implicitDefEqProofs (disch := first | decide | assumption | omega) only [go_sem, wrap_id]
 refine op_box (cs := #[.int .i64 (X.p), .int .i64 (X.d), .int .i64 (X.e), viX, vjX, vkX]) rfl ?_
 intro h0_0 e0_0 hb0_0 z0_0
 have := Ext.size e0_0
 have eB := e0_0
 have hfhb0_0 : Fresh h.size [h.size] := Fresh.one _
 have hlhb0_0 := one_lt (show h.size < h0_0.size by omega)
 try simp -implicitDefEqProofs (disch := first | decide | assumption | omega) only [go_sem, wrap_id]
 refine hK _ _ ?_
 clear hK K
 refine den_seq ?_
 refine den_seq ?_
 refine den_region TTok ?_
 intro K hK
 simp -implicitDefEqProofs (disch := first | decide | assumption | omega) only [go_sem, ld53, RdS.len hiX sl26, RdS.idx hiX sl26, RdS.cellB hiX (Ext.pres eB), RdS.cells hiX, RdS.len hjX sl26, RdS.idx hjX sl26, RdS.cellB hjX (Ext.pres eB), RdS.cells hjX, RdS.len hkX sl26, RdS.idx hkX sl26, RdS.cellB hkX (Ext.pres eB), RdS.cells hkX, BoxAt.cell hb0_0, wrap_id]
 try simp -implicitDefEqProofs (disch := first | decide | assumption | omega) only [go_sem, wrap_id]
 refine CallA.mono (iCpC_ok _ X _ ⟨_, _, _, rfl, (RdS.pres hiX (Ext.pres eB)), (RdS.pres hjX (Ext.pres eB)), (RdS.pres hkX (Ext.pres eB))⟩ ) ?_
 intro v_ h1_1
 rintro ⟨rfl, e1_1⟩
 replace hb0_0 := BoxAt.ext hb0_0 e1_1
 have := Ext.size e1_1
 replace eB := Ext.trans eB e1_1
 try simp -implicitDefEqProofs (disch := first | decide | assumption | omega) only [go_sem, wrap_id]
 refine hK _ _ ?_
 clear hK K
 refine den_seq ?_
 refine den_region TTok ?_
 intro K hK
 simp -implicitDefEqProofs (disch := first | decide | assumption | omega) only [go_sem, wrap_id]
 refine hK _ _ ?_
 clear hK K
 refine den_cond rfl (fun c0 => ?_) (fun c0 => ?_)
 ·try simp only [decide_eq_true_eq, decide_eq_false_iff_not, beq_iff_eq, beq_eq_false_iff_ne, bne_iff_ne, ne_eq, Bool.not_eq_true', Bool.not_eq_false', Bool.and_eq_true, Bool.or_eq_true, bne_eq_false_iff_eq, Bool.not_eq_true, Bool.not_eq_false] at c0
  refine den_seq ?_
  refine den_region TTok ?_
  intro K hK
  simp -implicitDefEqProofs (disch := first | decide | assumption | omega) only [go_sem, wrap_id]
  refine hK _ _ ?_
  clear hK K
  refine den_ret ?_
  simp (disch := decide) only [resP_2, puts_same, puts_ne]
  have hz := stR_n c0
  rw [hz]
  exact ⟨by first | rfl | trivial, eB⟩
 ·try simp only [decide_eq_true_eq, decide_eq_false_iff_not, beq_iff_eq, beq_eq_false_iff_ne, bne_iff_ne, ne_eq, Bool.not_eq_true', Bool.not_eq_false', Bool.and_eq_true, Bool.or_eq_true, bne_eq_false_iff_eq, Bool.not_eq_true, Bool.not_eq_false] at c0
  obtain ⟨hC0, hex0⟩ := cpC_0 c0
  have hE0 := ex3_of hC0 hex0
  have hd0 := hC0.d
  refine den_skip ?_
  refine den_seq ?_
  refine den_region TTok ?_
  intro K hK
  simp -implicitDefEqProofs (disch := first | decide | assumption | omega) only [go_sem, wrap_id]
  refine hK _ _ ?_
  clear hK K
  refine den_seq ?_
  refine den_block ?_
  have hge_ : ∀ b ∈ ([] : List Nat), h.size ≤ b := fun b hb => by cases hb
  have hgi0 := GR.base hiX eB hge_
  have hgj0 := GR.base hjX eB hge_
  have hgk0 := GR.base hkX eB hge_
  refine den_sel [5, 1] ?_
  intro env_1
  simp only [go_sem]
  refine den_loopS (σ := Nat × Value × Value × Value) (fun st_ => [(5, .int .i64 ((st_.1 : Int) + 1))]) (fun st_ H => ((st_.1 : Int) + (dit X st_.1).d ≤ X.d) ∧ (∀ j, j < st_.1 → ((mdL (dit X j)).length : Int) < (dit X j).d) ∧ (GR ([] : List Nat) H st_.2.1 (dit X st_.1).i) ∧ (GR ([] : List Nat) H st_.2.2.1 (dit X st_.1).j) ∧ (GR ([] : List Nat) H st_.2.2.2 (dit X st_.1).k) ∧ (BoxAt H (h.size) #[.int .i64 (dit X st_.1).p, .int .i64 (dit X st_.1).d, .int .i64 (dit X st_.1).e, st_.2.1, st_.2.2.1, st_.2.2.2] 53) ∧ (Chg [h.size] h1_1 H)) (fun st_ => (dit X st_.1).d.toNat) (0, viX, vjX, vkX) ?_ ?_
  ·exact ⟨by show ((0 : Nat) : Int) + X.d ≤ X.d; omega, fun j h => by omega, hgi0, hgj0, hgk0, hb0_0, Chg.refl _ _⟩
  ·rintro ⟨k, vbi, vbj, vbk⟩ h4 ee3 ⟨hk, hst, hgi, hgj, hgk, hbx1, cL2⟩
   dsimp only at hk hst hgi hgj hgk hbx1 cL2
   have := cL2.size
   replace eB := Ext.then eB cL2 (ge_of hfhb0_0 (by omega))
   have hfhbx1 := hfhb0_0
   have hlhbx1 := hlhb0_0
   simp only [List.cons_append, List.nil_append]
   have hE := dit_ex hE0 k
   have hC := hE.c
   have hd := hC.d
   have he := hC.e
   have hP := hC.p
   have hredT := hC.ir
   have hll := hC.lens
   have hmd : ((ech (dit X k).p (dit X k).i).length : Int) ≤ (dit X k).d := md_le hC
   refine den_seq ?_
   refine den_seq ?_
   refine den_draw TTok mixed [] [(0, true), (1, true), (2, true), (3, true), (6, true), (7, true), (4, false), (5, false), (8, true)] (by kernel_rfl) ?_
   intro K hK
   simp -implicitDefEqProofs (disch := first | decide | assumption | omega) only [go_sem, fa53_0, fa53_1, fa53_3, ld26, ld2, BoxAt.cell hbx1, wrap_id]
   try simp -implicitDefEqProofs (disch := first | decide | assumption | omega) only [go_sem, wrap_id]
   refine CallA.mono (iReduce_ok _ ((dit X k).p) ((dit X k).i) _ (GR.rd hgi) hP hredT (by omega) (by omega)) ?_
   intro vw5_4_0 h5_4
   rintro ⟨zvw5_4_0, fw5_4_0, rfl, how5_4_0, hfw5_4_0, e5_4⟩
   replace hgi := GR.ext hgi e5_4
   replace hgj := GR.ext hgj e5_4
   replace hgk := GR.ext hgk e5_4
   replace hbx1 := BoxAt.ext hbx1 e5_4
   have := Ext.size e5_4
   replace eB := Ext.trans eB e5_4
   replace cL2 := Chg.stepE cL2 e5_4
   have hlhow5_4_0 := OS.lt how5_4_0
   try simp (disch := decide) only [outv_some, outv_none, put_puts]
   refine plK_pres (Ext.pres e5_4) ?_
   try simp -implicitDefEqProofs (disch := first | decide | assumption | omega) only [go_sem, wrap_id]
   try simp -implicitDefEqProofs (disch := first | decide | assumption | omega) only [go_sem, wrap_id]
   refine CallA.pure (size2_ok _ _ _ (OS.rd how5_4_0)) ?_
   try simp -implicitDefEqProofs (disch := first | decide | assumption | omega) only [go_sem, wrap_id]
   refine hK _ _ ?_
   clear hK K
   refine den_cond rfl (fun c1 => ?_) (fun c1 => ?_)
   ·try simp only [decide_eq_true_eq, decide_eq_false_iff_not, beq_iff_eq, beq_eq_false_iff_ne, bne_iff_ne, ne_eq, Bool.not_eq_true', Bool.not_eq_false', Bool.and_eq_true, Bool.or_eq_true, bne_eq_false_iff_eq, Bool.not_eq_true, Bool.not_eq_false] at c1
    refine den_skip ?_
    refine den_block ?_
    refine den_seq ?_
    refine den_region TTok ?_
    intro K hK
    simp -implicitDefEqProofs (disch := first | decide | assumption | omega) only [go_sem, ld53, BoxAt.cell hbx1, wrap_id]
    try simp -implicitDefEqProofs (disch := first | decide | assumption | omega) only [go_sem, wrap_id]
    refine CallA.mono (iDer_ok _ (dit X k) _ ⟨_, _, _, rfl, (GR.rd hgi), (GR.rd hgj), (GR.rd hgk)⟩ hE) ?_
    intro v_ h6_1
    rintro ⟨vi6_1_0, vj6_1_0, vk6_1_0, fi6_1_0, fj6_1_0, fk6_1_0, rfl, hoi6_1_0, hoj6_1_0, hok6_1_0, hf6_1_0, e6_1⟩
    replace hgi := GR.ext hgi e6_1
    replace hgj := GR.ext hgj e6_1
    replace hgk := GR.ext hgk e6_1
    replace hbx1 := BoxAt.ext hbx1 e6_1
    have := Ext.size e6_1
    replace eB := Ext.trans eB e6_1
    replace cL2 := Chg.stepE cL2 e6_1
    have hfi6_1_0 := hf6_1_0.left
    have hf6_1_0r0 := hf6_1_0.right
    have hfj6_1_0 := hf6_1_0r0.left
    have hfk6_1_0 := hf6_1_0r0.right
    have hlhoi6_1_0 := OS.lt hoi6_1_0
    have hlhoj6_1_0 := OS.lt hoj6_1_0
    have hlhok6_1_0 := OS.lt hok6_1_0
    have ap5 : Apart fi6_1_0 fj6_1_0 := Apart.lft (apart_nodup hf6_1_0)
    have ap6 : Apart fi6_1_0 fk6_1_0 := Apart.rgt (apart_nodup hf6_1_0)
    have ap7 : Apart fj6_1_0 fk6_1_0 := apart_nodup hf6_1_0r0
    try simp -implicitDefEqProofs (disch := first | decide | assumption | omega) only [go_sem, wrap_id]
    refine op_storeB (cs' := #[.int .i64 (((dcp (dit X k)).p)), .int .i64 (((dcp (dit X k)).d)), .int .i64 (((dcp (dit X k)).e)), vi6_1_0, vj6_1_0, vk6_1_0]) st53 hbx1 rfl rfl rfl (by simp) (allOne_mem (l := [.int .i64 (((dcp (dit X k)).p)), .int .i64 (((dcp (dit X k)).d)), .int .i64 (((dcp (dit X k)).e)), vi6_1_0, vj6_1_0, vk6_1_0]) ⟨rfl, rfl, rfl, (OS.one hoi6_1_0).1, (OS.one hoj6_1_0).1, (OS.one hok6_1_0).1, trivial⟩) rfl ?_
    intro h6_2 hbx1 c6_2
    replace hoi6_1_0 := OS.chg hoi6_1_0 c6_2 (apart_gt hfi6_1_0 hlhbx1 (by omega))
    replace hoj6_1_0 := OS.chg hoj6_1_0 c6_2 (apart_gt hfj6_1_0 hlhbx1 (by omega))
    replace hok6_1_0 := OS.chg hok6_1_0 c6_2 (apart_gt hfk6_1_0 hlhbx1 (by omega))
    have := c6_2.size
    replace eB := Ext.then eB c6_2 (ge_of hfhbx1 (by omega))
    replace cL2 := Chg.step cL2 c6_2 Sub.refl
    try simp -implicitDefEqProofs (disch := first | decide | assumption | omega) only [go_sem, wrap_id]
    refine hK _ _ ?_
    clear hK K
    refine den_region TTok ?_
    intro K hK
    simp -implicitDefEqProofs (disch := first | decide | assumption | omega) only [go_sem, wrap_id]
    refine hK _ _ ?_
    clear hK K
    refine den_blk ?_
    refine den_stop ?_
    have hdx : (dit X (k + 1)).d = ((ech (dit X k).p (dit X k).i).length : Int) := rfl
    have hltx : ((ech (dit X k).p (dit X k).i).length : Int) < (dit X k).d := by first | exact c1 | (have := c1; omega)
    exact ⟨(k + 1, vi6_1_0, vj6_1_0, vk6_1_0), by simp [HasL, puts_at], ⟨by show ((k + 1 : Nat) : Int) + ((mdL (dit X k)).length : Int) ≤ X.d; have := (show ((ech (dit X k).p (dit X k).i).length : Int) < (dit X k).d by first | exact c1 | (have := c1; omega)); show ((k + 1 : Nat) : Int) + ((ech (dit X k).p (dit X k).i).length : Int) ≤ X.d; omega, fun j hj => by
 by_cases hjk : j < k
 ·exact hst j hjk
 ·rw [show j = k by omega]; exact (show ((ech (dit X k).p (dit X k).i).length : Int) < (dit X k).d by first | exact c1 | (have := c1; omega)), GR.own hoi6_1_0 (Apart.nil _), GR.own hoj6_1_0 (Apart.nil _), GR.own hok6_1_0 (Apart.nil _), hbx1, cL2⟩, by first | omega | (dsimp only; omega)⟩
   ·try simp only [decide_eq_true_eq, decide_eq_false_iff_not, beq_iff_eq, beq_eq_false_iff_ne, bne_iff_ne, ne_eq, Bool.not_eq_true', Bool.not_eq_false', Bool.and_eq_true, Bool.or_eq_true, bne_eq_false_iff_eq, Bool.not_eq_true, Bool.not_eq_false] at c1
    refine den_exit ?_
    refine denX_code ?_
    refine denX_stop ?_
    refine denX_hit ?_
    refine den_seq ?_
    refine den_region TTok ?_
    intro K hK
    simp -implicitDefEqProofs (disch := first | decide | assumption | omega) only [go_sem, wrap_id]
    refine hK _ _ ?_
    clear hK K
    refine den_ret ?_
    simp (disch := decide) only [resP_2, puts_same, puts_ne]
    have hz := stR_y c0 (k := k) ⟨hst, by show ¬ ((ech (dit X k).p (dit X k).i).length : Int) < (dit X k).d; first | exact c1 | (have := c1; omega)⟩
    rw [hz]
    exact ⟨by first | rfl | trivial, eB⟩

set_option maxRecDepth 100000 in
set_option maxHeartbeats 4000000 in
theorem sSP_ok (vX : Value) (X : Cp) (h : Heap) (rX : RP h vX X)  : CallA Try.prog 44 #[vX] h fun v' h' => v' = .tuple #[.int .i64 ((stR X).1), .int .i64 ((stR X).2)] ∧ Ext h h' := by
 obtain ⟨viX, vjX, vkX, rfl, hiX, hjX, hkX⟩ := rX
 have hleiX := RdS.le hiX
 have hlejX := RdS.le hjX
 have hlekX := RdS.le hkX
 refine callA_intro TTok (args := [_]) Try.func44 (by kernel_rfl) rfl 24 rfl (by simp) [.tmp 2, .tmp 3] rfl ?_
 simp only [idxs, Nat.reduceAdd]
 refine den_seq ?_
 refine den_region TTok ?_
 intro K hK
 simp -implicitDefEqProofs (disch := first | decide | assumption | omega) only [go_sem, wrap_id]
 refine op_box (cs := #[.int .i64 (X.p), .int .i64 (X.d), .int .i64 (X.e), viX, vjX, vkX]) rfl ?_
 intro h0_0 e0_0 hb0_0 z0_0
 have := Ext.size e0_0
 have eB := e0_0
 have hfhb0_0 : Fresh h.size [h.size] := Fresh.one _
 have hlhb0_0 := one_lt (show h.size < h0_0.size by omega)
 try simp -implicitDefEqProofs (disch := first | decide | assumption | omega) only [go_sem, wrap_id]
 refine hK _ _ ?_
 clear hK K
 refine den_seq ?_
 refine den_seq ?_
 refine den_region TTok ?_
 intro K hK
 simp -implicitDefEqProofs (disch := first | decide | assumption | omega) only [go_sem, ld53, RdS.len hiX sl26, RdS.idx hiX sl26, RdS.cellB hiX (Ext.pres eB), RdS.cells hiX, RdS.len hjX sl26, RdS.idx hjX sl26, RdS.cellB hjX (Ext.pres eB), RdS.cells hjX, RdS.len hkX sl26, RdS.idx hkX sl26, RdS.cellB hkX (Ext.pres eB), RdS.cells hkX, BoxAt.cell hb0_0, wrap_id]
 try simp -implicitDefEqProofs (disch := first | decide | assumption | omega) only [go_sem, wrap_id]
 refine CallA.mono (sCpC_ok _ X _ ⟨_, _, _, rfl, (RdS.pres hiX (Ext.pres eB)), (RdS.pres hjX (Ext.pres eB)), (RdS.pres hkX (Ext.pres eB))⟩ ) ?_
 intro v_ h1_1
 rintro ⟨rfl, e1_1⟩
 replace hb0_0 := BoxAt.ext hb0_0 e1_1
 have := Ext.size e1_1
 replace eB := Ext.trans eB e1_1
 try simp -implicitDefEqProofs (disch := first | decide | assumption | omega) only [go_sem, wrap_id]
 refine hK _ _ ?_
 clear hK K
 refine den_seq ?_
 refine den_region TTok ?_
 intro K hK
 simp -implicitDefEqProofs (disch := first | decide | assumption | omega) only [go_sem, wrap_id]
 refine hK _ _ ?_
 clear hK K
 refine den_cond rfl (fun c0 => ?_) (fun c0 => ?_)
 ·try simp only [decide_eq_true_eq, decide_eq_false_iff_not, beq_iff_eq, beq_eq_false_iff_ne, bne_iff_ne, ne_eq, Bool.not_eq_true', Bool.not_eq_false', Bool.and_eq_true, Bool.or_eq_true, bne_eq_false_iff_eq, Bool.not_eq_true, Bool.not_eq_false] at c0
  refine den_seq ?_
  refine den_region TTok ?_
  intro K hK
  simp -implicitDefEqProofs (disch := first | decide | assumption | omega) only [go_sem, wrap_id]
  refine hK _ _ ?_
  clear hK K
  refine den_ret ?_
  simp (disch := decide) only [resP_2, puts_same, puts_ne]
  have hz := stR_n c0
  rw [hz]
  exact ⟨by first | rfl | trivial, eB⟩
 ·try simp only [decide_eq_true_eq, decide_eq_false_iff_not, beq_iff_eq, beq_eq_false_iff_ne, bne_iff_ne, ne_eq, Bool.not_eq_true', Bool.not_eq_false', Bool.and_eq_true, Bool.or_eq_true, bne_eq_false_iff_eq, Bool.not_eq_true, Bool.not_eq_false] at c0
  obtain ⟨hC0, hex0⟩ := cpC_0 c0
  have hE0 := ex3_of hC0 hex0
  have hd0 := hC0.d
  refine den_skip ?_
  refine den_seq ?_
  refine den_region TTok ?_
  intro K hK
  simp -implicitDefEqProofs (disch := first | decide | assumption | omega) only [go_sem, wrap_id]
  refine hK _ _ ?_
  clear hK K
  refine den_block ?_
  have hge_ : ∀ b ∈ ([] : List Nat), h.size ≤ b := fun b hb => by cases hb
  have hgi0 := GR.base hiX eB hge_
  have hgj0 := GR.base hjX eB hge_
  have hgk0 := GR.base hkX eB hge_
  refine den_sel [5, 1] ?_
  intro env_1
  simp only [go_sem]
  refine den_loopS (σ := Nat × Value × Value × Value) (fun st_ => [(5, .int .i64 ((st_.1 : Int) + 1))]) (fun st_ H => ((st_.1 : Int) + (dit X st_.1).d ≤ X.d) ∧ (∀ j, j < st_.1 → ((mdL (dit X j)).length : Int) < (dit X j).d) ∧ (GR ([] : List Nat) H st_.2.1 (dit X st_.1).i) ∧ (GR ([] : List Nat) H st_.2.2.1 (dit X st_.1).j) ∧ (GR ([] : List Nat) H st_.2.2.2 (dit X st_.1).k) ∧ (BoxAt H (h.size) #[.int .i64 (dit X st_.1).p, .int .i64 (dit X st_.1).d, .int .i64 (dit X st_.1).e, st_.2.1, st_.2.2.1, st_.2.2.2] 53) ∧ (Chg [h.size] h1_1 H)) (fun st_ => (dit X st_.1).d.toNat) (0, viX, vjX, vkX) ?_ ?_
  ·exact ⟨by show ((0 : Nat) : Int) + X.d ≤ X.d; omega, fun j h => by omega, hgi0, hgj0, hgk0, hb0_0, Chg.refl _ _⟩
  ·rintro ⟨k, vbi, vbj, vbk⟩ h4 ee3 ⟨hk, hst, hgi, hgj, hgk, hbx1, cL2⟩
   dsimp only at hk hst hgi hgj hgk hbx1 cL2
   have := cL2.size
   replace eB := Ext.then eB cL2 (ge_of hfhb0_0 (by omega))
   have hfhbx1 := hfhb0_0
   have hlhbx1 := hlhb0_0
   simp only [List.cons_append, List.nil_append]
   have hE := dit_ex hE0 k
   have hC := hE.c
   have hd := hC.d
   have he := hC.e
   have hP := hC.p
   have hredT := hC.ir
   have hll := hC.lens
   have hmd : ((ech (dit X k).p (dit X k).i).length : Int) ≤ (dit X k).d := md_le hC
   refine den_seq ?_
   refine den_block ?_
   refine den_seq ?_
   refine den_seq ?_
   refine den_draw TTok mixed [] [(0, true), (1, true), (2, true), (3, true), (5, true), (6, true), (4, false), (7, true)] (by kernel_rfl) ?_
   intro K hK
   simp -implicitDefEqProofs (disch := first | decide | assumption | omega) only [go_sem, fa53_0, fa53_1, fa53_3, ld26, ld2, BoxAt.cell hbx1, wrap_id]
   try simp -implicitDefEqProofs (disch := first | decide | assumption | omega) only [go_sem, wrap_id]
   refine CallA.mono (sRank_ok _ ((dit X k).p) ((dit X k).i) _ (GR.rd hgi) hP hredT (by omega) (by omega)) ?_
   intro v_ h6_4
   rintro ⟨rfl, e6_4⟩
   replace hgi := GR.ext hgi e6_4
   replace hgj := GR.ext hgj e6_4
   replace hgk := GR.ext hgk e6_4
   replace hbx1 := BoxAt.ext hbx1 e6_4
   have := Ext.size e6_4
   replace eB := Ext.trans eB e6_4
   replace cL2 := Chg.stepE cL2 e6_4
   try simp (disch := decide) only [outv_some, outv_none, put_puts]
   refine plK_pres (Ext.pres e6_4) ?_
   try simp -implicitDefEqProofs (disch := first | decide | assumption | omega) only [go_sem, wrap_id]
   refine hK _ _ ?_
   clear hK K
   refine den_cond rfl (fun c1 => ?_) (fun c1 => ?_)
   ·try simp only [decide_eq_true_eq, decide_eq_false_iff_not, beq_iff_eq, beq_eq_false_iff_ne, bne_iff_ne, ne_eq, Bool.not_eq_true', Bool.not_eq_false', Bool.and_eq_true, Bool.or_eq_true, bne_eq_false_iff_eq, Bool.not_eq_true, Bool.not_eq_false] at c1
    refine den_seq ?_
    refine den_region TTok ?_
    intro K hK
    simp -implicitDefEqProofs (disch := first | decide | assumption | omega) only [go_sem, wrap_id]
    refine hK _ _ ?_
    clear hK K
    refine den_ret ?_
    simp (disch := decide) only [resP_2, puts_same, puts_ne]
    have hz := stR_y c0 (k := k) ⟨hst, by show ¬ ((ech (dit X k).p (dit X k).i).length : Int) < (dit X k).d; first | exact c1 | (have := c1; omega)⟩
    rw [hz]
    exact ⟨by first | rfl | trivial, eB⟩
   ·try simp only [decide_eq_true_eq, decide_eq_false_iff_not, beq_iff_eq, beq_eq_false_iff_ne, bne_iff_ne, ne_eq, Bool.not_eq_true', Bool.not_eq_false', Bool.and_eq_true, Bool.or_eq_true, bne_eq_false_iff_eq, Bool.not_eq_true, Bool.not_eq_false] at c1
    refine den_skip ?_
    refine den_region TTok ?_
    intro K hK
    simp -implicitDefEqProofs (disch := first | decide | assumption | omega) only [go_sem, ld53, BoxAt.cell hbx1, wrap_id]
    try simp -implicitDefEqProofs (disch := first | decide | assumption | omega) only [go_sem, wrap_id]
    refine CallA.mono (sDer_ok _ (dit X k) _ ⟨_, _, _, rfl, (GR.rd hgi), (GR.rd hgj), (GR.rd hgk)⟩ hE) ?_
    intro v_ h8_1
    rintro ⟨vi8_1_0, vj8_1_0, vk8_1_0, fi8_1_0, fj8_1_0, fk8_1_0, rfl, hoi8_1_0, hoj8_1_0, hok8_1_0, hf8_1_0, e8_1⟩
    replace hgi := GR.ext hgi e8_1
    replace hgj := GR.ext hgj e8_1
    replace hgk := GR.ext hgk e8_1
    replace hbx1 := BoxAt.ext hbx1 e8_1
    have := Ext.size e8_1
    replace eB := Ext.trans eB e8_1
    replace cL2 := Chg.stepE cL2 e8_1
    have hfi8_1_0 := hf8_1_0.left
    have hf8_1_0r0 := hf8_1_0.right
    have hfj8_1_0 := hf8_1_0r0.left
    have hfk8_1_0 := hf8_1_0r0.right
    have hlhoi8_1_0 := OS.lt hoi8_1_0
    have hlhoj8_1_0 := OS.lt hoj8_1_0
    have hlhok8_1_0 := OS.lt hok8_1_0
    have ap5 : Apart fi8_1_0 fj8_1_0 := Apart.lft (apart_nodup hf8_1_0)
    have ap6 : Apart fi8_1_0 fk8_1_0 := Apart.rgt (apart_nodup hf8_1_0)
    have ap7 : Apart fj8_1_0 fk8_1_0 := apart_nodup hf8_1_0r0
    try simp -implicitDefEqProofs (disch := first | decide | assumption | omega) only [go_sem, wrap_id]
    refine op_storeB (cs' := #[.int .i64 (((dcp (dit X k)).p)), .int .i64 (((dcp (dit X k)).d)), .int .i64 (((dcp (dit X k)).e)), vi8_1_0, vj8_1_0, vk8_1_0]) st53 hbx1 rfl rfl rfl (by simp) (allOne_mem (l := [.int .i64 (((dcp (dit X k)).p)), .int .i64 (((dcp (dit X k)).d)), .int .i64 (((dcp (dit X k)).e)), vi8_1_0, vj8_1_0, vk8_1_0]) ⟨rfl, rfl, rfl, (OS.one hoi8_1_0).1, (OS.one hoj8_1_0).1, (OS.one hok8_1_0).1, trivial⟩) rfl ?_
    intro h8_2 hbx1 c8_2
    replace hoi8_1_0 := OS.chg hoi8_1_0 c8_2 (apart_gt hfi8_1_0 hlhbx1 (by omega))
    replace hoj8_1_0 := OS.chg hoj8_1_0 c8_2 (apart_gt hfj8_1_0 hlhbx1 (by omega))
    replace hok8_1_0 := OS.chg hok8_1_0 c8_2 (apart_gt hfk8_1_0 hlhbx1 (by omega))
    have := c8_2.size
    replace eB := Ext.then eB c8_2 (ge_of hfhbx1 (by omega))
    replace cL2 := Chg.step cL2 c8_2 Sub.refl
    try simp -implicitDefEqProofs (disch := first | decide | assumption | omega) only [go_sem, wrap_id]
    refine hK _ _ ?_
    clear hK K
    refine den_blk ?_
    refine den_region TTok ?_
    intro K hK
    simp -implicitDefEqProofs (disch := first | decide | assumption | omega) only [go_sem, wrap_id]
    refine hK _ _ ?_
    clear hK K
    refine den_stop ?_
    have hdx : (dit X (k + 1)).d = ((ech (dit X k).p (dit X k).i).length : Int) := rfl
    have hltx : ((ech (dit X k).p (dit X k).i).length : Int) < (dit X k).d := by first | exact c1 | (have := c1; omega)
    exact ⟨(k + 1, vi8_1_0, vj8_1_0, vk8_1_0), by simp [HasL, puts_at], ⟨by show ((k + 1 : Nat) : Int) + ((mdL (dit X k)).length : Int) ≤ X.d; have := (show ((ech (dit X k).p (dit X k).i).length : Int) < (dit X k).d by first | exact c1 | (have := c1; omega)); show ((k + 1 : Nat) : Int) + ((ech (dit X k).p (dit X k).i).length : Int) ≤ X.d; omega, fun j hj => by
 by_cases hjk : j < k
 ·exact hst j hjk
 ·rw [show j = k by omega]; exact (show ((ech (dit X k).p (dit X k).i).length : Int) < (dit X k).d by first | exact c1 | (have := c1; omega)), GR.own hoi8_1_0 (Apart.nil _), GR.own hoj8_1_0 (Apart.nil _), GR.own hok8_1_0 (Apart.nil _), hbx1, cL2⟩, by first | omega | (dsimp only; omega)⟩
end Go.Proofs.Ytjjjgllbocgkbaa

namespace Go.Proofs.Ytjjjgllbocgkbaa
open Go
set_option maxRecDepth 100000 in
set_option maxHeartbeats 4000000 in
theorem exactStablePage_law (vX : Value) (X : Cp) (h : Heap) (rX : RP h vX X)  : CallA Try.prog 11 #[vX] h fun v' h' => v' = .bool (true) ∧ Ext h h' := by
 obtain ⟨viX, vjX, vkX, rfl, hiX, hjX, hkX⟩ := rX
 have hleiX := RdS.le hiX
 have hlejX := RdS.le hjX
 have hlekX := RdS.le hkX
 refine callA_intro TTok (args := [_]) Try.func11 (by kernel_rfl) rfl 40 rfl (by simp) [.tmp 2] rfl ?_
 simp only [idxs, Nat.reduceAdd]
 refine den_seq ?_
 refine den_region TTok ?_
 intro K hK
 simp -implicitDefEqProofs (disch := first | decide | assumption | omega) only [go_sem, wrap_id]
 refine op_box (cs := #[.int .i64 (X.p), .int .i64 (X.d), .int .i64 (X.e), viX, vjX, vkX]) rfl ?_
 intro h0_0 e0_0 hb0_0 z0_0
 have := Ext.size e0_0
 have eB := e0_0
 have hfhb0_0 : Fresh h.size [h.size] := Fresh.one _
 have hlhb0_0 := one_lt (show h.size < h0_0.size by omega)
 try simp -implicitDefEqProofs (disch := first | decide | assumption | omega) only [go_sem, wrap_id]
 refine hK _ _ ?_
 clear hK K
 refine den_seq ?_
 refine den_region TTok ?_
 intro K hK
 simp -implicitDefEqProofs (disch := first | decide | assumption | omega) only [go_sem, wrap_id]
 refine hK _ _ ?_
 clear hK K
 refine den_seq ?_
 refine den_region TTok ?_
 intro K hK
 simp -implicitDefEqProofs (disch := first | decide | assumption | omega) only [go_sem, ld51, BoxAt.cell hb0_0, wrap_id]
 try simp -implicitDefEqProofs (disch := first | decide | assumption | omega) only [go_sem, wrap_id]
 refine CallA.mono (szP_ok _ X _ _ ⟨_, _, _, rfl, (RdS.pres hiX (Ext.pres eB)), (RdS.pres hjX (Ext.pres eB)), (RdS.pres hkX (Ext.pres eB))⟩ (by omega) (by omega)) ?_
 intro v_ h2_2
 rintro ⟨rfl, e2_2⟩
 replace hb0_0 := BoxAt.ext hb0_0 e2_2
 have := Ext.size e2_2
 replace eB := Ext.trans eB e2_2
 have := szP_le X (1048576 : Int) (by omega)
 try simp -implicitDefEqProofs (disch := first | decide | assumption | omega) only [go_sem, wrap_id]
 refine hK _ _ ?_
 clear hK K
 refine den_seq ?_
 refine den_seq ?_
 refine den_region TTok ?_
 intro K hK
 simp -implicitDefEqProofs (disch := first | decide | assumption | omega) only [go_sem, wrap_id]
 refine hK _ _ ?_
 clear hK K
 refine den_cond rfl (fun c0 => ?_) (fun c0 => ?_)
 ·try simp only [decide_eq_true_eq, decide_eq_false_iff_not, beq_iff_eq, beq_eq_false_iff_ne, bne_iff_ne, ne_eq, Bool.not_eq_true', Bool.not_eq_false', Bool.and_eq_true, Bool.or_eq_true, bne_eq_false_iff_eq] at c0
  refine den_seq ?_
  refine den_region TTok ?_
  intro K hK
  simp -implicitDefEqProofs (disch := first | decide | assumption | omega) only [go_sem, wrap_id]
  refine hK _ _ ?_
  clear hK K
  refine den_ret ?_
  simp (disch := decide) only [resP_1, puts_same, puts_ne]
  exact ⟨by first | rfl | trivial, eB⟩
 ·try simp only [decide_eq_true_eq, decide_eq_false_iff_not, beq_iff_eq, beq_eq_false_iff_ne, bne_iff_ne, ne_eq, Bool.not_eq_true', Bool.not_eq_false', Bool.and_eq_true, Bool.or_eq_true, bne_eq_false_iff_eq] at c0
  have hMX := szP_ok' (by omega) (by omega) c0
  have hcnX := szP_cntA (by omega) (by omega) c0
  refine den_skip ?_
  refine den_seq ?_
  refine den_region TTok ?_
  intro K hK
  simp -implicitDefEqProofs (disch := first | decide | assumption | omega) only [go_sem, ld51, BoxAt.cell hb0_0, wrap_id]
  try simp -implicitDefEqProofs (disch := first | decide | assumption | omega) only [go_sem, wrap_id]
  refine CallA.mono (toP_ok _ X _ ⟨_, _, _, rfl, (RdS.pres hiX (Ext.pres eB)), (RdS.pres hjX (Ext.pres eB)), (RdS.pres hkX (Ext.pres eB))⟩ hMX) ?_
  intro v_ h5_1
  rintro ⟨vi5_1, vj5_1, vk5_1, fi5_1, fj5_1, fk5_1, rfl, hoi5_1, hoj5_1, hok5_1, hf5_1, e5_1⟩
  replace hb0_0 := BoxAt.ext hb0_0 e5_1
  have := Ext.size e5_1
  replace eB := Ext.trans eB e5_1
  have hfi5_1 := hf5_1.left
  have hf5_1r0 := hf5_1.right
  have hfj5_1 := hf5_1r0.left
  have hfk5_1 := hf5_1r0.right
  have hlhoi5_1 := OS.lt hoi5_1
  have hlhoj5_1 := OS.lt hoj5_1
  have hlhok5_1 := OS.lt hok5_1
  have ap1 : Apart fi5_1 fj5_1 := Apart.lft (apart_nodup hf5_1)
  have ap2 : Apart fi5_1 fk5_1 := Apart.rgt (apart_nodup hf5_1)
  have ap3 : Apart fj5_1 fk5_1 := apart_nodup hf5_1r0
  try simp -implicitDefEqProofs (disch := first | decide | assumption | omega) only [go_sem, wrap_id]
  try simp -implicitDefEqProofs (disch := first | decide | assumption | omega) only [go_sem, wrap_id]
  refine CallA.mono (sSP_ok _ X _ ⟨_, _, _, rfl, (OS.rd hoi5_1), (OS.rd hoj5_1), (OS.rd hok5_1)⟩ ) ?_
  intro v_ h5_2
  rintro ⟨rfl, e5_2⟩
  replace hoi5_1 := OS.ext hoi5_1 e5_2
  replace hoj5_1 := OS.ext hoj5_1 e5_2
  replace hok5_1 := OS.ext hok5_1 e5_2
  replace hb0_0 := BoxAt.ext hb0_0 e5_2
  have := Ext.size e5_2
  replace eB := Ext.trans eB e5_2
  try simp -implicitDefEqProofs (disch := first | decide | assumption | omega) only [go_sem, wrap_id]
  refine hK _ _ ?_
  clear hK K
  refine den_seq ?_
  refine den_region TTok ?_
  intro K hK
  simp -implicitDefEqProofs (disch := first | decide | assumption | omega) only [go_sem, ld51, BoxAt.cell hb0_0, wrap_id]
  try simp -implicitDefEqProofs (disch := first | decide | assumption | omega) only [go_sem, wrap_id]
  refine CallA.mono (toP_ok _ X _ ⟨_, _, _, rfl, (RdS.pres hiX (Ext.pres eB)), (RdS.pres hjX (Ext.pres eB)), (RdS.pres hkX (Ext.pres eB))⟩ hMX) ?_
  intro v_ h6_1
  rintro ⟨vi6_1, vj6_1, vk6_1, fi6_1, fj6_1, fk6_1, rfl, hoi6_1, hoj6_1, hok6_1, hf6_1, e6_1⟩
  replace hb0_0 := BoxAt.ext hb0_0 e6_1
  have := Ext.size e6_1
  replace eB := Ext.trans eB e6_1
  have hfi6_1 := hf6_1.left
  have hf6_1r0 := hf6_1.right
  have hfj6_1 := hf6_1r0.left
  have hfk6_1 := hf6_1r0.right
  have hlhoi6_1 := OS.lt hoi6_1
  have hlhoj6_1 := OS.lt hoj6_1
  have hlhok6_1 := OS.lt hok6_1
  have ap4 : Apart fi6_1 fj6_1 := Apart.lft (apart_nodup hf6_1)
  have ap5 : Apart fi6_1 fk6_1 := Apart.rgt (apart_nodup hf6_1)
  have ap6 : Apart fj6_1 fk6_1 := apart_nodup hf6_1r0
  try simp -implicitDefEqProofs (disch := first | decide | assumption | omega) only [go_sem, wrap_id]
  refine op_alloc (cs := #[.int .i64 0, .int .i64 0, .int .i64 0, .slice none 0 0, .slice none 0 0, .slice none 0 0]) (by kernel_rfl) ?_
  intro h6_2 e6_2 hb6_2 z6_2
  replace hoi6_1 := OS.ext hoi6_1 e6_2
  replace hoj6_1 := OS.ext hoj6_1 e6_2
  replace hok6_1 := OS.ext hok6_1 e6_2
  replace hb0_0 := BoxAt.ext hb0_0 e6_2
  have := Ext.size e6_2
  replace eB := Ext.trans eB e6_2
  have hfhb6_2 : Fresh h6_1.size [h6_1.size] := Fresh.one _
  have hlhb6_2 := one_lt (show h6_1.size < h6_2.size by omega)
  try simp -implicitDefEqProofs (disch := first | decide | assumption | omega) only [go_sem, wrap_id]
  refine op_storeB (cs' := #[.int .i64 (X.p), .int .i64 (X.d), .int .i64 (X.e), vi6_1, vj6_1, vk6_1]) st53 hb6_2 rfl rfl rfl (by simp) (allOne_mem (l := [.int .i64 (X.p), .int .i64 (X.d), .int .i64 (X.e), vi6_1, vj6_1, vk6_1]) ⟨rfl, rfl, rfl, (OS.one hoi6_1).1, (OS.one hoj6_1).1, (OS.one hok6_1).1, trivial⟩) rfl ?_
  intro h6_3 hb6_2 c6_3
  replace hoi6_1 := OS.chg hoi6_1 c6_3 (apart_lt hlhoi6_1 hfhb6_2 (by omega))
  replace hoj6_1 := OS.chg hoj6_1 c6_3 (apart_lt hlhoj6_1 hfhb6_2 (by omega))
  replace hok6_1 := OS.chg hok6_1 c6_3 (apart_lt hlhok6_1 hfhb6_2 (by omega))
  replace hb0_0 := BoxAt.chgA hb0_0 c6_3 (apart_lt hlhb0_0 hfhb6_2 (by omega))
  have := c6_3.size
  replace eB := Ext.then eB c6_3 (ge_of hfhb6_2 (by omega))
  try simp -implicitDefEqProofs (disch := first | decide | assumption | omega) only [go_sem, wrap_id]
  refine hK _ _ ?_
  clear hK K
  refine den_seq ?_
  refine den_region TTok ?_
  intro K hK
  simp -implicitDefEqProofs (disch := first | decide | assumption | omega) only [go_sem, ld53, BoxAt.cell hb6_2, wrap_id]
  try simp -implicitDefEqProofs (disch := first | decide | assumption | omega) only [go_sem, wrap_id]
  refine CallA.mono (iSP_ok _ X _ ⟨_, _, _, rfl, (OS.rd hoi6_1), (OS.rd hoj6_1), (OS.rd hok6_1)⟩ ) ?_
  intro v_ h7_1
  rintro ⟨rfl, e7_1⟩
  replace hoi6_1 := OS.ext hoi6_1 e7_1
  replace hoj6_1 := OS.ext hoj6_1 e7_1
  replace hok6_1 := OS.ext hok6_1 e7_1
  replace hb0_0 := BoxAt.ext hb0_0 e7_1
  replace hb6_2 := BoxAt.ext hb6_2 e7_1
  have := Ext.size e7_1
  replace eB := Ext.trans eB e7_1
  try simp -implicitDefEqProofs (disch := first | decide | assumption | omega) only [go_sem, wrap_id]
  refine hK _ _ ?_
  clear hK K
  refine den_seq ?_
  refine den_seq ?_
  refine den_mergeH [(34, .bool (((((stR X).1) != ((stR X).1)) || (((stR X).2) != ((stR X).2)))))] [1, 6] ?_ ?_
   -- a way
  ·refine den_region TTok ?_
   intro K hK
   simp -implicitDefEqProofs (disch := first | decide | assumption | (simp (disch := decide) only [slotOf_zero, slotOf_succ, Option.map_some, puts_same, puts_ne, gv_bool, gv_undef, tt, tf, ft, ff, eq_self, if_true, if_false, Bool.false_eq_true, Bool.not_true, Bool.not_false]; done) | omega) only [go_sem, wrap_id]
   refine opsP_F (by simp (disch := decide) only [slotOf_zero, slotOf_succ, Option.map_some, puts_same, puts_ne, gv_bool, gv_undef, tt, tf, ft, ff, eq_self, if_true, if_false, Bool.false_eq_true, Bool.not_true, Bool.not_false]; rfl) (fun g7 => ?_) (fun g7 => ?_)
   ·try simp -implicitDefEqProofs (disch := first | decide | assumption | (simp (disch := decide) only [slotOf_zero, slotOf_succ, Option.map_some, puts_same, puts_ne, gv_bool, gv_undef, tt, tf, ft, ff, eq_self, if_true, if_false, Bool.false_eq_true, Bool.not_true, Bool.not_false, g7]; done) | omega) only [go_sem, wrap_id, g7, eq_self, if_true, if_false, Bool.false_eq_true]
    refine hK _ _ ?_
    clear hK K
    refine den_stop ?_
    refine ⟨?_, rfl⟩
    first | (simp (disch := decide) only [go_sem, g7, eq_self, Bool.true_and, Bool.and_true, Bool.false_and, Bool.and_false, Bool.true_or, Bool.or_true, Bool.false_or, Bool.or_false, if_true, if_false, Bool.false_eq_true]; done) | simp [HasL, sel, puts_at, g7]
   ·try simp -implicitDefEqProofs (disch := first | decide | assumption | (simp (disch := decide) only [slotOf_zero, slotOf_succ, Option.map_some, puts_same, puts_ne, gv_bool, gv_undef, tt, tf, ft, ff, eq_self, if_true, if_false, Bool.false_eq_true, Bool.not_true, Bool.not_false, g7]; done) | omega) only [go_sem, wrap_id, g7, eq_self, if_true, if_false, Bool.false_eq_true]
    refine hK _ _ ?_
    clear hK K
    refine den_stop ?_
    refine ⟨?_, rfl⟩
    first | (simp (disch := decide) only [go_sem, g7, eq_self, Bool.true_and, Bool.and_true, Bool.false_and, Bool.and_false, Bool.true_or, Bool.or_true, Bool.false_or, Bool.or_false, if_true, if_false, Bool.false_eq_true]; done) | simp [HasL, sel, puts_at, g7]
  intro en8
  simp (disch := decide) only [go_sem]
  refine den_cond rfl (fun c1 => ?_) (fun c1 => ?_)
  ·try simp only [decide_eq_true_eq, decide_eq_false_iff_not, beq_iff_eq, beq_eq_false_iff_ne, bne_iff_ne, ne_eq, Bool.not_eq_true', Bool.not_eq_false', Bool.and_eq_true, Bool.or_eq_true, bne_eq_false_iff_eq] at c1
   refine den_seq ?_
   refine den_region TTok ?_
   intro K hK
   simp -implicitDefEqProofs (disch := first | decide | assumption | omega) only [go_sem, wrap_id]
   refine hK _ _ ?_
   clear hK K
   refine den_ret ?_
   simp (disch := decide) only [resP_1, puts_same, puts_ne]
   exact absurd c1 (by first | (simp; done) | (simp; omega) | omega | (simp [eqC_self]; done))
  ·try simp only [decide_eq_true_eq, decide_eq_false_iff_not, beq_iff_eq, beq_eq_false_iff_ne, bne_iff_ne, ne_eq, Bool.not_eq_true', Bool.not_eq_false', Bool.and_eq_true, Bool.or_eq_true, bne_eq_false_iff_eq] at c1
   refine den_skip ?_
   refine den_seq ?_
   refine den_seq ?_
   refine den_draw TTok mixed [] [(0, true), (1, true), (2, false), (3, false), (4, true)] (by kernel_rfl) ?_
   intro K hK
   simp -implicitDefEqProofs (disch := first | decide | assumption | omega) only [go_sem, ld53, ld51, BoxAt.cell hb0_0, BoxAt.cell hb6_2, wrap_id]
   try simp -implicitDefEqProofs (disch := first | decide | assumption | omega) only [go_sem, wrap_id]
   refine CallA.mono (toP_ok _ X _ ⟨_, _, _, rfl, (RdS.pres hiX (Ext.pres eB)), (RdS.pres hjX (Ext.pres eB)), (RdS.pres hkX (Ext.pres eB))⟩ hMX) ?_
   intro v_ h10_2
   rintro ⟨vi10_2, vj10_2, vk10_2, fi10_2, fj10_2, fk10_2, rfl, hoi10_2, hoj10_2, hok10_2, hf10_2, e10_2⟩
   replace hoi6_1 := OS.ext hoi6_1 e10_2
   replace hoj6_1 := OS.ext hoj6_1 e10_2
   replace hok6_1 := OS.ext hok6_1 e10_2
   replace hb0_0 := BoxAt.ext hb0_0 e10_2
   replace hb6_2 := BoxAt.ext hb6_2 e10_2
   have := Ext.size e10_2
   replace eB := Ext.trans eB e10_2
   have hfi10_2 := hf10_2.left
   have hf10_2r0 := hf10_2.right
   have hfj10_2 := hf10_2r0.left
   have hfk10_2 := hf10_2r0.right
   have hlhoi10_2 := OS.lt hoi10_2
   have hlhoj10_2 := OS.lt hoj10_2
   have hlhok10_2 := OS.lt hok10_2
   have ap11 : Apart fi10_2 fj10_2 := Apart.lft (apart_nodup hf10_2)
   have ap12 : Apart fi10_2 fk10_2 := Apart.rgt (apart_nodup hf10_2)
   have ap13 : Apart fj10_2 fk10_2 := apart_nodup hf10_2r0
   try simp (disch := decide) only [outv_some, outv_none, put_puts]
   refine plK_pres (Ext.pres e10_2) ?_
   try simp -implicitDefEqProofs (disch := first | decide | assumption | omega) only [go_sem, wrap_id]
   try simp -implicitDefEqProofs (disch := first | decide | assumption | omega) only [go_sem, wrap_id]
   refine CallA.mono (eqP_same _ _ X _ ⟨_, _, _, rfl, (OS.rd hoi6_1), (OS.rd hoj6_1), (OS.rd hok6_1)⟩ ⟨_, _, _, rfl, (OS.rd hoi10_2), (OS.rd hoj10_2), (OS.rd hok10_2)⟩) ?_
   intro v_ h10_3
   rintro ⟨rfl, e10_3⟩
   replace hoi6_1 := OS.ext hoi6_1 e10_3
   replace hoj6_1 := OS.ext hoj6_1 e10_3
   replace hok6_1 := OS.ext hok6_1 e10_3
   replace hoi10_2 := OS.ext hoi10_2 e10_3
   replace hoj10_2 := OS.ext hoj10_2 e10_3
   replace hok10_2 := OS.ext hok10_2 e10_3
   replace hb0_0 := BoxAt.ext hb0_0 e10_3
   replace hb6_2 := BoxAt.ext hb6_2 e10_3
   have := Ext.size e10_3
   replace eB := Ext.trans eB e10_3
   try simp (disch := decide) only [outv_some, outv_none, put_puts]
   refine plK_pres (Ext.pres e10_3) ?_
   try simp -implicitDefEqProofs (disch := first | decide | assumption | omega) only [go_sem, wrap_id]
   refine hK _ _ ?_
   clear hK K
   refine den_cond rfl (fun c2 => ?_) (fun c2 => ?_)
   ·try simp only [decide_eq_true_eq, decide_eq_false_iff_not, beq_iff_eq, beq_eq_false_iff_ne, bne_iff_ne, ne_eq, Bool.not_eq_true', Bool.not_eq_false', Bool.and_eq_true, Bool.or_eq_true, bne_eq_false_iff_eq] at c2
    refine den_seq ?_
    refine den_region TTok ?_
    intro K hK
    simp -implicitDefEqProofs (disch := first | decide | assumption | omega) only [go_sem, wrap_id]
    refine hK _ _ ?_
    clear hK K
    refine den_ret ?_
    simp (disch := decide) only [resP_1, puts_same, puts_ne]
    exact absurd c2 (by first | (simp; done) | (simp; omega) | omega | (simp [eqC_self]; done))
   ·try simp only [decide_eq_true_eq, decide_eq_false_iff_not, beq_iff_eq, beq_eq_false_iff_ne, bne_iff_ne, ne_eq, Bool.not_eq_true', Bool.not_eq_false', Bool.and_eq_true, Bool.or_eq_true, bne_eq_false_iff_eq] at c2
    refine den_skip ?_
    refine den_seq ?_
    refine den_region TTok ?_
    intro K hK
    simp -implicitDefEqProofs (disch := first | decide | assumption | omega) only [go_sem, wrap_id]
    refine hK _ _ ?_
    clear hK K
    refine den_ret ?_
    simp (disch := decide) only [resP_1, puts_same, puts_ne]
    exact ⟨by first | rfl | trivial, eB⟩
end Go.Proofs.Ytjjjgllbocgkbaa
