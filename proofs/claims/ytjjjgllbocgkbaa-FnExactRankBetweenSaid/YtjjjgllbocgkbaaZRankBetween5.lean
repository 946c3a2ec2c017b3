/-
  What the statement FnExactRankBetween uses of the walks, part 5.
  Conditions: each theorem's own.
-/
import Derived.Test.YtjjjgllbocgkbaaG16
import Derived.Test.YtjjjgllbocgkbaaG17
import Derived.Test.YtjjjgllbocgkbaaG14
import Derived.Test.YtjjjgllbocgkbaaG13
import Derived.Test.YtjjjgllbocgkbaaG15
import Derived.Test.YtjjjgllbocgkbaaG18
import Derived.Test.YtjjjgllbocgkbaaG19
import Derived.Test.YtjjjgllbocgkbaaZRankBetween1
import Derived.Test.YtjjjgllbocgkbaaZRankBetween2
import Derived.Test.YtjjjgllbocgkbaaZRankBetween3
import Derived.Test.YtjjjgllbocgkbaaZRankBetween4
set_option linter.unusedVariables false
set_option linter.unusedSimpArgs false
namespace Go.Proofs.Ytjjjgllbocgkbaa
open Go
set_option maxRecDepth 100000 in
set_option maxHeartbeats 4000000 in
theorem sMt_ok (vA vB : Value) (p : Int) (n : Int) (A : List (List Int)) (B : List (List Int)) (h : Heap) (rA : R2 h vA A) (rB : R2 h vB B) (hP : isP p = true) (hA : TB p n.toNat A) (hB : TB p n.toNat B) (hn : 0 ≤ n ∧ n ≤ 8 ∧ A.length ≤ 8 ∧ B.length ≤ 8) : CallA Try.prog 152 #[.int .i64 p, .int .i64 n, vA, vB] h fun v' h' => ∃ w0 f0, v' = w0 ∧ O2 h' w0 (ech p (mtP p A B n.toNat)) f0 ∧ Fresh h.size f0 ∧ Ext h h' := by
 have hleA := RdS.le rA
 have hleB := RdS.le rB
 have hp := isP_two hP
 obtain ⟨⟨la, qA⟩, _⟩ := ech_red hP hA
 obtain ⟨⟨lb, qB⟩, _⟩ := ech_red hP hB
 have hal := qA.le_w
 have hbl := qB.le_w
 have hkerT := (ech_tb hP hA).app (ech_tb hP hB)
 have hlen : (ech p A ++ ech p B).length = (ech p A).length + (ech p B).length := List.length_append
 have hkern : ((ech p A ++ ech p B).length : Int) = ((ech p A ++ ech p B).length : Int) := rfl
 obtain ⟨lk, hrk⟩ := kerQ_rr hP hkerT
 have hkq := hrk.le_w
 refine callA_intro TTok (args := [_, _, _, _]) Try.func152 (by kernel_rfl) rfl 56 rfl (by simp) [.tmp 8] rfl ?_
 simp only [idxs, Nat.reduceAdd]
 refine den_seq ?_
 refine den_region TTok ?_
 intro K hK
 simp -implicitDefEqProofs (disch := first | decide | assumption | omega) only [go_sem, wrap_id]
 refine hK _ _ ?_
 clear hK K
 refine den_seq ?_
 refine den_region TTok ?_
 intro K hK
 simp -implicitDefEqProofs (disch := first | decide | assumption | omega) only [go_sem, RdS.len rA sl26, RdS.idx rA sl26, RdS.cellB rA (HPres.refl _), RdS.cells rA, wrap_id]
 try simp -implicitDefEqProofs (disch := first | decide | assumption | omega) only [go_sem, wrap_id]
 refine CallA.mono (sEch_ok _ p A _ rA hP hA (by omega) (by omega)) ?_
 intro vw1_2_0 h1_2
 rintro ⟨zvw1_2_0, fw1_2_0, rfl, how1_2_0, hfw1_2_0, e1_2⟩
 have := Ext.size e1_2
 have eB := e1_2
 have hlhow1_2_0 := OS.lt how1_2_0
 try simp -implicitDefEqProofs (disch := first | decide | assumption | omega) only [go_sem, wrap_id]
 refine op_bs0 sz26 O1 ?_
 intro v1_3 h1_3 ho1_3 e1_3
 replace how1_2_0 := OS.ext how1_2_0 e1_3
 have := Ext.size e1_3
 replace eB := Ext.trans eB e1_3
 have hfho1_3 : Fresh h1_2.size [h1_2.size] := Fresh.one _
 have hlho1_3 := OS.lt ho1_3
 try simp -implicitDefEqProofs (disch := first | decide | assumption | omega) only [go_sem, RdS.len rA sl26, RdS.idx rA sl26, RdS.cellB rA (Ext.pres eB), RdS.cells rA, wrap_id]
 try simp -implicitDefEqProofs (disch := first | decide | assumption | omega) only [go_sem, wrap_id]
 refine CallA.mono (sEch_ok _ p A _ (RdS.pres rA (Ext.pres eB)) hP hA (by omega) (by omega)) ?_
 intro vw1_6_0 h1_6
 rintro ⟨zvw1_6_0, fw1_6_0, rfl, how1_6_0, hfw1_6_0, e1_6⟩
 replace how1_2_0 := OS.ext how1_2_0 e1_6
 replace ho1_3 := OS.ext ho1_3 e1_6
 have := Ext.size e1_6
 replace eB := Ext.trans eB e1_6
 have hlhow1_6_0 := OS.lt how1_6_0
 try simp -implicitDefEqProofs (disch := first | decide | assumption | omega) only [go_sem, wrap_id]
 have hag1_7 := Agr.refl fw1_6_0 h1_6
 replace ho1_3 : O2M h1_6 fw1_6_0 _ _ _ _ := O2M.nil ho1_3
 refine op_appendM sz26 ho1_3 hfho1_3.nodup (OS.rd how1_6_0) rfl (fun j hj => (ES.row (H := h1_6) how1_6_0 hfw1_6_0.nodup hj).2.1.1) (fun j hj h'' => .inr (by rw [getD_elem hj]; exact ES.row how1_6_0 hfw1_6_0.nodup hj)) (by first | omega | (simp; omega)) rfl ?_
 intro v1_7 h1_7 fp1_7 ho1_7 hn1_7 hs1_7 c1_7
 have hsz1_7 := c1_7.size
 have hfho1_7 : Fresh h1_2.size fp1_7 := Fresh.appd hfho1_3 (Fresh.nil h1_6.size) (by omega) (by omega) hn1_7 hs1_7
 replace hag1_7 := Agr.chg hag1_7 (OS.lt how1_6_0) c1_7 (apart_gt hfw1_6_0 hlho1_3 (by omega))
 replace how1_2_0 := OS.chg how1_2_0 c1_7 (apart_lt hlhow1_2_0 hfho1_3 (by omega))
 replace how1_6_0 := OS.chg how1_6_0 c1_7 (apart_gt hfw1_6_0 hlho1_3 (by omega))
 have := c1_7.size
 replace eB := Ext.then eB c1_7 (ge_of hfho1_3 (by omega))
 have ap1 : Apart fw1_6_0 fp1_7 := Apart.grow hlhow1_6_0 (by omega) (apart_gt hfw1_6_0 hlho1_3 (by omega)) (Apart.nil _) hs1_7
 have hlho1_7 := OS.lt ho1_7
 rw [List.nil_append] at ho1_7
 try simp -implicitDefEqProofs (disch := first | decide | assumption | omega) only [go_sem, RdS.len (OS.rd how1_2_0) sl26, RdS.idx (OS.rd how1_2_0) sl26, RdS.cellN (OS.rd how1_2_0), RdS.cells (OS.rd how1_2_0), wrap_id]
 refine hK _ _ ?_
 clear hK K
 refine den_seq ?_
 refine den_region TTok ?_
 intro K hK
 simp -implicitDefEqProofs (disch := first | decide | assumption | omega) only [go_sem, RdS.len rB sl26, RdS.idx rB sl26, RdS.cellB rB (Ext.pres eB), RdS.cells rB, wrap_id]
 try simp -implicitDefEqProofs (disch := first | decide | assumption | omega) only [go_sem, wrap_id]
 refine CallA.mono (sEch_ok _ p B _ (RdS.pres rB (Ext.pres eB)) hP hB (by omega) (by omega)) ?_
 intro vw2_3_0 h2_3
 rintro ⟨zvw2_3_0, fw2_3_0, rfl, how2_3_0, hfw2_3_0, e2_3⟩
 replace hag1_7 := Agr.ext hag1_7 (OS.lt how1_6_0) e2_3
 replace how1_2_0 := OS.ext how1_2_0 e2_3
 replace how1_6_0 := OS.ext how1_6_0 e2_3
 replace ho1_7 := OS.ext ho1_7 e2_3
 have := Ext.size e2_3
 replace eB := Ext.trans eB e2_3
 have hlhow2_3_0 := OS.lt how2_3_0
 try simp -implicitDefEqProofs (disch := first | decide | assumption | omega) only [go_sem, wrap_id]
 replace ho1_7 : O2M h2_3 (fw1_6_0 ++ fw2_3_0) _ _ _ _ := O2M.more hag1_7 ho1_7
 have hagl2_4 := Agr.refl fw1_6_0 h2_3
 have hagr2_4 := Agr.refl fw2_3_0 h2_3
 refine op_appendM sz26 ho1_7 hfho1_7.nodup (OS.rd how2_3_0) rfl (fun j hj => (ES.row (H := h2_3) how2_3_0 hfw2_3_0.nodup hj).2.1.1) (fun j hj h'' => .inr (by rw [getD_elem hj]; exact (ES.row how2_3_0 hfw2_3_0.nodup hj).right)) (by first | omega | (simp; omega)) rfl ?_
 intro v2_4 h2_4 fp2_4 ho2_4 hn2_4 hs2_4 c2_4
 have hsz2_4 := c2_4.size
 have hfho2_4 : Fresh h1_2.size fp2_4 := Fresh.appd hfho1_7 (Fresh.nil h2_3.size) (by omega) (by omega) hn2_4 hs2_4
 replace hagl2_4 := Agr.chg hagl2_4 (OS.lt how1_6_0) c2_4 ap1
 replace hagr2_4 := Agr.chg hagr2_4 (OS.lt how2_3_0) c2_4 (apart_gt hfw2_3_0 hlho1_7 (by omega))
 replace how1_2_0 := OS.chg how1_2_0 c2_4 (apart_lt hlhow1_2_0 hfho1_7 (by omega))
 replace how1_6_0 := OS.chg how1_6_0 c2_4 ap1
 replace how2_3_0 := OS.chg how2_3_0 c2_4 (apart_gt hfw2_3_0 hlho1_7 (by omega))
 have := c2_4.size
 replace eB := Ext.then eB c2_4 (ge_of hfho1_7 (by omega))
 have ap2 : Apart fw1_6_0 fp2_4 := Apart.grow hlhow1_6_0 (by omega) ap1 (Apart.nil _) hs2_4
 have ap3 : Apart fw2_3_0 fp2_4 := Apart.grow hlhow2_3_0 (by omega) (apart_gt hfw2_3_0 hlho1_7 (by omega)) (Apart.nil _) hs2_4
 have hlho2_4 := OS.lt ho2_4
 try simp -implicitDefEqProofs (disch := first | decide | assumption | omega) only [go_sem, wrap_id]
 refine hK _ _ ?_
 clear hK K
 refine den_seq ?_
 refine den_region TTok ?_
 intro K hK
 simp -implicitDefEqProofs (disch := first | decide | assumption | omega) only [go_sem, wrap_id, RdS.len (O2M.rd ho2_4 (Agr.app hagl2_4 hagr2_4)) sl26]
 try simp -implicitDefEqProofs (disch := first | decide | assumption | omega) only [go_sem, wrap_id, RdS.len (O2M.rd ho2_4 (Agr.app hagl2_4 hagr2_4)) sl26]
 refine CallA.mono (sKernel_ok _ p ((ech p A ++ (ech p B)).length : Int) (ech p A ++ (ech p B)) _ (O2M.rd ho2_4 (Agr.app hagl2_4 hagr2_4)) hP hkerT (by omega) (by omega) hkern) ?_
 intro vw3_4_0 h3_4
 rintro ⟨zvw3_4_0, fw3_4_0, rfl, how3_4_0, hfw3_4_0, e3_4⟩
 replace hagl2_4 := Agr.ext hagl2_4 (OS.lt how1_6_0) e3_4
 replace hagr2_4 := Agr.ext hagr2_4 (OS.lt how2_3_0) e3_4
 replace how1_2_0 := OS.ext how1_2_0 e3_4
 replace how1_6_0 := OS.ext how1_6_0 e3_4
 replace how2_3_0 := OS.ext how2_3_0 e3_4
 replace ho2_4 := OS.ext ho2_4 e3_4
 have := Ext.size e3_4
 replace eB := Ext.trans eB e3_4
 have hlhow3_4_0 := OS.lt how3_4_0
 try simp -implicitDefEqProofs (disch := first | decide | assumption | omega) only [go_sem, wrap_id, RdS.len (O2M.rd ho2_4 (Agr.app hagl2_4 hagr2_4)) sl26]
 refine op_bs0 sz26 O1 ?_
 intro v3_5 h3_5 ho3_5 e3_5
 replace hagl2_4 := Agr.ext hagl2_4 (OS.lt how1_6_0) e3_5
 replace hagr2_4 := Agr.ext hagr2_4 (OS.lt how2_3_0) e3_5
 replace how1_2_0 := OS.ext how1_2_0 e3_5
 replace how1_6_0 := OS.ext how1_6_0 e3_5
 replace how2_3_0 := OS.ext how2_3_0 e3_5
 replace ho2_4 := OS.ext ho2_4 e3_5
 replace how3_4_0 := OS.ext how3_4_0 e3_5
 have := Ext.size e3_5
 replace eB := Ext.trans eB e3_5
 have hfho3_5 : Fresh h3_4.size [h3_4.size] := Fresh.one _
 have hlho3_5 := OS.lt ho3_5
 try simp -implicitDefEqProofs (disch := first | decide | assumption | omega) only [go_sem, RdS.len (OS.rd how3_4_0) sl26, RdS.idx (OS.rd how3_4_0) sl26, RdS.cellN (OS.rd how3_4_0), RdS.cells (OS.rd how3_4_0), RdS.len (OS.rd ho3_5) sl26, RdS.idx (OS.rd ho3_5) sl26, RdS.cellN (OS.rd ho3_5), RdS.cells (OS.rd ho3_5), wrap_id, RdS.len (O2M.rd ho2_4 (Agr.app hagl2_4 hagr2_4)) sl26]
 refine hK _ _ ?_
 clear hK K
 refine den_seq ?_
 refine den_seq ?_
 refine den_region TTok ?_
 intro K hK
 simp -implicitDefEqProofs (disch := first | decide | assumption | omega) only [go_sem, wrap_id]
 refine hK _ _ ?_
 clear hK K
 refine den_block ?_
 refine den_sel [12, 13, 0, 1, 9, 11] ?_
 intro env_4
 simp only [go_sem]
 refine den_loopS (σ := Nat × Value × List Nat) (fun st_ => [(12, st_.2.1), (13, .int .i64 (st_.1 : Int))]) (fun st_ H => (st_.1 ≤ (kerQ p (ech p A ++ ech p B)).length) ∧ (O2 H st_.2.1 (((kerQ p (ech p A ++ ech p B)).take st_.1).map (fun v : List Int => mvP p (ech p A) n.toNat (v.take (ech p A).length))) st_.2.2) ∧ (Fresh (h3_4.size) st_.2.2) ∧ (Sub [h3_4.size] h3_5.size st_.2.2) ∧ (Chg [h3_4.size] h3_5 H)) (fun st_ => (kerQ p (ech p A ++ ech p B)).length - st_.1) (0, v3_5, [h3_4.size]) ?_ ?_
 ·exact ⟨by first | (simp; done) | (dsimp only; omega) | (simp; omega), by simpa using ho3_5, hfho3_5, Sub.refl, Chg.refl _ _⟩
 ·rintro ⟨k, vhO, fphO⟩ h7 ee6 ⟨hi0, hO, hfhO, sbhO, cL5⟩
  dsimp only at hi0 hO hfhO sbhO cL5
  replace hagl2_4 := Agr.chg hagl2_4 (OS.lt how1_6_0) cL5 (apart_lt hlhow1_6_0 hfho3_5 (by omega))
  replace hagr2_4 := Agr.chg hagr2_4 (OS.lt how2_3_0) cL5 (apart_lt hlhow2_3_0 hfho3_5 (by omega))
  replace how1_2_0 := OS.chg how1_2_0 cL5 (apart_lt hlhow1_2_0 hfho3_5 (by omega))
  replace how1_6_0 := OS.chg how1_6_0 cL5 (apart_lt hlhow1_6_0 hfho3_5 (by omega))
  replace how2_3_0 := OS.chg how2_3_0 cL5 (apart_lt hlhow2_3_0 hfho3_5 (by omega))
  replace how3_4_0 := OS.chg how3_4_0 cL5 (apart_lt hlhow3_4_0 hfho3_5 (by omega))
  have := cL5.size
  replace eB := Ext.then eB cL5 (ge_of hfho3_5 (by omega))
  have hlhO := OS.lt hO
  simp only [List.cons_append, List.nil_append]
  refine den_seq ?_
  refine den_seq ?_
  refine den_region TTok ?_
  intro K hK
  simp -implicitDefEqProofs (disch := first | decide | assumption | omega) only [go_sem, RdS.len (OS.rd how3_4_0) sl26, RdS.idx (OS.rd how3_4_0) sl26, RdS.cellN (OS.rd how3_4_0), RdS.cells (OS.rd how3_4_0), wrap_id]
  refine hK _ _ ?_
  clear hK K
  refine den_cond rfl (fun c0 => ?_) (fun c0 => ?_)
  ·try simp only [decide_eq_true_eq, decide_eq_false_iff_not, beq_iff_eq, beq_eq_false_iff_ne, bne_iff_ne, ne_eq, Bool.not_eq_true', Bool.not_eq_false', Bool.and_eq_true, Bool.or_eq_true, bne_eq_false_iff_eq] at c0
   refine den_skip ?_
   refine den_seq ?_
   refine den_block ?_
   have hmk := mt_row hP hA hB (getD_mem (R := kerQ p (ech p A ++ ech p B)) (k := k) (by omega))
   have hkl := (mt_ker hP hA hB (getD_mem (R := kerQ p (ech p A ++ ech p B)) (k := k) (by omega))).1
   obtain ⟨vz, hez, hRz⟩ := RdS.takeV (k := .i64) (RdS.rowN (OS.rd how3_4_0) k (by omega)) sl22 (hi := ((ech p A).length : Int)) (by omega) (by omega)
   rw [Int.toNat_natCast] at hRz
   have hbv := hmk.2.1
   have hbt : Tbl p n (ech p A) := fun r hr => by have := ech_tb hP hA r hr; exact ⟨by omega, this.2⟩
   have hmt : (((kerQ p (ech p A ++ ech p B)).take k).map (fun v : List Int => mvP p (ech p A) n.toNat (v.take (ech p A).length))).length ≤ 100 := by rw [List.length_map, List.length_take]; omega
   have htl := hmk.1
   refine den_region TTok ?_
   intro K hK
   have hr8 := RdS.rowN (OS.rd how3_4_0) k (by omega)
   have hlhr8 := RdS.le hr8
   have xr9 := Ext.refl h7
   simp -implicitDefEqProofs (disch := first | decide | assumption | omega) only [go_sem, ld22, RdS.len (OS.rd how1_2_0) sl26, RdS.idx (OS.rd how1_2_0) sl26, RdS.cellN (OS.rd how1_2_0), RdS.cells (OS.rd how1_2_0), RdS.len (OS.rd how3_4_0) sl26, RdS.idx (OS.rd how3_4_0) sl26, RdS.cellN (OS.rd how3_4_0), RdS.cells (OS.rd how3_4_0), RdS.len (OS.rd hO) sl26, RdS.idx (OS.rd hO) sl26, RdS.cellN (OS.rd hO), RdS.cells (OS.rd hO), RdS.len hr8 sl22, RdS.idx hr8 sl22, R1.intB hr8 (Ext.pres xr9), RdS.cells hr8, wrap_id, hez, Option.map_some, Option.map_none]
   try simp -implicitDefEqProofs (disch := first | decide | assumption | omega) only [go_sem, wrap_id, hez, Option.map_some, Option.map_none]
   refine CallA.mono (sApply_ok _ _ _ _ _ _ _ hRz (OS.rd how1_2_0) (by omega) (by omega) (by omega) hbv hbt) ?_
   intro v7_11 h7_11
   rintro ⟨f7_11, ho7_11, hf7_11, e7_11⟩
   replace hagl2_4 := Agr.ext hagl2_4 (OS.lt how1_6_0) e7_11
   replace hagr2_4 := Agr.ext hagr2_4 (OS.lt how2_3_0) e7_11
   replace how1_2_0 := OS.ext how1_2_0 e7_11
   replace how1_6_0 := OS.ext how1_6_0 e7_11
   replace how2_3_0 := OS.ext how2_3_0 e7_11
   replace how3_4_0 := OS.ext how3_4_0 e7_11
   replace hO := OS.ext hO e7_11
   have := Ext.size e7_11
   replace eB := Ext.trans eB e7_11
   replace xr9 := Ext.trans xr9 e7_11
   replace cL5 := Chg.stepE cL5 e7_11
   have hlho7_11 := OS.lt ho7_11
   try simp -implicitDefEqProofs (disch := first | decide | assumption | omega) only [go_sem, wrap_id, hez, Option.map_some, Option.map_none]
   refine op_bs1 sz26 rfl (OS.one ho7_11).2 ?_
   try simp -implicitDefEqProofs (disch := first | decide | assumption | omega) only [go_sem, wrap_id, hez, Option.map_some, Option.map_none]
   refine op_append1 sz26 hO hfhO.nodup ho7_11 hf7_11.nodup (apart_lt hlhO hf7_11 (by omega)) (by first | omega | (simp; omega)) rfl rfl ?_
   intro v7_13 h7_13 fp7_13 ho7_13 hn7_13 hs7_13 c7_13
   have hsz7_13 := c7_13.size
   have hfho7_13 : Fresh h3_4.size fp7_13 := Fresh.appd hfhO hf7_11 (by omega) (by omega) hn7_13 hs7_13
   have sb10 : Sub [h3_4.size] h3_5.size fp7_13 := Sub.grow sbhO (Sub.fresh hf7_11 (by omega)) (by omega) hs7_13
   replace hagl2_4 := Agr.chg hagl2_4 (OS.lt how1_6_0) c7_13 (apart_lt hlhow1_6_0 hfhO (by omega))
   replace hagr2_4 := Agr.chg hagr2_4 (OS.lt how2_3_0) c7_13 (apart_lt hlhow2_3_0 hfhO (by omega))
   replace how1_2_0 := OS.chg how1_2_0 c7_13 (apart_lt hlhow1_2_0 hfhO (by omega))
   replace how1_6_0 := OS.chg how1_6_0 c7_13 (apart_lt hlhow1_6_0 hfhO (by omega))
   replace how2_3_0 := OS.chg how2_3_0 c7_13 (apart_lt hlhow2_3_0 hfhO (by omega))
   replace how3_4_0 := OS.chg how3_4_0 c7_13 (apart_lt hlhow3_4_0 hfhO (by omega))
   have := c7_13.size
   replace eB := Ext.then eB c7_13 (ge_of hfhO (by omega))
   replace cL5 := Chg.step cL5 c7_13 sbhO
   have hlho7_13 := OS.lt ho7_13
   try simp -implicitDefEqProofs (disch := first | decide | assumption | omega) only [go_sem, RdS.len (OS.rd ho7_13) sl26, RdS.idx (OS.rd ho7_13) sl26, RdS.cellN (OS.rd ho7_13), RdS.cells (OS.rd ho7_13), wrap_id, hez, Option.map_some, Option.map_none]
   refine hK _ _ ?_
   clear hK K
   refine den_blk ?_
   refine den_region TTok ?_
   intro K hK
   simp -implicitDefEqProofs (disch := first | decide | assumption | omega) only [go_sem, wrap_id]
   refine hK _ _ ?_
   clear hK K
   refine den_stop ?_
   rw [show accP p (((kerQ p (ech p A ++ ech p B)).getD k default).take (ech p A).length) (ech p A) (List.replicate n.toNat 0) = (fun v : List Int => mvP p (ech p A) n.toNat (v.take (ech p A).length)) ((kerQ p (ech p A ++ ech p B)).getD k default) from rfl, map_takeL (f := fun v : List Int => mvP p (ech p A) n.toNat (v.take (ech p A).length)) (d := default) (by omega)] at ho7_13
   exact ⟨(k + 1, v7_13, fp7_13), by simp [HasL, puts_at], ⟨by first | omega | (dsimp only; omega), ho7_13, hfho7_13, sb10, cL5⟩, by first | omega | (dsimp only; omega)⟩
  ·try simp only [decide_eq_true_eq, decide_eq_false_iff_not, beq_iff_eq, beq_eq_false_iff_ne, bne_iff_ne, ne_eq, Bool.not_eq_true', Bool.not_eq_false', Bool.and_eq_true, Bool.or_eq_true, bne_eq_false_iff_eq] at c0
   refine den_exit ?_
   refine denX_code ?_
   refine denX_stop ?_
   refine denX_hit ?_
   refine den_seq ?_
   rw [map_takeE (by omega)] at hO
   change O2 _ _ (mtP p A B n.toNat) _ at hO
   have hml_ : (mtP p A B n.toNat).length = (kerQ p (ech p A ++ ech p B)).length := List.length_map _
   have hredT := mt_tb hP hA hB
   refine den_region TTok ?_
   intro K hK
   simp -implicitDefEqProofs (disch := first | decide | assumption | omega) only [go_sem, RdS.len (OS.rd hO) sl26, RdS.idx (OS.rd hO) sl26, RdS.cellN (OS.rd hO), RdS.cells (OS.rd hO), wrap_id]
   try simp -implicitDefEqProofs (disch := first | decide | assumption | omega) only [go_sem, wrap_id]
   refine CallA.mono (sEch_ok _ p (mtP p A B n.toNat) _ (OS.rd hO) hP hredT (by omega) (by omega)) ?_
   intro vw8_2_0 h8_2
   rintro ⟨zvw8_2_0, fw8_2_0, rfl, how8_2_0, hfw8_2_0, e8_2⟩
   replace hagl2_4 := Agr.ext hagl2_4 (OS.lt how1_6_0) e8_2
   replace hagr2_4 := Agr.ext hagr2_4 (OS.lt how2_3_0) e8_2
   replace how1_6_0 := OS.ext how1_6_0 e8_2
   replace how2_3_0 := OS.ext how2_3_0 e8_2
   replace hO := OS.ext hO e8_2
   have := Ext.size e8_2
   replace eB := Ext.trans eB e8_2
   have hlhow8_2_0 := OS.lt how8_2_0
   try simp -implicitDefEqProofs (disch := first | decide | assumption | omega) only [go_sem, RdS.len (OS.rd how8_2_0) sl26, RdS.idx (OS.rd how8_2_0) sl26, RdS.cellN (OS.rd how8_2_0), RdS.cells (OS.rd how8_2_0), wrap_id]
   refine hK _ _ ?_
   clear hK K
   refine den_ret ?_
   simp (disch := decide) only [resP_1, puts_same, puts_ne]
   exact ⟨_, _, rfl, how8_2_0, hfw8_2_0.mono (by omega), eB⟩

set_option maxRecDepth 100000 in
set_option maxHeartbeats 4000000 in
theorem sPls_ok (vA vB : Value) (p : Int) (A : List (List Int)) (B : List (List Int)) (h : Heap) (rA : R2 h vA A) (rB : R2 h vB B) {w : Nat} (hP : isP p = true) (hA : TB p w A) (hB : TB p w B) (hw : w ≤ 100 ∧ A.length ≤ 100 ∧ B.length ≤ 100) : CallA Try.prog 156 #[.int .i64 p, vA, vB] h fun v' h' => ∃ w0 f0, v' = w0 ∧ O2 h' w0 (ech p (A ++ B)) f0 ∧ Fresh h.size f0 ∧ Ext h h' := by
 have hleA := RdS.le rA
 have hleB := RdS.le rB
 have hredT := hA.app hB
 have hlen : (A ++ B).length = A.length + B.length := List.length_append
 refine callA_intro TTok (args := [_, _, _]) Try.func156 (by kernel_rfl) rfl 14 rfl (by simp) [.tmp 6] rfl ?_
 simp only [idxs, Nat.reduceAdd]
 refine den_seq ?_
 refine den_region TTok ?_
 intro K hK
 simp -implicitDefEqProofs (disch := first | decide | assumption | omega) only [go_sem, wrap_id]
 refine hK _ _ ?_
 clear hK K
 refine den_seq ?_
 refine den_region TTok ?_
 intro K hK
 simp -implicitDefEqProofs (disch := first | decide | assumption | omega) only [go_sem, wrap_id]
 refine op_bs0 sz26 O1 ?_
 intro v1_1 h1_1 ho1_1 e1_1
 have := Ext.size e1_1
 have eB := e1_1
 have hfho1_1 : Fresh h.size [h.size] := Fresh.one _
 have hlho1_1 := OS.lt ho1_1
 try simp -implicitDefEqProofs (disch := first | decide | assumption | omega) only [go_sem, RdS.len rA sl26, RdS.idx rA sl26, RdS.cellB rA (Ext.pres eB), RdS.cells rA, wrap_id]
 replace ho1_1 : O2R h _ _ _ _ := O2R.nil ho1_1
 refine op_appendM sz26 ho1_1 hfho1_1.nodup (RdS.pres rA (Ext.pres eB)) rfl (fun j hj => (ER.row (H := h1_1) rA eB hj).2.1.1) (fun j hj h'' => by rw [getD_elemR hj]; exact ER.row rA eB hj) (by first | omega | (simp; omega)) rfl ?_
 intro v1_3 h1_3 fp1_3 ho1_3 hn1_3 hs1_3 c1_3
 have hsz1_3 := c1_3.size
 have hfho1_3 : Fresh h.size fp1_3 := Fresh.appd hfho1_1 (Fresh.nil h1_1.size) (by omega) (by omega) hn1_3 hs1_3
 have := c1_3.size
 replace eB := Ext.then eB c1_3 (ge_of hfho1_1 (by omega))
 have hlho1_3 := OS.lt ho1_3
 rw [List.nil_append] at ho1_3
 try simp -implicitDefEqProofs (disch := first | decide | assumption | omega) only [go_sem, RdS.len rB sl26, RdS.idx rB sl26, RdS.cellB rB (Ext.pres eB), RdS.cells rB, wrap_id]
 refine op_appendM sz26 ho1_3 hfho1_3.nodup (RdS.pres rB (Ext.pres eB)) rfl (fun j hj => (ER.row (H := h1_3) rB eB hj).2.1.1) (fun j hj h'' => by rw [getD_elemR hj]; exact ER.row rB eB hj) (by first | omega | (simp; omega)) rfl ?_
 intro v1_5 h1_5 fp1_5 ho1_5 hn1_5 hs1_5 c1_5
 have hsz1_5 := c1_5.size
 have hfho1_5 : Fresh h.size fp1_5 := Fresh.appd hfho1_3 (Fresh.nil h1_3.size) (by omega) (by omega) hn1_5 hs1_5
 have := c1_5.size
 replace eB := Ext.then eB c1_5 (ge_of hfho1_3 (by omega))
 have hlho1_5 := OS.lt ho1_5
 try simp -implicitDefEqProofs (disch := first | decide | assumption | omega) only [go_sem, wrap_id]
 try simp -implicitDefEqProofs (disch := first | decide | assumption | omega) only [go_sem, wrap_id]
 refine CallA.mono (sEch_ok _ p (A ++ B) _ (O2R.rd ho1_5 eB) hP hredT (by omega) (by omega)) ?_
 intro vw1_6_0 h1_6
 rintro ⟨zvw1_6_0, fw1_6_0, rfl, how1_6_0, hfw1_6_0, e1_6⟩
 replace ho1_5 := OS.ext ho1_5 e1_6
 have := Ext.size e1_6
 replace eB := Ext.trans eB e1_6
 have hlhow1_6_0 := OS.lt how1_6_0
 try simp -implicitDefEqProofs (disch := first | decide | assumption | omega) only [go_sem, RdS.len (OS.rd how1_6_0) sl26, RdS.idx (OS.rd how1_6_0) sl26, RdS.cellN (OS.rd how1_6_0), RdS.cells (OS.rd how1_6_0), wrap_id]
 refine hK _ _ ?_
 clear hK K
 refine den_ret ?_
 simp (disch := decide) only [resP_1, puts_same, puts_ne]
 exact ⟨_, _, rfl, how1_6_0, hfw1_6_0.mono (by omega), eB⟩
end Go.Proofs.Ytjjjgllbocgkbaa

namespace Go.Proofs.Ytjjjgllbocgkbaa
open Go
theorem rb_1 {X : Fl} {n q s : Int} (h : ¬ isF X = true) : rbR X n q s = (0, 1) := by rw [rbR, if_neg h]
theorem rb_2 {X : Fl} {n q s : Int} (h : isF X = true) (h2 : ¬ ((0 ≤ n ∧ n ≤ (X.c.dims.length : Int) - 1) ∧ (0 ≤ s ∧ s ≤ 5) ∧ (0 ≤ q ∧ q ≤ s))) : rbR X n q s = (0, 2) := by
 rw [rbR, if_pos h, if_neg]
 simp only [in3_iff]; exact h2
theorem rb_0 {X : Fl} {n q s : Int} (h : isF X = true) (h2 : (0 ≤ n ∧ n ≤ (X.c.dims.length : Int) - 1) ∧ (0 ≤ s ∧ s ≤ 5) ∧ (0 ≤ q ∧ q ≤ s)) : rbR X n q s = (rkB X n q s, 0) := by
 rw [rbR, if_pos h, if_pos]
 simp only [in3_iff]; exact h2
theorem rb_i2 {X : Fl} {n q s : Int} (h : pgC X 0 n q = 0 ∧ in3 s q 5 = false) : rbR X n q s = (0, 2) := by
 obtain ⟨hF, hr, hn, hq⟩ := pgC_0 h.1
 refine rb_2 (isF_t.2 hF) fun k => ?_
 have := in3_iff.2 (show q ≤ s ∧ s ≤ 5 by omega)
 rw [h.2] at this; cases this
theorem rb_ic {X : Fl} {n q s : Int} (h : (pgC X 0 n q == 0 && !in3 s q 5) = false) (h0 : ¬ pgC X 0 n q = 0) : rbR X n q s = (0, pgC X 0 n q) := by
 by_cases h1 : isF X = true
 ·have e : pgC X 0 n q = 2 := by
   rw [pgC, if_pos h1] at h0 ⊢
   split
   ·rename_i h2; rw [if_pos h2] at h0; exact absurd rfl h0
   ·rfl
  rw [e]
  refine rb_2 h1 fun k => h0 ?_
  rw [pgC, if_pos h1, if_pos ⟨by decide, in3_iff.2 k.1, in3_iff.2 ⟨k.2.2.1, by omega⟩⟩]
 ·rw [rb_1 h1, pgC, if_neg h1]
theorem rb_i0 {X : Fl} {n q s : Int} (h : (pgC X 0 n q == 0 && !in3 s q 5) = false) (h0 : ¬ ¬ pgC X 0 n q = 0) : (IsF X ∧ (0 ≤ n ∧ n ≤ (X.c.dims.length : Int) - 1) ∧ (0 ≤ s ∧ s ≤ 5) ∧ (0 ≤ q ∧ q ≤ s)) ∧ rbR X n q s = (rkB X n q s, 0) := by
 have e : pgC X 0 n q = 0 := Decidable.not_not.1 h0
 obtain ⟨hF, hr, hn, hq⟩ := pgC_0 e
 have h3 : in3 s q 5 = true := by rw [e] at h; simpa using h
 have h4 := in3_iff.1 h3
 exact ⟨⟨hF, hn, ⟨by omega, by omega⟩, by omega, by omega⟩, rb_0 (isF_t.2 hF) ⟨hn, ⟨by omega, by omega⟩, by omega, by omega⟩⟩
theorem rb_ca {X : Fl} {n q s : Int} (h0 : ¬ cadd (pgC X 0 n q) 2 (!in3 s q 5) = 0) : rbR X n q s = (0, cadd (pgC X 0 n q) 2 (!in3 s q 5)) := by
 cases h : (pgC X 0 n q == 0 && !in3 s q 5)
 ·rw [caddF h] at h0 ⊢; exact rb_ic h h0
 ·rw [caddT h]
  rw [Bool.and_eq_true] at h
  exact rb_i2 ⟨by simpa using h.1, by simpa using h.2⟩
theorem rb_c0 {X : Fl} {n q s : Int} (h0 : cadd (pgC X 0 n q) 2 (!in3 s q 5) = 0) : (IsF X ∧ (0 ≤ n ∧ n ≤ (X.c.dims.length : Int) - 1) ∧ (0 ≤ s ∧ s ≤ 5) ∧ (0 ≤ q ∧ q ≤ s)) ∧ rbR X n q s = (rkB X n q s, 0) := by
 obtain ⟨h1, h2⟩ := (cadd_0 (by decide)).1 h0
 exact rb_i0 (by rw [h2, Bool.and_false]) (fun k => k h1)

set_option maxRecDepth 100000 in
set_option maxHeartbeats 4000000 in
theorem sRkB_ok (vX : Value) (X : Fl) (n : Int) (q : Int) (s : Int) (h : Heap) (rX : RF h vX X) (hF : IsF X) (hn : 0 ≤ n ∧ n ≤ (X.c.dims.length : Int) - 1) (hq : q ≤ 5 ∧ -10 ≤ q) (hs : 0 ≤ s ∧ s ≤ 5) : CallA Try.prog 97 #[vX, .int .i64 n, .int .i64 q, .int .i64 s] h fun v' h' => v' = .int .i64 (rkB X n q s) ∧ Ext h h' := by
 obtain ⟨vdX, vmX, vvX, rfl, hdX, hmX, hvX⟩ := rX
 have hledX := RdS.le hdX
 have hlemX := RdS.le hmX
 have hlevX := RdS.le hvX
 have hC := hF.c
 have hlC := hC.len
 have hml := hC.ml
 have hln := hF.ln
 have hP := hC.p
 have hpb := isP_bnd hC.p
 have hdb := dimP_bnd hC n
 have hdb1 := dimP_bnd hC (n + 1)
 have hkl := keptP_len hF (n + 1) s
 obtain ⟨lc, qc⟩ := cyc_rr hC n
 have hnl := near_len hC 6 n q
 have hbl := bds_len hF (n := n) (s := s) (by omega)
 have hrl := rkb_len hF (n := n) (s := s) (q := q) (by omega)
 have hpA := near_tbl hC 6 n q
 have hpB := bds_tb hF (n := n) (s := s) (by omega)
 refine callA_intro TTok (args := [_, _, _, _]) Try.func97 (by kernel_rfl) rfl 43 rfl (by simp) [.tmp 8] rfl ?_
 simp only [idxs, Nat.reduceAdd]
 refine den_seq ?_
 refine den_region TTok ?_
 intro K hK
 simp -implicitDefEqProofs (disch := first | decide | assumption | omega) only [go_sem, wrap_id]
 refine op_box (cs := #[.int .i64 (X.c.p), vdX, vmX, vvX]) rfl ?_
 intro h0_0 e0_0 hb0_0 z0_0
 have := Ext.size e0_0
 have eB := e0_0
 have hfhb0_0 : Fresh h.size [h.size] := Fresh.one _
 have hlhb0_0 := one_lt (show h.size < h0_0.size by omega)
 try simp -implicitDefEqProofs (disch := first | decide | assumption | omega) only [go_sem, wrap_id]
 refine hK _ _ ?_
 clear hK K
 refine den_seq ?_
 refine den_seq ?_
 refine den_region TTok ?_
 intro K hK
 simp -implicitDefEqProofs (disch := first | decide | assumption | omega) only [go_sem, wrap_id]
 refine hK _ _ ?_
 clear hK K
 refine den_cond rfl (fun c0 => ?_) (fun c0 => ?_)
 ·try simp only [decide_eq_true_eq, decide_eq_false_iff_not, beq_iff_eq, beq_eq_false_iff_ne, bne_iff_ne, ne_eq, Bool.not_eq_true', Bool.not_eq_false', Bool.and_eq_true, Bool.or_eq_true, bne_eq_false_iff_eq] at c0
  refine den_seq ?_
  refine den_region TTok ?_
  intro K hK
  simp -implicitDefEqProofs (disch := first | decide | assumption | omega) only [go_sem, wrap_id]
  refine hK _ _ ?_
  clear hK K
  refine den_ret ?_
  simp (disch := decide) only [resP_1, puts_same, puts_ne]
  exact ⟨vint (if_pos c0).symm, eB⟩
 ·try simp only [decide_eq_true_eq, decide_eq_false_iff_not, beq_iff_eq, beq_eq_false_iff_ne, bne_iff_ne, ne_eq, Bool.not_eq_true', Bool.not_eq_false', Bool.and_eq_true, Bool.or_eq_true, bne_eq_false_iff_eq] at c0
  refine den_skip ?_
  refine den_seq ?_
  refine den_region TTok ?_
  intro K hK
  simp -implicitDefEqProofs (disch := first | decide | assumption | omega) only [go_sem, fa31_0, fa33_0, ld2, RdS.len hdX sl22, RdS.idx hdX sl22, R1.intB hdX (Ext.pres eB), RdS.cells hdX, RdS.len hmX sl23, RdS.idx hmX sl23, RdS.cellB hmX (Ext.pres eB), RdS.cells hmX, RdS.len hvX sl26, RdS.idx hvX sl26, RdS.cellB hvX (Ext.pres eB), RdS.cells hvX, BoxAt.cell hb0_0, wrap_id]
  refine hK _ _ ?_
  clear hK K
  refine den_seq ?_
  have hmA := (Rr.tbl qc)
  have hmB := sp_tb hF (n := n) (q := q)
  have hspl : (spP X n q).length ≤ 8 := by have := keptP_len hF n q; rw [sp_len]; omega
  have hcyl : (cycP X.c n).length ≤ 8 := by have := qc.le_w; omega
  have hCx := hC
  refine den_draw TTok mixed [] [(0, true), (1, true), (2, true), (3, true), (5, true), (6, true), (7, true), (9, true), (10, true), (11, true), (4, false), (8, false), (12, false), (13, false), (14, true)] (by kernel_rfl) ?_
  intro K hK
  simp -implicitDefEqProofs (disch := first | decide | assumption | omega) only [go_sem, fa33_0, ld31, ld33, RdS.len hdX sl22, RdS.idx hdX sl22, R1.intB hdX (Ext.pres eB), RdS.cells hdX, RdS.len hmX sl23, RdS.idx hmX sl23, RdS.cellB hmX (Ext.pres eB), RdS.cells hmX, RdS.len hvX sl26, RdS.idx hvX sl26, RdS.cellB hvX (Ext.pres eB), RdS.cells hvX, BoxAt.cell hb0_0, wrap_id]
  try simp -implicitDefEqProofs (disch := first | decide | assumption | omega) only [go_sem, wrap_id]
  refine CallA.mono (sDim_ok _ X.c _ _ ⟨_, _, rfl, (RdS.pres hdX (Ext.pres eB)), (RdS.pres hmX (Ext.pres eB))⟩) ?_
  intro v_ h4_4
  rintro ⟨rfl, e4_4⟩
  replace hb0_0 := BoxAt.ext hb0_0 e4_4
  have := Ext.size e4_4
  replace eB := Ext.trans eB e4_4
  try simp (disch := decide) only [outv_some, outv_none, put_puts]
  refine plK_pres (Ext.pres e4_4) ?_
  try simp -implicitDefEqProofs (disch := first | decide | assumption | omega) only [go_sem, wrap_id]
  try simp -implicitDefEqProofs (disch := first | decide | assumption | omega) only [go_sem, wrap_id]
  refine CallA.mono (sCyc_ok _ X.c n _ ⟨_, _, rfl, (RdS.pres hdX (Ext.pres eB)), (RdS.pres hmX (Ext.pres eB))⟩ hCx (by omega)) ?_
  intro vw4_8_0 h4_8
  rintro ⟨zvw4_8_0, fw4_8_0, rfl, how4_8_0, hfw4_8_0, e4_8⟩
  replace hb0_0 := BoxAt.ext hb0_0 e4_8
  have := Ext.size e4_8
  replace eB := Ext.trans eB e4_8
  have hlhow4_8_0 := OS.lt how4_8_0
  try simp (disch := decide) only [outv_some, outv_none, put_puts]
  refine plK_pres (Ext.pres e4_8) ?_
  try simp -implicitDefEqProofs (disch := first | decide | assumption | omega) only [go_sem, wrap_id]
  try simp -implicitDefEqProofs (disch := first | decide | assumption | omega) only [go_sem, wrap_id]
  refine CallA.mono (sSpc_ok _ X n q _ ⟨_, _, _, rfl, (RdS.pres hdX (Ext.pres eB)), (RdS.pres hmX (Ext.pres eB)), (RdS.pres hvX (Ext.pres eB))⟩ hF (by omega) (by omega)) ?_
  intro vw4_12_0 h4_12
  rintro ⟨zvw4_12_0, fw4_12_0, rfl, how4_12_0, hfw4_12_0, e4_12⟩
  replace how4_8_0 := OS.ext how4_8_0 e4_12
  replace hb0_0 := BoxAt.ext hb0_0 e4_12
  have := Ext.size e4_12
  replace eB := Ext.trans eB e4_12
  have hlhow4_12_0 := OS.lt how4_12_0
  try simp (disch := decide) only [outv_some, outv_none, put_puts]
  refine plK_pres (Ext.pres e4_12) ?_
  try simp -implicitDefEqProofs (disch := first | decide | assumption | omega) only [go_sem, wrap_id]
  try simp -implicitDefEqProofs (disch := first | decide | assumption | omega) only [go_sem, wrap_id]
  refine CallA.mono (sMt_ok _ _ X.c.p (dimP X.c n) (cycP X.c n) (spP X n q) _ (OS.rd how4_8_0) (OS.rd how4_12_0) hP hmA hmB (by omega)) ?_
  intro vw4_13_0 h4_13
  rintro ⟨zvw4_13_0, fw4_13_0, rfl, how4_13_0, hfw4_13_0, e4_13⟩
  replace how4_8_0 := OS.ext how4_8_0 e4_13
  replace how4_12_0 := OS.ext how4_12_0 e4_13
  replace hb0_0 := BoxAt.ext hb0_0 e4_13
  have := Ext.size e4_13
  replace eB := Ext.trans eB e4_13
  have hlhow4_13_0 := OS.lt how4_13_0
  try simp (disch := decide) only [outv_some, outv_none, put_puts]
  refine plK_pres (Ext.pres e4_13) ?_
  try simp -implicitDefEqProofs (disch := first | decide | assumption | omega) only [go_sem, RdS.len (OS.rd how4_13_0) sl26, RdS.idx (OS.rd how4_13_0) sl26, RdS.cellN (OS.rd how4_13_0), RdS.cells (OS.rd how4_13_0), wrap_id]
  refine hK _ _ ?_
  clear hK K
  refine den_seq ?_
  rw [near_meet hF (by omega) (by omega)] at how4_13_0
  refine den_region TTok ?_
  intro K hK
  simp -implicitDefEqProofs (disch := first | decide | assumption | omega) only [go_sem, ld33, RdS.len hdX sl22, RdS.idx hdX sl22, R1.intB hdX (Ext.pres eB), RdS.cells hdX, RdS.len hmX sl23, RdS.idx hmX sl23, RdS.cellB hmX (Ext.pres eB), RdS.cells hmX, RdS.len hvX sl26, RdS.idx hvX sl26, RdS.cellB hvX (Ext.pres eB), RdS.cells hvX, BoxAt.cell hb0_0, wrap_id]
  try simp -implicitDefEqProofs (disch := first | decide | assumption | omega) only [go_sem, wrap_id]
  refine CallA.mono (sBds_ok _ X n s _ ⟨_, _, _, rfl, (RdS.pres hdX (Ext.pres eB)), (RdS.pres hmX (Ext.pres eB)), (RdS.pres hvX (Ext.pres eB))⟩ hF (by omega) (by omega)) ?_
  intro vw5_3_0 h5_3
  rintro ⟨zvw5_3_0, fw5_3_0, rfl, how5_3_0, hfw5_3_0, e5_3⟩
  replace how4_13_0 := OS.ext how4_13_0 e5_3
  replace hb0_0 := BoxAt.ext hb0_0 e5_3
  have := Ext.size e5_3
  replace eB := Ext.trans eB e5_3
  have hlhow5_3_0 := OS.lt how5_3_0
  try simp -implicitDefEqProofs (disch := first | decide | assumption | omega) only [go_sem, RdS.len (OS.rd how5_3_0) sl26, RdS.idx (OS.rd how5_3_0) sl26, RdS.cellN (OS.rd how5_3_0), RdS.cells (OS.rd how5_3_0), wrap_id]
  refine hK _ _ ?_
  clear hK K
  refine den_seq ?_
  refine den_region TTok ?_
  intro K hK
  simp -implicitDefEqProofs (disch := first | decide | assumption | omega) only [go_sem, RdS.len (OS.rd how4_13_0) sl26, RdS.idx (OS.rd how4_13_0) sl26, RdS.cellN (OS.rd how4_13_0), RdS.cells (OS.rd how4_13_0), RdS.len (OS.rd how5_3_0) sl26, RdS.idx (OS.rd how5_3_0) sl26, RdS.cellN (OS.rd how5_3_0), RdS.cells (OS.rd how5_3_0), wrap_id]
  try simp -implicitDefEqProofs (disch := first | decide | assumption | omega) only [go_sem, wrap_id]
  refine CallA.mono (sPls_ok _ _ X.c.p (nearP X 6 n q) (bdsP X n s) _ (OS.rd how4_13_0) (OS.rd how5_3_0) hP hpA hpB (by omega)) ?_
  intro vw6_3_0 h6_3
  rintro ⟨zvw6_3_0, fw6_3_0, rfl, how6_3_0, hfw6_3_0, e6_3⟩
  replace how4_13_0 := OS.ext how4_13_0 e6_3
  replace how5_3_0 := OS.ext how5_3_0 e6_3
  have := Ext.size e6_3
  replace eB := Ext.trans eB e6_3
  have hlhow6_3_0 := OS.lt how6_3_0
  try simp -implicitDefEqProofs (disch := first | decide | assumption | omega) only [go_sem, RdS.len (OS.rd how5_3_0) sl26, RdS.idx (OS.rd how5_3_0) sl26, RdS.cellN (OS.rd how5_3_0), RdS.cells (OS.rd how5_3_0), RdS.len (OS.rd how6_3_0) sl26, RdS.idx (OS.rd how6_3_0) sl26, RdS.cellN (OS.rd how6_3_0), RdS.cells (OS.rd how6_3_0), wrap_id]
  refine hK _ _ ?_
  clear hK K
  refine den_ret ?_
  simp (disch := decide) only [resP_1, puts_same, puts_ne]
  have hz : rkB X n q s = ((ech X.c.p (nearP X 6 n q ++ bdsP X n s)).length : Int) - ((bdsP X n s).length : Int) := by rw [rkB, if_neg c0]
  rw [hz]
  exact ⟨by first | rfl | trivial, eB⟩

set_option maxRecDepth 100000 in
set_option maxHeartbeats 4000000 in
theorem iRB_ok (vX : Value) (X : Fl) (n : Int) (q : Int) (s : Int) (h : Heap) (rX : RF h vX X)  : CallA Try.prog 36 #[vX, .int .i64 n, .int .i64 q, .int .i64 s] h fun v' h' => v' = .tuple #[.int .i64 ((rbR X n q s).1), .int .i64 ((rbR X n q s).2)] ∧ Ext h h' := by
 obtain ⟨vdX, vmX, vvX, rfl, hdX, hmX, hvX⟩ := rX
 have hledX := RdS.le hdX
 have hlemX := RdS.le hmX
 have hlevX := RdS.le hvX
 refine callA_intro TTok (args := [_, _, _, _]) Try.func36 (by kernel_rfl) rfl 31 rfl (by simp) [.tmp 8, .tmp 9] rfl ?_
 simp only [idxs, Nat.reduceAdd]
 refine den_seq ?_
 refine den_region TTok ?_
 intro K hK
 simp -implicitDefEqProofs (disch := first | decide | assumption | omega) only [go_sem, wrap_id]
 refine op_box (cs := #[.int .i64 (X.c.p), vdX, vmX, vvX]) rfl ?_
 intro h0_0 e0_0 hb0_0 z0_0
 have := Ext.size e0_0
 have eB := e0_0
 have hfhb0_0 : Fresh h.size [h.size] := Fresh.one _
 have hlhb0_0 := one_lt (show h.size < h0_0.size by omega)
 try simp -implicitDefEqProofs (disch := first | decide | assumption | omega) only [go_sem, wrap_id]
 refine hK _ _ ?_
 clear hK K
 refine den_seq ?_
 refine den_region TTok ?_
 intro K hK
 simp -implicitDefEqProofs (disch := first | decide | assumption | omega) only [go_sem, ld33, RdS.len hdX sl22, RdS.idx hdX sl22, R1.intB hdX (Ext.pres eB), RdS.cells hdX, RdS.len hmX sl23, RdS.idx hmX sl23, RdS.cellB hmX (Ext.pres eB), RdS.cells hmX, RdS.len hvX sl26, RdS.idx hvX sl26, RdS.cellB hvX (Ext.pres eB), RdS.cells hvX, BoxAt.cell hb0_0, wrap_id]
 try simp -implicitDefEqProofs (disch := first | decide | assumption | omega) only [go_sem, wrap_id]
 refine CallA.mono (iPg_ok _ X (0 : Int) n q _ ⟨_, _, _, rfl, (RdS.pres hdX (Ext.pres eB)), (RdS.pres hmX (Ext.pres eB)), (RdS.pres hvX (Ext.pres eB))⟩ ) ?_
 intro v_ h1_3
 rintro ⟨rfl, e1_3⟩
 replace hb0_0 := BoxAt.ext hb0_0 e1_3
 have := Ext.size e1_3
 replace eB := Ext.trans eB e1_3
 try simp -implicitDefEqProofs (disch := first | decide | assumption | omega) only [go_sem, wrap_id]
 refine hK _ _ ?_
 clear hK K
 refine den_seq ?_
 refine den_seq ?_
 refine den_mergeH [(22, .bool ((((pgC X (0 : Int) n q) == (0 : Int)) && (!((in3 s q (5 : Int)))))))] [1, 2, 3, 4, 10] ?_ ?_
  -- a way
 ·refine den_region TTok ?_
  intro K hK
  simp -implicitDefEqProofs (disch := first | decide | assumption | (simp (disch := decide) only [slotOf_zero, slotOf_succ, Option.map_some, puts_same, puts_ne, gv_bool, gv_undef, tt, tf, ft, ff, eq_self, if_true, if_false, Bool.false_eq_true, Bool.not_true, Bool.not_false]; done) | omega) only [go_sem, wrap_id]
  refine opsP_T (by simp (disch := decide) only [slotOf_zero, slotOf_succ, Option.map_some, puts_same, puts_ne, gv_bool, gv_undef, tt, tf, ft, ff, eq_self, if_true, if_false, Bool.false_eq_true, Bool.not_true, Bool.not_false]; rfl) (fun g1 => ?_) (fun g1 => ?_)
  ·try simp -implicitDefEqProofs (disch := first | decide | assumption | (simp (disch := decide) only [slotOf_zero, slotOf_succ, Option.map_some, puts_same, puts_ne, gv_bool, gv_undef, tt, tf, ft, ff, eq_self, if_true, if_false, Bool.false_eq_true, Bool.not_true, Bool.not_false, g1]; done) | omega) only [go_sem, wrap_id, g1, eq_self, if_true, if_false, Bool.false_eq_true]
   try simp -implicitDefEqProofs (disch := first | decide | assumption | omega) only [go_sem, wrap_id]
   refine CallA.pure (iIn_ok _ _ _ _) ?_
   try simp -implicitDefEqProofs (disch := first | decide | assumption | (simp (disch := decide) only [slotOf_zero, slotOf_succ, Option.map_some, puts_same, puts_ne, gv_bool, gv_undef, tt, tf, ft, ff, eq_self, if_true, if_false, Bool.false_eq_true, Bool.not_true, Bool.not_false, g1]; done) | omega) only [go_sem, wrap_id, g1, eq_self, if_true, if_false, Bool.false_eq_true]
   refine hK _ _ ?_
   clear hK K
   refine den_stop ?_
   refine ⟨?_, rfl⟩
   first | (simp (disch := decide) only [go_sem, g1, eq_self, Bool.true_and, Bool.and_true, Bool.false_and, Bool.and_false, Bool.true_or, Bool.or_true, Bool.false_or, Bool.or_false, if_true, if_false, Bool.false_eq_true]; done) | simp [HasL, sel, puts_at, g1]
  ·try simp -implicitDefEqProofs (disch := first | decide | assumption | (simp (disch := decide) only [slotOf_zero, slotOf_succ, Option.map_some, puts_same, puts_ne, gv_bool, gv_undef, tt, tf, ft, ff, eq_self, if_true, if_false, Bool.false_eq_true, Bool.not_true, Bool.not_false, g1]; done) | omega) only [go_sem, wrap_id, g1, eq_self, if_true, if_false, Bool.false_eq_true]
   refine hK _ _ ?_
   clear hK K
   refine den_stop ?_
   refine ⟨?_, rfl⟩
   first | (simp (disch := decide) only [go_sem, g1, eq_self, Bool.true_and, Bool.and_true, Bool.false_and, Bool.and_false, Bool.true_or, Bool.or_true, Bool.false_or, Bool.or_false, if_true, if_false, Bool.false_eq_true]; done) | simp [HasL, sel, puts_at, g1]
 intro en2
 simp (disch := decide) only [go_sem]
 refine den_mergeH [(10, .int .i64 ((cadd (pgC X (0 : Int) n q) (2 : Int) (!((in3 s q (5 : Int)))))))] [1, 2, 3, 4] ?_ ?_
 ·refine den_cond rfl (fun c0 => ?_) (fun c0 => ?_)
  ·refine den_region TTok ?_
   intro K hK
   simp -implicitDefEqProofs (disch := first | decide | assumption | omega) only [go_sem, wrap_id]
   refine hK _ _ ?_
   clear hK K
   refine den_stop ?_
   refine ⟨?_, rfl⟩; simp (disch := decide) only [go_sem, c0, caddT c0, eq_self, if_true, if_false, Bool.false_eq_true, reduceCtorEq]
  ·refine den_skip ?_
   refine den_stop ?_
   refine ⟨?_, rfl⟩; simp (disch := decide) only [go_sem, c0, caddF c0, eq_self, if_true, if_false, Bool.false_eq_true, reduceCtorEq]
 intro en5
 simp (disch := decide) only [go_sem]
 refine den_seq ?_
 refine den_seq ?_
 refine den_region TTok ?_
 intro K hK
 simp -implicitDefEqProofs (disch := first | decide | assumption | omega) only [go_sem, wrap_id]
 refine hK _ _ ?_
 clear hK K
 refine den_cond rfl (fun c1 => ?_) (fun c1 => ?_)
 ·try simp only [decide_eq_true_eq, decide_eq_false_iff_not, beq_iff_eq, beq_eq_false_iff_ne, bne_iff_ne, ne_eq, Bool.not_eq_true', Bool.not_eq_false', Bool.and_eq_true, Bool.or_eq_true, bne_eq_false_iff_eq, Bool.not_eq_true, Bool.not_eq_false] at c1
  refine den_seq ?_
  refine den_region TTok ?_
  intro K hK
  simp -implicitDefEqProofs (disch := first | decide | assumption | omega) only [go_sem, wrap_id]
  refine hK _ _ ?_
  clear hK K
  refine den_ret ?_
  simp (disch := decide) only [resP_2, puts_same, puts_ne]
  rw [rb_ca c1]
  exact ⟨by first | rfl | trivial, eB⟩
 ·try simp only [decide_eq_true_eq, decide_eq_false_iff_not, beq_iff_eq, beq_eq_false_iff_ne, bne_iff_ne, ne_eq, Bool.not_eq_true', Bool.not_eq_false', Bool.and_eq_true, Bool.or_eq_true, bne_eq_false_iff_eq, Bool.not_eq_true, Bool.not_eq_false] at c1
  obtain ⟨⟨hF, hn_, hs_, hq_⟩, hz⟩ := rb_c0 (show cadd (pgC X 0 n q) 2 (!in3 s q 5) = 0 by first | exact c1 | simpa using c1)
  refine den_skip ?_
  refine den_seq ?_
  refine den_region TTok ?_
  intro K hK
  simp -implicitDefEqProofs (disch := first | decide | assumption | omega) only [go_sem, ld33, RdS.len hdX sl22, RdS.idx hdX sl22, R1.intB hdX (Ext.pres eB), RdS.cells hdX, RdS.len hmX sl23, RdS.idx hmX sl23, RdS.cellB hmX (Ext.pres eB), RdS.cells hmX, RdS.len hvX sl26, RdS.idx hvX sl26, RdS.cellB hvX (Ext.pres eB), RdS.cells hvX, BoxAt.cell hb0_0, wrap_id]
  try simp -implicitDefEqProofs (disch := first | decide | assumption | omega) only [go_sem, wrap_id]
  refine CallA.mono (iRkB_ok _ X n q s _ ⟨_, _, _, rfl, (RdS.pres hdX (Ext.pres eB)), (RdS.pres hmX (Ext.pres eB)), (RdS.pres hvX (Ext.pres eB))⟩ hF (by omega) (by omega) (by omega)) ?_
  intro v_ h6_4
  rintro ⟨rfl, e6_4⟩
  replace hb0_0 := BoxAt.ext hb0_0 e6_4
  have := Ext.size e6_4
  replace eB := Ext.trans eB e6_4
  try simp -implicitDefEqProofs (disch := first | decide | assumption | omega) only [go_sem, wrap_id]
  refine hK _ _ ?_
  clear hK K
  refine den_ret ?_
  simp (disch := decide) only [resP_2, puts_same, puts_ne]
  rw [hz]
  exact ⟨by first | rfl | trivial, eB⟩

set_option maxRecDepth 100000 in
set_option maxHeartbeats 4000000 in
theorem sRB_ok (vX : Value) (X : Fl) (n : Int) (q : Int) (s : Int) (h : Heap) (rX : RF h vX X)  : CallA Try.prog 35 #[vX, .int .i64 n, .int .i64 q, .int .i64 s] h fun v' h' => v' = .tuple #[.int .i64 ((rbR X n q s).1), .int .i64 ((rbR X n q s).2)] ∧ Ext h h' := by
 obtain ⟨vdX, vmX, vvX, rfl, hdX, hmX, hvX⟩ := rX
 have hledX := RdS.le hdX
 have hlemX := RdS.le hmX
 have hlevX := RdS.le hvX
 refine callA_intro TTok (args := [_, _, _, _]) Try.func35 (by kernel_rfl) rfl 39 rfl (by simp) [.tmp 8, .tmp 9] rfl ?_
 simp only [idxs, Nat.reduceAdd]
 refine den_seq ?_
 refine den_region TTok ?_
 intro K hK
 simp -implicitDefEqProofs (disch := first | decide | assumption | omega) only [go_sem, wrap_id]
 refine op_box (cs := #[.int .i64 (X.c.p), vdX, vmX, vvX]) rfl ?_
 intro h0_0 e0_0 hb0_0 z0_0
 have := Ext.size e0_0
 have eB := e0_0
 have hfhb0_0 : Fresh h.size [h.size] := Fresh.one _
 have hlhb0_0 := one_lt (show h.size < h0_0.size by omega)
 try simp -implicitDefEqProofs (disch := first | decide | assumption | omega) only [go_sem, wrap_id]
 refine hK _ _ ?_
 clear hK K
 refine den_seq ?_
 refine den_block ?_
 refine den_seq ?_
 refine den_region TTok ?_
 intro K hK
 simp -implicitDefEqProofs (disch := first | decide | assumption | omega) only [go_sem, ld33, RdS.len hdX sl22, RdS.idx hdX sl22, R1.intB hdX (Ext.pres eB), RdS.cells hdX, RdS.len hmX sl23, RdS.idx hmX sl23, RdS.cellB hmX (Ext.pres eB), RdS.cells hmX, RdS.len hvX sl26, RdS.idx hvX sl26, RdS.cellB hvX (Ext.pres eB), RdS.cells hvX, BoxAt.cell hb0_0, wrap_id]
 try simp -implicitDefEqProofs (disch := first | decide | assumption | omega) only [go_sem, wrap_id]
 refine CallA.mono (sIsF_ok _ X _ ⟨_, _, _, rfl, (RdS.pres hdX (Ext.pres eB)), (RdS.pres hmX (Ext.pres eB)), (RdS.pres hvX (Ext.pres eB))⟩ ) ?_
 intro v_ h1_1
 rintro ⟨rfl, e1_1⟩
 replace hb0_0 := BoxAt.ext hb0_0 e1_1
 have := Ext.size e1_1
 replace eB := Ext.trans eB e1_1
 try simp -implicitDefEqProofs (disch := first | decide | assumption | omega) only [go_sem, wrap_id]
 refine hK _ _ ?_
 clear hK K
 refine den_cond rfl (fun c0 => ?_) (fun c0 => ?_)
 ·try simp only [decide_eq_true_eq, decide_eq_false_iff_not, beq_iff_eq, beq_eq_false_iff_ne, bne_iff_ne, ne_eq, Bool.not_eq_true', Bool.not_eq_false', Bool.and_eq_true, Bool.or_eq_true, bne_eq_false_iff_eq, Bool.or_eq_false_iff, Bool.and_eq_false_iff, in3_iff, in3_f] at c0
  refine den_seq ?_
  refine den_region TTok ?_
  intro K hK
  simp -implicitDefEqProofs (disch := first | decide | assumption | omega) only [go_sem, wrap_id]
  refine hK _ _ ?_
  clear hK K
  refine den_ret ?_
  simp (disch := decide) only [resP_2, puts_same, puts_ne]
  rw [rb_1 (by rw [c0]; decide)]
  exact ⟨by first | rfl | trivial, eB⟩
 ·try simp only [decide_eq_true_eq, decide_eq_false_iff_not, beq_iff_eq, beq_eq_false_iff_ne, bne_iff_ne, ne_eq, Bool.not_eq_true', Bool.not_eq_false', Bool.and_eq_true, Bool.or_eq_true, bne_eq_false_iff_eq, Bool.or_eq_false_iff, Bool.and_eq_false_iff, in3_iff, in3_f] at c0
  have hF := isF_t.1 c0
  refine den_seq ?_
  refine den_mergeH [(14, .bool ((((!((in3 n (0 : Int) (((X.c.dims).length : Int) - (1 : Int))))) || (!((in3 s (0 : Int) (5 : Int))))) || (!((in3 q (0 : Int) s))))))] [1, 2, 3, 4] ?_ ?_
   -- a way
  ·refine den_region TTok ?_
   intro K hK
   simp -implicitDefEqProofs (disch := first | decide | assumption | (simp (disch := decide) only [slotOf_zero, slotOf_succ, Option.map_some, puts_same, puts_ne, gv_bool, gv_undef, tt, tf, ft, ff, eq_self, if_true, if_false, Bool.false_eq_true, Bool.not_true, Bool.not_false]; done) | omega) only [go_sem, fa31_1, fa33_0, ld22, RdS.len hdX sl22, RdS.idx hdX sl22, R1.intB hdX (Ext.pres eB), RdS.cells hdX, RdS.len hmX sl23, RdS.idx hmX sl23, RdS.cellB hmX (Ext.pres eB), RdS.cells hmX, RdS.len hvX sl26, RdS.idx hvX sl26, RdS.cellB hvX (Ext.pres eB), RdS.cells hvX, BoxAt.cell hb0_0, wrap_id]
   try simp -implicitDefEqProofs (disch := first | decide | assumption | omega) only [go_sem, wrap_id]
   refine CallA.pure (sIn_ok _ _ _ _) ?_
   try simp -implicitDefEqProofs (disch := first | decide | assumption | (simp (disch := decide) only [slotOf_zero, slotOf_succ, Option.map_some, puts_same, puts_ne, gv_bool, gv_undef, tt, tf, ft, ff, eq_self, if_true, if_false, Bool.false_eq_true, Bool.not_true, Bool.not_false]; done) | omega) only [go_sem, wrap_id]
   refine opsP_F (by simp (disch := decide) only [slotOf_zero, slotOf_succ, Option.map_some, puts_same, puts_ne, gv_bool, gv_undef, tt, tf, ft, ff, eq_self, if_true, if_false, Bool.false_eq_true, Bool.not_true, Bool.not_false]; rfl) (fun g1 => ?_) (fun g1 => ?_)
   ·try simp -implicitDefEqProofs (disch := first | decide | assumption | (simp (disch := decide) only [slotOf_zero, slotOf_succ, Option.map_some, puts_same, puts_ne, gv_bool, gv_undef, tt, tf, ft, ff, eq_self, if_true, if_false, Bool.false_eq_true, Bool.not_true, Bool.not_false, g1]; done) | omega) only [go_sem, wrap_id, g1, eq_self, if_true, if_false, Bool.false_eq_true]
    try simp -implicitDefEqProofs (disch := first | decide | assumption | omega) only [go_sem, wrap_id]
    refine CallA.pure (sIn_ok _ _ _ _) ?_
    try simp -implicitDefEqProofs (disch := first | decide | assumption | (simp (disch := decide) only [slotOf_zero, slotOf_succ, Option.map_some, puts_same, puts_ne, gv_bool, gv_undef, tt, tf, ft, ff, eq_self, if_true, if_false, Bool.false_eq_true, Bool.not_true, Bool.not_false, g1]; done) | omega) only [go_sem, wrap_id, g1, eq_self, if_true, if_false, Bool.false_eq_true]
    refine opsP_F (by simp (disch := decide) only [slotOf_zero, slotOf_succ, Option.map_some, puts_same, puts_ne, gv_bool, gv_undef, tt, tf, ft, ff, eq_self, if_true, if_false, Bool.false_eq_true, Bool.not_true, Bool.not_false, g1]; rfl) (fun g2 => ?_) (fun g2 => ?_)
    ·try simp -implicitDefEqProofs (disch := first | decide | assumption | (simp (disch := decide) only [slotOf_zero, slotOf_succ, Option.map_some, puts_same, puts_ne, gv_bool, gv_undef, tt, tf, ft, ff, eq_self, if_true, if_false, Bool.false_eq_true, Bool.not_true, Bool.not_false, g1, g2]; done) | omega) only [go_sem, wrap_id, g1, g2, eq_self, if_true, if_false, Bool.false_eq_true]
     try simp -implicitDefEqProofs (disch := first | decide | assumption | omega) only [go_sem, wrap_id]
     refine CallA.pure (sIn_ok _ _ _ _) ?_
     try simp -implicitDefEqProofs (disch := first | decide | assumption | (simp (disch := decide) only [slotOf_zero, slotOf_succ, Option.map_some, puts_same, puts_ne, gv_bool, gv_undef, tt, tf, ft, ff, eq_self, if_true, if_false, Bool.false_eq_true, Bool.not_true, Bool.not_false, g1, g2]; done) | omega) only [go_sem, wrap_id, g1, g2, eq_self, if_true, if_false, Bool.false_eq_true]
     refine hK _ _ ?_
     clear hK K
     refine den_stop ?_
     refine ⟨?_, rfl⟩
     first | (simp (disch := decide) only [go_sem, g1, g2, eq_self, Bool.true_and, Bool.and_true, Bool.false_and, Bool.and_false, Bool.true_or, Bool.or_true, Bool.false_or, Bool.or_false, if_true, if_false, Bool.false_eq_true]; done) | simp [HasL, sel, puts_at, g1, g2]
    ·try simp -implicitDefEqProofs (disch := first | decide | assumption | (simp (disch := decide) only [slotOf_zero, slotOf_succ, Option.map_some, puts_same, puts_ne, gv_bool, gv_undef, tt, tf, ft, ff, eq_self, if_true, if_false, Bool.false_eq_true, Bool.not_true, Bool.not_false, g1, g2]; done) | omega) only [go_sem, wrap_id, g1, g2, eq_self, if_true, if_false, Bool.false_eq_true]
     refine hK _ _ ?_
     clear hK K
     refine den_stop ?_
     refine ⟨?_, rfl⟩
     first | (simp (disch := decide) only [go_sem, g1, g2, eq_self, Bool.true_and, Bool.and_true, Bool.false_and, Bool.and_false, Bool.true_or, Bool.or_true, Bool.false_or, Bool.or_false, if_true, if_false, Bool.false_eq_true]; done) | simp [HasL, sel, puts_at, g1, g2]
   ·try simp -implicitDefEqProofs (disch := first | decide | assumption | (simp (disch := decide) only [slotOf_zero, slotOf_succ, Option.map_some, puts_same, puts_ne, gv_bool, gv_undef, tt, tf, ft, ff, eq_self, if_true, if_false, Bool.false_eq_true, Bool.not_true, Bool.not_false, g1]; done) | omega) only [go_sem, wrap_id, g1, eq_self, if_true, if_false, Bool.false_eq_true]
    try simp -implicitDefEqProofs (disch := first | decide | assumption | (simp (disch := decide) only [slotOf_zero, slotOf_succ, Option.map_some, puts_same, puts_ne, gv_bool, gv_undef, tt, tf, ft, ff, eq_self, if_true, if_false, Bool.false_eq_true, Bool.not_true, Bool.not_false, g1]; done) | omega) only [go_sem, wrap_id, g1, eq_self, if_true, if_false, Bool.false_eq_true]
    refine hK _ _ ?_
    clear hK K
    refine den_stop ?_
    refine ⟨?_, rfl⟩
    first | (simp (disch := decide) only [go_sem, g1, eq_self, Bool.true_and, Bool.and_true, Bool.false_and, Bool.and_false, Bool.true_or, Bool.or_true, Bool.false_or, Bool.or_false, if_true, if_false, Bool.false_eq_true]; done) | simp [HasL, sel, puts_at, g1]
  intro en3
  simp (disch := decide) only [go_sem]
  refine den_cond rfl (fun c1 => ?_) (fun c1 => ?_)
  ·try simp only [decide_eq_true_eq, decide_eq_false_iff_not, beq_iff_eq, beq_eq_false_iff_ne, bne_iff_ne, ne_eq, Bool.not_eq_true', Bool.not_eq_false', Bool.and_eq_true, Bool.or_eq_true, bne_eq_false_iff_eq, Bool.or_eq_false_iff, Bool.and_eq_false_iff, in3_iff, in3_f] at c1
   refine den_seq ?_
   refine den_region TTok ?_
   intro K hK
   simp -implicitDefEqProofs (disch := first | decide | assumption | omega) only [go_sem, wrap_id]
   refine hK _ _ ?_
   clear hK K
   refine den_ret ?_
   simp (disch := decide) only [resP_2, puts_same, puts_ne]
   rw [rb_2 c0 (by omega)]
   exact ⟨by first | rfl | trivial, eB⟩
  ·try simp only [decide_eq_true_eq, decide_eq_false_iff_not, beq_iff_eq, beq_eq_false_iff_ne, bne_iff_ne, ne_eq, Bool.not_eq_true', Bool.not_eq_false', Bool.and_eq_true, Bool.or_eq_true, bne_eq_false_iff_eq, Bool.or_eq_false_iff, Bool.and_eq_false_iff, in3_iff, in3_f] at c1
   refine den_skip ?_
   refine den_blk ?_
   refine den_seq ?_
   refine den_region TTok ?_
   intro K hK
   simp -implicitDefEqProofs (disch := first | decide | assumption | omega) only [go_sem, ld33, RdS.len hdX sl22, RdS.idx hdX sl22, R1.intB hdX (Ext.pres eB), RdS.cells hdX, RdS.len hmX sl23, RdS.idx hmX sl23, RdS.cellB hmX (Ext.pres eB), RdS.cells hmX, RdS.len hvX sl26, RdS.idx hvX sl26, RdS.cellB hvX (Ext.pres eB), RdS.cells hvX, BoxAt.cell hb0_0, wrap_id]
   try simp -implicitDefEqProofs (disch := first | decide | assumption | omega) only [go_sem, wrap_id]
   refine CallA.mono (sRkB_ok _ X n q s _ ⟨_, _, _, rfl, (RdS.pres hdX (Ext.pres eB)), (RdS.pres hmX (Ext.pres eB)), (RdS.pres hvX (Ext.pres eB))⟩ hF (by omega) (by omega) (by omega)) ?_
   intro v_ h5_4
   rintro ⟨rfl, e5_4⟩
   replace hb0_0 := BoxAt.ext hb0_0 e5_4
   have := Ext.size e5_4
   replace eB := Ext.trans eB e5_4
   try simp -implicitDefEqProofs (disch := first | decide | assumption | omega) only [go_sem, wrap_id]
   refine hK _ _ ?_
   clear hK K
   refine den_ret ?_
   simp (disch := decide) only [resP_2, puts_same, puts_ne]
   rw [rb_0 c0 (by omega)]
   exact ⟨by first | rfl | trivial, eB⟩
end Go.Proofs.Ytjjjgllbocgkbaa

namespace Go.Proofs.Ytjjjgllbocgkbaa
open Go
set_option maxRecDepth 100000 in
set_option maxHeartbeats 4000000 in
theorem exactRankBetween_law (vX : Value) (X : Fl) (n : Int) (q : Int) (s : Int) (h : Heap) (rX : RF h vX X)  : CallA Try.prog 9 #[vX, .int .i64 n, .int .i64 q, .int .i64 s] h fun v' h' => v' = .bool (true) ∧ Ext h h' := by
 obtain ⟨vdX, vmX, vvX, rfl, hdX, hmX, hvX⟩ := rX
 have hledX := RdS.le hdX
 have hlemX := RdS.le hmX
 have hlevX := RdS.le hvX
 refine callA_intro TTok (args := [_, _, _, _]) Try.func9 (by kernel_rfl) rfl 52 rfl (by simp) [.tmp 8] rfl ?_
 simp only [idxs, Nat.reduceAdd]
 refine den_seq ?_
 refine den_region TTok ?_
 intro K hK
 simp -implicitDefEqProofs (disch := first | decide | assumption | omega) only [go_sem, wrap_id]
 refine op_box (cs := #[.int .i64 (X.c.p), vdX, vmX, vvX]) rfl ?_
 intro h0_0 e0_0 hb0_0 z0_0
 have := Ext.size e0_0
 have eB := e0_0
 have hfhb0_0 : Fresh h.size [h.size] := Fresh.one _
 have hlhb0_0 := one_lt (show h.size < h0_0.size by omega)
 try simp -implicitDefEqProofs (disch := first | decide | assumption | omega) only [go_sem, wrap_id]
 refine hK _ _ ?_
 clear hK K
 refine den_seq ?_
 refine den_region TTok ?_
 intro K hK
 simp -implicitDefEqProofs (disch := first | decide | assumption | omega) only [go_sem, wrap_id]
 refine hK _ _ ?_
 clear hK K
 refine den_seq ?_
 refine den_region TTok ?_
 intro K hK
 simp -implicitDefEqProofs (disch := first | decide | assumption | omega) only [go_sem, ld28, BoxAt.cell hb0_0, wrap_id]
 try simp -implicitDefEqProofs (disch := first | decide | assumption | omega) only [go_sem, wrap_id]
 refine CallA.mono (szF_ok _ X _ _ ⟨_, _, _, rfl, (RdS.pres hdX (Ext.pres eB)), (RdS.pres hmX (Ext.pres eB)), (RdS.pres hvX (Ext.pres eB))⟩ (by omega) (by omega)) ?_
 intro v_ h2_2
 rintro ⟨rfl, e2_2⟩
 replace hb0_0 := BoxAt.ext hb0_0 e2_2
 have := Ext.size e2_2
 replace eB := Ext.trans eB e2_2
 have := szF_le X (1048576 : Int) (by omega)
 try simp -implicitDefEqProofs (disch := first | decide | assumption | omega) only [go_sem, wrap_id]
 refine hK _ _ ?_
 clear hK K
 refine den_seq ?_
 refine den_seq ?_
 refine den_region TTok ?_
 intro K hK
 simp -implicitDefEqProofs (disch := first | decide | assumption | omega) only [go_sem, wrap_id]
 refine hK _ _ ?_
 clear hK K
 refine den_cond rfl (fun c0 => ?_) (fun c0 => ?_)
 ·try simp only [decide_eq_true_eq, decide_eq_false_iff_not, beq_iff_eq, beq_eq_false_iff_ne, bne_iff_ne, ne_eq, Bool.not_eq_true', Bool.not_eq_false', Bool.and_eq_true, Bool.or_eq_true, bne_eq_false_iff_eq] at c0
  refine den_seq ?_
  refine den_region TTok ?_
  intro K hK
  simp -implicitDefEqProofs (disch := first | decide | assumption | omega) only [go_sem, wrap_id]
  refine hK _ _ ?_
  clear hK K
  refine den_ret ?_
  simp (disch := decide) only [resP_1, puts_same, puts_ne]
  exact ⟨by first | rfl | trivial, eB⟩
 ·try simp only [decide_eq_true_eq, decide_eq_false_iff_not, beq_iff_eq, beq_eq_false_iff_ne, bne_iff_ne, ne_eq, Bool.not_eq_true', Bool.not_eq_false', Bool.and_eq_true, Bool.or_eq_true, bne_eq_false_iff_eq] at c0
  have hMX := szF_ok' (by omega) (by omega) c0
  have hcnX := szF_cntA (by omega) (by omega) c0
  refine den_skip ?_
  refine den_seq ?_
  refine den_region TTok ?_
  intro K hK
  simp -implicitDefEqProofs (disch := first | decide | assumption | omega) only [go_sem, ld28, BoxAt.cell hb0_0, wrap_id]
  try simp -implicitDefEqProofs (disch := first | decide | assumption | omega) only [go_sem, wrap_id]
  refine CallA.mono (toF_ok _ X _ ⟨_, _, _, rfl, (RdS.pres hdX (Ext.pres eB)), (RdS.pres hmX (Ext.pres eB)), (RdS.pres hvX (Ext.pres eB))⟩ hMX) ?_
  intro v_ h5_1
  rintro ⟨vd5_1, vm5_1, vv5_1, fd5_1, fm5_1, fv5_1, rfl, hod5_1, hom5_1, hov5_1, hf5_1, e5_1⟩
  replace hb0_0 := BoxAt.ext hb0_0 e5_1
  have := Ext.size e5_1
  replace eB := Ext.trans eB e5_1
  have hfd5_1 := hf5_1.left
  have hf5_1r0 := hf5_1.right
  have hfm5_1 := hf5_1r0.left
  have hfv5_1 := hf5_1r0.right
  have hlhod5_1 := OS.lt hod5_1
  have hlhom5_1 := OS.lt hom5_1
  have hlhov5_1 := OS.lt hov5_1
  have ap1 : Apart fd5_1 fm5_1 := Apart.lft (apart_nodup hf5_1)
  have ap2 : Apart fd5_1 fv5_1 := Apart.rgt (apart_nodup hf5_1)
  have ap3 : Apart fm5_1 fv5_1 := apart_nodup hf5_1r0
  try simp -implicitDefEqProofs (disch := first | decide | assumption | omega) only [go_sem, wrap_id]
  try simp -implicitDefEqProofs (disch := first | decide | assumption | omega) only [go_sem, wrap_id]
  refine CallA.mono (sRB_ok _ X n q s _ ⟨_, _, _, rfl, (OS.rd hod5_1), (OS.rd hom5_1), (OS.rd hov5_1)⟩ ) ?_
  intro v_ h5_5
  rintro ⟨rfl, e5_5⟩
  replace hod5_1 := OS.ext hod5_1 e5_5
  replace hom5_1 := OS.ext hom5_1 e5_5
  replace hov5_1 := OS.ext hov5_1 e5_5
  replace hb0_0 := BoxAt.ext hb0_0 e5_5
  have := Ext.size e5_5
  replace eB := Ext.trans eB e5_5
  try simp -implicitDefEqProofs (disch := first | decide | assumption | omega) only [go_sem, wrap_id]
  refine hK _ _ ?_
  clear hK K
  refine den_seq ?_
  refine den_region TTok ?_
  intro K hK
  simp -implicitDefEqProofs (disch := first | decide | assumption | omega) only [go_sem, ld28, BoxAt.cell hb0_0, wrap_id]
  try simp -implicitDefEqProofs (disch := first | decide | assumption | omega) only [go_sem, wrap_id]
  refine CallA.mono (toF_ok _ X _ ⟨_, _, _, rfl, (RdS.pres hdX (Ext.pres eB)), (RdS.pres hmX (Ext.pres eB)), (RdS.pres hvX (Ext.pres eB))⟩ hMX) ?_
  intro v_ h6_1
  rintro ⟨vd6_1, vm6_1, vv6_1, fd6_1, fm6_1, fv6_1, rfl, hod6_1, hom6_1, hov6_1, hf6_1, e6_1⟩
  replace hb0_0 := BoxAt.ext hb0_0 e6_1
  have := Ext.size e6_1
  replace eB := Ext.trans eB e6_1
  have hfd6_1 := hf6_1.left
  have hf6_1r0 := hf6_1.right
  have hfm6_1 := hf6_1r0.left
  have hfv6_1 := hf6_1r0.right
  have hlhod6_1 := OS.lt hod6_1
  have hlhom6_1 := OS.lt hom6_1
  have hlhov6_1 := OS.lt hov6_1
  have ap4 : Apart fd6_1 fm6_1 := Apart.lft (apart_nodup hf6_1)
  have ap5 : Apart fd6_1 fv6_1 := Apart.rgt (apart_nodup hf6_1)
  have ap6 : Apart fm6_1 fv6_1 := apart_nodup hf6_1r0
  try simp -implicitDefEqProofs (disch := first | decide | assumption | omega) only [go_sem, wrap_id]
  refine op_alloc (cs := #[.int .i64 0, .slice none 0 0, .slice none 0 0, .slice none 0 0]) (by kernel_rfl) ?_
  intro h6_2 e6_2 hb6_2 z6_2
  replace hod6_1 := OS.ext hod6_1 e6_2
  replace hom6_1 := OS.ext hom6_1 e6_2
  replace hov6_1 := OS.ext hov6_1 e6_2
  replace hb0_0 := BoxAt.ext hb0_0 e6_2
  have := Ext.size e6_2
  replace eB := Ext.trans eB e6_2
  have hfhb6_2 : Fresh h6_1.size [h6_1.size] := Fresh.one _
  have hlhb6_2 := one_lt (show h6_1.size < h6_2.size by omega)
  try simp -implicitDefEqProofs (disch := first | decide | assumption | omega) only [go_sem, wrap_id]
  refine op_storeB (cs' := #[.int .i64 (X.c.p), vd6_1, vm6_1, vv6_1]) st33 hb6_2 rfl rfl rfl (by simp) (allOne_mem (l := [.int .i64 (X.c.p), vd6_1, vm6_1, vv6_1]) ⟨rfl, (OS.one hod6_1).1, (OS.one hom6_1).1, (OS.one hov6_1).1, trivial⟩) rfl ?_
  intro h6_3 hb6_2 c6_3
  replace hod6_1 := OS.chg hod6_1 c6_3 (apart_lt hlhod6_1 hfhb6_2 (by omega))
  replace hom6_1 := OS.chg hom6_1 c6_3 (apart_lt hlhom6_1 hfhb6_2 (by omega))
  replace hov6_1 := OS.chg hov6_1 c6_3 (apart_lt hlhov6_1 hfhb6_2 (by omega))
  replace hb0_0 := BoxAt.chgA hb0_0 c6_3 (apart_lt hlhb0_0 hfhb6_2 (by omega))
  have := c6_3.size
  replace eB := Ext.then eB c6_3 (ge_of hfhb6_2 (by omega))
  try simp -implicitDefEqProofs (disch := first | decide | assumption | omega) only [go_sem, wrap_id]
  refine hK _ _ ?_
  clear hK K
  refine den_seq ?_
  refine den_region TTok ?_
  intro K hK
  simp -implicitDefEqProofs (disch := first | decide | assumption | omega) only [go_sem, ld33, BoxAt.cell hb6_2, wrap_id]
  try simp -implicitDefEqProofs (disch := first | decide | assumption | omega) only [go_sem, wrap_id]
  refine CallA.mono (iRB_ok _ X n q s _ ⟨_, _, _, rfl, (OS.rd hod6_1), (OS.rd hom6_1), (OS.rd hov6_1)⟩ ) ?_
  intro v_ h7_4
  rintro ⟨rfl, e7_4⟩
  replace hod6_1 := OS.ext hod6_1 e7_4
  replace hom6_1 := OS.ext hom6_1 e7_4
  replace hov6_1 := OS.ext hov6_1 e7_4
  replace hb0_0 := BoxAt.ext hb0_0 e7_4
  replace hb6_2 := BoxAt.ext hb6_2 e7_4
  have := Ext.size e7_4
  replace eB := Ext.trans eB e7_4
  try simp -implicitDefEqProofs (disch := first | decide | assumption | omega) only [go_sem, wrap_id]
  refine hK _ _ ?_
  clear hK K
  refine den_seq ?_
  refine den_seq ?_
  refine den_mergeH [(46, .bool (((((rbR X n q s).1) != ((rbR X n q s).1)) || (((rbR X n q s).2) != ((rbR X n q s).2)))))] [4, 12] ?_ ?_
   -- a way
  ·refine den_region TTok ?_
   intro K hK
   simp -implicitDefEqProofs (disch := first | decide | assumption | (simp (disch := decide) only [slotOf_zero, slotOf_succ, Option.map_some, puts_same, puts_ne, gv_bool, gv_undef, tt, tf, ft, ff, eq_self, if_true, if_false, Bool.false_eq_true, Bool.not_true, Bool.not_false]; done) | omega) only [go_sem, wrap_id]
   refine opsP_F (by simp (disch := decide) only [slotOf_zero, slotOf_succ, Option.map_some, puts_same, puts_ne, gv_bool, gv_undef, tt, tf, ft, ff, eq_self, if_true, if_false, Bool.false_eq_true, Bool.not_true, Bool.not_false]; rfl) (fun g7 => ?_) (fun g7 => ?_)
   ·try simp -implicitDefEqProofs (disch := first | decide | assumption | (simp (disch := decide) only [slotOf_zero, slotOf_succ, Option.map_some, puts_same, puts_ne, gv_bool, gv_undef, tt, tf, ft, ff, eq_self, if_true, if_false, Bool.false_eq_true, Bool.not_true, Bool.not_false, g7]; done) | omega) only [go_sem, wrap_id, g7, eq_self, if_true, if_false, Bool.false_eq_true]
    refine hK _ _ ?_
    clear hK K
    refine den_stop ?_
    refine ⟨?_, rfl⟩
    first | (simp (disch := decide) only [go_sem, g7, eq_self, Bool.true_and, Bool.and_true, Bool.false_and, Bool.and_false, Bool.true_or, Bool.or_true, Bool.false_or, Bool.or_false, if_true, if_false, Bool.false_eq_true]; done) | simp [HasL, sel, puts_at, g7]
   ·try simp -implicitDefEqProofs (disch := first | decide | assumption | (simp (disch := decide) only [slotOf_zero, slotOf_succ, Option.map_some, puts_same, puts_ne, gv_bool, gv_undef, tt, tf, ft, ff, eq_self, if_true, if_false, Bool.false_eq_true, Bool.not_true, Bool.not_false, g7]; done) | omega) only [go_sem, wrap_id, g7, eq_self, if_true, if_false, Bool.false_eq_true]
    refine hK _ _ ?_
    clear hK K
    refine den_stop ?_
    refine ⟨?_, rfl⟩
    first | (simp (disch := decide) only [go_sem, g7, eq_self, Bool.true_and, Bool.and_true, Bool.false_and, Bool.and_false, Bool.true_or, Bool.or_true, Bool.false_or, Bool.or_false, if_true, if_false, Bool.false_eq_true]; done) | simp [HasL, sel, puts_at, g7]
  intro en8
  simp (disch := decide) only [go_sem]
  refine den_cond rfl (fun c1 => ?_) (fun c1 => ?_)
  ·try simp only [decide_eq_true_eq, decide_eq_false_iff_not, beq_iff_eq, beq_eq_false_iff_ne, bne_iff_ne, ne_eq, Bool.not_eq_true', Bool.not_eq_false', Bool.and_eq_true, Bool.or_eq_true, bne_eq_false_iff_eq] at c1
   refine den_seq ?_
   refine den_region TTok ?_
   intro K hK
   simp -implicitDefEqProofs (disch := first | decide | assumption | omega) only [go_sem, wrap_id]
   refine hK _ _ ?_
   clear hK K
   refine den_ret ?_
   simp (disch := decide) only [resP_1, puts_same, puts_ne]
   exact absurd c1 (by first | (simp; done) | (simp; omega) | omega | (simp [eqC_self]; done))
  ·try simp only [decide_eq_true_eq, decide_eq_false_iff_not, beq_iff_eq, beq_eq_false_iff_ne, bne_iff_ne, ne_eq, Bool.not_eq_true', Bool.not_eq_false', Bool.and_eq_true, Bool.or_eq_true, bne_eq_false_iff_eq] at c1
   refine den_skip ?_
   refine den_seq ?_
   refine den_seq ?_
   refine den_draw TTok mixed [] [(0, true), (1, true), (2, false), (3, false), (4, true)] (by kernel_rfl) ?_
   intro K hK
   simp -implicitDefEqProofs (disch := first | decide | assumption | omega) only [go_sem, ld33, ld28, BoxAt.cell hb0_0, BoxAt.cell hb6_2, wrap_id]
   try simp -implicitDefEqProofs (disch := first | decide | assumption | omega) only [go_sem, wrap_id]
   refine CallA.mono (toF_ok _ X _ ⟨_, _, _, rfl, (RdS.pres hdX (Ext.pres eB)), (RdS.pres hmX (Ext.pres eB)), (RdS.pres hvX (Ext.pres eB))⟩ hMX) ?_
   intro v_ h10_2
   rintro ⟨vd10_2, vm10_2, vv10_2, fd10_2, fm10_2, fv10_2, rfl, hod10_2, hom10_2, hov10_2, hf10_2, e10_2⟩
   replace hod6_1 := OS.ext hod6_1 e10_2
   replace hom6_1 := OS.ext hom6_1 e10_2
   replace hov6_1 := OS.ext hov6_1 e10_2
   replace hb0_0 := BoxAt.ext hb0_0 e10_2
   replace hb6_2 := BoxAt.ext hb6_2 e10_2
   have := Ext.size e10_2
   replace eB := Ext.trans eB e10_2
   have hfd10_2 := hf10_2.left
   have hf10_2r0 := hf10_2.right
   have hfm10_2 := hf10_2r0.left
   have hfv10_2 := hf10_2r0.right
   have hlhod10_2 := OS.lt hod10_2
   have hlhom10_2 := OS.lt hom10_2
   have hlhov10_2 := OS.lt hov10_2
   have ap11 : Apart fd10_2 fm10_2 := Apart.lft (apart_nodup hf10_2)
   have ap12 : Apart fd10_2 fv10_2 := Apart.rgt (apart_nodup hf10_2)
   have ap13 : Apart fm10_2 fv10_2 := apart_nodup hf10_2r0
   try simp (disch := decide) only [outv_some, outv_none, put_puts]
   refine plK_pres (Ext.pres e10_2) ?_
   try simp -implicitDefEqProofs (disch := first | decide | assumption | omega) only [go_sem, wrap_id]
   try simp -implicitDefEqProofs (disch := first | decide | assumption | omega) only [go_sem, wrap_id]
   refine CallA.mono (eqF_same _ _ X _ ⟨_, _, _, rfl, (OS.rd hod6_1), (OS.rd hom6_1), (OS.rd hov6_1)⟩ ⟨_, _, _, rfl, (OS.rd hod10_2), (OS.rd hom10_2), (OS.rd hov10_2)⟩) ?_
   intro v_ h10_3
   rintro ⟨rfl, e10_3⟩
   replace hod6_1 := OS.ext hod6_1 e10_3
   replace hom6_1 := OS.ext hom6_1 e10_3
   replace hov6_1 := OS.ext hov6_1 e10_3
   replace hod10_2 := OS.ext hod10_2 e10_3
   replace hom10_2 := OS.ext hom10_2 e10_3
   replace hov10_2 := OS.ext hov10_2 e10_3
   replace hb0_0 := BoxAt.ext hb0_0 e10_3
   replace hb6_2 := BoxAt.ext hb6_2 e10_3
   have := Ext.size e10_3
   replace eB := Ext.trans eB e10_3
   try simp (disch := decide) only [outv_some, outv_none, put_puts]
   refine plK_pres (Ext.pres e10_3) ?_
   try simp -implicitDefEqProofs (disch := first | decide | assumption | omega) only [go_sem, wrap_id]
   refine hK _ _ ?_
   clear hK K
   refine den_cond rfl (fun c2 => ?_) (fun c2 => ?_)
   ·try simp only [decide_eq_true_eq, decide_eq_false_iff_not, beq_iff_eq, beq_eq_false_iff_ne, bne_iff_ne, ne_eq, Bool.not_eq_true', Bool.not_eq_false', Bool.and_eq_true, Bool.or_eq_true, bne_eq_false_iff_eq] at c2
    refine den_seq ?_
    refine den_region TTok ?_
    intro K hK
    simp -implicitDefEqProofs (disch := first | decide | assumption | omega) only [go_sem, wrap_id]
    refine hK _ _ ?_
    clear hK K
    refine den_ret ?_
    simp (disch := decide) only [resP_1, puts_same, puts_ne]
    exact absurd c2 (by first | (simp; done) | (simp; omega) | omega | (simp [eqC_self]; done))
   ·try simp only [decide_eq_true_eq, decide_eq_false_iff_not, beq_iff_eq, beq_eq_false_iff_ne, bne_iff_ne, ne_eq, Bool.not_eq_true', Bool.not_eq_false', Bool.and_eq_true, Bool.or_eq_true, bne_eq_false_iff_eq] at c2
    refine den_skip ?_
    refine den_seq ?_
    refine den_region TTok ?_
    intro K hK
    simp -implicitDefEqProofs (disch := first | decide | assumption | omega) only [go_sem, wrap_id]
    refine hK _ _ ?_
    clear hK K
    refine den_ret ?_
    simp (disch := decide) only [resP_1, puts_same, puts_ne]
    exact ⟨by first | rfl | trivial, eB⟩
end Go.Proofs.Ytjjjgllbocgkbaa
