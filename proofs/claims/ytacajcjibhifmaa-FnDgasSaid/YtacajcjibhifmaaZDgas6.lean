/-
  What the statement FnDgas uses of the walks, part 6.
  Conditions: each theorem's own.
-/
import Derived.OrdersHeld
import Derived.WalkKit
import Derived.KernelRfl
import Derived.Deep.LoopGhost
import Derived.Laws.BytesString
import Derived.Test.YtacajcjibhifmaaProg
import Derived.ProofKit
import Derived.OpenShut
import Derived.ShutString
import Derived.ChangeOld
import Derived.Below
import Derived.SizedLaws
import Derived.Lib.SmallJoins
import Derived.Test.YtacajcjibhifmaaZDgas1
import Derived.Test.YtacajcjibhifmaaZDgas2
import Derived.Test.YtacajcjibhifmaaZDgas3
import Derived.Test.YtacajcjibhifmaaZDgas4
import Derived.Test.YtacajcjibhifmaaZDgas5
set_option linter.unusedVariables false
set_option linter.unusedSimpArgs false
namespace Go.Proofs.Ytacajcjibhifmaa
open Go
set_option maxRecDepth 100000 in
set_option maxHeartbeats 4000000 in
theorem sDr_ok (v : Value) (z : Sc) (fp : List Nat) (h : Heap) (hS : OSr h v z fp) (hfr : Fresh z.h.size fp) : CallA Try.prog 46 #[v] h fun u h' => ∃ X : Dg, u = .agg (dgA X) ∧ DgB X ∧ OSr h' v z fp ∧ Chg fp h h' := by
 have hzs := OSr.sz hS
 refine callA_intro TTok (args := [_]) Try.func46 (by kernel_rfl) rfl 97 rfl (by simp) [.cell 2 34] rfl ?_
 simp only [idxs]
 have hlhS := OSr.lt hS
 have cA : Chg fp h h := Chg.refl _ _
 refine den_seq ?_
 refine den_region TTok ?_
 intro K hK
 simp -implicitDefEqProofs (disch := first | decide | assumption | omega) only [go_sem]
 refine op_alloc (cs := dgA dgZ) (by kernel_rfl) ?_
 intro h0_0 e0_0 hb0_0 z0_0
 replace hS := OSr.ext hS e0_0
 have := Ext.size e0_0
 replace cA := Chg.stepE cA e0_0
 have hfhb0_0 : Fresh h.size [h.size] := Fresh.one _
 have hlhb0_0 := one_lt (show h.size < h0_0.size by omega)
 try simp -implicitDefEqProofs (disch := first | decide | assumption | omega) only [go_sem]
 refine hK _ _ ?_
 clear hK K
 refine den_seq ?_
 refine den_region TTok ?_
 intro K hK
 simp -implicitDefEqProofs (disch := first | decide | assumption | omega) only [go_sem, sV_p, sV_c, sV_t, sV_d]
 refine op_bsT6 (a0 := ([112, 111, 105, 110, 116])) (a1 := ([99, 105, 114, 99, 108, 101])) (a2 := ([116, 111, 114, 117, 115])) (a3 := ([100, 105, 115, 99])) (a4 := ([99, 105, 114, 99, 108, 101])) (a5 := ([100, 105, 115, 99])) rfl rfl rfl rfl rfl rfl ?_
 intro v1_0 h1_0 ho1_0 e1_0
 replace hS := OSr.ext hS e1_0
 replace hb0_0 := BoxAt.ext hb0_0 e1_0
 have := Ext.size e1_0
 replace cA := Chg.stepE cA e1_0
 have hlenho1_0 : ([([112, 111, 105, 110, 116]), ([99, 105, 114, 99, 108, 101]), ([116, 111, 114, 117, 115]), ([100, 105, 115, 99]), ([99, 105, 114, 99, 108, 101]), ([100, 105, 115, 99])] : List (List UInt8)).length = 6 := rfl
 have hfho1_0 : Fresh h0_0.size [h0_0.size] := Fresh.one _
 have hlho1_0 := OS.lt ho1_0
 try simp -implicitDefEqProofs (disch := first | decide | assumption | omega) only [go_sem]
 refine hK _ _ ?_
 clear hK K
 refine den_seq ?_
 refine den_region TTok ?_
 intro K hK
 simp -implicitDefEqProofs (disch := first | decide | assumption | omega) only [go_sem]
 refine op_bsI4 (a0 := (2 : Int)) (a1 := (3 : Int)) (a2 := (5 : Int)) (a3 := (7 : Int)) rfl rfl rfl rfl ?_
 intro v2_1 h2_1 ho2_1 e2_1
 replace hS := OSr.ext hS e2_1
 replace ho1_0 := OS.ext ho1_0 e2_1
 replace hb0_0 := BoxAt.ext hb0_0 e2_1
 have := Ext.size e2_1
 replace cA := Chg.stepE cA e2_1
 have hlenho2_1 : ([(2 : Int), (3 : Int), (5 : Int), (7 : Int)] : List Int).length = 4 := rfl
 have hfho2_1 : Fresh h1_0.size [h1_0.size] := Fresh.one _
 have hlho2_1 := OS.lt ho2_1
 try simp -implicitDefEqProofs (disch := first | decide | assumption | omega) only [go_sem]
 refine CallA.mono (sPick_ok _ _ ([(2 : Int), (3 : Int), (5 : Int), (7 : Int)]) _ _ _ _ hS (hfr.mono (by omega)) ho2_1 (apart_gt hfho2_1 hlhS (by omega)) (by simp) (by simp)) ?_
 intro v_ h2_2
 rintro ⟨x2_2, rfl, hx2_2, ho2_2, c2_2⟩
 simp only [List.mem_cons, List.not_mem_nil, or_false] at hx2_2
 have hsz2_2 := c2_2.size
 replace ho1_0 := OS.chg ho1_0 c2_2 (apart_gt hfho1_0 hlhS (by omega))
 replace ho2_1 := OS.chg ho2_1 c2_2 (apart_gt hfho2_1 hlhS (by omega))
 replace hb0_0 := BoxAt.chgA hb0_0 c2_2 (apart_gt hfhb0_0 hlhS (by omega))
 have := c2_2.size
 replace cA := Chg.step cA c2_2 Sub.refl
 have ap1 : Apart [h0_0.size] fp := (apart_gt hfho1_0 hlhS (by omega))
 have ap2 : Apart [h1_0.size] fp := (apart_gt hfho2_1 hlhS (by omega))
 have ap3 : Apart [h.size] fp := (apart_gt hfhb0_0 hlhS (by omega))
 have hlho2_2 := hlhS
 refine hK _ _ ?_
 clear hK K
 refine den_seq ?_
 refine den_region TTok ?_
 intro K hK
 simp -implicitDefEqProofs (disch := first | decide | assumption | omega) only [go_sem]
 refine CallA.mono (sNext_ok _ _ (6 : Int) _ _ ho2_2) ?_
 intro v_ h3_2
 rintro ⟨x3_2, rfl, hx3_2, ho3_2, c3_2⟩
 replace hx3_2 := hx3_2 (by first | omega | (simp; done))
 have hsz3_2 := c3_2.size
 replace ho1_0 := OS.chg ho1_0 c3_2 ap1
 replace hb0_0 := BoxAt.chgA hb0_0 c3_2 ap3
 have := c3_2.size
 replace cA := Chg.step cA c3_2 Sub.refl
 have ap4 : Apart [h0_0.size] fp := ap1
 have ap5 : Apart [h.size] fp := ap3
 have hlho3_2 := hlho2_2
 try simp -implicitDefEqProofs (disch := first | decide | assumption | omega) only [go_sem, ld9, RdS.idx (OS.rd ho1_0) sl89, RT.strN (OS.rd ho1_0)]
 refine CallA.mono (sNam_ok  (([([112, 111, 105, 110, 116]), ([99, 105, 114, 99, 108, 101]), ([116, 111, 114, 117, 115]), ([100, 105, 115, 99]), ([99, 105, 114, 99, 108, 101]), ([100, 105, 115, 99])]).getD (x3_2).toNat []) x2_2 _  (by omega)) ?_
 intro v_ h3_6
 rintro ⟨rfl, e3_6⟩
 replace ho1_0 := OS.ext ho1_0 e3_6
 replace ho3_2 := OSr.ext ho3_2 e3_6
 replace hb0_0 := BoxAt.ext hb0_0 e3_6
 have := Ext.size e3_6
 replace cA := Chg.stepE cA e3_6
 try simp -implicitDefEqProofs (disch := first | decide | assumption | omega) only [go_sem]
 refine op_alloc (cs := dgA dgZ) (by kernel_rfl) ?_
 intro h3_10 e3_10 hb3_10 z3_10
 replace ho1_0 := OS.ext ho1_0 e3_10
 replace ho3_2 := OSr.ext ho3_2 e3_10
 replace hb0_0 := BoxAt.ext hb0_0 e3_10
 have := Ext.size e3_10
 replace cA := Chg.stepE cA e3_10
 have hfhb3_10 : Fresh h3_6.size [h3_6.size] := Fresh.one _
 have hlhb3_10 := one_lt (show h3_6.size < h3_10.size by omega)
 try simp -implicitDefEqProofs (disch := first | decide | assumption | omega) only [go_sem]
 generalize hDA3_11 : dgA (nmL (([([112, 111, 105, 110, 116]), ([99, 105, 114, 99, 108, 101]), ([116, 111, 114, 117, 115]), ([100, 105, 115, 99]), ([99, 105, 114, 99, 108, 101]), ([100, 105, 115, 99])]).getD (x3_2).toNat []) x2_2) = DA3_11
 refine op_storeB (o := 0) (vs := DA3_11) (cs' := DA3_11) st34 hb3_10 rfl rfl (by rw [← hDA3_11]; exact dgA_sz _) (by rw [dgA_sz]; decide) (by rw [← hDA3_11]; exact dgA_one) (by rw [← hDA3_11]; exact dgA_all) ?_
 intro h3_11 hb3_10 c3_11
 subst hDA3_11
 replace ho1_0 := OS.chg ho1_0 c3_11 (apart_lt hlho1_0 hfhb3_10 (by omega))
 replace ho3_2 := OSr.chg ho3_2 c3_11 (apart_lt hlho3_2 hfhb3_10 (by omega)) (ge_of hfhb3_10 (by omega))
 replace hb0_0 := BoxAt.chgA hb0_0 c3_11 (apart_lt hlhb0_0 hfhb3_10 (by omega))
 have := c3_11.size
 replace cA := Chg.step cA c3_11 (Sub.fresh hfhb3_10 (by omega))
 try simp -implicitDefEqProofs (disch := first | decide | assumption | omega) only [go_sem]
 refine hK _ _ ?_
 clear hK K
 refine den_seq ?_
 refine den_region TTok ?_
 intro K hK
 simp -implicitDefEqProofs (disch := first | decide | assumption | omega) only [go_sem, sV_p, sV_c, sV_d]
 refine op_bsT4 (a0 := ([112, 111, 105, 110, 116])) (a1 := ([99, 105, 114, 99, 108, 101])) (a2 := ([99, 105, 114, 99, 108, 101])) (a3 := ([100, 105, 115, 99])) rfl rfl rfl rfl ?_
 intro v4_0 h4_0 ho4_0 e4_0
 replace ho3_2 := OSr.ext ho3_2 e4_0
 replace hb0_0 := BoxAt.ext hb0_0 e4_0
 replace hb3_10 := BoxAt.ext hb3_10 e4_0
 have := Ext.size e4_0
 replace cA := Chg.stepE cA e4_0
 have hlenho4_0 : ([([112, 111, 105, 110, 116]), ([99, 105, 114, 99, 108, 101]), ([99, 105, 114, 99, 108, 101]), ([100, 105, 115, 99])] : List (List UInt8)).length = 4 := rfl
 have hfho4_0 : Fresh h3_11.size [h3_11.size] := Fresh.one _
 have hlho4_0 := OS.lt ho4_0
 try simp -implicitDefEqProofs (disch := first | decide | assumption | omega) only [go_sem]
 refine CallA.mono (sNext_ok _ _ (4 : Int) _ _ ho3_2) ?_
 intro v_ h4_2
 rintro ⟨x4_2, rfl, hx4_2, ho4_2, c4_2⟩
 replace hx4_2 := hx4_2 (by first | omega | (simp; done))
 have hsz4_2 := c4_2.size
 replace ho4_0 := OS.chg ho4_0 c4_2 (apart_gt hfho4_0 hlho3_2 (by omega))
 replace hb0_0 := BoxAt.chgA hb0_0 c4_2 ap5
 replace hb3_10 := BoxAt.chgA hb3_10 c4_2 (apart_gt hfhb3_10 hlho3_2 (by omega))
 have := c4_2.size
 replace cA := Chg.step cA c4_2 Sub.refl
 have ap6 : Apart [h3_11.size] fp := (apart_gt hfho4_0 hlho3_2 (by omega))
 have ap7 : Apart [h.size] fp := ap5
 have ap8 : Apart [h3_6.size] fp := (apart_gt hfhb3_10 hlho3_2 (by omega))
 have hlho4_2 := hlho3_2
 try simp -implicitDefEqProofs (disch := first | decide | assumption | omega) only [go_sem, ld9, RdS.idx (OS.rd ho4_0) sl89, RT.strN (OS.rd ho4_0)]
 refine CallA.mono (sNam_ok  (([([112, 111, 105, 110, 116]), ([99, 105, 114, 99, 108, 101]), ([99, 105, 114, 99, 108, 101]), ([100, 105, 115, 99])]).getD (x4_2).toNat []) x2_2 _  (by omega)) ?_
 intro v_ h4_6
 rintro ⟨rfl, e4_6⟩
 replace ho4_0 := OS.ext ho4_0 e4_6
 replace ho4_2 := OSr.ext ho4_2 e4_6
 replace hb0_0 := BoxAt.ext hb0_0 e4_6
 replace hb3_10 := BoxAt.ext hb3_10 e4_6
 have := Ext.size e4_6
 replace cA := Chg.stepE cA e4_6
 try simp -implicitDefEqProofs (disch := first | decide | assumption | omega) only [go_sem]
 refine op_alloc (cs := dgA dgZ) (by kernel_rfl) ?_
 intro h4_10 e4_10 hb4_10 z4_10
 replace ho4_0 := OS.ext ho4_0 e4_10
 replace ho4_2 := OSr.ext ho4_2 e4_10
 replace hb0_0 := BoxAt.ext hb0_0 e4_10
 replace hb3_10 := BoxAt.ext hb3_10 e4_10
 have := Ext.size e4_10
 replace cA := Chg.stepE cA e4_10
 have hfhb4_10 : Fresh h4_6.size [h4_6.size] := Fresh.one _
 have hlhb4_10 := one_lt (show h4_6.size < h4_10.size by omega)
 try simp -implicitDefEqProofs (disch := first | decide | assumption | omega) only [go_sem]
 generalize hDA4_11 : dgA (nmL (([([112, 111, 105, 110, 116]), ([99, 105, 114, 99, 108, 101]), ([99, 105, 114, 99, 108, 101]), ([100, 105, 115, 99])]).getD (x4_2).toNat []) x2_2) = DA4_11
 refine op_storeB (o := 0) (vs := DA4_11) (cs' := DA4_11) st34 hb4_10 rfl rfl (by rw [← hDA4_11]; exact dgA_sz _) (by rw [dgA_sz]; decide) (by rw [← hDA4_11]; exact dgA_one) (by rw [← hDA4_11]; exact dgA_all) ?_
 intro h4_11 hb4_10 c4_11
 subst hDA4_11
 replace ho4_0 := OS.chg ho4_0 c4_11 (apart_lt hlho4_0 hfhb4_10 (by omega))
 replace ho4_2 := OSr.chg ho4_2 c4_11 (apart_lt hlho4_2 hfhb4_10 (by omega)) (ge_of hfhb4_10 (by omega))
 replace hb0_0 := BoxAt.chgA hb0_0 c4_11 (apart_lt hlhb0_0 hfhb4_10 (by omega))
 replace hb3_10 := BoxAt.chgA hb3_10 c4_11 (apart_lt hlhb3_10 hfhb4_10 (by omega))
 have := c4_11.size
 replace cA := Chg.step cA c4_11 (Sub.fresh hfhb4_10 (by omega))
 try simp -implicitDefEqProofs (disch := first | decide | assumption | omega) only [go_sem]
 refine hK _ _ ?_
 clear hK K
 refine den_seq ?_
 refine den_seq ?_
 refine den_region TTok ?_
 intro K hK
 simp -implicitDefEqProofs (disch := first | decide | assumption | omega) only [go_sem, BoxAt.dgL hb3_10, BoxAt.dgL hb4_10]
 refine CallA.mono (sTn_ok (nmL (([([112, 111, 105, 110, 116]), ([99, 105, 114, 99, 108, 101]), ([116, 111, 114, 117, 115]), ([100, 105, 115, 99]), ([99, 105, 114, 99, 108, 101]), ([100, 105, 115, 99])]).getD (x3_2).toNat []) x2_2) (nmL (([([112, 111, 105, 110, 116]), ([99, 105, 114, 99, 108, 101]), ([99, 105, 114, 99, 108, 101]), ([100, 105, 115, 99])]).getD (x4_2).toNat []) x2_2) _ (nmL_db _ (by omega)) (nmL_db _ (by omega))) ?_
 intro v_ h5_2
 rintro ⟨rfl, e5_2⟩
 replace ho4_2 := OSr.ext ho4_2 e5_2
 replace hb0_0 := BoxAt.ext hb0_0 e5_2
 replace hb3_10 := BoxAt.ext hb3_10 e5_2
 replace hb4_10 := BoxAt.ext hb4_10 e5_2
 have := Ext.size e5_2
 replace cA := Chg.stepE cA e5_2
 try simp -implicitDefEqProofs (disch := first | decide | assumption | omega) only [go_sem]
 refine op_alloc (cs := dgA dgZ) (by kernel_rfl) ?_
 intro h5_6 e5_6 hb5_6 z5_6
 replace ho4_2 := OSr.ext ho4_2 e5_6
 replace hb0_0 := BoxAt.ext hb0_0 e5_6
 replace hb3_10 := BoxAt.ext hb3_10 e5_6
 replace hb4_10 := BoxAt.ext hb4_10 e5_6
 have := Ext.size e5_6
 replace cA := Chg.stepE cA e5_6
 have hfhb5_6 : Fresh h5_2.size [h5_2.size] := Fresh.one _
 have hlhb5_6 := one_lt (show h5_2.size < h5_6.size by omega)
 try simp -implicitDefEqProofs (disch := first | decide | assumption | omega) only [go_sem]
 generalize hDA5_7 : dgA ((tnP (nmL (([([112, 111, 105, 110, 116]), ([99, 105, 114, 99, 108, 101]), ([116, 111, 114, 117, 115]), ([100, 105, 115, 99]), ([99, 105, 114, 99, 108, 101]), ([100, 105, 115, 99])]).getD (x3_2).toNat []) x2_2) (nmL (([([112, 111, 105, 110, 116]), ([99, 105, 114, 99, 108, 101]), ([99, 105, 114, 99, 108, 101]), ([100, 105, 115, 99])]).getD (x4_2).toNat []) x2_2)).1) = DA5_7
 refine op_storeB (o := 0) (vs := DA5_7) (cs' := DA5_7) st34 hb5_6 rfl rfl (by rw [← hDA5_7]; exact dgA_sz _) (by rw [dgA_sz]; decide) (by rw [← hDA5_7]; exact dgA_one) (by rw [← hDA5_7]; exact dgA_all) ?_
 intro h5_7 hb5_6 c5_7
 subst hDA5_7
 replace ho4_2 := OSr.chg ho4_2 c5_7 (apart_lt hlho4_2 hfhb5_6 (by omega)) (ge_of hfhb5_6 (by omega))
 replace hb0_0 := BoxAt.chgA hb0_0 c5_7 (apart_lt hlhb0_0 hfhb5_6 (by omega))
 replace hb3_10 := BoxAt.chgA hb3_10 c5_7 (apart_lt hlhb3_10 hfhb5_6 (by omega))
 replace hb4_10 := BoxAt.chgA hb4_10 c5_7 (apart_lt hlhb4_10 hfhb5_6 (by omega))
 have := c5_7.size
 replace cA := Chg.step cA c5_7 (Sub.fresh hfhb5_6 (by omega))
 try simp -implicitDefEqProofs (disch := first | decide | assumption | omega) only [go_sem]
 refine hK _ _ ?_
 clear hK K
 refine den_seq ?_
 refine den_region TTok ?_
 intro K hK
 simp -implicitDefEqProofs (disch := first | decide | assumption | (simp (disch := decide) only [gvA, eq_self, if_true, if_false, Bool.false_eq_true]; done) | omega) only [go_sem]
 refine opsP_T (by simp (disch := decide) only [slotOf_zero, slotOf_succ, Option.map_some, puts_same]; rfl) (fun g9 => ?_) (fun g9 => ?_)
 ·try simp -implicitDefEqProofs (disch := first | decide | assumption | (simp (disch := decide) only [gvA, eq_self, if_true, if_false, Bool.false_eq_true, g9]; done) | omega) only [go_sem, g9, eq_self, if_true]
  refine CallA.mono (sNext_ok _ _ (3 : Int) _ _ ho4_2) ?_
  intro v_ h6_4
  rintro ⟨x6_4, rfl, hx6_4, ho6_4, c6_4⟩
  replace hx6_4 := hx6_4 (by first | omega | (simp; done))
  have hsz6_4 := c6_4.size
  replace hb0_0 := BoxAt.chgA hb0_0 c6_4 ap7
  replace hb3_10 := BoxAt.chgA hb3_10 c6_4 ap8
  replace hb5_6 := BoxAt.chgA hb5_6 c6_4 (apart_gt hfhb5_6 hlho4_2 (by omega))
  have := c6_4.size
  replace cA := Chg.step cA c6_4 Sub.refl
  have ap10 : Apart [h.size] fp := ap7
  have ap11 : Apart [h3_6.size] fp := ap8
  have ap12 : Apart [h5_2.size] fp := (apart_gt hfhb5_6 hlho4_2 (by omega))
  have hlho6_4 := hlho4_2
  try simp -implicitDefEqProofs (disch := first | decide | assumption | (simp (disch := decide) only [gvA, eq_self, if_true, if_false, Bool.false_eq_true, g9]; done) | omega) only [go_sem]
  refine hK _ _ ?_
  clear hK K
  refine den_cond rfl (fun c0 => ?_) (fun c0 => ?_)
  ·try simp only [decide_eq_true_eq] at c0
   refine den_region TTok ?_
   intro K hK
   simp -implicitDefEqProofs (disch := first | decide | assumption | omega) only [go_sem, BoxAt.dgL hb5_6]
   generalize hDA7_1 : dgA ((tnP (nmL (([([112, 111, 105, 110, 116]), ([99, 105, 114, 99, 108, 101]), ([116, 111, 114, 117, 115]), ([100, 105, 115, 99]), ([99, 105, 114, 99, 108, 101]), ([100, 105, 115, 99])]).getD (x3_2).toNat []) x2_2) (nmL (([([112, 111, 105, 110, 116]), ([99, 105, 114, 99, 108, 101]), ([99, 105, 114, 99, 108, 101]), ([100, 105, 115, 99])]).getD (x4_2).toNat []) x2_2)).1) = DA7_1
   refine op_storeB (o := 0) (vs := DA7_1) (cs' := DA7_1) st34 hb3_10 rfl rfl (by rw [← hDA7_1]; exact dgA_sz _) (by rw [dgA_sz]; decide) (by rw [← hDA7_1]; exact dgA_one) (by rw [← hDA7_1]; exact dgA_all) ?_
   intro h7_1 hb3_10 c7_1
   subst hDA7_1
   replace ho6_4 := OSr.chg ho6_4 c7_1 (Apart.symm ap11) (ge_of hfhb3_10 (by omega))
   replace hb0_0 := BoxAt.chgA hb0_0 c7_1 (apart_lt hlhb0_0 hfhb3_10 (by omega))
   replace hb5_6 := BoxAt.chgA hb5_6 c7_1 (apart_gt hfhb5_6 hlhb3_10 (by omega))
   have := c7_1.size
   replace cA := Chg.step cA c7_1 (Sub.fresh hfhb3_10 (by omega))
   try simp -implicitDefEqProofs (disch := first | decide | assumption | omega) only [go_sem]
   refine hK _ _ ?_
   clear hK K
   refine den_seq ?_
   refine den_seq ?_
   refine den_region TTok ?_
   intro K hK
   simp -implicitDefEqProofs (disch := first | decide | assumption | omega) only [go_sem]
   refine CallA.mono (sNext_ok _ _ (40 : Int) _ _ ho6_4) ?_
   intro v_ h8_1
   rintro ⟨x8_1, rfl, hx8_1, ho8_1, c8_1⟩
   replace hx8_1 := hx8_1 (by first | omega | (simp; done))
   have hsz8_1 := c8_1.size
   replace hb0_0 := BoxAt.chgA hb0_0 c8_1 ap10
   replace hb3_10 := BoxAt.chgA hb3_10 c8_1 ap11
   have := c8_1.size
   replace cA := Chg.step cA c8_1 Sub.refl
   have ap13 : Apart [h.size] fp := ap10
   have ap14 : Apart [h3_6.size] fp := ap11
   have hlho8_1 := hlho6_4
   refine hK _ _ ?_
   clear hK K
   refine den_block ?_
   refine den_seq ?_
   refine den_region TTok ?_
   intro K hK
   simp -implicitDefEqProofs (disch := first | decide | assumption | omega) only [go_sem]
   refine hK _ _ ?_
   clear hK K
   refine den_cond rfl (fun c1 => ?_) (fun c1 => ?_)
   ·try simp only [beq_iff_eq] at c1
    refine den_draw TTok mixed [1, 3, 5, 7, 13] [(0, true), (2, true), (4, true), (6, true), (9, true), (1, false), (10, true), (3, false), (11, true), (5, false), (7, false), (8, true), (12, true), (13, false)] (by kernel_rfl) ?_
    intro K hK
    simp -implicitDefEqProofs (disch := first | decide | assumption | omega) only [go_sem, fa34_5, Nat.zero_add]
    refine CallA.mono (sNext_ok _ _ (8 : Int) _ _ ho8_1) ?_
    intro v_ h10_1
    rintro ⟨x10_1, rfl, hx10_1, ho10_1, c10_1⟩
    replace hx10_1 := hx10_1 (by first | omega | (simp; done))
    have hsz10_1 := c10_1.size
    replace hb0_0 := BoxAt.chgA hb0_0 c10_1 ap13
    replace hb3_10 := BoxAt.chgA hb3_10 c10_1 ap14
    have := c10_1.size
    replace cA := Chg.step cA c10_1 Sub.refl
    have ap15 : Apart [h.size] fp := ap13
    have ap16 : Apart [h3_6.size] fp := ap14
    have hlho10_1 := hlho8_1
    refine plK_last (by decide) ?_
    try simp -implicitDefEqProofs (disch := first | decide | assumption | omega) only [go_sem, ia32]
    refine CallA.mono (sNext_ok _ _ (8 : Int) _ _ ho10_1) ?_
    intro v_ h10_3
    rintro ⟨x10_3, rfl, hx10_3, ho10_3, c10_3⟩
    replace hx10_3 := hx10_3 (by first | omega | (simp; done))
    have hsz10_3 := c10_3.size
    replace hb0_0 := BoxAt.chgA hb0_0 c10_3 ap15
    replace hb3_10 := BoxAt.chgA hb3_10 c10_3 ap16
    have := c10_3.size
    replace cA := Chg.step cA c10_3 Sub.refl
    have ap17 : Apart [h.size] fp := ap15
    have ap18 : Apart [h3_6.size] fp := ap16
    have hlho10_3 := hlho10_1
    refine plK_last (by decide) ?_
    try simp -implicitDefEqProofs (disch := first | decide | assumption | omega) only [go_sem, ia31]
    refine CallA.mono (sNext_ok _ _ (8 : Int) _ _ ho10_3) ?_
    intro v_ h10_5
    rintro ⟨x10_5, rfl, hx10_5, ho10_5, c10_5⟩
    replace hx10_5 := hx10_5 (by first | omega | (simp; done))
    have hsz10_5 := c10_5.size
    replace hb0_0 := BoxAt.chgA hb0_0 c10_5 ap17
    replace hb3_10 := BoxAt.chgA hb3_10 c10_5 ap18
    have := c10_5.size
    replace cA := Chg.step cA c10_5 Sub.refl
    have ap19 : Apart [h.size] fp := ap17
    have ap20 : Apart [h3_6.size] fp := ap18
    have hlho10_5 := hlho10_3
    refine plK_last (by decide) ?_
    try simp -implicitDefEqProofs (disch := first | decide | assumption | omega) only [go_sem]
    refine CallA.mono (sNext_ok _ _ (4 : Int) _ _ ho10_5) ?_
    intro v_ h10_7
    rintro ⟨x10_7, rfl, hx10_7, ho10_7, c10_7⟩
    replace hx10_7 := hx10_7 (by first | omega | (simp; done))
    have hsz10_7 := c10_7.size
    replace hb0_0 := BoxAt.chgA hb0_0 c10_7 ap19
    replace hb3_10 := BoxAt.chgA hb3_10 c10_7 ap20
    have := c10_7.size
    replace cA := Chg.step cA c10_7 Sub.refl
    have ap21 : Apart [h.size] fp := ap19
    have ap22 : Apart [h3_6.size] fp := ap20
    have hlho10_7 := hlho10_5
    refine plK_last (by decide) ?_
    try simp -implicitDefEqProofs (disch := first | decide | assumption | omega) only [go_sem, ia30, cv_i64, wrap_u8]
    refine op_storeB (o := 82 + (x10_1).toNat * 64 + (x10_3).toNat * 8 + (x10_5).toNat) (vs := #[.int .u8 x10_7]) (cs' := dgA ({ (tnP (nmL (([([112, 111, 105, 110, 116]), ([99, 105, 114, 99, 108, 101]), ([116, 111, 114, 117, 115]), ([100, 105, 115, 99]), ([99, 105, 114, 99, 108, 101]), ([100, 105, 115, 99])]).getD (x3_2).toNat []) x2_2) (nmL (([([112, 111, 105, 110, 116]), ([99, 105, 114, 99, 108, 101]), ([99, 105, 114, 99, 108, 101]), ([100, 105, 115, 99])]).getD (x4_2).toNat []) x2_2)).1 with tab := (updF (((tnP (nmL (([([112, 111, 105, 110, 116]), ([99, 105, 114, 99, 108, 101]), ([116, 111, 114, 117, 115]), ([100, 105, 115, 99]), ([99, 105, 114, 99, 108, 101]), ([100, 105, 115, 99])]).getD (x3_2).toNat []) x2_2) (nmL (([([112, 111, 105, 110, 116]), ([99, 105, 114, 99, 108, 101]), ([99, 105, 114, 99, 108, 101]), ([100, 105, 115, 99])]).getD (x4_2).toNat []) x2_2)).1).tab) (x10_1).toNat (updF (((tnP (nmL (([([112, 111, 105, 110, 116]), ([99, 105, 114, 99, 108, 101]), ([116, 111, 114, 117, 115]), ([100, 105, 115, 99]), ([99, 105, 114, 99, 108, 101]), ([100, 105, 115, 99])]).getD (x3_2).toNat []) x2_2) (nmL (([([112, 111, 105, 110, 116]), ([99, 105, 114, 99, 108, 101]), ([99, 105, 114, 99, 108, 101]), ([100, 105, 115, 99])]).getD (x4_2).toNat []) x2_2)).1).tab (x10_1).toNat) (x10_3).toNat (upd ((((tnP (nmL (([([112, 111, 105, 110, 116]), ([99, 105, 114, 99, 108, 101]), ([116, 111, 114, 117, 115]), ([100, 105, 115, 99]), ([99, 105, 114, 99, 108, 101]), ([100, 105, 115, 99])]).getD (x3_2).toNat []) x2_2) (nmL (([([112, 111, 105, 110, 116]), ([99, 105, 114, 99, 108, 101]), ([99, 105, 114, 99, 108, 101]), ([100, 105, 115, 99])]).getD (x4_2).toNat []) x2_2)).1).tab (x10_1).toNat) (x10_3).toNat) (x10_5).toNat x10_7))) })) st5 hb3_10 rfl rfl rfl (by rw [dgA_sz]; omega) u8_one (dg_tabB (X := (tnP (nmL (([([112, 111, 105, 110, 116]), ([99, 105, 114, 99, 108, 101]), ([116, 111, 114, 117, 115]), ([100, 105, 115, 99]), ([99, 105, 114, 99, 108, 101]), ([100, 105, 115, 99])]).getD (x3_2).toNat []) x2_2) (nmL (([([112, 111, 105, 110, 116]), ([99, 105, 114, 99, 108, 101]), ([99, 105, 114, 99, 108, 101]), ([100, 105, 115, 99])]).getD (x4_2).toNat []) x2_2)).1) (by omega) (by omega) (by omega)) ?_
    intro h10_13 hb3_10 c10_13
    replace ho10_7 := OSr.chg ho10_7 c10_13 (Apart.symm ap22) (ge_of hfhb3_10 (by omega))
    replace hb0_0 := BoxAt.chgA hb0_0 c10_13 (apart_lt hlhb0_0 hfhb3_10 (by omega))
    have := c10_13.size
    replace cA := Chg.step cA c10_13 (Sub.fresh hfhb3_10 (by omega))
    try simp (disch := decide) only [outv_none]
    refine plK_last (by decide) ?_
    try simp -implicitDefEqProofs (disch := first | decide | assumption | omega) only [go_sem]
    refine hK _ _ ?_
    clear hK K
    refine den_blk ?_
    refine den_seq ?_
    refine den_region TTok ?_
    intro K hK
    simp -implicitDefEqProofs (disch := first | decide | assumption | omega) only [go_sem, BoxAt.dgL hb3_10]
    generalize hDA17_1 : dgA ({ (tnP (nmL (([([112, 111, 105, 110, 116]), ([99, 105, 114, 99, 108, 101]), ([116, 111, 114, 117, 115]), ([100, 105, 115, 99]), ([99, 105, 114, 99, 108, 101]), ([100, 105, 115, 99])]).getD (x3_2).toNat []) x2_2) (nmL (([([112, 111, 105, 110, 116]), ([99, 105, 114, 99, 108, 101]), ([99, 105, 114, 99, 108, 101]), ([100, 105, 115, 99])]).getD (x4_2).toNat []) x2_2)).1 with tab := (updF (((tnP (nmL (([([112, 111, 105, 110, 116]), ([99, 105, 114, 99, 108, 101]), ([116, 111, 114, 117, 115]), ([100, 105, 115, 99]), ([99, 105, 114, 99, 108, 101]), ([100, 105, 115, 99])]).getD (x3_2).toNat []) x2_2) (nmL (([([112, 111, 105, 110, 116]), ([99, 105, 114, 99, 108, 101]), ([99, 105, 114, 99, 108, 101]), ([100, 105, 115, 99])]).getD (x4_2).toNat []) x2_2)).1).tab) (x10_1).toNat (updF (((tnP (nmL (([([112, 111, 105, 110, 116]), ([99, 105, 114, 99, 108, 101]), ([116, 111, 114, 117, 115]), ([100, 105, 115, 99]), ([99, 105, 114, 99, 108, 101]), ([100, 105, 115, 99])]).getD (x3_2).toNat []) x2_2) (nmL (([([112, 111, 105, 110, 116]), ([99, 105, 114, 99, 108, 101]), ([99, 105, 114, 99, 108, 101]), ([100, 105, 115, 99])]).getD (x4_2).toNat []) x2_2)).1).tab (x10_1).toNat) (x10_3).toNat (upd ((((tnP (nmL (([([112, 111, 105, 110, 116]), ([99, 105, 114, 99, 108, 101]), ([116, 111, 114, 117, 115]), ([100, 105, 115, 99]), ([99, 105, 114, 99, 108, 101]), ([100, 105, 115, 99])]).getD (x3_2).toNat []) x2_2) (nmL (([([112, 111, 105, 110, 116]), ([99, 105, 114, 99, 108, 101]), ([99, 105, 114, 99, 108, 101]), ([100, 105, 115, 99])]).getD (x4_2).toNat []) x2_2)).1).tab (x10_1).toNat) (x10_3).toNat) (x10_5).toNat x10_7))) }) = DA17_1
    refine op_storeB (o := 0) (vs := DA17_1) (cs' := DA17_1) st34 hb0_0 rfl rfl (by rw [← hDA17_1]; exact dgA_sz _) (by rw [dgA_sz]; decide) (by rw [← hDA17_1]; exact dgA_one) (by rw [← hDA17_1]; exact dgA_all) ?_
    intro h17_1 hb0_0 c17_1
    subst hDA17_1
    replace ho10_7 := OSr.chg ho10_7 c17_1 (Apart.symm ap21) (ge_of hfhb0_0 (by omega))
    replace hb3_10 := BoxAt.chgA hb3_10 c17_1 (apart_gt hfhb3_10 hlhb0_0 (by omega))
    have := c17_1.size
    replace cA := Chg.step cA c17_1 (Sub.fresh hfhb0_0 (by omega))
    try simp -implicitDefEqProofs (disch := first | decide | assumption | omega) only [go_sem]
    refine hK _ _ ?_
    clear hK K
    refine den_ret ?_
    simp -implicitDefEqProofs (disch := first | decide | assumption | omega) only [go_sem, BoxAt.dgL hb0_0, resP_c1]
    exact ⟨_, rfl, (db_tab (tnP_db (nmL_db _ (by omega)) (nmL_db _ (by omega))) (by omega)), ho10_7, cA⟩
   ·try simp only [beq_eq_false_iff_ne, ne_eq] at c1
    refine den_seq ?_
    refine den_region TTok ?_
    intro K hK
    simp -implicitDefEqProofs (disch := first | decide | assumption | omega) only [go_sem]
    refine hK _ _ ?_
    clear hK K
    refine den_cond rfl (fun c2 => ?_) (fun c2 => ?_)
    ·try simp only [beq_iff_eq] at c2
     refine den_draw TTok mixed [1, 3, 5, 10] [(0, true), (2, true), (4, true), (7, true), (1, false), (8, true), (3, false), (5, false), (6, true), (9, true), (10, false)] (by kernel_rfl) ?_
     intro K hK
     simp -implicitDefEqProofs (disch := first | decide | assumption | omega) only [go_sem, fa34_4, Nat.zero_add]
     refine CallA.mono (sNext_ok _ _ (8 : Int) _ _ ho8_1) ?_
     intro v_ h12_1
     rintro ⟨x12_1, rfl, hx12_1, ho12_1, c12_1⟩
     replace hx12_1 := hx12_1 (by first | omega | (simp; done))
     have hsz12_1 := c12_1.size
     replace hb0_0 := BoxAt.chgA hb0_0 c12_1 ap13
     replace hb3_10 := BoxAt.chgA hb3_10 c12_1 ap14
     have := c12_1.size
     replace cA := Chg.step cA c12_1 Sub.refl
     have ap23 : Apart [h.size] fp := ap13
     have ap24 : Apart [h3_6.size] fp := ap14
     have hlho12_1 := hlho8_1
     refine plK_last (by decide) ?_
     try simp -implicitDefEqProofs (disch := first | decide | assumption | omega) only [go_sem, ia31]
     refine CallA.mono (sNext_ok _ _ (8 : Int) _ _ ho12_1) ?_
     intro v_ h12_3
     rintro ⟨x12_3, rfl, hx12_3, ho12_3, c12_3⟩
     replace hx12_3 := hx12_3 (by first | omega | (simp; done))
     have hsz12_3 := c12_3.size
     replace hb0_0 := BoxAt.chgA hb0_0 c12_3 ap23
     replace hb3_10 := BoxAt.chgA hb3_10 c12_3 ap24
     have := c12_3.size
     replace cA := Chg.step cA c12_3 Sub.refl
     have ap25 : Apart [h.size] fp := ap23
     have ap26 : Apart [h3_6.size] fp := ap24
     have hlho12_3 := hlho12_1
     refine plK_last (by decide) ?_
     try simp -implicitDefEqProofs (disch := first | decide | assumption | omega) only [go_sem]
     refine CallA.mono (sNext_ok _ _ (4 : Int) _ _ ho12_3) ?_
     intro v_ h12_5
     rintro ⟨x12_5, rfl, hx12_5, ho12_5, c12_5⟩
     replace hx12_5 := hx12_5 (by first | omega | (simp; done))
     have hsz12_5 := c12_5.size
     replace hb0_0 := BoxAt.chgA hb0_0 c12_5 ap25
     replace hb3_10 := BoxAt.chgA hb3_10 c12_5 ap26
     have := c12_5.size
     replace cA := Chg.step cA c12_5 Sub.refl
     have ap27 : Apart [h.size] fp := ap25
     have ap28 : Apart [h3_6.size] fp := ap26
     have hlho12_5 := hlho12_3
     refine plK_last (by decide) ?_
     try simp -implicitDefEqProofs (disch := first | decide | assumption | omega) only [go_sem, ia30, cv_i64, wrap_u8]
     refine op_storeB (o := 18 + (x12_1).toNat * 8 + (x12_3).toNat) (vs := #[.int .u8 x12_5]) (cs' := dgA ({ (tnP (nmL (([([112, 111, 105, 110, 116]), ([99, 105, 114, 99, 108, 101]), ([116, 111, 114, 117, 115]), ([100, 105, 115, 99]), ([99, 105, 114, 99, 108, 101]), ([100, 105, 115, 99])]).getD (x3_2).toNat []) x2_2) (nmL (([([112, 111, 105, 110, 116]), ([99, 105, 114, 99, 108, 101]), ([99, 105, 114, 99, 108, 101]), ([100, 105, 115, 99])]).getD (x4_2).toNat []) x2_2)).1 with dif := (updF (((tnP (nmL (([([112, 111, 105, 110, 116]), ([99, 105, 114, 99, 108, 101]), ([116, 111, 114, 117, 115]), ([100, 105, 115, 99]), ([99, 105, 114, 99, 108, 101]), ([100, 105, 115, 99])]).getD (x3_2).toNat []) x2_2) (nmL (([([112, 111, 105, 110, 116]), ([99, 105, 114, 99, 108, 101]), ([99, 105, 114, 99, 108, 101]), ([100, 105, 115, 99])]).getD (x4_2).toNat []) x2_2)).1).dif) (x12_1).toNat (upd (((tnP (nmL (([([112, 111, 105, 110, 116]), ([99, 105, 114, 99, 108, 101]), ([116, 111, 114, 117, 115]), ([100, 105, 115, 99]), ([99, 105, 114, 99, 108, 101]), ([100, 105, 115, 99])]).getD (x3_2).toNat []) x2_2) (nmL (([([112, 111, 105, 110, 116]), ([99, 105, 114, 99, 108, 101]), ([99, 105, 114, 99, 108, 101]), ([100, 105, 115, 99])]).getD (x4_2).toNat []) x2_2)).1).dif (x12_1).toNat) (x12_3).toNat x12_5)) })) st5 hb3_10 rfl rfl rfl (by rw [dgA_sz]; omega) u8_one (dg_difB (X := (tnP (nmL (([([112, 111, 105, 110, 116]), ([99, 105, 114, 99, 108, 101]), ([116, 111, 114, 117, 115]), ([100, 105, 115, 99]), ([99, 105, 114, 99, 108, 101]), ([100, 105, 115, 99])]).getD (x3_2).toNat []) x2_2) (nmL (([([112, 111, 105, 110, 116]), ([99, 105, 114, 99, 108, 101]), ([99, 105, 114, 99, 108, 101]), ([100, 105, 115, 99])]).getD (x4_2).toNat []) x2_2)).1) (by omega) (by omega)) ?_
     intro h12_10 hb3_10 c12_10
     replace ho12_5 := OSr.chg ho12_5 c12_10 (Apart.symm ap28) (ge_of hfhb3_10 (by omega))
     replace hb0_0 := BoxAt.chgA hb0_0 c12_10 (apart_lt hlhb0_0 hfhb3_10 (by omega))
     have := c12_10.size
     replace cA := Chg.step cA c12_10 (Sub.fresh hfhb3_10 (by omega))
     try simp (disch := decide) only [outv_none]
     refine plK_last (by decide) ?_
     try simp -implicitDefEqProofs (disch := first | decide | assumption | omega) only [go_sem]
     refine hK _ _ ?_
     clear hK K
     refine den_blk ?_
     refine den_seq ?_
     refine den_region TTok ?_
     intro K hK
     simp -implicitDefEqProofs (disch := first | decide | assumption | omega) only [go_sem, BoxAt.dgL hb3_10]
     generalize hDA17_1_1 : dgA ({ (tnP (nmL (([([112, 111, 105, 110, 116]), ([99, 105, 114, 99, 108, 101]), ([116, 111, 114, 117, 115]), ([100, 105, 115, 99]), ([99, 105, 114, 99, 108, 101]), ([100, 105, 115, 99])]).getD (x3_2).toNat []) x2_2) (nmL (([([112, 111, 105, 110, 116]), ([99, 105, 114, 99, 108, 101]), ([99, 105, 114, 99, 108, 101]), ([100, 105, 115, 99])]).getD (x4_2).toNat []) x2_2)).1 with dif := (updF (((tnP (nmL (([([112, 111, 105, 110, 116]), ([99, 105, 114, 99, 108, 101]), ([116, 111, 114, 117, 115]), ([100, 105, 115, 99]), ([99, 105, 114, 99, 108, 101]), ([100, 105, 115, 99])]).getD (x3_2).toNat []) x2_2) (nmL (([([112, 111, 105, 110, 116]), ([99, 105, 114, 99, 108, 101]), ([99, 105, 114, 99, 108, 101]), ([100, 105, 115, 99])]).getD (x4_2).toNat []) x2_2)).1).dif) (x12_1).toNat (upd (((tnP (nmL (([([112, 111, 105, 110, 116]), ([99, 105, 114, 99, 108, 101]), ([116, 111, 114, 117, 115]), ([100, 105, 115, 99]), ([99, 105, 114, 99, 108, 101]), ([100, 105, 115, 99])]).getD (x3_2).toNat []) x2_2) (nmL (([([112, 111, 105, 110, 116]), ([99, 105, 114, 99, 108, 101]), ([99, 105, 114, 99, 108, 101]), ([100, 105, 115, 99])]).getD (x4_2).toNat []) x2_2)).1).dif (x12_1).toNat) (x12_3).toNat x12_5)) }) = DA17_1_1
     refine op_storeB (o := 0) (vs := DA17_1_1) (cs' := DA17_1_1) st34 hb0_0 rfl rfl (by rw [← hDA17_1_1]; exact dgA_sz _) (by rw [dgA_sz]; decide) (by rw [← hDA17_1_1]; exact dgA_one) (by rw [← hDA17_1_1]; exact dgA_all) ?_
     intro h17_1_1 hb0_0 c17_1_1
     subst hDA17_1_1
     replace ho12_5 := OSr.chg ho12_5 c17_1_1 (Apart.symm ap27) (ge_of hfhb0_0 (by omega))
     replace hb3_10 := BoxAt.chgA hb3_10 c17_1_1 (apart_gt hfhb3_10 hlhb0_0 (by omega))
     have := c17_1_1.size
     replace cA := Chg.step cA c17_1_1 (Sub.fresh hfhb0_0 (by omega))
     try simp -implicitDefEqProofs (disch := first | decide | assumption | omega) only [go_sem]
     refine hK _ _ ?_
     clear hK K
     refine den_ret ?_
     simp -implicitDefEqProofs (disch := first | decide | assumption | omega) only [go_sem, BoxAt.dgL hb0_0, resP_c1]
     exact ⟨_, rfl, (db_dif (tnP_db (nmL_db _ (by omega)) (nmL_db _ (by omega))) (by omega)), ho12_5, cA⟩
    ·try simp only [beq_eq_false_iff_ne, ne_eq] at c2
     refine den_seq ?_
     refine den_region TTok ?_
     intro K hK
     simp -implicitDefEqProofs (disch := first | decide | assumption | omega) only [go_sem]
     refine hK _ _ ?_
     clear hK K
     refine den_cond rfl (fun c3 => ?_) (fun c3 => ?_)
     ·try simp only [beq_iff_eq] at c3
      refine den_region TTok ?_
      intro K hK
      simp -implicitDefEqProofs (disch := first | decide | assumption | omega) only [go_sem]
      refine CallA.mono (sNext_ok _ _ (8 : Int) _ _ ho8_1) ?_
      intro v_ h14_1
      rintro ⟨x14_1, rfl, hx14_1, ho14_1, c14_1⟩
      replace hx14_1 := hx14_1 (by first | omega | (simp; done))
      have hsz14_1 := c14_1.size
      replace hb0_0 := BoxAt.chgA hb0_0 c14_1 ap13
      replace hb3_10 := BoxAt.chgA hb3_10 c14_1 ap14
      have := c14_1.size
      replace cA := Chg.step cA c14_1 Sub.refl
      have ap29 : Apart [h.size] fp := ap13
      have ap30 : Apart [h3_6.size] fp := ap14
      have hlho14_1 := hlho8_1
      refine op_bsI3 (a0 := (0 : Int)) (a1 := (5 : Int)) (a2 := (6 : Int)) rfl rfl rfl ?_
      intro v14_3 h14_3 ho14_3 e14_3
      replace ho14_1 := OSr.ext ho14_1 e14_3
      replace hb0_0 := BoxAt.ext hb0_0 e14_3
      replace hb3_10 := BoxAt.ext hb3_10 e14_3
      have := Ext.size e14_3
      replace cA := Chg.stepE cA e14_3
      have hlenho14_3 : ([(0 : Int), (5 : Int), (6 : Int)] : List Int).length = 3 := rfl
      have hfho14_3 : Fresh h14_1.size [h14_1.size] := Fresh.one _
      have hlho14_3 := OS.lt ho14_3
      try simp -implicitDefEqProofs (disch := first | decide | assumption | omega) only [go_sem]
      refine CallA.mono (sPick_ok _ _ ([(0 : Int), (5 : Int), (6 : Int)]) _ _ _ _ ho14_1 (hfr.mono (by omega)) ho14_3 (apart_gt hfho14_3 hlho14_1 (by omega)) (by simp) (by simp)) ?_
      intro v_ h14_4
      rintro ⟨x14_4, rfl, hx14_4, ho14_4, c14_4⟩
      simp only [List.mem_cons, List.not_mem_nil, or_false] at hx14_4
      have hsz14_4 := c14_4.size
      replace ho14_3 := OS.chg ho14_3 c14_4 (apart_gt hfho14_3 hlho14_1 (by omega))
      replace hb0_0 := BoxAt.chgA hb0_0 c14_4 ap29
      replace hb3_10 := BoxAt.chgA hb3_10 c14_4 ap30
      have := c14_4.size
      replace cA := Chg.step cA c14_4 Sub.refl
      have ap31 : Apart [h14_1.size] fp := (apart_gt hfho14_3 hlho14_1 (by omega))
      have ap32 : Apart [h.size] fp := ap29
      have ap33 : Apart [h3_6.size] fp := ap30
      have hlho14_4 := hlho14_1
      try simp -implicitDefEqProofs (disch := first | decide | assumption | omega) only [go_sem, fa34_3, ia22, Nat.zero_add]
      refine op_storeB (o := 10 + (x14_1).toNat) (vs := #[.int .i64 x14_4]) (cs' := dgA ({ (tnP (nmL (([([112, 111, 105, 110, 116]), ([99, 105, 114, 99, 108, 101]), ([116, 111, 114, 117, 115]), ([100, 105, 115, 99]), ([99, 105, 114, 99, 108, 101]), ([100, 105, 115, 99])]).getD (x3_2).toNat []) x2_2) (nmL (([([112, 111, 105, 110, 116]), ([99, 105, 114, 99, 108, 101]), ([99, 105, 114, 99, 108, 101]), ([100, 105, 115, 99])]).getD (x4_2).toNat []) x2_2)).1 with lev := (upd (((tnP (nmL (([([112, 111, 105, 110, 116]), ([99, 105, 114, 99, 108, 101]), ([116, 111, 114, 117, 115]), ([100, 105, 115, 99]), ([99, 105, 114, 99, 108, 101]), ([100, 105, 115, 99])]).getD (x3_2).toNat []) x2_2) (nmL (([([112, 111, 105, 110, 116]), ([99, 105, 114, 99, 108, 101]), ([99, 105, 114, 99, 108, 101]), ([100, 105, 115, 99])]).getD (x4_2).toNat []) x2_2)).1).lev) (x14_1).toNat x14_4) })) st2 hb3_10 rfl rfl rfl (by rw [dgA_sz]; omega) i64_one (dg_levI (X := (tnP (nmL (([([112, 111, 105, 110, 116]), ([99, 105, 114, 99, 108, 101]), ([116, 111, 114, 117, 115]), ([100, 105, 115, 99]), ([99, 105, 114, 99, 108, 101]), ([100, 105, 115, 99])]).getD (x3_2).toNat []) x2_2) (nmL (([([112, 111, 105, 110, 116]), ([99, 105, 114, 99, 108, 101]), ([99, 105, 114, 99, 108, 101]), ([100, 105, 115, 99])]).getD (x4_2).toNat []) x2_2)).1) (by omega)) ?_
      intro h14_7 hb3_10 c14_7
      replace ho14_3 := OS.chg ho14_3 c14_7 (apart_gt hfho14_3 hlhb3_10 (by omega))
      replace ho14_4 := OSr.chg ho14_4 c14_7 (Apart.symm ap33) (ge_of hfhb3_10 (by omega))
      replace hb0_0 := BoxAt.chgA hb0_0 c14_7 (apart_lt hlhb0_0 hfhb3_10 (by omega))
      have := c14_7.size
      replace cA := Chg.step cA c14_7 (Sub.fresh hfhb3_10 (by omega))
      try simp -implicitDefEqProofs (disch := first | decide | assumption | omega) only [go_sem]
      refine hK _ _ ?_
      clear hK K
      refine den_blk ?_
      refine den_seq ?_
      refine den_region TTok ?_
      intro K hK
      simp -implicitDefEqProofs (disch := first | decide | assumption | omega) only [go_sem, BoxAt.dgL hb3_10]
      generalize hDA17_1_2 : dgA ({ (tnP (nmL (([([112, 111, 105, 110, 116]), ([99, 105, 114, 99, 108, 101]), ([116, 111, 114, 117, 115]), ([100, 105, 115, 99]), ([99, 105, 114, 99, 108, 101]), ([100, 105, 115, 99])]).getD (x3_2).toNat []) x2_2) (nmL (([([112, 111, 105, 110, 116]), ([99, 105, 114, 99, 108, 101]), ([99, 105, 114, 99, 108, 101]), ([100, 105, 115, 99])]).getD (x4_2).toNat []) x2_2)).1 with lev := (upd (((tnP (nmL (([([112, 111, 105, 110, 116]), ([99, 105, 114, 99, 108, 101]), ([116, 111, 114, 117, 115]), ([100, 105, 115, 99]), ([99, 105, 114, 99, 108, 101]), ([100, 105, 115, 99])]).getD (x3_2).toNat []) x2_2) (nmL (([([112, 111, 105, 110, 116]), ([99, 105, 114, 99, 108, 101]), ([99, 105, 114, 99, 108, 101]), ([100, 105, 115, 99])]).getD (x4_2).toNat []) x2_2)).1).lev) (x14_1).toNat x14_4) }) = DA17_1_2
      refine op_storeB (o := 0) (vs := DA17_1_2) (cs' := DA17_1_2) st34 hb0_0 rfl rfl (by rw [← hDA17_1_2]; exact dgA_sz _) (by rw [dgA_sz]; decide) (by rw [← hDA17_1_2]; exact dgA_one) (by rw [← hDA17_1_2]; exact dgA_all) ?_
      intro h17_1_2 hb0_0 c17_1_2
      subst hDA17_1_2
      replace ho14_4 := OSr.chg ho14_4 c17_1_2 (Apart.symm ap32) (ge_of hfhb0_0 (by omega))
      replace hb3_10 := BoxAt.chgA hb3_10 c17_1_2 (apart_gt hfhb3_10 hlhb0_0 (by omega))
      have := c17_1_2.size
      replace cA := Chg.step cA c17_1_2 (Sub.fresh hfhb0_0 (by omega))
      try simp -implicitDefEqProofs (disch := first | decide | assumption | omega) only [go_sem]
      refine hK _ _ ?_
      clear hK K
      refine den_ret ?_
      simp -implicitDefEqProofs (disch := first | decide | assumption | omega) only [go_sem, BoxAt.dgL hb0_0, resP_c1]
      exact ⟨_, rfl, (db_lev (tnP_db (nmL_db _ (by omega)) (nmL_db _ (by omega))) (by omega)), ho14_4, cA⟩
     ·try simp only [beq_eq_false_iff_ne, ne_eq] at c3
      refine den_seq ?_
      refine den_region TTok ?_
      intro K hK
      simp -implicitDefEqProofs (disch := first | decide | assumption | omega) only [go_sem]
      refine hK _ _ ?_
      clear hK K
      refine den_cond rfl (fun c4 => ?_) (fun c4 => ?_)
      ·try simp only [beq_iff_eq] at c4
       have hEs := tnP_s (by simpa using g9 : (tnP (nmL (([([112, 111, 105, 110, 116]), ([99, 105, 114, 99, 108, 101]), ([116, 111, 114, 117, 115]), ([100, 105, 115, 99]), ([99, 105, 114, 99, 108, 101]), ([100, 105, 115, 99])]).getD (x3_2).toNat []) x2_2) (nmL (([([112, 111, 105, 110, 116]), ([99, 105, 114, 99, 108, 101]), ([99, 105, 114, 99, 108, 101]), ([100, 105, 115, 99])]).getD (x4_2).toNat []) x2_2)).2 = 0)
       refine den_region TTok ?_
       intro K hK
       simp -implicitDefEqProofs (disch := first | decide | assumption | omega) only [go_sem, fa34_1, ld2, BoxAt.dgS hb3_10, wrap_id, Nat.zero_add]
       refine op_bsI3 (a0 := (0 : Int)) (a1 := (9 : Int)) (a2 := ((((tnP (nmL (([([112, 111, 105, 110, 116]), ([99, 105, 114, 99, 108, 101]), ([116, 111, 114, 117, 115]), ([100, 105, 115, 99]), ([99, 105, 114, 99, 108, 101]), ([100, 105, 115, 99])]).getD (x3_2).toNat []) x2_2) (nmL (([([112, 111, 105, 110, 116]), ([99, 105, 114, 99, 108, 101]), ([99, 105, 114, 99, 108, 101]), ([100, 105, 115, 99])]).getD (x4_2).toNat []) x2_2)).1).s) + (1 : Int))) rfl rfl rfl ?_
       intro v16_4 h16_4 ho16_4 e16_4
       replace ho8_1 := OSr.ext ho8_1 e16_4
       replace hb0_0 := BoxAt.ext hb0_0 e16_4
       replace hb3_10 := BoxAt.ext hb3_10 e16_4
       have := Ext.size e16_4
       replace cA := Chg.stepE cA e16_4
       have hlenho16_4 : ([(0 : Int), (9 : Int), ((((tnP (nmL (([([112, 111, 105, 110, 116]), ([99, 105, 114, 99, 108, 101]), ([116, 111, 114, 117, 115]), ([100, 105, 115, 99]), ([99, 105, 114, 99, 108, 101]), ([100, 105, 115, 99])]).getD (x3_2).toNat []) x2_2) (nmL (([([112, 111, 105, 110, 116]), ([99, 105, 114, 99, 108, 101]), ([99, 105, 114, 99, 108, 101]), ([100, 105, 115, 99])]).getD (x4_2).toNat []) x2_2)).1).s) + (1 : Int))] : List Int).length = 3 := rfl
       have hfho16_4 : Fresh h8_1.size [h8_1.size] := Fresh.one _
       have hlho16_4 := OS.lt ho16_4
       try simp -implicitDefEqProofs (disch := first | decide | assumption | omega) only [go_sem]
       refine CallA.mono (sPick_ok _ _ ([(0 : Int), (9 : Int), ((((tnP (nmL (([([112, 111, 105, 110, 116]), ([99, 105, 114, 99, 108, 101]), ([116, 111, 114, 117, 115]), ([100, 105, 115, 99]), ([99, 105, 114, 99, 108, 101]), ([100, 105, 115, 99])]).getD (x3_2).toNat []) x2_2) (nmL (([([112, 111, 105, 110, 116]), ([99, 105, 114, 99, 108, 101]), ([99, 105, 114, 99, 108, 101]), ([100, 105, 115, 99])]).getD (x4_2).toNat []) x2_2)).1).s) + (1 : Int))]) _ _ _ _ ho8_1 (hfr.mono (by omega)) ho16_4 (apart_gt hfho16_4 hlho8_1 (by omega)) (by simp) (by simp)) ?_
       intro v_ h16_5
       rintro ⟨x16_5, rfl, hx16_5, ho16_5, c16_5⟩
       simp only [List.mem_cons, List.not_mem_nil, or_false] at hx16_5
       have hsz16_5 := c16_5.size
       replace ho16_4 := OS.chg ho16_4 c16_5 (apart_gt hfho16_4 hlho8_1 (by omega))
       replace hb0_0 := BoxAt.chgA hb0_0 c16_5 ap13
       replace hb3_10 := BoxAt.chgA hb3_10 c16_5 ap14
       have := c16_5.size
       replace cA := Chg.step cA c16_5 Sub.refl
       have ap34 : Apart [h8_1.size] fp := (apart_gt hfho16_4 hlho8_1 (by omega))
       have ap35 : Apart [h.size] fp := ap13
       have ap36 : Apart [h3_6.size] fp := ap14
       have hlho16_5 := hlho8_1
       try simp -implicitDefEqProofs (disch := first | decide | assumption | omega) only [go_sem, fa34_1, Nat.zero_add]
       refine op_storeB (o := 1) (vs := #[.int .i64 x16_5]) (cs' := dgA ({ (tnP (nmL (([([112, 111, 105, 110, 116]), ([99, 105, 114, 99, 108, 101]), ([116, 111, 114, 117, 115]), ([100, 105, 115, 99]), ([99, 105, 114, 99, 108, 101]), ([100, 105, 115, 99])]).getD (x3_2).toNat []) x2_2) (nmL (([([112, 111, 105, 110, 116]), ([99, 105, 114, 99, 108, 101]), ([99, 105, 114, 99, 108, 101]), ([100, 105, 115, 99])]).getD (x4_2).toNat []) x2_2)).1 with s := x16_5 })) st2 hb3_10 rfl rfl rfl (by rw [dgA_sz]; decide) i64_one dg_s ?_
       intro h16_7 hb3_10 c16_7
       replace ho16_4 := OS.chg ho16_4 c16_7 (apart_gt hfho16_4 hlhb3_10 (by omega))
       replace ho16_5 := OSr.chg ho16_5 c16_7 (Apart.symm ap36) (ge_of hfhb3_10 (by omega))
       replace hb0_0 := BoxAt.chgA hb0_0 c16_7 (apart_lt hlhb0_0 hfhb3_10 (by omega))
       have := c16_7.size
       replace cA := Chg.step cA c16_7 (Sub.fresh hfhb3_10 (by omega))
       try simp -implicitDefEqProofs (disch := first | decide | assumption | omega) only [go_sem]
       refine hK _ _ ?_
       clear hK K
       refine den_blk ?_
       refine den_seq ?_
       refine den_region TTok ?_
       intro K hK
       simp -implicitDefEqProofs (disch := first | decide | assumption | omega) only [go_sem, BoxAt.dgL hb3_10]
       generalize hDA17_1_3 : dgA ({ (tnP (nmL (([([112, 111, 105, 110, 116]), ([99, 105, 114, 99, 108, 101]), ([116, 111, 114, 117, 115]), ([100, 105, 115, 99]), ([99, 105, 114, 99, 108, 101]), ([100, 105, 115, 99])]).getD (x3_2).toNat []) x2_2) (nmL (([([112, 111, 105, 110, 116]), ([99, 105, 114, 99, 108, 101]), ([99, 105, 114, 99, 108, 101]), ([100, 105, 115, 99])]).getD (x4_2).toNat []) x2_2)).1 with s := x16_5 }) = DA17_1_3
       refine op_storeB (o := 0) (vs := DA17_1_3) (cs' := DA17_1_3) st34 hb0_0 rfl rfl (by rw [← hDA17_1_3]; exact dgA_sz _) (by rw [dgA_sz]; decide) (by rw [← hDA17_1_3]; exact dgA_one) (by rw [← hDA17_1_3]; exact dgA_all) ?_
       intro h17_1_3 hb0_0 c17_1_3
       subst hDA17_1_3
       replace ho16_5 := OSr.chg ho16_5 c17_1_3 (Apart.symm ap35) (ge_of hfhb0_0 (by omega))
       replace hb3_10 := BoxAt.chgA hb3_10 c17_1_3 (apart_gt hfhb3_10 hlhb0_0 (by omega))
       have := c17_1_3.size
       replace cA := Chg.step cA c17_1_3 (Sub.fresh hfhb0_0 (by omega))
       try simp -implicitDefEqProofs (disch := first | decide | assumption | omega) only [go_sem]
       refine hK _ _ ?_
       clear hK K
       refine den_ret ?_
       simp -implicitDefEqProofs (disch := first | decide | assumption | omega) only [go_sem, BoxAt.dgL hb0_0, resP_c1]
       exact ⟨_, rfl, (db_s (tnP_db (nmL_db _ (by omega)) (nmL_db _ (by omega)))), ho16_5, cA⟩
      ·try simp only [beq_eq_false_iff_ne, ne_eq] at c4
       refine den_skip ?_
       refine den_blk ?_
       refine den_seq ?_
       refine den_region TTok ?_
       intro K hK
       simp -implicitDefEqProofs (disch := first | decide | assumption | omega) only [go_sem, BoxAt.dgL hb3_10]
       generalize hDA17_1_4 : dgA ((tnP (nmL (([([112, 111, 105, 110, 116]), ([99, 105, 114, 99, 108, 101]), ([116, 111, 114, 117, 115]), ([100, 105, 115, 99]), ([99, 105, 114, 99, 108, 101]), ([100, 105, 115, 99])]).getD (x3_2).toNat []) x2_2) (nmL (([([112, 111, 105, 110, 116]), ([99, 105, 114, 99, 108, 101]), ([99, 105, 114, 99, 108, 101]), ([100, 105, 115, 99])]).getD (x4_2).toNat []) x2_2)).1) = DA17_1_4
       refine op_storeB (o := 0) (vs := DA17_1_4) (cs' := DA17_1_4) st34 hb0_0 rfl rfl (by rw [← hDA17_1_4]; exact dgA_sz _) (by rw [dgA_sz]; decide) (by rw [← hDA17_1_4]; exact dgA_one) (by rw [← hDA17_1_4]; exact dgA_all) ?_
       intro h17_1_4 hb0_0 c17_1_4
       subst hDA17_1_4
       replace ho8_1 := OSr.chg ho8_1 c17_1_4 (Apart.symm ap13) (ge_of hfhb0_0 (by omega))
       replace hb3_10 := BoxAt.chgA hb3_10 c17_1_4 (apart_gt hfhb3_10 hlhb0_0 (by omega))
       have := c17_1_4.size
       replace cA := Chg.step cA c17_1_4 (Sub.fresh hfhb0_0 (by omega))
       try simp -implicitDefEqProofs (disch := first | decide | assumption | omega) only [go_sem]
       refine hK _ _ ?_
       clear hK K
       refine den_ret ?_
       simp -implicitDefEqProofs (disch := first | decide | assumption | omega) only [go_sem, BoxAt.dgL hb0_0, resP_c1]
       exact ⟨_, rfl, (tnP_db (nmL_db _ (by omega)) (nmL_db _ (by omega))), ho8_1, cA⟩
  ·try simp only [decide_eq_false_iff_not] at c0
   refine den_skip ?_
   refine den_seq ?_
   refine den_seq ?_
   refine den_region TTok ?_
   intro K hK
   simp -implicitDefEqProofs (disch := first | decide | assumption | omega) only [go_sem]
   refine CallA.mono (sNext_ok _ _ (40 : Int) _ _ ho6_4) ?_
   intro v_ h8_1_1
   rintro ⟨x8_1_1, rfl, hx8_1_1, ho8_1_1, c8_1_1⟩
   replace hx8_1_1 := hx8_1_1 (by first | omega | (simp; done))
   have hsz8_1_1 := c8_1_1.size
   replace hb0_0 := BoxAt.chgA hb0_0 c8_1_1 ap10
   replace hb3_10 := BoxAt.chgA hb3_10 c8_1_1 ap11
   have := c8_1_1.size
   replace cA := Chg.step cA c8_1_1 Sub.refl
   have ap37 : Apart [h.size] fp := ap10
   have ap38 : Apart [h3_6.size] fp := ap11
   have hlho8_1_1 := hlho6_4
   refine hK _ _ ?_
   clear hK K
   refine den_block ?_
   refine den_seq ?_
   refine den_region TTok ?_
   intro K hK
   simp -implicitDefEqProofs (disch := first | decide | assumption | omega) only [go_sem]
   refine hK _ _ ?_
   clear hK K
   refine den_cond rfl (fun c5 => ?_) (fun c5 => ?_)
   ·try simp only [beq_iff_eq] at c5
    refine den_draw TTok mixed [1, 3, 5, 7, 13] [(0, true), (2, true), (4, true), (6, true), (9, true), (1, false), (10, true), (3, false), (11, true), (5, false), (7, false), (8, true), (12, true), (13, false)] (by kernel_rfl) ?_
    intro K hK
    simp -implicitDefEqProofs (disch := first | decide | assumption | omega) only [go_sem, fa34_5, Nat.zero_add]
    refine CallA.mono (sNext_ok _ _ (8 : Int) _ _ ho8_1_1) ?_
    intro v_ h10_1_1
    rintro ⟨x10_1_1, rfl, hx10_1_1, ho10_1_1, c10_1_1⟩
    replace hx10_1_1 := hx10_1_1 (by first | omega | (simp; done))
    have hsz10_1_1 := c10_1_1.size
    replace hb0_0 := BoxAt.chgA hb0_0 c10_1_1 ap37
    replace hb3_10 := BoxAt.chgA hb3_10 c10_1_1 ap38
    have := c10_1_1.size
    replace cA := Chg.step cA c10_1_1 Sub.refl
    have ap39 : Apart [h.size] fp := ap37
    have ap40 : Apart [h3_6.size] fp := ap38
    have hlho10_1_1 := hlho8_1_1
    refine plK_last (by decide) ?_
    try simp -implicitDefEqProofs (disch := first | decide | assumption | omega) only [go_sem, ia32]
    refine CallA.mono (sNext_ok _ _ (8 : Int) _ _ ho10_1_1) ?_
    intro v_ h10_3_1
    rintro ⟨x10_3_1, rfl, hx10_3_1, ho10_3_1, c10_3_1⟩
    replace hx10_3_1 := hx10_3_1 (by first | omega | (simp; done))
    have hsz10_3_1 := c10_3_1.size
    replace hb0_0 := BoxAt.chgA hb0_0 c10_3_1 ap39
    replace hb3_10 := BoxAt.chgA hb3_10 c10_3_1 ap40
    have := c10_3_1.size
    replace cA := Chg.step cA c10_3_1 Sub.refl
    have ap41 : Apart [h.size] fp := ap39
    have ap42 : Apart [h3_6.size] fp := ap40
    have hlho10_3_1 := hlho10_1_1
    refine plK_last (by decide) ?_
    try simp -implicitDefEqProofs (disch := first | decide | assumption | omega) only [go_sem, ia31]
    refine CallA.mono (sNext_ok _ _ (8 : Int) _ _ ho10_3_1) ?_
    intro v_ h10_5_1
    rintro ⟨x10_5_1, rfl, hx10_5_1, ho10_5_1, c10_5_1⟩
    replace hx10_5_1 := hx10_5_1 (by first | omega | (simp; done))
    have hsz10_5_1 := c10_5_1.size
    replace hb0_0 := BoxAt.chgA hb0_0 c10_5_1 ap41
    replace hb3_10 := BoxAt.chgA hb3_10 c10_5_1 ap42
    have := c10_5_1.size
    replace cA := Chg.step cA c10_5_1 Sub.refl
    have ap43 : Apart [h.size] fp := ap41
    have ap44 : Apart [h3_6.size] fp := ap42
    have hlho10_5_1 := hlho10_3_1
    refine plK_last (by decide) ?_
    try simp -implicitDefEqProofs (disch := first | decide | assumption | omega) only [go_sem]
    refine CallA.mono (sNext_ok _ _ (4 : Int) _ _ ho10_5_1) ?_
    intro v_ h10_7_1
    rintro ⟨x10_7_1, rfl, hx10_7_1, ho10_7_1, c10_7_1⟩
    replace hx10_7_1 := hx10_7_1 (by first | omega | (simp; done))
    have hsz10_7_1 := c10_7_1.size
    replace hb0_0 := BoxAt.chgA hb0_0 c10_7_1 ap43
    replace hb3_10 := BoxAt.chgA hb3_10 c10_7_1 ap44
    have := c10_7_1.size
    replace cA := Chg.step cA c10_7_1 Sub.refl
    have ap45 : Apart [h.size] fp := ap43
    have ap46 : Apart [h3_6.size] fp := ap44
    have hlho10_7_1 := hlho10_5_1
    refine plK_last (by decide) ?_
    try simp -implicitDefEqProofs (disch := first | decide | assumption | omega) only [go_sem, ia30, cv_i64, wrap_u8]
    refine op_storeB (o := 82 + (x10_1_1).toNat * 64 + (x10_3_1).toNat * 8 + (x10_5_1).toNat) (vs := #[.int .u8 x10_7_1]) (cs' := dgA ({ nmL (([([112, 111, 105, 110, 116]), ([99, 105, 114, 99, 108, 101]), ([116, 111, 114, 117, 115]), ([100, 105, 115, 99]), ([99, 105, 114, 99, 108, 101]), ([100, 105, 115, 99])]).getD (x3_2).toNat []) x2_2 with tab := (updF ((nmL (([([112, 111, 105, 110, 116]), ([99, 105, 114, 99, 108, 101]), ([116, 111, 114, 117, 115]), ([100, 105, 115, 99]), ([99, 105, 114, 99, 108, 101]), ([100, 105, 115, 99])]).getD (x3_2).toNat []) x2_2).tab) (x10_1_1).toNat (updF ((nmL (([([112, 111, 105, 110, 116]), ([99, 105, 114, 99, 108, 101]), ([116, 111, 114, 117, 115]), ([100, 105, 115, 99]), ([99, 105, 114, 99, 108, 101]), ([100, 105, 115, 99])]).getD (x3_2).toNat []) x2_2).tab (x10_1_1).toNat) (x10_3_1).toNat (upd (((nmL (([([112, 111, 105, 110, 116]), ([99, 105, 114, 99, 108, 101]), ([116, 111, 114, 117, 115]), ([100, 105, 115, 99]), ([99, 105, 114, 99, 108, 101]), ([100, 105, 115, 99])]).getD (x3_2).toNat []) x2_2).tab (x10_1_1).toNat) (x10_3_1).toNat) (x10_5_1).toNat x10_7_1))) })) st5 hb3_10 rfl rfl rfl (by rw [dgA_sz]; omega) u8_one (dg_tabB (X := nmL (([([112, 111, 105, 110, 116]), ([99, 105, 114, 99, 108, 101]), ([116, 111, 114, 117, 115]), ([100, 105, 115, 99]), ([99, 105, 114, 99, 108, 101]), ([100, 105, 115, 99])]).getD (x3_2).toNat []) x2_2) (by omega) (by omega) (by omega)) ?_
    intro h10_13_1 hb3_10 c10_13_1
    replace ho10_7_1 := OSr.chg ho10_7_1 c10_13_1 (Apart.symm ap46) (ge_of hfhb3_10 (by omega))
    replace hb0_0 := BoxAt.chgA hb0_0 c10_13_1 (apart_lt hlhb0_0 hfhb3_10 (by omega))
    have := c10_13_1.size
    replace cA := Chg.step cA c10_13_1 (Sub.fresh hfhb3_10 (by omega))
    try simp (disch := decide) only [outv_none]
    refine plK_last (by decide) ?_
    try simp -implicitDefEqProofs (disch := first | decide | assumption | omega) only [go_sem]
    refine hK _ _ ?_
    clear hK K
    refine den_blk ?_
    refine den_seq ?_
    refine den_region TTok ?_
    intro K hK
    simp -implicitDefEqProofs (disch := first | decide | assumption | omega) only [go_sem, BoxAt.dgL hb3_10]
    generalize hDA17_1_5 : dgA ({ nmL (([([112, 111, 105, 110, 116]), ([99, 105, 114, 99, 108, 101]), ([116, 111, 114, 117, 115]), ([100, 105, 115, 99]), ([99, 105, 114, 99, 108, 101]), ([100, 105, 115, 99])]).getD (x3_2).toNat []) x2_2 with tab := (updF ((nmL (([([112, 111, 105, 110, 116]), ([99, 105, 114, 99, 108, 101]), ([116, 111, 114, 117, 115]), ([100, 105, 115, 99]), ([99, 105, 114, 99, 108, 101]), ([100, 105, 115, 99])]).getD (x3_2).toNat []) x2_2).tab) (x10_1_1).toNat (updF ((nmL (([([112, 111, 105, 110, 116]), ([99, 105, 114, 99, 108, 101]), ([116, 111, 114, 117, 115]), ([100, 105, 115, 99]), ([99, 105, 114, 99, 108, 101]), ([100, 105, 115, 99])]).getD (x3_2).toNat []) x2_2).tab (x10_1_1).toNat) (x10_3_1).toNat (upd (((nmL (([([112, 111, 105, 110, 116]), ([99, 105, 114, 99, 108, 101]), ([116, 111, 114, 117, 115]), ([100, 105, 115, 99]), ([99, 105, 114, 99, 108, 101]), ([100, 105, 115, 99])]).getD (x3_2).toNat []) x2_2).tab (x10_1_1).toNat) (x10_3_1).toNat) (x10_5_1).toNat x10_7_1))) }) = DA17_1_5
    refine op_storeB (o := 0) (vs := DA17_1_5) (cs' := DA17_1_5) st34 hb0_0 rfl rfl (by rw [← hDA17_1_5]; exact dgA_sz _) (by rw [dgA_sz]; decide) (by rw [← hDA17_1_5]; exact dgA_one) (by rw [← hDA17_1_5]; exact dgA_all) ?_
    intro h17_1_5 hb0_0 c17_1_5
    subst hDA17_1_5
    replace ho10_7_1 := OSr.chg ho10_7_1 c17_1_5 (Apart.symm ap45) (ge_of hfhb0_0 (by omega))
    replace hb3_10 := BoxAt.chgA hb3_10 c17_1_5 (apart_gt hfhb3_10 hlhb0_0 (by omega))
    have := c17_1_5.size
    replace cA := Chg.step cA c17_1_5 (Sub.fresh hfhb0_0 (by omega))
    try simp -implicitDefEqProofs (disch := first | decide | assumption | omega) only [go_sem]
    refine hK _ _ ?_
    clear hK K
    refine den_ret ?_
    simp -implicitDefEqProofs (disch := first | decide | assumption | omega) only [go_sem, BoxAt.dgL hb0_0, resP_c1]
    exact ⟨_, rfl, (db_tab (nmL_db _ (by omega)) (by omega)), ho10_7_1, cA⟩
   ·try simp only [beq_eq_false_iff_ne, ne_eq] at c5
    refine den_seq ?_
    refine den_region TTok ?_
    intro K hK
    simp -implicitDefEqProofs (disch := first | decide | assumption | omega) only [go_sem]
    refine hK _ _ ?_
    clear hK K
    refine den_cond rfl (fun c6 => ?_) (fun c6 => ?_)
    ·try simp only [beq_iff_eq] at c6
     refine den_draw TTok mixed [1, 3, 5, 10] [(0, true), (2, true), (4, true), (7, true), (1, false), (8, true), (3, false), (5, false), (6, true), (9, true), (10, false)] (by kernel_rfl) ?_
     intro K hK
     simp -implicitDefEqProofs (disch := first | decide | assumption | omega) only [go_sem, fa34_4, Nat.zero_add]
     refine CallA.mono (sNext_ok _ _ (8 : Int) _ _ ho8_1_1) ?_
     intro v_ h12_1_1
     rintro ⟨x12_1_1, rfl, hx12_1_1, ho12_1_1, c12_1_1⟩
     replace hx12_1_1 := hx12_1_1 (by first | omega | (simp; done))
     have hsz12_1_1 := c12_1_1.size
     replace hb0_0 := BoxAt.chgA hb0_0 c12_1_1 ap37
     replace hb3_10 := BoxAt.chgA hb3_10 c12_1_1 ap38
     have := c12_1_1.size
     replace cA := Chg.step cA c12_1_1 Sub.refl
     have ap47 : Apart [h.size] fp := ap37
     have ap48 : Apart [h3_6.size] fp := ap38
     have hlho12_1_1 := hlho8_1_1
     refine plK_last (by decide) ?_
     try simp -implicitDefEqProofs (disch := first | decide | assumption | omega) only [go_sem, ia31]
     refine CallA.mono (sNext_ok _ _ (8 : Int) _ _ ho12_1_1) ?_
     intro v_ h12_3_1
     rintro ⟨x12_3_1, rfl, hx12_3_1, ho12_3_1, c12_3_1⟩
     replace hx12_3_1 := hx12_3_1 (by first | omega | (simp; done))
     have hsz12_3_1 := c12_3_1.size
     replace hb0_0 := BoxAt.chgA hb0_0 c12_3_1 ap47
     replace hb3_10 := BoxAt.chgA hb3_10 c12_3_1 ap48
     have := c12_3_1.size
     replace cA := Chg.step cA c12_3_1 Sub.refl
     have ap49 : Apart [h.size] fp := ap47
     have ap50 : Apart [h3_6.size] fp := ap48
     have hlho12_3_1 := hlho12_1_1
     refine plK_last (by decide) ?_
     try simp -implicitDefEqProofs (disch := first | decide | assumption | omega) only [go_sem]
     refine CallA.mono (sNext_ok _ _ (4 : Int) _ _ ho12_3_1) ?_
     intro v_ h12_5_1
     rintro ⟨x12_5_1, rfl, hx12_5_1, ho12_5_1, c12_5_1⟩
     replace hx12_5_1 := hx12_5_1 (by first | omega | (simp; done))
     have hsz12_5_1 := c12_5_1.size
     replace hb0_0 := BoxAt.chgA hb0_0 c12_5_1 ap49
     replace hb3_10 := BoxAt.chgA hb3_10 c12_5_1 ap50
     have := c12_5_1.size
     replace cA := Chg.step cA c12_5_1 Sub.refl
     have ap51 : Apart [h.size] fp := ap49
     have ap52 : Apart [h3_6.size] fp := ap50
     have hlho12_5_1 := hlho12_3_1
     refine plK_last (by decide) ?_
     try simp -implicitDefEqProofs (disch := first | decide | assumption | omega) only [go_sem, ia30, cv_i64, wrap_u8]
     refine op_storeB (o := 18 + (x12_1_1).toNat * 8 + (x12_3_1).toNat) (vs := #[.int .u8 x12_5_1]) (cs' := dgA ({ nmL (([([112, 111, 105, 110, 116]), ([99, 105, 114, 99, 108, 101]), ([116, 111, 114, 117, 115]), ([100, 105, 115, 99]), ([99, 105, 114, 99, 108, 101]), ([100, 105, 115, 99])]).getD (x3_2).toNat []) x2_2 with dif := (updF ((nmL (([([112, 111, 105, 110, 116]), ([99, 105, 114, 99, 108, 101]), ([116, 111, 114, 117, 115]), ([100, 105, 115, 99]), ([99, 105, 114, 99, 108, 101]), ([100, 105, 115, 99])]).getD (x3_2).toNat []) x2_2).dif) (x12_1_1).toNat (upd ((nmL (([([112, 111, 105, 110, 116]), ([99, 105, 114, 99, 108, 101]), ([116, 111, 114, 117, 115]), ([100, 105, 115, 99]), ([99, 105, 114, 99, 108, 101]), ([100, 105, 115, 99])]).getD (x3_2).toNat []) x2_2).dif (x12_1_1).toNat) (x12_3_1).toNat x12_5_1)) })) st5 hb3_10 rfl rfl rfl (by rw [dgA_sz]; omega) u8_one (dg_difB (X := nmL (([([112, 111, 105, 110, 116]), ([99, 105, 114, 99, 108, 101]), ([116, 111, 114, 117, 115]), ([100, 105, 115, 99]), ([99, 105, 114, 99, 108, 101]), ([100, 105, 115, 99])]).getD (x3_2).toNat []) x2_2) (by omega) (by omega)) ?_
     intro h12_10_1 hb3_10 c12_10_1
     replace ho12_5_1 := OSr.chg ho12_5_1 c12_10_1 (Apart.symm ap52) (ge_of hfhb3_10 (by omega))
     replace hb0_0 := BoxAt.chgA hb0_0 c12_10_1 (apart_lt hlhb0_0 hfhb3_10 (by omega))
     have := c12_10_1.size
     replace cA := Chg.step cA c12_10_1 (Sub.fresh hfhb3_10 (by omega))
     try simp (disch := decide) only [outv_none]
     refine plK_last (by decide) ?_
     try simp -implicitDefEqProofs (disch := first | decide | assumption | omega) only [go_sem]
     refine hK _ _ ?_
     clear hK K
     refine den_blk ?_
     refine den_seq ?_
     refine den_region TTok ?_
     intro K hK
     simp -implicitDefEqProofs (disch := first | decide | assumption | omega) only [go_sem, BoxAt.dgL hb3_10]
     generalize hDA17_1_6 : dgA ({ nmL (([([112, 111, 105, 110, 116]), ([99, 105, 114, 99, 108, 101]), ([116, 111, 114, 117, 115]), ([100, 105, 115, 99]), ([99, 105, 114, 99, 108, 101]), ([100, 105, 115, 99])]).getD (x3_2).toNat []) x2_2 with dif := (updF ((nmL (([([112, 111, 105, 110, 116]), ([99, 105, 114, 99, 108, 101]), ([116, 111, 114, 117, 115]), ([100, 105, 115, 99]), ([99, 105, 114, 99, 108, 101]), ([100, 105, 115, 99])]).getD (x3_2).toNat []) x2_2).dif) (x12_1_1).toNat (upd ((nmL (([([112, 111, 105, 110, 116]), ([99, 105, 114, 99, 108, 101]), ([116, 111, 114, 117, 115]), ([100, 105, 115, 99]), ([99, 105, 114, 99, 108, 101]), ([100, 105, 115, 99])]).getD (x3_2).toNat []) x2_2).dif (x12_1_1).toNat) (x12_3_1).toNat x12_5_1)) }) = DA17_1_6
     refine op_storeB (o := 0) (vs := DA17_1_6) (cs' := DA17_1_6) st34 hb0_0 rfl rfl (by rw [← hDA17_1_6]; exact dgA_sz _) (by rw [dgA_sz]; decide) (by rw [← hDA17_1_6]; exact dgA_one) (by rw [← hDA17_1_6]; exact dgA_all) ?_
     intro h17_1_6 hb0_0 c17_1_6
     subst hDA17_1_6
     replace ho12_5_1 := OSr.chg ho12_5_1 c17_1_6 (Apart.symm ap51) (ge_of hfhb0_0 (by omega))
     replace hb3_10 := BoxAt.chgA hb3_10 c17_1_6 (apart_gt hfhb3_10 hlhb0_0 (by omega))
     have := c17_1_6.size
     replace cA := Chg.step cA c17_1_6 (Sub.fresh hfhb0_0 (by omega))
     try simp -implicitDefEqProofs (disch := first | decide | assumption | omega) only [go_sem]
     refine hK _ _ ?_
     clear hK K
     refine den_ret ?_
     simp -implicitDefEqProofs (disch := first | decide | assumption | omega) only [go_sem, BoxAt.dgL hb0_0, resP_c1]
     exact ⟨_, rfl, (db_dif (nmL_db _ (by omega)) (by omega)), ho12_5_1, cA⟩
    ·try simp only [beq_eq_false_iff_ne, ne_eq] at c6
     refine den_seq ?_
     refine den_region TTok ?_
     intro K hK
     simp -implicitDefEqProofs (disch := first | decide | assumption | omega) only [go_sem]
     refine hK _ _ ?_
     clear hK K
     refine den_cond rfl (fun c7 => ?_) (fun c7 => ?_)
     ·try simp only [beq_iff_eq] at c7
      refine den_region TTok ?_
      intro K hK
      simp -implicitDefEqProofs (disch := first | decide | assumption | omega) only [go_sem]
      refine CallA.mono (sNext_ok _ _ (8 : Int) _ _ ho8_1_1) ?_
      intro v_ h14_1_1
      rintro ⟨x14_1_1, rfl, hx14_1_1, ho14_1_1, c14_1_1⟩
      replace hx14_1_1 := hx14_1_1 (by first | omega | (simp; done))
      have hsz14_1_1 := c14_1_1.size
      replace hb0_0 := BoxAt.chgA hb0_0 c14_1_1 ap37
      replace hb3_10 := BoxAt.chgA hb3_10 c14_1_1 ap38
      have := c14_1_1.size
      replace cA := Chg.step cA c14_1_1 Sub.refl
      have ap53 : Apart [h.size] fp := ap37
      have ap54 : Apart [h3_6.size] fp := ap38
      have hlho14_1_1 := hlho8_1_1
      refine op_bsI3 (a0 := (0 : Int)) (a1 := (5 : Int)) (a2 := (6 : Int)) rfl rfl rfl ?_
      intro v14_3_1 h14_3_1 ho14_3_1 e14_3_1
      replace ho14_1_1 := OSr.ext ho14_1_1 e14_3_1
      replace hb0_0 := BoxAt.ext hb0_0 e14_3_1
      replace hb3_10 := BoxAt.ext hb3_10 e14_3_1
      have := Ext.size e14_3_1
      replace cA := Chg.stepE cA e14_3_1
      have hlenho14_3_1 : ([(0 : Int), (5 : Int), (6 : Int)] : List Int).length = 3 := rfl
      have hfho14_3_1 : Fresh h14_1_1.size [h14_1_1.size] := Fresh.one _
      have hlho14_3_1 := OS.lt ho14_3_1
      try simp -implicitDefEqProofs (disch := first | decide | assumption | omega) only [go_sem]
      refine CallA.mono (sPick_ok _ _ ([(0 : Int), (5 : Int), (6 : Int)]) _ _ _ _ ho14_1_1 (hfr.mono (by omega)) ho14_3_1 (apart_gt hfho14_3_1 hlho14_1_1 (by omega)) (by simp) (by simp)) ?_
      intro v_ h14_4_1
      rintro ⟨x14_4_1, rfl, hx14_4_1, ho14_4_1, c14_4_1⟩
      simp only [List.mem_cons, List.not_mem_nil, or_false] at hx14_4_1
      have hsz14_4_1 := c14_4_1.size
      replace ho14_3_1 := OS.chg ho14_3_1 c14_4_1 (apart_gt hfho14_3_1 hlho14_1_1 (by omega))
      replace hb0_0 := BoxAt.chgA hb0_0 c14_4_1 ap53
      replace hb3_10 := BoxAt.chgA hb3_10 c14_4_1 ap54
      have := c14_4_1.size
      replace cA := Chg.step cA c14_4_1 Sub.refl
      have ap55 : Apart [h14_1_1.size] fp := (apart_gt hfho14_3_1 hlho14_1_1 (by omega))
      have ap56 : Apart [h.size] fp := ap53
      have ap57 : Apart [h3_6.size] fp := ap54
      have hlho14_4_1 := hlho14_1_1
      try simp -implicitDefEqProofs (disch := first | decide | assumption | omega) only [go_sem, fa34_3, ia22, Nat.zero_add]
      refine op_storeB (o := 10 + (x14_1_1).toNat) (vs := #[.int .i64 x14_4_1]) (cs' := dgA ({ nmL (([([112, 111, 105, 110, 116]), ([99, 105, 114, 99, 108, 101]), ([116, 111, 114, 117, 115]), ([100, 105, 115, 99]), ([99, 105, 114, 99, 108, 101]), ([100, 105, 115, 99])]).getD (x3_2).toNat []) x2_2 with lev := (upd ((nmL (([([112, 111, 105, 110, 116]), ([99, 105, 114, 99, 108, 101]), ([116, 111, 114, 117, 115]), ([100, 105, 115, 99]), ([99, 105, 114, 99, 108, 101]), ([100, 105, 115, 99])]).getD (x3_2).toNat []) x2_2).lev) (x14_1_1).toNat x14_4_1) })) st2 hb3_10 rfl rfl rfl (by rw [dgA_sz]; omega) i64_one (dg_levI (X := nmL (([([112, 111, 105, 110, 116]), ([99, 105, 114, 99, 108, 101]), ([116, 111, 114, 117, 115]), ([100, 105, 115, 99]), ([99, 105, 114, 99, 108, 101]), ([100, 105, 115, 99])]).getD (x3_2).toNat []) x2_2) (by omega)) ?_
      intro h14_7_1 hb3_10 c14_7_1
      replace ho14_3_1 := OS.chg ho14_3_1 c14_7_1 (apart_gt hfho14_3_1 hlhb3_10 (by omega))
      replace ho14_4_1 := OSr.chg ho14_4_1 c14_7_1 (Apart.symm ap57) (ge_of hfhb3_10 (by omega))
      replace hb0_0 := BoxAt.chgA hb0_0 c14_7_1 (apart_lt hlhb0_0 hfhb3_10 (by omega))
      have := c14_7_1.size
      replace cA := Chg.step cA c14_7_1 (Sub.fresh hfhb3_10 (by omega))
      try simp -implicitDefEqProofs (disch := first | decide | assumption | omega) only [go_sem]
      refine hK _ _ ?_
      clear hK K
      refine den_blk ?_
      refine den_seq ?_
      refine den_region TTok ?_
      intro K hK
      simp -implicitDefEqProofs (disch := first | decide | assumption | omega) only [go_sem, BoxAt.dgL hb3_10]
      generalize hDA17_1_7 : dgA ({ nmL (([([112, 111, 105, 110, 116]), ([99, 105, 114, 99, 108, 101]), ([116, 111, 114, 117, 115]), ([100, 105, 115, 99]), ([99, 105, 114, 99, 108, 101]), ([100, 105, 115, 99])]).getD (x3_2).toNat []) x2_2 with lev := (upd ((nmL (([([112, 111, 105, 110, 116]), ([99, 105, 114, 99, 108, 101]), ([116, 111, 114, 117, 115]), ([100, 105, 115, 99]), ([99, 105, 114, 99, 108, 101]), ([100, 105, 115, 99])]).getD (x3_2).toNat []) x2_2).lev) (x14_1_1).toNat x14_4_1) }) = DA17_1_7
      refine op_storeB (o := 0) (vs := DA17_1_7) (cs' := DA17_1_7) st34 hb0_0 rfl rfl (by rw [← hDA17_1_7]; exact dgA_sz _) (by rw [dgA_sz]; decide) (by rw [← hDA17_1_7]; exact dgA_one) (by rw [← hDA17_1_7]; exact dgA_all) ?_
      intro h17_1_7 hb0_0 c17_1_7
      subst hDA17_1_7
      replace ho14_4_1 := OSr.chg ho14_4_1 c17_1_7 (Apart.symm ap56) (ge_of hfhb0_0 (by omega))
      replace hb3_10 := BoxAt.chgA hb3_10 c17_1_7 (apart_gt hfhb3_10 hlhb0_0 (by omega))
      have := c17_1_7.size
      replace cA := Chg.step cA c17_1_7 (Sub.fresh hfhb0_0 (by omega))
      try simp -implicitDefEqProofs (disch := first | decide | assumption | omega) only [go_sem]
      refine hK _ _ ?_
      clear hK K
      refine den_ret ?_
      simp -implicitDefEqProofs (disch := first | decide | assumption | omega) only [go_sem, BoxAt.dgL hb0_0, resP_c1]
      exact ⟨_, rfl, (db_lev (nmL_db _ (by omega)) (by omega)), ho14_4_1, cA⟩
     ·try simp only [beq_eq_false_iff_ne, ne_eq] at c7
      refine den_seq ?_
      refine den_region TTok ?_
      intro K hK
      simp -implicitDefEqProofs (disch := first | decide | assumption | omega) only [go_sem]
      refine hK _ _ ?_
      clear hK K
      refine den_cond rfl (fun c8 => ?_) (fun c8 => ?_)
      ·try simp only [beq_iff_eq] at c8
       have hEs := nmL_s (([([112, 111, 105, 110, 116]), ([99, 105, 114, 99, 108, 101]), ([116, 111, 114, 117, 115]), ([100, 105, 115, 99]), ([99, 105, 114, 99, 108, 101]), ([100, 105, 115, 99])]).getD (x3_2).toNat []) x2_2
       refine den_region TTok ?_
       intro K hK
       simp -implicitDefEqProofs (disch := first | decide | assumption | omega) only [go_sem, fa34_1, ld2, BoxAt.dgS hb3_10, wrap_id, Nat.zero_add]
       refine op_bsI3 (a0 := (0 : Int)) (a1 := (9 : Int)) (a2 := (((nmL (([([112, 111, 105, 110, 116]), ([99, 105, 114, 99, 108, 101]), ([116, 111, 114, 117, 115]), ([100, 105, 115, 99]), ([99, 105, 114, 99, 108, 101]), ([100, 105, 115, 99])]).getD (x3_2).toNat []) x2_2).s) + (1 : Int))) rfl rfl rfl ?_
       intro v16_4_1 h16_4_1 ho16_4_1 e16_4_1
       replace ho8_1_1 := OSr.ext ho8_1_1 e16_4_1
       replace hb0_0 := BoxAt.ext hb0_0 e16_4_1
       replace hb3_10 := BoxAt.ext hb3_10 e16_4_1
       have := Ext.size e16_4_1
       replace cA := Chg.stepE cA e16_4_1
       have hlenho16_4_1 : ([(0 : Int), (9 : Int), (((nmL (([([112, 111, 105, 110, 116]), ([99, 105, 114, 99, 108, 101]), ([116, 111, 114, 117, 115]), ([100, 105, 115, 99]), ([99, 105, 114, 99, 108, 101]), ([100, 105, 115, 99])]).getD (x3_2).toNat []) x2_2).s) + (1 : Int))] : List Int).length = 3 := rfl
       have hfho16_4_1 : Fresh h8_1_1.size [h8_1_1.size] := Fresh.one _
       have hlho16_4_1 := OS.lt ho16_4_1
       try simp -implicitDefEqProofs (disch := first | decide | assumption | omega) only [go_sem]
       refine CallA.mono (sPick_ok _ _ ([(0 : Int), (9 : Int), (((nmL (([([112, 111, 105, 110, 116]), ([99, 105, 114, 99, 108, 101]), ([116, 111, 114, 117, 115]), ([100, 105, 115, 99]), ([99, 105, 114, 99, 108, 101]), ([100, 105, 115, 99])]).getD (x3_2).toNat []) x2_2).s) + (1 : Int))]) _ _ _ _ ho8_1_1 (hfr.mono (by omega)) ho16_4_1 (apart_gt hfho16_4_1 hlho8_1_1 (by omega)) (by simp) (by simp)) ?_
       intro v_ h16_5_1
       rintro ⟨x16_5_1, rfl, hx16_5_1, ho16_5_1, c16_5_1⟩
       simp only [List.mem_cons, List.not_mem_nil, or_false] at hx16_5_1
       have hsz16_5_1 := c16_5_1.size
       replace ho16_4_1 := OS.chg ho16_4_1 c16_5_1 (apart_gt hfho16_4_1 hlho8_1_1 (by omega))
       replace hb0_0 := BoxAt.chgA hb0_0 c16_5_1 ap37
       replace hb3_10 := BoxAt.chgA hb3_10 c16_5_1 ap38
       have := c16_5_1.size
       replace cA := Chg.step cA c16_5_1 Sub.refl
       have ap58 : Apart [h8_1_1.size] fp := (apart_gt hfho16_4_1 hlho8_1_1 (by omega))
       have ap59 : Apart [h.size] fp := ap37
       have ap60 : Apart [h3_6.size] fp := ap38
       have hlho16_5_1 := hlho8_1_1
       try simp -implicitDefEqProofs (disch := first | decide | assumption | omega) only [go_sem, fa34_1, Nat.zero_add]
       refine op_storeB (o := 1) (vs := #[.int .i64 x16_5_1]) (cs' := dgA ({ nmL (([([112, 111, 105, 110, 116]), ([99, 105, 114, 99, 108, 101]), ([116, 111, 114, 117, 115]), ([100, 105, 115, 99]), ([99, 105, 114, 99, 108, 101]), ([100, 105, 115, 99])]).getD (x3_2).toNat []) x2_2 with s := x16_5_1 })) st2 hb3_10 rfl rfl rfl (by rw [dgA_sz]; decide) i64_one dg_s ?_
       intro h16_7_1 hb3_10 c16_7_1
       replace ho16_4_1 := OS.chg ho16_4_1 c16_7_1 (apart_gt hfho16_4_1 hlhb3_10 (by omega))
       replace ho16_5_1 := OSr.chg ho16_5_1 c16_7_1 (Apart.symm ap60) (ge_of hfhb3_10 (by omega))
       replace hb0_0 := BoxAt.chgA hb0_0 c16_7_1 (apart_lt hlhb0_0 hfhb3_10 (by omega))
       have := c16_7_1.size
       replace cA := Chg.step cA c16_7_1 (Sub.fresh hfhb3_10 (by omega))
       try simp -implicitDefEqProofs (disch := first | decide | assumption | omega) only [go_sem]
       refine hK _ _ ?_
       clear hK K
       refine den_blk ?_
       refine den_seq ?_
       refine den_region TTok ?_
       intro K hK
       simp -implicitDefEqProofs (disch := first | decide | assumption | omega) only [go_sem, BoxAt.dgL hb3_10]
       generalize hDA17_1_8 : dgA ({ nmL (([([112, 111, 105, 110, 116]), ([99, 105, 114, 99, 108, 101]), ([116, 111, 114, 117, 115]), ([100, 105, 115, 99]), ([99, 105, 114, 99, 108, 101]), ([100, 105, 115, 99])]).getD (x3_2).toNat []) x2_2 with s := x16_5_1 }) = DA17_1_8
       refine op_storeB (o := 0) (vs := DA17_1_8) (cs' := DA17_1_8) st34 hb0_0 rfl rfl (by rw [← hDA17_1_8]; exact dgA_sz _) (by rw [dgA_sz]; decide) (by rw [← hDA17_1_8]; exact dgA_one) (by rw [← hDA17_1_8]; exact dgA_all) ?_
       intro h17_1_8 hb0_0 c17_1_8
       subst hDA17_1_8
       replace ho16_5_1 := OSr.chg ho16_5_1 c17_1_8 (Apart.symm ap59) (ge_of hfhb0_0 (by omega))
       replace hb3_10 := BoxAt.chgA hb3_10 c17_1_8 (apart_gt hfhb3_10 hlhb0_0 (by omega))
       have := c17_1_8.size
       replace cA := Chg.step cA c17_1_8 (Sub.fresh hfhb0_0 (by omega))
       try simp -implicitDefEqProofs (disch := first | decide | assumption | omega) only [go_sem]
       refine hK _ _ ?_
       clear hK K
       refine den_ret ?_
       simp -implicitDefEqProofs (disch := first | decide | assumption | omega) only [go_sem, BoxAt.dgL hb0_0, resP_c1]
       exact ⟨_, rfl, (db_s (nmL_db _ (by omega))), ho16_5_1, cA⟩
      ·try simp only [beq_eq_false_iff_ne, ne_eq] at c8
       refine den_skip ?_
       refine den_blk ?_
       refine den_seq ?_
       refine den_region TTok ?_
       intro K hK
       simp -implicitDefEqProofs (disch := first | decide | assumption | omega) only [go_sem, BoxAt.dgL hb3_10]
       generalize hDA17_1_9 : dgA (nmL (([([112, 111, 105, 110, 116]), ([99, 105, 114, 99, 108, 101]), ([116, 111, 114, 117, 115]), ([100, 105, 115, 99]), ([99, 105, 114, 99, 108, 101]), ([100, 105, 115, 99])]).getD (x3_2).toNat []) x2_2) = DA17_1_9
       refine op_storeB (o := 0) (vs := DA17_1_9) (cs' := DA17_1_9) st34 hb0_0 rfl rfl (by rw [← hDA17_1_9]; exact dgA_sz _) (by rw [dgA_sz]; decide) (by rw [← hDA17_1_9]; exact dgA_one) (by rw [← hDA17_1_9]; exact dgA_all) ?_
       intro h17_1_9 hb0_0 c17_1_9
       subst hDA17_1_9
       replace ho8_1_1 := OSr.chg ho8_1_1 c17_1_9 (Apart.symm ap37) (ge_of hfhb0_0 (by omega))
       replace hb3_10 := BoxAt.chgA hb3_10 c17_1_9 (apart_gt hfhb3_10 hlhb0_0 (by omega))
       have := c17_1_9.size
       replace cA := Chg.step cA c17_1_9 (Sub.fresh hfhb0_0 (by omega))
       try simp -implicitDefEqProofs (disch := first | decide | assumption | omega) only [go_sem]
       refine hK _ _ ?_
       clear hK K
       refine den_ret ?_
       simp -implicitDefEqProofs (disch := first | decide | assumption | omega) only [go_sem, BoxAt.dgL hb0_0, resP_c1]
       exact ⟨_, rfl, (nmL_db _ (by omega)), ho8_1_1, cA⟩
 ·try simp -implicitDefEqProofs (disch := first | decide | assumption | (simp (disch := decide) only [gvA, eq_self, if_true, if_false, Bool.false_eq_true, g9]; done) | omega) only [go_sem, g9, if_false, Bool.false_eq_true]
  refine hK _ _ ?_
  clear hK K
  refine den_cond rfl (fun c9 => ?_) (fun c9 => ?_)
  ·first | (cases c9; done) | exact absurd c9 (by simp)
  ·try simp only [] at c9
   refine den_skip ?_
   refine den_seq ?_
   refine den_seq ?_
   refine den_region TTok ?_
   intro K hK
   simp -implicitDefEqProofs (disch := first | decide | assumption | omega) only [go_sem]
   refine CallA.mono (sNext_ok _ _ (40 : Int) _ _ ho4_2) ?_
   intro v_ h8_1_2
   rintro ⟨x8_1_2, rfl, hx8_1_2, ho8_1_2, c8_1_2⟩
   replace hx8_1_2 := hx8_1_2 (by first | omega | (simp; done))
   have hsz8_1_2 := c8_1_2.size
   replace hb0_0 := BoxAt.chgA hb0_0 c8_1_2 ap7
   replace hb3_10 := BoxAt.chgA hb3_10 c8_1_2 ap8
   have := c8_1_2.size
   replace cA := Chg.step cA c8_1_2 Sub.refl
   have ap61 : Apart [h.size] fp := ap7
   have ap62 : Apart [h3_6.size] fp := ap8
   have hlho8_1_2 := hlho4_2
   refine hK _ _ ?_
   clear hK K
   refine den_block ?_
   refine den_seq ?_
   refine den_region TTok ?_
   intro K hK
   simp -implicitDefEqProofs (disch := first | decide | assumption | omega) only [go_sem]
   refine hK _ _ ?_
   clear hK K
   refine den_cond rfl (fun c10 => ?_) (fun c10 => ?_)
   ·try simp only [beq_iff_eq] at c10
    refine den_draw TTok mixed [1, 3, 5, 7, 13] [(0, true), (2, true), (4, true), (6, true), (9, true), (1, false), (10, true), (3, false), (11, true), (5, false), (7, false), (8, true), (12, true), (13, false)] (by kernel_rfl) ?_
    intro K hK
    simp -implicitDefEqProofs (disch := first | decide | assumption | omega) only [go_sem, fa34_5, Nat.zero_add]
    refine CallA.mono (sNext_ok _ _ (8 : Int) _ _ ho8_1_2) ?_
    intro v_ h10_1_2
    rintro ⟨x10_1_2, rfl, hx10_1_2, ho10_1_2, c10_1_2⟩
    replace hx10_1_2 := hx10_1_2 (by first | omega | (simp; done))
    have hsz10_1_2 := c10_1_2.size
    replace hb0_0 := BoxAt.chgA hb0_0 c10_1_2 ap61
    replace hb3_10 := BoxAt.chgA hb3_10 c10_1_2 ap62
    have := c10_1_2.size
    replace cA := Chg.step cA c10_1_2 Sub.refl
    have ap63 : Apart [h.size] fp := ap61
    have ap64 : Apart [h3_6.size] fp := ap62
    have hlho10_1_2 := hlho8_1_2
    refine plK_last (by decide) ?_
    try simp -implicitDefEqProofs (disch := first | decide | assumption | omega) only [go_sem, ia32]
    refine CallA.mono (sNext_ok _ _ (8 : Int) _ _ ho10_1_2) ?_
    intro v_ h10_3_2
    rintro ⟨x10_3_2, rfl, hx10_3_2, ho10_3_2, c10_3_2⟩
    replace hx10_3_2 := hx10_3_2 (by first | omega | (simp; done))
    have hsz10_3_2 := c10_3_2.size
    replace hb0_0 := BoxAt.chgA hb0_0 c10_3_2 ap63
    replace hb3_10 := BoxAt.chgA hb3_10 c10_3_2 ap64
    have := c10_3_2.size
    replace cA := Chg.step cA c10_3_2 Sub.refl
    have ap65 : Apart [h.size] fp := ap63
    have ap66 : Apart [h3_6.size] fp := ap64
    have hlho10_3_2 := hlho10_1_2
    refine plK_last (by decide) ?_
    try simp -implicitDefEqProofs (disch := first | decide | assumption | omega) only [go_sem, ia31]
    refine CallA.mono (sNext_ok _ _ (8 : Int) _ _ ho10_3_2) ?_
    intro v_ h10_5_2
    rintro ⟨x10_5_2, rfl, hx10_5_2, ho10_5_2, c10_5_2⟩
    replace hx10_5_2 := hx10_5_2 (by first | omega | (simp; done))
    have hsz10_5_2 := c10_5_2.size
    replace hb0_0 := BoxAt.chgA hb0_0 c10_5_2 ap65
    replace hb3_10 := BoxAt.chgA hb3_10 c10_5_2 ap66
    have := c10_5_2.size
    replace cA := Chg.step cA c10_5_2 Sub.refl
    have ap67 : Apart [h.size] fp := ap65
    have ap68 : Apart [h3_6.size] fp := ap66
    have hlho10_5_2 := hlho10_3_2
    refine plK_last (by decide) ?_
    try simp -implicitDefEqProofs (disch := first | decide | assumption | omega) only [go_sem]
    refine CallA.mono (sNext_ok _ _ (4 : Int) _ _ ho10_5_2) ?_
    intro v_ h10_7_2
    rintro ⟨x10_7_2, rfl, hx10_7_2, ho10_7_2, c10_7_2⟩
    replace hx10_7_2 := hx10_7_2 (by first | omega | (simp; done))
    have hsz10_7_2 := c10_7_2.size
    replace hb0_0 := BoxAt.chgA hb0_0 c10_7_2 ap67
    replace hb3_10 := BoxAt.chgA hb3_10 c10_7_2 ap68
    have := c10_7_2.size
    replace cA := Chg.step cA c10_7_2 Sub.refl
    have ap69 : Apart [h.size] fp := ap67
    have ap70 : Apart [h3_6.size] fp := ap68
    have hlho10_7_2 := hlho10_5_2
    refine plK_last (by decide) ?_
    try simp -implicitDefEqProofs (disch := first | decide | assumption | omega) only [go_sem, ia30, cv_i64, wrap_u8]
    refine op_storeB (o := 82 + (x10_1_2).toNat * 64 + (x10_3_2).toNat * 8 + (x10_5_2).toNat) (vs := #[.int .u8 x10_7_2]) (cs' := dgA ({ nmL (([([112, 111, 105, 110, 116]), ([99, 105, 114, 99, 108, 101]), ([116, 111, 114, 117, 115]), ([100, 105, 115, 99]), ([99, 105, 114, 99, 108, 101]), ([100, 105, 115, 99])]).getD (x3_2).toNat []) x2_2 with tab := (updF ((nmL (([([112, 111, 105, 110, 116]), ([99, 105, 114, 99, 108, 101]), ([116, 111, 114, 117, 115]), ([100, 105, 115, 99]), ([99, 105, 114, 99, 108, 101]), ([100, 105, 115, 99])]).getD (x3_2).toNat []) x2_2).tab) (x10_1_2).toNat (updF ((nmL (([([112, 111, 105, 110, 116]), ([99, 105, 114, 99, 108, 101]), ([116, 111, 114, 117, 115]), ([100, 105, 115, 99]), ([99, 105, 114, 99, 108, 101]), ([100, 105, 115, 99])]).getD (x3_2).toNat []) x2_2).tab (x10_1_2).toNat) (x10_3_2).toNat (upd (((nmL (([([112, 111, 105, 110, 116]), ([99, 105, 114, 99, 108, 101]), ([116, 111, 114, 117, 115]), ([100, 105, 115, 99]), ([99, 105, 114, 99, 108, 101]), ([100, 105, 115, 99])]).getD (x3_2).toNat []) x2_2).tab (x10_1_2).toNat) (x10_3_2).toNat) (x10_5_2).toNat x10_7_2))) })) st5 hb3_10 rfl rfl rfl (by rw [dgA_sz]; omega) u8_one (dg_tabB (X := nmL (([([112, 111, 105, 110, 116]), ([99, 105, 114, 99, 108, 101]), ([116, 111, 114, 117, 115]), ([100, 105, 115, 99]), ([99, 105, 114, 99, 108, 101]), ([100, 105, 115, 99])]).getD (x3_2).toNat []) x2_2) (by omega) (by omega) (by omega)) ?_
    intro h10_13_2 hb3_10 c10_13_2
    replace ho10_7_2 := OSr.chg ho10_7_2 c10_13_2 (Apart.symm ap70) (ge_of hfhb3_10 (by omega))
    replace hb0_0 := BoxAt.chgA hb0_0 c10_13_2 (apart_lt hlhb0_0 hfhb3_10 (by omega))
    have := c10_13_2.size
    replace cA := Chg.step cA c10_13_2 (Sub.fresh hfhb3_10 (by omega))
    try simp (disch := decide) only [outv_none]
    refine plK_last (by decide) ?_
    try simp -implicitDefEqProofs (disch := first | decide | assumption | omega) only [go_sem]
    refine hK _ _ ?_
    clear hK K
    refine den_blk ?_
    refine den_seq ?_
    refine den_region TTok ?_
    intro K hK
    simp -implicitDefEqProofs (disch := first | decide | assumption | omega) only [go_sem, BoxAt.dgL hb3_10]
    generalize hDA17_1_10 : dgA ({ nmL (([([112, 111, 105, 110, 116]), ([99, 105, 114, 99, 108, 101]), ([116, 111, 114, 117, 115]), ([100, 105, 115, 99]), ([99, 105, 114, 99, 108, 101]), ([100, 105, 115, 99])]).getD (x3_2).toNat []) x2_2 with tab := (updF ((nmL (([([112, 111, 105, 110, 116]), ([99, 105, 114, 99, 108, 101]), ([116, 111, 114, 117, 115]), ([100, 105, 115, 99]), ([99, 105, 114, 99, 108, 101]), ([100, 105, 115, 99])]).getD (x3_2).toNat []) x2_2).tab) (x10_1_2).toNat (updF ((nmL (([([112, 111, 105, 110, 116]), ([99, 105, 114, 99, 108, 101]), ([116, 111, 114, 117, 115]), ([100, 105, 115, 99]), ([99, 105, 114, 99, 108, 101]), ([100, 105, 115, 99])]).getD (x3_2).toNat []) x2_2).tab (x10_1_2).toNat) (x10_3_2).toNat (upd (((nmL (([([112, 111, 105, 110, 116]), ([99, 105, 114, 99, 108, 101]), ([116, 111, 114, 117, 115]), ([100, 105, 115, 99]), ([99, 105, 114, 99, 108, 101]), ([100, 105, 115, 99])]).getD (x3_2).toNat []) x2_2).tab (x10_1_2).toNat) (x10_3_2).toNat) (x10_5_2).toNat x10_7_2))) }) = DA17_1_10
    refine op_storeB (o := 0) (vs := DA17_1_10) (cs' := DA17_1_10) st34 hb0_0 rfl rfl (by rw [← hDA17_1_10]; exact dgA_sz _) (by rw [dgA_sz]; decide) (by rw [← hDA17_1_10]; exact dgA_one) (by rw [← hDA17_1_10]; exact dgA_all) ?_
    intro h17_1_10 hb0_0 c17_1_10
    subst hDA17_1_10
    replace ho10_7_2 := OSr.chg ho10_7_2 c17_1_10 (Apart.symm ap69) (ge_of hfhb0_0 (by omega))
    replace hb3_10 := BoxAt.chgA hb3_10 c17_1_10 (apart_gt hfhb3_10 hlhb0_0 (by omega))
    have := c17_1_10.size
    replace cA := Chg.step cA c17_1_10 (Sub.fresh hfhb0_0 (by omega))
    try simp -implicitDefEqProofs (disch := first | decide | assumption | omega) only [go_sem]
    refine hK _ _ ?_
    clear hK K
    refine den_ret ?_
    simp -implicitDefEqProofs (disch := first | decide | assumption | omega) only [go_sem, BoxAt.dgL hb0_0, resP_c1]
    exact ⟨_, rfl, (db_tab (nmL_db _ (by omega)) (by omega)), ho10_7_2, cA⟩
   ·try simp only [beq_eq_false_iff_ne, ne_eq] at c10
    refine den_seq ?_
    refine den_region TTok ?_
    intro K hK
    simp -implicitDefEqProofs (disch := first | decide | assumption | omega) only [go_sem]
    refine hK _ _ ?_
    clear hK K
    refine den_cond rfl (fun c11 => ?_) (fun c11 => ?_)
    ·try simp only [beq_iff_eq] at c11
     refine den_draw TTok mixed [1, 3, 5, 10] [(0, true), (2, true), (4, true), (7, true), (1, false), (8, true), (3, false), (5, false), (6, true), (9, true), (10, false)] (by kernel_rfl) ?_
     intro K hK
     simp -implicitDefEqProofs (disch := first | decide | assumption | omega) only [go_sem, fa34_4, Nat.zero_add]
     refine CallA.mono (sNext_ok _ _ (8 : Int) _ _ ho8_1_2) ?_
     intro v_ h12_1_2
     rintro ⟨x12_1_2, rfl, hx12_1_2, ho12_1_2, c12_1_2⟩
     replace hx12_1_2 := hx12_1_2 (by first | omega | (simp; done))
     have hsz12_1_2 := c12_1_2.size
     replace hb0_0 := BoxAt.chgA hb0_0 c12_1_2 ap61
     replace hb3_10 := BoxAt.chgA hb3_10 c12_1_2 ap62
     have := c12_1_2.size
     replace cA := Chg.step cA c12_1_2 Sub.refl
     have ap71 : Apart [h.size] fp := ap61
     have ap72 : Apart [h3_6.size] fp := ap62
     have hlho12_1_2 := hlho8_1_2
     refine plK_last (by decide) ?_
     try simp -implicitDefEqProofs (disch := first | decide | assumption | omega) only [go_sem, ia31]
     refine CallA.mono (sNext_ok _ _ (8 : Int) _ _ ho12_1_2) ?_
     intro v_ h12_3_2
     rintro ⟨x12_3_2, rfl, hx12_3_2, ho12_3_2, c12_3_2⟩
     replace hx12_3_2 := hx12_3_2 (by first | omega | (simp; done))
     have hsz12_3_2 := c12_3_2.size
     replace hb0_0 := BoxAt.chgA hb0_0 c12_3_2 ap71
     replace hb3_10 := BoxAt.chgA hb3_10 c12_3_2 ap72
     have := c12_3_2.size
     replace cA := Chg.step cA c12_3_2 Sub.refl
     have ap73 : Apart [h.size] fp := ap71
     have ap74 : Apart [h3_6.size] fp := ap72
     have hlho12_3_2 := hlho12_1_2
     refine plK_last (by decide) ?_
     try simp -implicitDefEqProofs (disch := first | decide | assumption | omega) only [go_sem]
     refine CallA.mono (sNext_ok _ _ (4 : Int) _ _ ho12_3_2) ?_
     intro v_ h12_5_2
     rintro ⟨x12_5_2, rfl, hx12_5_2, ho12_5_2, c12_5_2⟩
     replace hx12_5_2 := hx12_5_2 (by first | omega | (simp; done))
     have hsz12_5_2 := c12_5_2.size
     replace hb0_0 := BoxAt.chgA hb0_0 c12_5_2 ap73
     replace hb3_10 := BoxAt.chgA hb3_10 c12_5_2 ap74
     have := c12_5_2.size
     replace cA := Chg.step cA c12_5_2 Sub.refl
     have ap75 : Apart [h.size] fp := ap73
     have ap76 : Apart [h3_6.size] fp := ap74
     have hlho12_5_2 := hlho12_3_2
     refine plK_last (by decide) ?_
     try simp -implicitDefEqProofs (disch := first | decide | assumption | omega) only [go_sem, ia30, cv_i64, wrap_u8]
     refine op_storeB (o := 18 + (x12_1_2).toNat * 8 + (x12_3_2).toNat) (vs := #[.int .u8 x12_5_2]) (cs' := dgA ({ nmL (([([112, 111, 105, 110, 116]), ([99, 105, 114, 99, 108, 101]), ([116, 111, 114, 117, 115]), ([100, 105, 115, 99]), ([99, 105, 114, 99, 108, 101]), ([100, 105, 115, 99])]).getD (x3_2).toNat []) x2_2 with dif := (updF ((nmL (([([112, 111, 105, 110, 116]), ([99, 105, 114, 99, 108, 101]), ([116, 111, 114, 117, 115]), ([100, 105, 115, 99]), ([99, 105, 114, 99, 108, 101]), ([100, 105, 115, 99])]).getD (x3_2).toNat []) x2_2).dif) (x12_1_2).toNat (upd ((nmL (([([112, 111, 105, 110, 116]), ([99, 105, 114, 99, 108, 101]), ([116, 111, 114, 117, 115]), ([100, 105, 115, 99]), ([99, 105, 114, 99, 108, 101]), ([100, 105, 115, 99])]).getD (x3_2).toNat []) x2_2).dif (x12_1_2).toNat) (x12_3_2).toNat x12_5_2)) })) st5 hb3_10 rfl rfl rfl (by rw [dgA_sz]; omega) u8_one (dg_difB (X := nmL (([([112, 111, 105, 110, 116]), ([99, 105, 114, 99, 108, 101]), ([116, 111, 114, 117, 115]), ([100, 105, 115, 99]), ([99, 105, 114, 99, 108, 101]), ([100, 105, 115, 99])]).getD (x3_2).toNat []) x2_2) (by omega) (by omega)) ?_
     intro h12_10_2 hb3_10 c12_10_2
     replace ho12_5_2 := OSr.chg ho12_5_2 c12_10_2 (Apart.symm ap76) (ge_of hfhb3_10 (by omega))
     replace hb0_0 := BoxAt.chgA hb0_0 c12_10_2 (apart_lt hlhb0_0 hfhb3_10 (by omega))
     have := c12_10_2.size
     replace cA := Chg.step cA c12_10_2 (Sub.fresh hfhb3_10 (by omega))
     try simp (disch := decide) only [outv_none]
     refine plK_last (by decide) ?_
     try simp -implicitDefEqProofs (disch := first | decide | assumption | omega) only [go_sem]
     refine hK _ _ ?_
     clear hK K
     refine den_blk ?_
     refine den_seq ?_
     refine den_region TTok ?_
     intro K hK
     simp -implicitDefEqProofs (disch := first | decide | assumption | omega) only [go_sem, BoxAt.dgL hb3_10]
     generalize hDA17_1_11 : dgA ({ nmL (([([112, 111, 105, 110, 116]), ([99, 105, 114, 99, 108, 101]), ([116, 111, 114, 117, 115]), ([100, 105, 115, 99]), ([99, 105, 114, 99, 108, 101]), ([100, 105, 115, 99])]).getD (x3_2).toNat []) x2_2 with dif := (updF ((nmL (([([112, 111, 105, 110, 116]), ([99, 105, 114, 99, 108, 101]), ([116, 111, 114, 117, 115]), ([100, 105, 115, 99]), ([99, 105, 114, 99, 108, 101]), ([100, 105, 115, 99])]).getD (x3_2).toNat []) x2_2).dif) (x12_1_2).toNat (upd ((nmL (([([112, 111, 105, 110, 116]), ([99, 105, 114, 99, 108, 101]), ([116, 111, 114, 117, 115]), ([100, 105, 115, 99]), ([99, 105, 114, 99, 108, 101]), ([100, 105, 115, 99])]).getD (x3_2).toNat []) x2_2).dif (x12_1_2).toNat) (x12_3_2).toNat x12_5_2)) }) = DA17_1_11
     refine op_storeB (o := 0) (vs := DA17_1_11) (cs' := DA17_1_11) st34 hb0_0 rfl rfl (by rw [← hDA17_1_11]; exact dgA_sz _) (by rw [dgA_sz]; decide) (by rw [← hDA17_1_11]; exact dgA_one) (by rw [← hDA17_1_11]; exact dgA_all) ?_
     intro h17_1_11 hb0_0 c17_1_11
     subst hDA17_1_11
     replace ho12_5_2 := OSr.chg ho12_5_2 c17_1_11 (Apart.symm ap75) (ge_of hfhb0_0 (by omega))
     replace hb3_10 := BoxAt.chgA hb3_10 c17_1_11 (apart_gt hfhb3_10 hlhb0_0 (by omega))
     have := c17_1_11.size
     replace cA := Chg.step cA c17_1_11 (Sub.fresh hfhb0_0 (by omega))
     try simp -implicitDefEqProofs (disch := first | decide | assumption | omega) only [go_sem]
     refine hK _ _ ?_
     clear hK K
     refine den_ret ?_
     simp -implicitDefEqProofs (disch := first | decide | assumption | omega) only [go_sem, BoxAt.dgL hb0_0, resP_c1]
     exact ⟨_, rfl, (db_dif (nmL_db _ (by omega)) (by omega)), ho12_5_2, cA⟩
    ·try simp only [beq_eq_false_iff_ne, ne_eq] at c11
     refine den_seq ?_
     refine den_region TTok ?_
     intro K hK
     simp -implicitDefEqProofs (disch := first | decide | assumption | omega) only [go_sem]
     refine hK _ _ ?_
     clear hK K
     refine den_cond rfl (fun c12 => ?_) (fun c12 => ?_)
     ·try simp only [beq_iff_eq] at c12
      refine den_region TTok ?_
      intro K hK
      simp -implicitDefEqProofs (disch := first | decide | assumption | omega) only [go_sem]
      refine CallA.mono (sNext_ok _ _ (8 : Int) _ _ ho8_1_2) ?_
      intro v_ h14_1_2
      rintro ⟨x14_1_2, rfl, hx14_1_2, ho14_1_2, c14_1_2⟩
      replace hx14_1_2 := hx14_1_2 (by first | omega | (simp; done))
      have hsz14_1_2 := c14_1_2.size
      replace hb0_0 := BoxAt.chgA hb0_0 c14_1_2 ap61
      replace hb3_10 := BoxAt.chgA hb3_10 c14_1_2 ap62
      have := c14_1_2.size
      replace cA := Chg.step cA c14_1_2 Sub.refl
      have ap77 : Apart [h.size] fp := ap61
      have ap78 : Apart [h3_6.size] fp := ap62
      have hlho14_1_2 := hlho8_1_2
      refine op_bsI3 (a0 := (0 : Int)) (a1 := (5 : Int)) (a2 := (6 : Int)) rfl rfl rfl ?_
      intro v14_3_2 h14_3_2 ho14_3_2 e14_3_2
      replace ho14_1_2 := OSr.ext ho14_1_2 e14_3_2
      replace hb0_0 := BoxAt.ext hb0_0 e14_3_2
      replace hb3_10 := BoxAt.ext hb3_10 e14_3_2
      have := Ext.size e14_3_2
      replace cA := Chg.stepE cA e14_3_2
      have hlenho14_3_2 : ([(0 : Int), (5 : Int), (6 : Int)] : List Int).length = 3 := rfl
      have hfho14_3_2 : Fresh h14_1_2.size [h14_1_2.size] := Fresh.one _
      have hlho14_3_2 := OS.lt ho14_3_2
      try simp -implicitDefEqProofs (disch := first | decide | assumption | omega) only [go_sem]
      refine CallA.mono (sPick_ok _ _ ([(0 : Int), (5 : Int), (6 : Int)]) _ _ _ _ ho14_1_2 (hfr.mono (by omega)) ho14_3_2 (apart_gt hfho14_3_2 hlho14_1_2 (by omega)) (by simp) (by simp)) ?_
      intro v_ h14_4_2
      rintro ⟨x14_4_2, rfl, hx14_4_2, ho14_4_2, c14_4_2⟩
      simp only [List.mem_cons, List.not_mem_nil, or_false] at hx14_4_2
      have hsz14_4_2 := c14_4_2.size
      replace ho14_3_2 := OS.chg ho14_3_2 c14_4_2 (apart_gt hfho14_3_2 hlho14_1_2 (by omega))
      replace hb0_0 := BoxAt.chgA hb0_0 c14_4_2 ap77
      replace hb3_10 := BoxAt.chgA hb3_10 c14_4_2 ap78
      have := c14_4_2.size
      replace cA := Chg.step cA c14_4_2 Sub.refl
      have ap79 : Apart [h14_1_2.size] fp := (apart_gt hfho14_3_2 hlho14_1_2 (by omega))
      have ap80 : Apart [h.size] fp := ap77
      have ap81 : Apart [h3_6.size] fp := ap78
      have hlho14_4_2 := hlho14_1_2
      try simp -implicitDefEqProofs (disch := first | decide | assumption | omega) only [go_sem, fa34_3, ia22, Nat.zero_add]
      refine op_storeB (o := 10 + (x14_1_2).toNat) (vs := #[.int .i64 x14_4_2]) (cs' := dgA ({ nmL (([([112, 111, 105, 110, 116]), ([99, 105, 114, 99, 108, 101]), ([116, 111, 114, 117, 115]), ([100, 105, 115, 99]), ([99, 105, 114, 99, 108, 101]), ([100, 105, 115, 99])]).getD (x3_2).toNat []) x2_2 with lev := (upd ((nmL (([([112, 111, 105, 110, 116]), ([99, 105, 114, 99, 108, 101]), ([116, 111, 114, 117, 115]), ([100, 105, 115, 99]), ([99, 105, 114, 99, 108, 101]), ([100, 105, 115, 99])]).getD (x3_2).toNat []) x2_2).lev) (x14_1_2).toNat x14_4_2) })) st2 hb3_10 rfl rfl rfl (by rw [dgA_sz]; omega) i64_one (dg_levI (X := nmL (([([112, 111, 105, 110, 116]), ([99, 105, 114, 99, 108, 101]), ([116, 111, 114, 117, 115]), ([100, 105, 115, 99]), ([99, 105, 114, 99, 108, 101]), ([100, 105, 115, 99])]).getD (x3_2).toNat []) x2_2) (by omega)) ?_
      intro h14_7_2 hb3_10 c14_7_2
      replace ho14_3_2 := OS.chg ho14_3_2 c14_7_2 (apart_gt hfho14_3_2 hlhb3_10 (by omega))
      replace ho14_4_2 := OSr.chg ho14_4_2 c14_7_2 (Apart.symm ap81) (ge_of hfhb3_10 (by omega))
      replace hb0_0 := BoxAt.chgA hb0_0 c14_7_2 (apart_lt hlhb0_0 hfhb3_10 (by omega))
      have := c14_7_2.size
      replace cA := Chg.step cA c14_7_2 (Sub.fresh hfhb3_10 (by omega))
      try simp -implicitDefEqProofs (disch := first | decide | assumption | omega) only [go_sem]
      refine hK _ _ ?_
      clear hK K
      refine den_blk ?_
      refine den_seq ?_
      refine den_region TTok ?_
      intro K hK
      simp -implicitDefEqProofs (disch := first | decide | assumption | omega) only [go_sem, BoxAt.dgL hb3_10]
      generalize hDA17_1_12 : dgA ({ nmL (([([112, 111, 105, 110, 116]), ([99, 105, 114, 99, 108, 101]), ([116, 111, 114, 117, 115]), ([100, 105, 115, 99]), ([99, 105, 114, 99, 108, 101]), ([100, 105, 115, 99])]).getD (x3_2).toNat []) x2_2 with lev := (upd ((nmL (([([112, 111, 105, 110, 116]), ([99, 105, 114, 99, 108, 101]), ([116, 111, 114, 117, 115]), ([100, 105, 115, 99]), ([99, 105, 114, 99, 108, 101]), ([100, 105, 115, 99])]).getD (x3_2).toNat []) x2_2).lev) (x14_1_2).toNat x14_4_2) }) = DA17_1_12
      refine op_storeB (o := 0) (vs := DA17_1_12) (cs' := DA17_1_12) st34 hb0_0 rfl rfl (by rw [← hDA17_1_12]; exact dgA_sz _) (by rw [dgA_sz]; decide) (by rw [← hDA17_1_12]; exact dgA_one) (by rw [← hDA17_1_12]; exact dgA_all) ?_
      intro h17_1_12 hb0_0 c17_1_12
      subst hDA17_1_12
      replace ho14_4_2 := OSr.chg ho14_4_2 c17_1_12 (Apart.symm ap80) (ge_of hfhb0_0 (by omega))
      replace hb3_10 := BoxAt.chgA hb3_10 c17_1_12 (apart_gt hfhb3_10 hlhb0_0 (by omega))
      have := c17_1_12.size
      replace cA := Chg.step cA c17_1_12 (Sub.fresh hfhb0_0 (by omega))
      try simp -implicitDefEqProofs (disch := first | decide | assumption | omega) only [go_sem]
      refine hK _ _ ?_
      clear hK K
      refine den_ret ?_
      simp -implicitDefEqProofs (disch := first | decide | assumption | omega) only [go_sem, BoxAt.dgL hb0_0, resP_c1]
      exact ⟨_, rfl, (db_lev (nmL_db _ (by omega)) (by omega)), ho14_4_2, cA⟩
     ·try simp only [beq_eq_false_iff_ne, ne_eq] at c12
      refine den_seq ?_
      refine den_region TTok ?_
      intro K hK
      simp -implicitDefEqProofs (disch := first | decide | assumption | omega) only [go_sem]
      refine hK _ _ ?_
      clear hK K
      refine den_cond rfl (fun c13 => ?_) (fun c13 => ?_)
      ·try simp only [beq_iff_eq] at c13
       have hEs := nmL_s (([([112, 111, 105, 110, 116]), ([99, 105, 114, 99, 108, 101]), ([116, 111, 114, 117, 115]), ([100, 105, 115, 99]), ([99, 105, 114, 99, 108, 101]), ([100, 105, 115, 99])]).getD (x3_2).toNat []) x2_2
       refine den_region TTok ?_
       intro K hK
       simp -implicitDefEqProofs (disch := first | decide | assumption | omega) only [go_sem, fa34_1, ld2, BoxAt.dgS hb3_10, wrap_id, Nat.zero_add]
       refine op_bsI3 (a0 := (0 : Int)) (a1 := (9 : Int)) (a2 := (((nmL (([([112, 111, 105, 110, 116]), ([99, 105, 114, 99, 108, 101]), ([116, 111, 114, 117, 115]), ([100, 105, 115, 99]), ([99, 105, 114, 99, 108, 101]), ([100, 105, 115, 99])]).getD (x3_2).toNat []) x2_2).s) + (1 : Int))) rfl rfl rfl ?_
       intro v16_4_2 h16_4_2 ho16_4_2 e16_4_2
       replace ho8_1_2 := OSr.ext ho8_1_2 e16_4_2
       replace hb0_0 := BoxAt.ext hb0_0 e16_4_2
       replace hb3_10 := BoxAt.ext hb3_10 e16_4_2
       have := Ext.size e16_4_2
       replace cA := Chg.stepE cA e16_4_2
       have hlenho16_4_2 : ([(0 : Int), (9 : Int), (((nmL (([([112, 111, 105, 110, 116]), ([99, 105, 114, 99, 108, 101]), ([116, 111, 114, 117, 115]), ([100, 105, 115, 99]), ([99, 105, 114, 99, 108, 101]), ([100, 105, 115, 99])]).getD (x3_2).toNat []) x2_2).s) + (1 : Int))] : List Int).length = 3 := rfl
       have hfho16_4_2 : Fresh h8_1_2.size [h8_1_2.size] := Fresh.one _
       have hlho16_4_2 := OS.lt ho16_4_2
       try simp -implicitDefEqProofs (disch := first | decide | assumption | omega) only [go_sem]
       refine CallA.mono (sPick_ok _ _ ([(0 : Int), (9 : Int), (((nmL (([([112, 111, 105, 110, 116]), ([99, 105, 114, 99, 108, 101]), ([116, 111, 114, 117, 115]), ([100, 105, 115, 99]), ([99, 105, 114, 99, 108, 101]), ([100, 105, 115, 99])]).getD (x3_2).toNat []) x2_2).s) + (1 : Int))]) _ _ _ _ ho8_1_2 (hfr.mono (by omega)) ho16_4_2 (apart_gt hfho16_4_2 hlho8_1_2 (by omega)) (by simp) (by simp)) ?_
       intro v_ h16_5_2
       rintro ⟨x16_5_2, rfl, hx16_5_2, ho16_5_2, c16_5_2⟩
       simp only [List.mem_cons, List.not_mem_nil, or_false] at hx16_5_2
       have hsz16_5_2 := c16_5_2.size
       replace ho16_4_2 := OS.chg ho16_4_2 c16_5_2 (apart_gt hfho16_4_2 hlho8_1_2 (by omega))
       replace hb0_0 := BoxAt.chgA hb0_0 c16_5_2 ap61
       replace hb3_10 := BoxAt.chgA hb3_10 c16_5_2 ap62
       have := c16_5_2.size
       replace cA := Chg.step cA c16_5_2 Sub.refl
       have ap82 : Apart [h8_1_2.size] fp := (apart_gt hfho16_4_2 hlho8_1_2 (by omega))
       have ap83 : Apart [h.size] fp := ap61
       have ap84 : Apart [h3_6.size] fp := ap62
       have hlho16_5_2 := hlho8_1_2
       try simp -implicitDefEqProofs (disch := first | decide | assumption | omega) only [go_sem, fa34_1, Nat.zero_add]
       refine op_storeB (o := 1) (vs := #[.int .i64 x16_5_2]) (cs' := dgA ({ nmL (([([112, 111, 105, 110, 116]), ([99, 105, 114, 99, 108, 101]), ([116, 111, 114, 117, 115]), ([100, 105, 115, 99]), ([99, 105, 114, 99, 108, 101]), ([100, 105, 115, 99])]).getD (x3_2).toNat []) x2_2 with s := x16_5_2 })) st2 hb3_10 rfl rfl rfl (by rw [dgA_sz]; decide) i64_one dg_s ?_
       intro h16_7_2 hb3_10 c16_7_2
       replace ho16_4_2 := OS.chg ho16_4_2 c16_7_2 (apart_gt hfho16_4_2 hlhb3_10 (by omega))
       replace ho16_5_2 := OSr.chg ho16_5_2 c16_7_2 (Apart.symm ap84) (ge_of hfhb3_10 (by omega))
       replace hb0_0 := BoxAt.chgA hb0_0 c16_7_2 (apart_lt hlhb0_0 hfhb3_10 (by omega))
       have := c16_7_2.size
       replace cA := Chg.step cA c16_7_2 (Sub.fresh hfhb3_10 (by omega))
       try simp -implicitDefEqProofs (disch := first | decide | assumption | omega) only [go_sem]
       refine hK _ _ ?_
       clear hK K
       refine den_blk ?_
       refine den_seq ?_
       refine den_region TTok ?_
       intro K hK
       simp -implicitDefEqProofs (disch := first | decide | assumption | omega) only [go_sem, BoxAt.dgL hb3_10]
       generalize hDA17_1_13 : dgA ({ nmL (([([112, 111, 105, 110, 116]), ([99, 105, 114, 99, 108, 101]), ([116, 111, 114, 117, 115]), ([100, 105, 115, 99]), ([99, 105, 114, 99, 108, 101]), ([100, 105, 115, 99])]).getD (x3_2).toNat []) x2_2 with s := x16_5_2 }) = DA17_1_13
       refine op_storeB (o := 0) (vs := DA17_1_13) (cs' := DA17_1_13) st34 hb0_0 rfl rfl (by rw [← hDA17_1_13]; exact dgA_sz _) (by rw [dgA_sz]; decide) (by rw [← hDA17_1_13]; exact dgA_one) (by rw [← hDA17_1_13]; exact dgA_all) ?_
       intro h17_1_13 hb0_0 c17_1_13
       subst hDA17_1_13
       replace ho16_5_2 := OSr.chg ho16_5_2 c17_1_13 (Apart.symm ap83) (ge_of hfhb0_0 (by omega))
       replace hb3_10 := BoxAt.chgA hb3_10 c17_1_13 (apart_gt hfhb3_10 hlhb0_0 (by omega))
       have := c17_1_13.size
       replace cA := Chg.step cA c17_1_13 (Sub.fresh hfhb0_0 (by omega))
       try simp -implicitDefEqProofs (disch := first | decide | assumption | omega) only [go_sem]
       refine hK _ _ ?_
       clear hK K
       refine den_ret ?_
       simp -implicitDefEqProofs (disch := first | decide | assumption | omega) only [go_sem, BoxAt.dgL hb0_0, resP_c1]
       exact ⟨_, rfl, (db_s (nmL_db _ (by omega))), ho16_5_2, cA⟩
      ·try simp only [beq_eq_false_iff_ne, ne_eq] at c13
       refine den_skip ?_
       refine den_blk ?_
       refine den_seq ?_
       refine den_region TTok ?_
       intro K hK
       simp -implicitDefEqProofs (disch := first | decide | assumption | omega) only [go_sem, BoxAt.dgL hb3_10]
       generalize hDA17_1_14 : dgA (nmL (([([112, 111, 105, 110, 116]), ([99, 105, 114, 99, 108, 101]), ([116, 111, 114, 117, 115]), ([100, 105, 115, 99]), ([99, 105, 114, 99, 108, 101]), ([100, 105, 115, 99])]).getD (x3_2).toNat []) x2_2) = DA17_1_14
       refine op_storeB (o := 0) (vs := DA17_1_14) (cs' := DA17_1_14) st34 hb0_0 rfl rfl (by rw [← hDA17_1_14]; exact dgA_sz _) (by rw [dgA_sz]; decide) (by rw [← hDA17_1_14]; exact dgA_one) (by rw [← hDA17_1_14]; exact dgA_all) ?_
       intro h17_1_14 hb0_0 c17_1_14
       subst hDA17_1_14
       replace ho8_1_2 := OSr.chg ho8_1_2 c17_1_14 (Apart.symm ap61) (ge_of hfhb0_0 (by omega))
       replace hb3_10 := BoxAt.chgA hb3_10 c17_1_14 (apart_gt hfhb3_10 hlhb0_0 (by omega))
       have := c17_1_14.size
       replace cA := Chg.step cA c17_1_14 (Sub.fresh hfhb0_0 (by omega))
       try simp -implicitDefEqProofs (disch := first | decide | assumption | omega) only [go_sem]
       refine hK _ _ ?_
       clear hK K
       refine den_ret ?_
       simp -implicitDefEqProofs (disch := first | decide | assumption | omega) only [go_sem, BoxAt.dgL hb0_0, resP_c1]
       exact ⟨_, rfl, (nmL_db _ (by omega)), ho8_1_2, cA⟩
end Go.Proofs.Ytacajcjibhifmaa

namespace Go.Proofs.Ytacajcjibhifmaa
open Go
def plTB (B : List Nat) (P : Program) (T : Tab) (n : Nat) (all : Array Oper) (ds : List Nat) : PT → (Env → Heap → Prop) → Env → Heap → Prop
 | .fin, K => K
 | .fork i li ti j lj tj, K => fun env h => plansB B P T n all ds ((i, false) :: li) (plTB B P T n all ds ti K) env h ∧ plansB B P T n all ds ((j, false) :: lj) (plTB B P T n all ds tj K) env h
 | .fork3 i li ti j lj tj m lm tm, K => fun env h => plansB B P T n all ds ((i, false) :: li) (plTB B P T n all ds ti K) env h ∧ plansB B P T n all ds ((j, false) :: lj) (plTB B P T n all ds tj K) env h ∧ plansB B P T n all ds ((m, false) :: lm) (plTB B P T n all ds tm K) env h
 | .fork4 i li ti j lj tj m lm tm o lo tq, K => fun env h => plansB B P T n all ds ((i, false) :: li) (plTB B P T n all ds ti K) env h ∧ plansB B P T n all ds ((j, false) :: lj) (plTB B P T n all ds tj K) env h ∧ plansB B P T n all ds ((m, false) :: lm) (plTB B P T n all ds tm K) env h ∧ plansB B P T n all ds ((o, false) :: lo) (plTB B P T n all ds tq K) env h

section
variable {P : Program} {n : Nat} {B : List Nat}
theorem wpAnyB_more {ops : Array Oper} {ds : List Nat} {Q : Exit → Env → Heap → Prop} {w0 : World} : ∀ (fuel : Nat) (listed : Array Bool) (a : Act) (w : World), wpAnyB B P .any ops (KQ n w0 Q) ds fuel listed a w → wpAnyB B P .any ops (KQ n w0 Q) ds (fuel + 1) listed a w
 | 0, listed, a, w, h => ⟨fun _ => h.2, fun i hi => by rw [h.1] at hi; cases hi⟩
 | fuel + 1, listed, a, w, h => ⟨h.1, fun i hi => wpOp_mono (fun a' w' h' => ⟨h'.1, wpAnyB_more fuel _ a' w' h'.2⟩) (h.2 i hi)⟩
theorem wpAnyB_le {ops : Array Oper} {ds : List Nat} {Q : Exit → Env → Heap → Prop} {w0 : World} {listed : Array Bool} {a : Act} {w : World} {f g : Nat} (hfg : f ≤ g) (h : wpAnyB B P .any ops (KQ n w0 Q) ds f listed a w) : wpAnyB B P .any ops (KQ n w0 Q) ds g listed a w := by
 obtain ⟨d, rfl⟩ : ∃ d, g = f + d := ⟨g - f, by omega⟩
 clear hfg
 induction d with
 | zero => exact h
 | succ d ih => exact wpAnyB_more _ _ _ _ ih
end
section
variable {P : Program} {T : Tab} {n : Nat} {B : List Nat} (hT : TOk P T)
include hT

theorem plan_soundCB {ops : Array Oper} {ds : List Nat} {Q : Exit → Env → Heap → Prop} {w0 : World} (hsel : Region.noSelect ops = true) (hQ : ∀ c env h, Q (.panic c) env h → False) :
  ∀ (pl : List (Nat × Bool)) (K' : Env → Heap → Prop) (l' : Array Bool) (fuel : Nat) (listed : Array Bool) (env : Env) (a : Act) (w : World), okL .any ops ds listed pl = some l' → Agree n a env → Fr w0 w →
   plansB B P T n ops ds pl K' env w.heap → (∀ env' a' w', Agree n a' env' → Fr w0 w' → K' env' w'.heap → wpAnyB B P .any ops (KQ n w0 Q) ds fuel l' a' w') → wpAnyB B P .any ops (KQ n w0 Q) ds (fuel + pl.length) listed a w
 | [], K', l', fuel, listed, env, a, w, hok, ha, hf, h, hc => by
  injection hok with hok
  subst hok
  exact hc env a w ha hf h
 | (i, first) :: r, K', l', fuel, listed, env, a, w, hok, ha, hf, h, hc => by
  rw [List.length_cons, ← Nat.add_assoc]
  simp only [plansB] at h
  obtain ⟨o, ho, h⟩ := Bd_iff h
  obtain ⟨hgd, hld, h⟩ := h
  have hpan : ∀ (v : Value) (c : List PanicEntry) (a : Act) (w : World), KQ n w0 Q (.panic c) (a.put o.dst v) w → KQ n w0 Q (.panic c) a w := by
   rintro v c a w ⟨env, _, _, hq⟩
   exact (hQ c env _ hq).elim
  cases first with
  | true =>
   rw [okL, Option.ite_none_right_eq_some] at hok
   obtain ⟨hcnd, hok⟩ := hok
   simp only [Bool.and_eq_true] at hcnd
   obtain ⟨⟨⟨⟨h1, h2⟩, h3⟩, h4⟩, h5⟩ := hcnd
   rw [ho] at h5
   dsimp only at h5
   by_cases hfr : freeE o.op = true
   ·have hyld : ∃ v, YieldsIf P ops (fun _ => True) o v a ∧ outv n o (fun env' h' => plansB B P T n ops ds r K' env' h') env w.heap v := by
     obtain ⟨v, hv, hk⟩ := free_opE hT hfr h
     exact ⟨v, .inl ⟨by rw [wanted_guard ha, hgd]; rfl, fun w' _ => by rw [ha.eval]; exact hv w'⟩, hk.1, hk.2.2⟩
    obtain ⟨v, hy, hk⟩ := hyld
    refine wpAnyB_firstF ho (Region.noSelect_spec hsel) (hpan v) _ listed a w (Region.free_spec ho h1) (by simpa using h2) hy ?_
    exact plan_soundCB hsel hQ r K' l' fuel (listed.setIfInBounds i true) _ _ w hok (ha.putO (dstB_spec hk.1) v) hf hk.2 hc
   replace h4 : lastB .any ops listed ds i = true := by
    rw [ho] at h4
    simpa [hfr] using h4
   have hyld : ∃ v, YieldsIf P ops (fun w_ => HPb B w.heap w_.heap) o v a ∧ outv n o (fun env' h' => plansB B P T n ops ds r K' env' h') env w.heap v := by
    obtain ⟨v, hv, hk⟩ := quiet_opB hT h5 hld h
    exact ⟨v, .inl ⟨by rw [wanted_guard ha, hgd]; rfl, fun w' hp => by rw [ha.eval]; exact hv w' hp⟩, hk.1, hk.2.2⟩
   obtain ⟨v, hy, hk⟩ := hyld
   refine wpAnyB_first ho (Region.noSelect_spec hsel) (hpan v) ops.size _ listed a w (Region.free_spec ho h1) (closedB_spec h3)
    (fun d hm hun => by have := List.all_eq_true.1 h4 d hm; rw [hun] at this; simpa using this) (by simpa using h2) hy ?_
   exact plan_soundCB hsel hQ r K' l' fuel (listed.setIfInBounds i true) _ _ w hok (ha.putO (dstB_spec hk.1) v) hf hk.2 hc
  | false =>
   rw [okL, Option.ite_none_right_eq_some] at hok
   obtain ⟨hcnd, hok⟩ := hok
   have h1 : Region.ready .any ops listed = [i] := by simpa using hcnd
   refine ⟨(by rw [h1]; intro h; cases h), ?_⟩
   rw [h1]
   intro j hj
   simp only [List.mem_singleton] at hj
   subst hj
   unfold wpOp
   simp only [ho]
   rw [wanted_guard ha, hgd]
   refine .inl (Oper.wp_mono ?_ (opP_sound hT ha h))
   rintro a' w' ⟨env', ha', hf', hp, hk⟩
   exact ⟨fun hd => hp (by simpa using hd), plan_soundCB hsel hQ r K' l' fuel (listed.setIfInBounds j true) env' a' w' hok ha' (hf.trans hf') hk hc⟩
/-- One operation that is ready, then a plan. -/
theorem plan_oneB {ops : Array Oper} {ds : List Nat} {Q : Exit → Env → Heap → Prop} {w0 : World} {j : Nat} {r : List (Nat × Bool)} {K' : Env → Heap → Prop} {fuel : Nat} {listed : Array Bool} {env : Env} {a : Act} {w : World} (ha : Agree n a env) (hf : Fr w0 w)
  (h : plansB B P T n ops ds ((j, false) :: r) K' env w.heap) (hc : ∀ env' a' w', Agree n a' env' → Fr w0 w' → plansB B P T n ops ds r K' env' w'.heap → wpAnyB B P .any ops (KQ n w0 Q) ds fuel (listed.setIfInBounds j true) a' w') :
  wpOp P ops (KQ n w0 Q) j (fun a' w' => (j ∉ ds → HPb B w.heap w'.heap) ∧ wpAnyB B P .any ops (KQ n w0 Q) ds fuel (listed.setIfInBounds j true) a' w') a w := by
 simp only [plansB] at h
 obtain ⟨o, ho, h⟩ := Bd_iff h
 obtain ⟨hgd, hld, h⟩ := h
 unfold wpOp
 simp only [ho]
 rw [wanted_guard ha, hgd]
 refine .inl (Oper.wp_mono ?_ (opP_sound hT ha h))
 rintro a' w' ⟨env', ha', hf', hp, hk⟩
 exact ⟨fun hd => hp (by simpa using hd), hc env' a' w' ha' (hf.trans hf') hk⟩
theorem tree_soundB {ops : Array Oper} {ds : List Nat} {Q : Exit → Env → Heap → Prop} {w0 : World} (hsel : Region.noSelect ops = true) (hQ : ∀ c env h, Q (.panic c) env h → False) :
  ∀ (t : PT) (fuel : Nat) (listed : Array Bool) (env : Env) (a : Act) (w : World), t.size ≤ fuel → okT .any ops ds listed t = true → Agree n a env → Fr w0 w →
   plTB B P T n ops ds t (Q .normal) env w.heap → wpAnyB B P .any ops (KQ n w0 Q) ds fuel listed a w
 | .fin, fuel, listed, env, a, w, hl, hok, ha, hf, h => by
  have hr : Region.ready .any ops listed = [] := by simpa [okT] using hok
  cases fuel with
  | zero => exact ⟨hr, env, ha, hf, h⟩
  | succ f => exact ⟨fun _ => ⟨env, ha, hf, h⟩, by rw [hr]; intro i hi; cases hi⟩
 | .fork i li ti j lj tj, fuel, listed, env, a, w, hl, hok, ha, hf, h => by
  simp only [PT.size] at hl
  obtain ⟨fuel, rfl⟩ : ∃ f, fuel = f + 1 := ⟨fuel - 1, by omega⟩
  simp only [okT, Bool.and_eq_true, beq_iff_eq] at hok
  obtain ⟨⟨h1, h2⟩, h3⟩ := hok
  obtain ⟨g1, g2⟩ : plansB B P T n ops ds ((i, false) :: li) (plTB B P T n ops ds ti (Q .normal)) env w.heap ∧ plansB B P T n ops ds ((j, false) :: lj) (plTB B P T n ops ds tj (Q .normal)) env w.heap := h
  refine ⟨(by rw [h1]; intro h; cases h), ?_⟩
  rw [h1]
  intro q hq
  have hq' : q = i ∨ q = j := by simpa using hq
  rcases hq' with rfl | rfl
  ·cases e : okL .any ops ds (listed.setIfInBounds q true) li with
   | none => rw [e] at h2; cases h2
   | some l' =>
    rw [e] at h2
    refine plan_oneB hT ha hf g1 (fun env' a' w' ha' hf' hk => ?_)
    refine wpAnyB_le (f := (fuel - li.length) + li.length) (by omega) ?_
    exact plan_soundCB hT hsel hQ li _ l' (fuel - li.length) _ env' a' w' e ha' hf' hk (fun env2 a2 w2 ha2 hf2 hk2 => tree_soundB hsel hQ ti (fuel - li.length) l' env2 a2 w2 (by omega) h2 ha2 hf2 hk2)
  ·cases e : okL .any ops ds (listed.setIfInBounds q true) lj with
   | none => rw [e] at h3; cases h3
   | some l' =>
    rw [e] at h3
    refine plan_oneB hT ha hf g2 (fun env' a' w' ha' hf' hk => ?_)
    refine wpAnyB_le (f := (fuel - lj.length) + lj.length) (by omega) ?_
    exact plan_soundCB hT hsel hQ lj _ l' (fuel - lj.length) _ env' a' w' e ha' hf' hk (fun env2 a2 w2 ha2 hf2 hk2 => tree_soundB hsel hQ tj (fuel - lj.length) l' env2 a2 w2 (by omega) h3 ha2 hf2 hk2)
 | .fork3 i li ti j lj tj m lm tm, fuel, listed, env, a, w, hl, hok, ha, hf, h => by
  simp only [PT.size] at hl
  obtain ⟨fuel, rfl⟩ : ∃ f, fuel = f + 1 := ⟨fuel - 1, by omega⟩
  simp only [okT, Bool.and_eq_true, beq_iff_eq] at hok
  obtain ⟨⟨⟨h1, h2⟩, h3⟩, h4⟩ := hok
  obtain ⟨g1, g2, g3⟩ : plansB B P T n ops ds ((i, false) :: li) (plTB B P T n ops ds ti (Q .normal)) env w.heap ∧ plansB B P T n ops ds ((j, false) :: lj) (plTB B P T n ops ds tj (Q .normal)) env w.heap ∧ plansB B P T n ops ds ((m, false) :: lm) (plTB B P T n ops ds tm (Q .normal)) env w.heap := h
  refine ⟨(by rw [h1]; intro h; cases h), ?_⟩
  rw [h1]
  intro q hq
  have hq' : q = i ∨ q = j ∨ q = m := by simpa using hq
  rcases hq' with rfl | rfl | rfl
  ·cases e : okL .any ops ds (listed.setIfInBounds q true) li with
   | none => rw [e] at h2; cases h2
   | some l' =>
    rw [e] at h2
    refine plan_oneB hT ha hf g1 (fun env' a' w' ha' hf' hk => ?_)
    refine wpAnyB_le (f := (fuel - li.length) + li.length) (by omega) ?_
    exact plan_soundCB hT hsel hQ li _ l' (fuel - li.length) _ env' a' w' e ha' hf' hk (fun env2 a2 w2 ha2 hf2 hk2 => tree_soundB hsel hQ ti (fuel - li.length) l' env2 a2 w2 (by omega) h2 ha2 hf2 hk2)
  ·cases e : okL .any ops ds (listed.setIfInBounds q true) lj with
   | none => rw [e] at h3; cases h3
   | some l' =>
    rw [e] at h3
    refine plan_oneB hT ha hf g2 (fun env' a' w' ha' hf' hk => ?_)
    refine wpAnyB_le (f := (fuel - lj.length) + lj.length) (by omega) ?_
    exact plan_soundCB hT hsel hQ lj _ l' (fuel - lj.length) _ env' a' w' e ha' hf' hk (fun env2 a2 w2 ha2 hf2 hk2 => tree_soundB hsel hQ tj (fuel - lj.length) l' env2 a2 w2 (by omega) h3 ha2 hf2 hk2)
  ·cases e : okL .any ops ds (listed.setIfInBounds q true) lm with
   | none => rw [e] at h4; cases h4
   | some l' =>
    rw [e] at h4
    refine plan_oneB hT ha hf g3 (fun env' a' w' ha' hf' hk => ?_)
    refine wpAnyB_le (f := (fuel - lm.length) + lm.length) (by omega) ?_
    exact plan_soundCB hT hsel hQ lm _ l' (fuel - lm.length) _ env' a' w' e ha' hf' hk (fun env2 a2 w2 ha2 hf2 hk2 => tree_soundB hsel hQ tm (fuel - lm.length) l' env2 a2 w2 (by omega) h4 ha2 hf2 hk2)
 | .fork4 i li ti j lj tj m lm tm o lo tq, fuel, listed, env, a, w, hl, hok, ha, hf, h => by
  simp only [PT.size] at hl
  obtain ⟨fuel, rfl⟩ : ∃ f, fuel = f + 1 := ⟨fuel - 1, by omega⟩
  simp only [okT, Bool.and_eq_true, beq_iff_eq] at hok
  obtain ⟨⟨⟨⟨h1, h2⟩, h3⟩, h4⟩, h5⟩ := hok
  obtain ⟨g1, g2, g3, g4⟩ : plansB B P T n ops ds ((i, false) :: li) (plTB B P T n ops ds ti (Q .normal)) env w.heap ∧ plansB B P T n ops ds ((j, false) :: lj) (plTB B P T n ops ds tj (Q .normal)) env w.heap ∧ plansB B P T n ops ds ((m, false) :: lm) (plTB B P T n ops ds tm (Q .normal)) env w.heap ∧ plansB B P T n ops ds ((o, false) :: lo) (plTB B P T n ops ds tq (Q .normal)) env w.heap := h
  refine ⟨(by rw [h1]; intro h; cases h), ?_⟩
  rw [h1]
  intro q hq
  have hq' : q = i ∨ q = j ∨ q = m ∨ q = o := by simpa using hq
  rcases hq' with rfl | rfl | rfl | rfl
  ·cases e : okL .any ops ds (listed.setIfInBounds q true) li with
   | none => rw [e] at h2; cases h2
   | some l' =>
    rw [e] at h2
    refine plan_oneB hT ha hf g1 (fun env' a' w' ha' hf' hk => ?_)
    refine wpAnyB_le (f := (fuel - li.length) + li.length) (by omega) ?_
    exact plan_soundCB hT hsel hQ li _ l' (fuel - li.length) _ env' a' w' e ha' hf' hk (fun env2 a2 w2 ha2 hf2 hk2 => tree_soundB hsel hQ ti (fuel - li.length) l' env2 a2 w2 (by omega) h2 ha2 hf2 hk2)
  ·cases e : okL .any ops ds (listed.setIfInBounds q true) lj with
   | none => rw [e] at h3; cases h3
   | some l' =>
    rw [e] at h3
    refine plan_oneB hT ha hf g2 (fun env' a' w' ha' hf' hk => ?_)
    refine wpAnyB_le (f := (fuel - lj.length) + lj.length) (by omega) ?_
    exact plan_soundCB hT hsel hQ lj _ l' (fuel - lj.length) _ env' a' w' e ha' hf' hk (fun env2 a2 w2 ha2 hf2 hk2 => tree_soundB hsel hQ tj (fuel - lj.length) l' env2 a2 w2 (by omega) h3 ha2 hf2 hk2)
  ·cases e : okL .any ops ds (listed.setIfInBounds q true) lm with
   | none => rw [e] at h4; cases h4
   | some l' =>
    rw [e] at h4
    refine plan_oneB hT ha hf g3 (fun env' a' w' ha' hf' hk => ?_)
    refine wpAnyB_le (f := (fuel - lm.length) + lm.length) (by omega) ?_
    exact plan_soundCB hT hsel hQ lm _ l' (fuel - lm.length) _ env' a' w' e ha' hf' hk (fun env2 a2 w2 ha2 hf2 hk2 => tree_soundB hsel hQ tm (fuel - lm.length) l' env2 a2 w2 (by omega) h4 ha2 hf2 hk2)
  ·cases e : okL .any ops ds (listed.setIfInBounds q true) lo with
   | none => rw [e] at h5; cases h5
   | some l' =>
    rw [e] at h5
    refine plan_oneB hT ha hf g4 (fun env' a' w' ha' hf' hk => ?_)
    refine wpAnyB_le (f := (fuel - lo.length) + lo.length) (by omega) ?_
    exact plan_soundCB hT hsel hQ lo _ l' (fuel - lo.length) _ env' a' w' e ha' hf' hk (fun env2 a2 w2 ha2 hf2 hk2 => tree_soundB hsel hQ tq (fuel - lo.length) l' env2 a2 w2 (by omega) h5 ha2 hf2 hk2)
end
section
variable {P : Program} {T : Tab} {n : Nat} (hT : TOk P T)
include hT
theorem den_drawTB {id : Nat} {ops : Array Oper} {Qr : Env → Heap → Prop} {k : List It} {env : Env} {h : Heap} (hm : P.follows .mixedOrders = true) (B : List Nat) (ds : List Nat) (l0 : List (Nat × Bool)) (t : PT)
  (hok : (Region.noSelect ops && decide (l0.length + t.size ≤ ops.size) && okO (okL .any ops ds (Array.replicate ops.size false) l0) (fun l' => okT .any ops ds l' t)) = true)
  (hh : ∀ K : Env → Heap → Prop, (∀ env h, den P n Qr k env h → K env h) → plansB B P T n ops ds l0 (plTB B P T n ops ds t K) env h) : den P n Qr (.code (.region id ops true) :: k) env h := by
 refine den_code ?_
 intro a w ha e
 subst e
 simp only [Bool.and_eq_true, decide_eq_true_eq] at hok
 obtain ⟨⟨h1, h2⟩, h3⟩ := hok
 cases e : okL .any ops ds (Array.replicate ops.size false) l0 with
 | none => rw [e] at h3; cases h3
 | some l' =>
  rw [e] at h3
  refine wp_region_any hm (wpAny_of_B (B := B) (ds := ds) _ _ _ _ ?_)
  have hs : wpAnyB B P .any ops (KQ n w (denQ P n Qr k)) ds (t.size + l0.length) (Array.replicate ops.size false) a { w with drawn := w.drawn + 1 } :=
   plan_soundCB hT h1 (Q := denQ P n Qr k) (w0 := w) (fun c env h hq => hq) l0 _ l' t.size _ env a { w with drawn := w.drawn + 1 } e ha ⟨rfl, rfl, rfl⟩ (hh _ (fun _ _ h => h)) (fun env2 a2 w2 ha2 hf2 hk2 => tree_soundB hT h1 (fun c env h hq => hq) t t.size l' env2 a2 w2 (Nat.le_refl _) h3 ha2 hf2 hk2)
  exact wpAnyB_le (by omega) hs
/-- The orders meet again: what all of them leave is told once. -/
theorem den_drawTJB {id : Nat} {ops : Array Oper} {Qr : Env → Heap → Prop} {k : List It} {h : Heap} {σ : Type} {e0 : Env} {lc : List (Nat × Value)} (st : σ → List (Nat × Value)) (I : σ → Heap → Prop) (hm : P.follows .mixedOrders = true) (B : List Nat) (ds : List Nat) (l0 : List (Nat × Bool)) (t : PT)
  (hok : (Region.noSelect ops && decide (l0.length + t.size ≤ ops.size) && okO (okL .any ops ds (Array.replicate ops.size false) l0) (fun l' => okT .any ops ds l' t)) = true)
  (hh : ∀ K : Env → Heap → Prop, (∀ s env h, HasL env (st s ++ lc) → I s h → K env h) → plansB B P T n ops ds l0 (plTB B P T n ops ds t K) (puts e0 lc) h)
  (hr : ∀ s h e, I s h → den P n Qr k (puts e (st s ++ lc)) h) : den P n Qr (.code (.region id ops true) :: k) (puts e0 lc) h :=
 den_drawTB hT hm B ds l0 t hok (fun K hK => hh K (fun s env h hl hi => hK env h (by rw [← HasL.puts hl]; exact hr s h env hi)))
end
/-- Where an element of one's own slice lies. -/
theorem OS.blk {α : Type} {e : TypeId} {E : Heap → Value → α → List Nat → Prop} {h : Heap} {v : Value} {xs : List α} {fp fq : List Nat} (ho : OS e E h v xs fp) (hx : 0 < xs.length) (ha : ∀ b ∈ fq, b ∉ fp) (j : Nat) : ((sA v).add j).block ∉ fq := by
 rcases ho with ⟨_, rfl, _⟩ | ⟨b, c, cur, fps, rfl, r⟩
 ·simp at hx
 ·have hb : ((sA v).add j).block = b := by
   rw [r.val]
   unfold sA Addr.add
   split <;> rfl
  rw [hb]
  exact fun hm => ha b hm (by simp)
end Go.Proofs.Ytacajcjibhifmaa

namespace Go.Proofs.Ytacajcjibhifmaa
open Go
section
variable {P : Program} {n : Nat} {K : Env → Heap → Prop} {env : Env} {h : Heap} {d : Option Tmp} {ty : TypeId} {p : String} {a : Array Edge} {g : Option (Nat × Bool)}
theorem op_storeDg {X Y : Dg} {b : Nat} {t : TypeId} {x y : Operand} (hb : BoxAt h b (dgA X) t) (hx : ev env x = .pointer (some ⟨b, 0, none⟩)) (hy : ev env y = .agg (dgA Y)) (hk : ∀ h', BoxAt h' b (dgA Y) t → Chg [b] h h' → outv n ⟨d, .store 34 x y, ty, p, a, g⟩ K env h' undef) : opP P TT n ⟨d, .store 34 x y, ty, p, a, g⟩ K env h := by
 generalize hD : dgA Y = D at hy hk
 exact op_storeB (o := 0) (vs := D) (cs' := D) st34 hb hx (by rw [hy]; rfl) (by rw [← hD]; exact dgA_sz _) (by rw [dgA_sz]; decide) (by rw [← hD]; exact dgA_one) (by rw [← hD]; exact dgA_all) hk
end
theorem resP_cc {T : Tab} {R : Value → Heap → Prop} {env : Env} {h : Heap} {a b : Nat} {t u : TypeId} : resP T [.cell a t, .cell b u] R env h = Bd (asAd (env a)) fun ad => Bd (loadV T h t ad) fun v => Bd (asAd (env b)) fun ae => Bd (loadV T h u ae) fun w => R (.tuple #[v, w]) h := by
 unfold resP resV resL resL resL
 cases asAd (env a) with
 | none => rfl
 | some ad =>
  cases h1 : loadV T h t ad with
  | none => simp [h1, Bd]
  | some v =>
   cases asAd (env b) with
   | none => simp [h1, Bd]
   | some ae => cases h2 : loadV T h u ae <;> simp [h1, h2, Bd]
theorem resP_ccc {T : Tab} {R : Value → Heap → Prop} {env : Env} {h : Heap} {a b c : Nat} {t u s : TypeId} : resP T [.cell a t, .cell b u, .cell c s] R env h = Bd (asAd (env a)) fun ad => Bd (loadV T h t ad) fun v => Bd (asAd (env b)) fun ae => Bd (loadV T h u ae) fun w => Bd (asAd (env c)) fun af => Bd (loadV T h s af) fun x => R (.tuple #[v, w, x]) h := by
 unfold resP resV resL resL resL resL
 cases asAd (env a) with
 | none => rfl
 | some ad =>
  cases h1 : loadV T h t ad with
  | none => simp [h1, Bd]
  | some v =>
   cases asAd (env b) with
   | none => simp [h1, Bd]
   | some ae =>
    cases h2 : loadV T h u ae with
    | none => simp [h1, h2, Bd]
    | some w =>
     cases asAd (env c) with
     | none => simp [h1, h2, Bd]
     | some af => cases h3 : loadV T h s af <;> simp [h1, h2, h3, Bd]

set_option maxRecDepth 100000 in
set_option maxHeartbeats 4000000 in
theorem dGc_ok (vc : Value) (code : List Int) (h : Heap) (rc : RY h vc code) : CallA Try.prog 26 #[vc] h fun u h' => ∃ X : Dg, u = .agg (dgA X) ∧ DgB X ∧ Ext h h' := by
 have hle := RdS.le rc
 refine callA_intro TTok (args := [_]) Try.func26 (by kernel_rfl) rfl 6 rfl (by simp) [.cell 2 34] rfl ?_
 simp only [idxs]
 refine den_seq ?_
 refine den_region TTok ?_
 intro K hK
 simp -implicitDefEqProofs (disch := first | decide | assumption | omega) only [go_sem]
 refine op_alloc (cs := dgA dgZ) (by kernel_rfl) ?_
 intro h0_0 e0_0 hb0_0 z0_0
 have := Ext.size e0_0
 have eB := e0_0
 have hfhb0_0 : Fresh h.size [h.size] := Fresh.one _
 have hlhb0_0 := one_lt (show h.size < h0_0.size by omega)
 try simp -implicitDefEqProofs (disch := first | decide | assumption | omega) only [go_sem]
 refine hK _ _ ?_
 clear hK K
 refine den_seq ?_
 refine den_region TTok ?_
 intro K hK
 simp -implicitDefEqProofs (disch := first | decide | assumption | omega) only [go_sem]
 refine CallA.mono (sFrom_ok _ _ _ (RdS.pres rc (Ext.pres eB))) ?_
 intro vw1_1 h1_1
 rintro ⟨z1_1, zvw1_1, fw1_1, rfl, ho1_1, hf1_1, hz1_1, e1_1⟩
 replace hb0_0 := BoxAt.ext hb0_0 e1_1
 have := Ext.size e1_1
 replace eB := Ext.trans eB e1_1
 have hlho1_1 := OSr.lt ho1_1
 refine CallA.mono (sDr_ok _ _ _ _ ho1_1 (hf1_1.mono (by omega))) ?_
 intro v_ h1_2
 rintro ⟨A1_2, rfl, hBA1_2, ho1_2, c1_2⟩
 have hsz1_2 := c1_2.size
 replace hb0_0 := BoxAt.chgA hb0_0 c1_2 (apart_lt hlhb0_0 hf1_1 (by omega))
 have := c1_2.size
 replace eB := Ext.then eB c1_2 (ge_of hf1_1 (by omega))
 have hlho1_2 := hlho1_1
 refine op_storeDg (Y := A1_2) hb0_0 rfl rfl ?_
 intro h1_3 hb0_0 c1_3
 have := c1_3.size
 replace eB := Ext.then eB c1_3 (ge_of hfhb0_0 (by omega))
 try simp -implicitDefEqProofs (disch := first | decide | assumption | omega) only [go_sem]
 refine hK _ _ ?_
 clear hK K
 refine den_ret ?_
 try simp -implicitDefEqProofs (disch := first | decide | assumption | omega) only [go_sem, BoxAt.dgL hb0_0, resP_c1]
 exact ⟨_, rfl, hBA1_2, eB⟩

set_option maxRecDepth 100000 in
set_option maxHeartbeats 4000000 in
theorem dMl_ok (vc : Value) (code : List Int) (h : Heap) (rc : RY h vc code) : CallA Try.prog 12 #[vc] h fun u h' => ∃ (X : Dg) (y1 y2 : Nat → Int), u = .tuple #[.agg (dgA X), .agg (elA y1), .agg (elA y2)] ∧ DgB X ∧ By y1 ∧ By y2 ∧ Ext h h' := by
 have hle := RdS.le rc
 refine callA_intro TTok (args := [_]) Try.func12 (by kernel_rfl) rfl 18 rfl (by simp) [.cell 2 34, .cell 3 30, .cell 4 30] rfl ?_
 simp only [idxs]
 refine den_seq ?_
 refine den_region TTok ?_
 intro K hK
 simp -implicitDefEqProofs (disch := first | decide | assumption | omega) only [go_sem]
 refine op_alloc (cs := dgA dgZ) (by kernel_rfl) ?_
 intro h0_0 e0_0 hb0_0 z0_0
 have := Ext.size e0_0
 have eB := e0_0
 have hfhb0_0 : Fresh h.size [h.size] := Fresh.one _
 have hlhb0_0 := one_lt (show h.size < h0_0.size by omega)
 try simp -implicitDefEqProofs (disch := first | decide | assumption | omega) only [go_sem]
 refine op_alloc (cs := elA z8) (by kernel_rfl) ?_
 intro h0_1 e0_1 hb0_1 z0_1
 replace hb0_0 := BoxAt.ext hb0_0 e0_1
 have := Ext.size e0_1
 replace eB := Ext.trans eB e0_1
 have hfhb0_1 : Fresh h0_0.size [h0_0.size] := Fresh.one _
 have hlhb0_1 := one_lt (show h0_0.size < h0_1.size by omega)
 try simp -implicitDefEqProofs (disch := first | decide | assumption | omega) only [go_sem]
 refine op_alloc (cs := elA z8) (by kernel_rfl) ?_
 intro h0_2 e0_2 hb0_2 z0_2
 replace hb0_0 := BoxAt.ext hb0_0 e0_2
 replace hb0_1 := BoxAt.ext hb0_1 e0_2
 have := Ext.size e0_2
 replace eB := Ext.trans eB e0_2
 have hfhb0_2 : Fresh h0_1.size [h0_1.size] := Fresh.one _
 have hlhb0_2 := one_lt (show h0_1.size < h0_2.size by omega)
 try simp -implicitDefEqProofs (disch := first | decide | assumption | omega) only [go_sem]
 refine hK _ _ ?_
 clear hK K
 refine den_seq ?_
 refine den_region TTok ?_
 intro K hK
 simp -implicitDefEqProofs (disch := first | decide | assumption | omega) only [go_sem]
 refine CallA.mono (sFrom_ok _ _ _ (RdS.pres rc (Ext.pres eB))) ?_
 intro vw1_1 h1_1
 rintro ⟨z1_1, zvw1_1, fw1_1, rfl, ho1_1, hf1_1, hz1_1, e1_1⟩
 replace hb0_0 := BoxAt.ext hb0_0 e1_1
 replace hb0_1 := BoxAt.ext hb0_1 e1_1
 replace hb0_2 := BoxAt.ext hb0_2 e1_1
 have := Ext.size e1_1
 replace eB := Ext.trans eB e1_1
 have hlho1_1 := OSr.lt ho1_1
 refine hK _ _ ?_
 clear hK K
 refine den_seq ?_
 refine den_region TTok ?_
 intro K hK
 simp -implicitDefEqProofs (disch := first | decide | assumption | omega) only [go_sem]
 refine CallA.mono (sDr_ok _ _ _ _ ho1_1 (hf1_1.mono (by omega))) ?_
 intro v_ h2_1
 rintro ⟨A2_1, rfl, hBA2_1, ho2_1, c2_1⟩
 have hsz2_1 := c2_1.size
 replace hb0_0 := BoxAt.chgA hb0_0 c2_1 (apart_lt hlhb0_0 hf1_1 (by omega))
 replace hb0_1 := BoxAt.chgA hb0_1 c2_1 (apart_lt hlhb0_1 hf1_1 (by omega))
 replace hb0_2 := BoxAt.chgA hb0_2 c2_1 (apart_lt hlhb0_2 hf1_1 (by omega))
 have := c2_1.size
 replace eB := Ext.then eB c2_1 (ge_of hf1_1 (by omega))
 have hlho2_1 := hlho1_1
 refine op_alloc (cs := dgA dgZ) (by kernel_rfl) ?_
 intro h2_2 e2_2 hb2_2 z2_2
 replace ho2_1 := OSr.ext ho2_1 e2_2
 replace hb0_0 := BoxAt.ext hb0_0 e2_2
 replace hb0_1 := BoxAt.ext hb0_1 e2_2
 replace hb0_2 := BoxAt.ext hb0_2 e2_2
 have := Ext.size e2_2
 replace eB := Ext.trans eB e2_2
 have hfhb2_2 : Fresh h2_1.size [h2_1.size] := Fresh.one _
 have hlhb2_2 := one_lt (show h2_1.size < h2_2.size by omega)
 try simp -implicitDefEqProofs (disch := first | decide | assumption | omega) only [go_sem]
 refine op_storeDg (Y := A2_1) hb2_2 rfl rfl ?_
 intro h2_3 hb2_2 c2_3
 replace ho2_1 := OSr.chg ho2_1 c2_3 (apart_lt hlho2_1 hfhb2_2 (by omega)) (ge_of hfhb2_2 (by omega))
 replace hb0_0 := BoxAt.chgA hb0_0 c2_3 (apart_lt hlhb0_0 hfhb2_2 (by omega))
 replace hb0_1 := BoxAt.chgA hb0_1 c2_3 (apart_lt hlhb0_1 hfhb2_2 (by omega))
 replace hb0_2 := BoxAt.chgA hb0_2 c2_3 (apart_lt hlhb0_2 hfhb2_2 (by omega))
 have := c2_3.size
 replace eB := Ext.then eB c2_3 (ge_of hfhb2_2 (by omega))
 try simp -implicitDefEqProofs (disch := first | decide | assumption | omega) only [go_sem]
 refine hK _ _ ?_
 clear hK K
 refine den_seq ?_
 refine den_drawB TTok mixed fw1_1 [7, 8, 9] [(0, true), (1, true), (2, true), (4, true), (5, true), (3, false), (6, false), (7, false), (8, false), (9, false)] (by kernel_rfl) ?_
 intro K hK
 have hnB : h2_1.size ∉ fw1_1 := fun hb => (apart_lt hlho2_1 hfhb2_2 (by omega)) _ hb (List.mem_singleton.2 rfl)
 simp -implicitDefEqProofs (disch := first | decide | assumption | omega) only [go_sem, plGb_none, ldOk, ldA, hnB, not_false_eq_true, true_and, BoxAt.dgL hb2_2]
 refine CallA.mono (sDEl_ok _ _ A2_1 _ _ ho2_1 (hf1_1.mono (by omega))) ?_
 intro v_ h3_3
 rintro ⟨u3_3, rfl, hByu3_3, ho3_3, c3_3⟩
 have hsz3_3 := c3_3.size
 replace hb0_0 := BoxAt.chgA hb0_0 c3_3 (apart_lt hlhb0_0 hf1_1 (by omega))
 replace hb0_1 := BoxAt.chgA hb0_1 c3_3 (apart_lt hlhb0_1 hf1_1 (by omega))
 replace hb0_2 := BoxAt.chgA hb0_2 c3_3 (apart_lt hlhb0_2 hf1_1 (by omega))
 replace hb2_2 := BoxAt.chgA hb2_2 c3_3 (apart_gt hfhb2_2 hlho2_1 (by omega))
 have := c3_3.size
 replace eB := Ext.then eB c3_3 (ge_of hf1_1 (by omega))
 have ap1 : Apart [h2_1.size] fw1_1 := (apart_gt hfhb2_2 hlho2_1 (by omega))
 have hlho3_3 := hlho2_1
 refine plKb_pres (Chg.pb c3_3 (fun b hb => hb)) ?_
 try simp -implicitDefEqProofs (disch := first | decide | assumption | omega) only [go_sem, plGb_none, ldOk, true_and]
 refine CallA.mono (sDEl_ok _ _ A2_1 _ _ ho3_3 (hf1_1.mono (by omega))) ?_
 intro v_ h3_6
 rintro ⟨u3_6, rfl, hByu3_6, ho3_6, c3_6⟩
 have hsz3_6 := c3_6.size
 replace hb0_0 := BoxAt.chgA hb0_0 c3_6 (apart_lt hlhb0_0 hf1_1 (by omega))
 replace hb0_1 := BoxAt.chgA hb0_1 c3_6 (apart_lt hlhb0_1 hf1_1 (by omega))
 replace hb0_2 := BoxAt.chgA hb0_2 c3_6 (apart_lt hlhb0_2 hf1_1 (by omega))
 replace hb2_2 := BoxAt.chgA hb2_2 c3_6 ap1
 have := c3_6.size
 replace eB := Ext.then eB c3_6 (ge_of hf1_1 (by omega))
 have ap2 : Apart [h2_1.size] fw1_1 := ap1
 have hlho3_6 := hlho3_3
 refine plKb_pres (Chg.pb c3_6 (fun b hb => hb)) ?_
 try simp -implicitDefEqProofs (disch := first | decide | assumption | omega) only [go_sem, plGb_none, ldOk, true_and]
 refine op_storeDg (Y := A2_1) hb0_0 rfl rfl ?_
 intro h3_7 hb0_0 c3_7
 replace hb0_1 := BoxAt.chgA hb0_1 c3_7 (apart_gt hfhb0_1 hlhb0_0 (by omega))
 replace hb0_2 := BoxAt.chgA hb0_2 c3_7 (apart_gt hfhb0_2 hlhb0_0 (by omega))
 replace hb2_2 := BoxAt.chgA hb2_2 c3_7 (apart_gt hfhb2_2 hlhb0_0 (by omega))
 have := c3_7.size
 replace eB := Ext.then eB c3_7 (ge_of hfhb0_0 (by omega))
 try simp (disch := decide) only [outv_none]
 refine plKb_last (by decide) ?_
 try simp -implicitDefEqProofs (disch := first | decide | assumption | omega) only [go_sem, plGb_none, ldOk, true_and]
 refine op_storeB (o := 0) (vs := elA u3_3) (cs' := elA u3_3) st30 hb0_1 rfl rfl (elA_sz _) (by rw [elA_sz]; decide) elA_one elA_all ?_
 intro h3_8 hb0_1 c3_8
 replace hb0_0 := BoxAt.chgA hb0_0 c3_8 (apart_lt hlhb0_0 hfhb0_1 (by omega))
 replace hb0_2 := BoxAt.chgA hb0_2 c3_8 (apart_gt hfhb0_2 hlhb0_1 (by omega))
 replace hb2_2 := BoxAt.chgA hb2_2 c3_8 (apart_gt hfhb2_2 hlhb0_1 (by omega))
 have := c3_8.size
 replace eB := Ext.then eB c3_8 (ge_of hfhb0_1 (by omega))
 try simp (disch := decide) only [outv_none]
 refine plKb_last (by decide) ?_
 try simp -implicitDefEqProofs (disch := first | decide | assumption | omega) only [go_sem, plGb_none, ldOk, true_and]
 refine op_storeB (o := 0) (vs := elA u3_6) (cs' := elA u3_6) st30 hb0_2 rfl rfl (elA_sz _) (by rw [elA_sz]; decide) elA_one elA_all ?_
 intro h3_9 hb0_2 c3_9
 replace hb0_0 := BoxAt.chgA hb0_0 c3_9 (apart_lt hlhb0_0 hfhb0_2 (by omega))
 replace hb0_1 := BoxAt.chgA hb0_1 c3_9 (apart_lt hlhb0_1 hfhb0_2 (by omega))
 replace hb2_2 := BoxAt.chgA hb2_2 c3_9 (apart_gt hfhb2_2 hlhb0_2 (by omega))
 have := c3_9.size
 replace eB := Ext.then eB c3_9 (ge_of hfhb0_2 (by omega))
 try simp (disch := decide) only [outv_none]
 refine plKb_last (by decide) ?_
 try simp -implicitDefEqProofs (disch := first | decide | assumption | omega) only [go_sem]
 refine hK _ _ ?_
 clear hK K
 refine den_ret ?_
 try simp -implicitDefEqProofs (disch := first | decide | assumption | omega) only [go_sem, BoxAt.dgL hb0_0, BoxAt.elL hb0_1, BoxAt.elL hb0_2, resP_ccc]
 exact ⟨_, _, _, rfl, hBA2_1, hByu3_3, hByu3_6, eB⟩

set_option maxRecDepth 100000 in
set_option maxHeartbeats 4000000 in
theorem dDi_ok (vc : Value) (code : List Int) (h : Heap) (rc : RY h vc code) : CallA Try.prog 17 #[vc] h fun u h' => ∃ (X : Dg) (y1 : Nat → Int), u = .tuple #[.agg (dgA X), .agg (elA y1)] ∧ DgB X ∧ By y1 ∧ Ext h h' := by
 have hle := RdS.le rc
 refine callA_intro TTok (args := [_]) Try.func17 (by kernel_rfl) rfl 14 rfl (by simp) [.cell 2 34, .cell 3 30] rfl ?_
 simp only [idxs]
 refine den_seq ?_
 refine den_region TTok ?_
 intro K hK
 simp -implicitDefEqProofs (disch := first | decide | assumption | omega) only [go_sem]
 refine op_alloc (cs := dgA dgZ) (by kernel_rfl) ?_
 intro h0_0 e0_0 hb0_0 z0_0
 have := Ext.size e0_0
 have eB := e0_0
 have hfhb0_0 : Fresh h.size [h.size] := Fresh.one _
 have hlhb0_0 := one_lt (show h.size < h0_0.size by omega)
 try simp -implicitDefEqProofs (disch := first | decide | assumption | omega) only [go_sem]
 refine op_alloc (cs := elA z8) (by kernel_rfl) ?_
 intro h0_1 e0_1 hb0_1 z0_1
 replace hb0_0 := BoxAt.ext hb0_0 e0_1
 have := Ext.size e0_1
 replace eB := Ext.trans eB e0_1
 have hfhb0_1 : Fresh h0_0.size [h0_0.size] := Fresh.one _
 have hlhb0_1 := one_lt (show h0_0.size < h0_1.size by omega)
 try simp -implicitDefEqProofs (disch := first | decide | assumption | omega) only [go_sem]
 refine hK _ _ ?_
 clear hK K
 refine den_seq ?_
 refine den_region TTok ?_
 intro K hK
 simp -implicitDefEqProofs (disch := first | decide | assumption | omega) only [go_sem]
 refine CallA.mono (sFrom_ok _ _ _ (RdS.pres rc (Ext.pres eB))) ?_
 intro vw1_1 h1_1
 rintro ⟨z1_1, zvw1_1, fw1_1, rfl, ho1_1, hf1_1, hz1_1, e1_1⟩
 replace hb0_0 := BoxAt.ext hb0_0 e1_1
 replace hb0_1 := BoxAt.ext hb0_1 e1_1
 have := Ext.size e1_1
 replace eB := Ext.trans eB e1_1
 have hlho1_1 := OSr.lt ho1_1
 refine hK _ _ ?_
 clear hK K
 refine den_seq ?_
 refine den_region TTok ?_
 intro K hK
 simp -implicitDefEqProofs (disch := first | decide | assumption | omega) only [go_sem]
 refine CallA.mono (sDr_ok _ _ _ _ ho1_1 (hf1_1.mono (by omega))) ?_
 intro v_ h2_1
 rintro ⟨A2_1, rfl, hBA2_1, ho2_1, c2_1⟩
 have hsz2_1 := c2_1.size
 replace hb0_0 := BoxAt.chgA hb0_0 c2_1 (apart_lt hlhb0_0 hf1_1 (by omega))
 replace hb0_1 := BoxAt.chgA hb0_1 c2_1 (apart_lt hlhb0_1 hf1_1 (by omega))
 have := c2_1.size
 replace eB := Ext.then eB c2_1 (ge_of hf1_1 (by omega))
 have hlho2_1 := hlho1_1
 refine op_alloc (cs := dgA dgZ) (by kernel_rfl) ?_
 intro h2_2 e2_2 hb2_2 z2_2
 replace ho2_1 := OSr.ext ho2_1 e2_2
 replace hb0_0 := BoxAt.ext hb0_0 e2_2
 replace hb0_1 := BoxAt.ext hb0_1 e2_2
 have := Ext.size e2_2
 replace eB := Ext.trans eB e2_2
 have hfhb2_2 : Fresh h2_1.size [h2_1.size] := Fresh.one _
 have hlhb2_2 := one_lt (show h2_1.size < h2_2.size by omega)
 try simp -implicitDefEqProofs (disch := first | decide | assumption | omega) only [go_sem]
 refine op_storeDg (Y := A2_1) hb2_2 rfl rfl ?_
 intro h2_3 hb2_2 c2_3
 replace ho2_1 := OSr.chg ho2_1 c2_3 (apart_lt hlho2_1 hfhb2_2 (by omega)) (ge_of hfhb2_2 (by omega))
 replace hb0_0 := BoxAt.chgA hb0_0 c2_3 (apart_lt hlhb0_0 hfhb2_2 (by omega))
 replace hb0_1 := BoxAt.chgA hb0_1 c2_3 (apart_lt hlhb0_1 hfhb2_2 (by omega))
 have := c2_3.size
 replace eB := Ext.then eB c2_3 (ge_of hfhb2_2 (by omega))
 try simp -implicitDefEqProofs (disch := first | decide | assumption | omega) only [go_sem]
 refine hK _ _ ?_
 clear hK K
 refine den_seq ?_
 refine den_drawB TTok mixed fw1_1 [4, 5] [(0, true), (1, true), (2, true), (3, false), (4, false), (5, false)] (by kernel_rfl) ?_
 intro K hK
 have hnB : h2_1.size ∉ fw1_1 := fun hb => (apart_lt hlho2_1 hfhb2_2 (by omega)) _ hb (List.mem_singleton.2 rfl)
 simp -implicitDefEqProofs (disch := first | decide | assumption | omega) only [go_sem, plGb_none, ldOk, ldA, hnB, not_false_eq_true, true_and, BoxAt.dgL hb2_2]
 refine CallA.mono (sDEl_ok _ _ A2_1 _ _ ho2_1 (hf1_1.mono (by omega))) ?_
 intro v_ h3_3
 rintro ⟨u3_3, rfl, hByu3_3, ho3_3, c3_3⟩
 have hsz3_3 := c3_3.size
 replace hb0_0 := BoxAt.chgA hb0_0 c3_3 (apart_lt hlhb0_0 hf1_1 (by omega))
 replace hb0_1 := BoxAt.chgA hb0_1 c3_3 (apart_lt hlhb0_1 hf1_1 (by omega))
 replace hb2_2 := BoxAt.chgA hb2_2 c3_3 (apart_gt hfhb2_2 hlho2_1 (by omega))
 have := c3_3.size
 replace eB := Ext.then eB c3_3 (ge_of hf1_1 (by omega))
 have ap1 : Apart [h2_1.size] fw1_1 := (apart_gt hfhb2_2 hlho2_1 (by omega))
 have hlho3_3 := hlho2_1
 refine plKb_pres (Chg.pb c3_3 (fun b hb => hb)) ?_
 try simp -implicitDefEqProofs (disch := first | decide | assumption | omega) only [go_sem, plGb_none, ldOk, true_and]
 refine op_storeDg (Y := A2_1) hb0_0 rfl rfl ?_
 intro h3_4 hb0_0 c3_4
 replace hb0_1 := BoxAt.chgA hb0_1 c3_4 (apart_gt hfhb0_1 hlhb0_0 (by omega))
 replace hb2_2 := BoxAt.chgA hb2_2 c3_4 (apart_gt hfhb2_2 hlhb0_0 (by omega))
 have := c3_4.size
 replace eB := Ext.then eB c3_4 (ge_of hfhb0_0 (by omega))
 try simp (disch := decide) only [outv_none]
 refine plKb_last (by decide) ?_
 try simp -implicitDefEqProofs (disch := first | decide | assumption | omega) only [go_sem, plGb_none, ldOk, true_and]
 refine op_storeB (o := 0) (vs := elA u3_3) (cs' := elA u3_3) st30 hb0_1 rfl rfl (elA_sz _) (by rw [elA_sz]; decide) elA_one elA_all ?_
 intro h3_5 hb0_1 c3_5
 replace hb0_0 := BoxAt.chgA hb0_0 c3_5 (apart_lt hlhb0_0 hfhb0_1 (by omega))
 replace hb2_2 := BoxAt.chgA hb2_2 c3_5 (apart_gt hfhb2_2 hlhb0_1 (by omega))
 have := c3_5.size
 replace eB := Ext.then eB c3_5 (ge_of hfhb0_1 (by omega))
 try simp (disch := decide) only [outv_none]
 refine plKb_last (by decide) ?_
 try simp -implicitDefEqProofs (disch := first | decide | assumption | omega) only [go_sem]
 refine hK _ _ ?_
 clear hK K
 refine den_ret ?_
 try simp -implicitDefEqProofs (disch := first | decide | assumption | omega) only [go_sem, BoxAt.dgL hb0_0, BoxAt.elL hb0_1, resP_cc]
 exact ⟨_, _, rfl, hBA2_1, hByu3_3, eB⟩

set_option maxRecDepth 100000 in
set_option maxHeartbeats 4000000 in
theorem dNd_ok (vc : Value) (code : List Int) (h : Heap) (rc : RY h vc code) : CallA Try.prog 20 #[vc] h fun u h' => ∃ (name : List UInt8) (p : Int), u = .tuple #[sV name, .int .i64 p] ∧ Ext h h' := by
 have hle := RdS.le rc
 refine callA_intro TTok (args := [_]) Try.func20 (by kernel_rfl) rfl 15 rfl (by simp) [.tmp 2, .tmp 3] rfl ?_
 simp only [idxs]
 refine den_seq ?_
 refine den_region TTok ?_
 intro K hK
 simp -implicitDefEqProofs (disch := first | decide | assumption | omega) only [go_sem, sV_0]
 refine hK _ _ ?_
 clear hK K
 refine den_seq ?_
 refine den_region TTok ?_
 intro K hK
 simp -implicitDefEqProofs (disch := first | decide | assumption | omega) only [go_sem]
 refine CallA.mono (sFrom_ok _ _ _ rc) ?_
 intro vw1_1 h1_1
 rintro ⟨z1_1, zvw1_1, fw1_1, rfl, ho1_1, hf1_1, hz1_1, e1_1⟩
 have := Ext.size e1_1
 have eB := e1_1
 have hlho1_1 := OSr.lt ho1_1
 refine hK _ _ ?_
 clear hK K
 refine den_seq ?_
 refine den_drawTB TTok mixed fw1_1 [] [(1, true), (5, true)] (.fork3 0 [] (.fork 2 [(3, true), (4, true), (6, false), (7, false), (8, true), (9, true)] .fin 6 [(2, false), (3, true), (4, true), (7, false), (8, true), (9, true)] .fin) 2 [] (.fork 0 [(3, true), (4, true), (6, false), (7, false), (8, true), (9, true)] .fin 6 [] (.fork 0 [(3, true), (4, true), (7, false), (8, true), (9, true)] .fin 7 [(0, false), (3, true), (4, true), (8, true), (9, true)] .fin)) 6 [] (.fork 0 [(2, false), (3, true), (4, true), (7, false), (8, true), (9, true)] .fin 2 [] (.fork 0 [(3, true), (4, true), (7, false), (8, true), (9, true)] .fin 7 [(0, false), (3, true), (4, true), (8, true), (9, true)] .fin))) (by kernel_rfl) ?_
 intro K hK
 simp -implicitDefEqProofs (disch := first | decide | assumption | omega) only [go_sem, plGb_none, ldOk, true_and, sV_p, sV_c, sV_t, sV_d, sV_s, sV_0]
 refine And.intro ?_ (And.intro ?_ ?_)
 ·simp -implicitDefEqProofs (disch := first | decide | assumption | omega) only [go_sem, plGb_none, ldOk, true_and]
  refine op_bsT6 (a0 := ([112, 111, 105, 110, 116])) (a1 := ([99, 105, 114, 99, 108, 101])) (a2 := ([116, 111, 114, 117, 115])) (a3 := ([100, 105, 115, 99])) (a4 := ([115, 112, 104, 101, 114, 101])) (a5 := ([])) rfl rfl rfl rfl rfl rfl ?_
  intro v2_0 h2_0 ho2_0 e2_0
  replace ho1_1 := OSr.ext ho1_1 e2_0
  have := Ext.size e2_0
  replace eB := Ext.trans eB e2_0
  have hlenho2_0 : ([([112, 111, 105, 110, 116]), ([99, 105, 114, 99, 108, 101]), ([116, 111, 114, 117, 115]), ([100, 105, 115, 99]), ([115, 112, 104, 101, 114, 101]), ([])] : List (List UInt8)).length = 6 := rfl
  have hfho2_0 : Fresh h1_1.size [h1_1.size] := Fresh.one _
  have hlho2_0 := OS.lt ho2_0
  have hnbho2_0 : ∀ j, ((sA v2_0).add j).block ∉ fw1_1 := OS.blk ho2_0 (by decide) (apart_lt hlho1_1 hfho2_0 (by omega))
  try simp (disch := decide) only [outv_some, put_puts]
  refine plKb_pres ((Ext.pres e2_0).pb) ?_
  try simp -implicitDefEqProofs (disch := first | decide | assumption | omega) only [go_sem]
  refine And.intro ?_ ?_
  ·simp -implicitDefEqProofs (disch := first | decide | assumption | omega) only [go_sem, plGb_none, ldOk, true_and]
   refine CallA.mono (sNext_ok _ _ (6 : Int) _ _ ho1_1) ?_
   intro v_ h2_2
   rintro ⟨x2_2, rfl, hx2_2, ho2_2, c2_2⟩
   replace hx2_2 := hx2_2 (by first | omega | (simp; done))
   have hsz2_2 := c2_2.size
   replace ho2_0 := OS.chg ho2_0 c2_2 (apart_gt hfho2_0 hlho1_1 (by omega))
   have := c2_2.size
   replace eB := Ext.then eB c2_2 (ge_of hf1_1 (by omega))
   have ap1 : Apart [h1_1.size] fw1_1 := (apart_gt hfho2_0 hlho1_1 (by omega))
   have hlho2_2 := hlho1_1
   refine plKb_pres (Chg.pb c2_2 (fun b hb => hb)) ?_
   try simp -implicitDefEqProofs (disch := first | decide | assumption | omega) only [go_sem, plGb_none, ldOk, ldA, not_false_eq_true, true_and, hnbho2_0, ld9, RdS.idx (OS.rd ho2_0) sl89, RT.strN (OS.rd ho2_0)]
   refine op_bsI5 (a0 := (2 : Int)) (a1 := (3 : Int)) (a2 := (5 : Int)) (a3 := (7 : Int)) (a4 := (4 : Int)) rfl rfl rfl rfl rfl ?_
   intro v2_6 h2_6 ho2_6 e2_6
   replace ho2_0 := OS.ext ho2_0 e2_6
   replace ho2_2 := OSr.ext ho2_2 e2_6
   have := Ext.size e2_6
   replace eB := Ext.trans eB e2_6
   have hlenho2_6 : ([(2 : Int), (3 : Int), (5 : Int), (7 : Int), (4 : Int)] : List Int).length = 5 := rfl
   have hfho2_6 : Fresh h2_2.size [h2_2.size] := Fresh.one _
   have hlho2_6 := OS.lt ho2_6
   try simp (disch := decide) only [outv_some, put_puts]
   refine plKb_pres ((Ext.pres e2_6).pb) ?_
   try simp -implicitDefEqProofs (disch := first | decide | assumption | omega) only [go_sem, plGb_none, ldOk, true_and]
   refine CallA.mono (sPick_ok _ _ ([(2 : Int), (3 : Int), (5 : Int), (7 : Int), (4 : Int)]) _ _ _ _ ho2_2 (hf1_1.mono (by omega)) ho2_6 (apart_gt hfho2_6 hlho2_2 (by omega)) (by simp) (by simp)) ?_
   intro v_ h2_7
   rintro ⟨x2_7, rfl, hx2_7, ho2_7, c2_7⟩
   simp only [List.mem_cons, List.not_mem_nil, or_false] at hx2_7
   have hsz2_7 := c2_7.size
   replace ho2_0 := OS.chg ho2_0 c2_7 ap1
   replace ho2_6 := OS.chg ho2_6 c2_7 (apart_gt hfho2_6 hlho2_2 (by omega))
   have := c2_7.size
   replace eB := Ext.then eB c2_7 (ge_of hf1_1 (by omega))
   have ap2 : Apart [h1_1.size] fw1_1 := ap1
   have ap3 : Apart [h2_2.size] fw1_1 := (apart_gt hfho2_6 hlho2_2 (by omega))
   have hlho2_7 := hlho2_2
   refine plKb_pres (Chg.pb c2_7 (fun b hb => hb)) ?_
   try simp -implicitDefEqProofs (disch := first | decide | assumption | omega) only [go_sem, plGb_none, ldOk, true_and]
   refine hK _ _ ?_
   clear hK K
   refine den_ret ?_
   simp (disch := decide) only [resP_2, puts_same, puts_ne]
   exact ⟨_, _, rfl, eB⟩
  ·simp -implicitDefEqProofs (disch := first | decide | assumption | omega) only [go_sem, plGb_none, ldOk, true_and]
   refine op_bsI5 (a0 := (2 : Int)) (a1 := (3 : Int)) (a2 := (5 : Int)) (a3 := (7 : Int)) (a4 := (4 : Int)) rfl rfl rfl rfl rfl ?_
   intro v2_6 h2_6 ho2_6 e2_6
   replace ho1_1 := OSr.ext ho1_1 e2_6
   replace ho2_0 := OS.ext ho2_0 e2_6
   have := Ext.size e2_6
   replace eB := Ext.trans eB e2_6
   have hlenho2_6 : ([(2 : Int), (3 : Int), (5 : Int), (7 : Int), (4 : Int)] : List Int).length = 5 := rfl
   have hfho2_6 : Fresh h2_0.size [h2_0.size] := Fresh.one _
   have hlho2_6 := OS.lt ho2_6
   try simp (disch := decide) only [outv_some, put_puts]
   refine plKb_pres ((Ext.pres e2_6).pb) ?_
   try simp -implicitDefEqProofs (disch := first | decide | assumption | omega) only [go_sem, plGb_none, ldOk, true_and]
   refine CallA.mono (sNext_ok _ _ (6 : Int) _ _ ho1_1) ?_
   intro v_ h2_2
   rintro ⟨x2_2, rfl, hx2_2, ho2_2, c2_2⟩
   replace hx2_2 := hx2_2 (by first | omega | (simp; done))
   have hsz2_2 := c2_2.size
   replace ho2_0 := OS.chg ho2_0 c2_2 (apart_gt hfho2_0 hlho1_1 (by omega))
   replace ho2_6 := OS.chg ho2_6 c2_2 (apart_gt hfho2_6 hlho1_1 (by omega))
   have := c2_2.size
   replace eB := Ext.then eB c2_2 (ge_of hf1_1 (by omega))
   have ap4 : Apart [h1_1.size] fw1_1 := (apart_gt hfho2_0 hlho1_1 (by omega))
   have ap5 : Apart [h2_0.size] fw1_1 := (apart_gt hfho2_6 hlho1_1 (by omega))
   have hlho2_2 := hlho1_1
   refine plKb_pres (Chg.pb c2_2 (fun b hb => hb)) ?_
   try simp -implicitDefEqProofs (disch := first | decide | assumption | omega) only [go_sem, plGb_none, ldOk, ldA, not_false_eq_true, true_and, hnbho2_0, ld9, RdS.idx (OS.rd ho2_0) sl89, RT.strN (OS.rd ho2_0)]
   refine CallA.mono (sPick_ok _ _ ([(2 : Int), (3 : Int), (5 : Int), (7 : Int), (4 : Int)]) _ _ _ _ ho2_2 (hf1_1.mono (by omega)) ho2_6 ap5 (by simp) (by simp)) ?_
   intro v_ h2_7
   rintro ⟨x2_7, rfl, hx2_7, ho2_7, c2_7⟩
   simp only [List.mem_cons, List.not_mem_nil, or_false] at hx2_7
   have hsz2_7 := c2_7.size
   replace ho2_0 := OS.chg ho2_0 c2_7 ap4
   replace ho2_6 := OS.chg ho2_6 c2_7 ap5
   have := c2_7.size
   replace eB := Ext.then eB c2_7 (ge_of hf1_1 (by omega))
   have ap6 : Apart [h1_1.size] fw1_1 := ap4
   have ap7 : Apart [h2_0.size] fw1_1 := ap5
   have hlho2_7 := hlho2_2
   refine plKb_pres (Chg.pb c2_7 (fun b hb => hb)) ?_
   try simp -implicitDefEqProofs (disch := first | decide | assumption | omega) only [go_sem, plGb_none, ldOk, true_and]
   refine hK _ _ ?_
   clear hK K
   refine den_ret ?_
   simp (disch := decide) only [resP_2, puts_same, puts_ne]
   exact ⟨_, _, rfl, eB⟩
 ·simp -implicitDefEqProofs (disch := first | decide | assumption | omega) only [go_sem, plGb_none, ldOk, true_and]
  refine CallA.mono (sNext_ok _ _ (6 : Int) _ _ ho1_1) ?_
  intro v_ h2_2
  rintro ⟨x2_2, rfl, hx2_2, ho2_2, c2_2⟩
  replace hx2_2 := hx2_2 (by first | omega | (simp; done))
  have hsz2_2 := c2_2.size
  have := c2_2.size
  replace eB := Ext.then eB c2_2 (ge_of hf1_1 (by omega))
  have hlho2_2 := hlho1_1
  refine plKb_pres (Chg.pb c2_2 (fun b hb => hb)) ?_
  try simp -implicitDefEqProofs (disch := first | decide | assumption | omega) only [go_sem]
  refine And.intro ?_ ?_
  ·simp -implicitDefEqProofs (disch := first | decide | assumption | omega) only [go_sem, plGb_none, ldOk, true_and]
   refine op_bsT6 (a0 := ([112, 111, 105, 110, 116])) (a1 := ([99, 105, 114, 99, 108, 101])) (a2 := ([116, 111, 114, 117, 115])) (a3 := ([100, 105, 115, 99])) (a4 := ([115, 112, 104, 101, 114, 101])) (a5 := ([])) rfl rfl rfl rfl rfl rfl ?_
   intro v2_0 h2_0 ho2_0 e2_0
   replace ho2_2 := OSr.ext ho2_2 e2_0
   have := Ext.size e2_0
   replace eB := Ext.trans eB e2_0
   have hlenho2_0 : ([([112, 111, 105, 110, 116]), ([99, 105, 114, 99, 108, 101]), ([116, 111, 114, 117, 115]), ([100, 105, 115, 99]), ([115, 112, 104, 101, 114, 101]), ([])] : List (List UInt8)).length = 6 := rfl
   have hfho2_0 : Fresh h2_2.size [h2_2.size] := Fresh.one _
   have hlho2_0 := OS.lt ho2_0
   have hnbho2_0 : ∀ j, ((sA v2_0).add j).block ∉ fw1_1 := OS.blk ho2_0 (by decide) (apart_lt hlho2_2 hfho2_0 (by omega))
   try simp (disch := decide) only [outv_some, put_puts]
   refine plKb_pres ((Ext.pres e2_0).pb) ?_
   try simp -implicitDefEqProofs (disch := first | decide | assumption | omega) only [go_sem, plGb_none, ldOk, ldA, not_false_eq_true, true_and, hnbho2_0, ld9, RdS.idx (OS.rd ho2_0) sl89, RT.strN (OS.rd ho2_0)]
   refine op_bsI5 (a0 := (2 : Int)) (a1 := (3 : Int)) (a2 := (5 : Int)) (a3 := (7 : Int)) (a4 := (4 : Int)) rfl rfl rfl rfl rfl ?_
   intro v2_6 h2_6 ho2_6 e2_6
   replace ho2_2 := OSr.ext ho2_2 e2_6
   replace ho2_0 := OS.ext ho2_0 e2_6
   have := Ext.size e2_6
   replace eB := Ext.trans eB e2_6
   have hlenho2_6 : ([(2 : Int), (3 : Int), (5 : Int), (7 : Int), (4 : Int)] : List Int).length = 5 := rfl
   have hfho2_6 : Fresh h2_0.size [h2_0.size] := Fresh.one _
   have hlho2_6 := OS.lt ho2_6
   try simp (disch := decide) only [outv_some, put_puts]
   refine plKb_pres ((Ext.pres e2_6).pb) ?_
   try simp -implicitDefEqProofs (disch := first | decide | assumption | omega) only [go_sem, plGb_none, ldOk, true_and]
   refine CallA.mono (sPick_ok _ _ ([(2 : Int), (3 : Int), (5 : Int), (7 : Int), (4 : Int)]) _ _ _ _ ho2_2 (hf1_1.mono (by omega)) ho2_6 (apart_gt hfho2_6 hlho2_2 (by omega)) (by simp) (by simp)) ?_
   intro v_ h2_7
   rintro ⟨x2_7, rfl, hx2_7, ho2_7, c2_7⟩
   simp only [List.mem_cons, List.not_mem_nil, or_false] at hx2_7
   have hsz2_7 := c2_7.size
   replace ho2_0 := OS.chg ho2_0 c2_7 (apart_gt hfho2_0 hlho2_2 (by omega))
   replace ho2_6 := OS.chg ho2_6 c2_7 (apart_gt hfho2_6 hlho2_2 (by omega))
   have := c2_7.size
   replace eB := Ext.then eB c2_7 (ge_of hf1_1 (by omega))
   have ap8 : Apart [h2_2.size] fw1_1 := (apart_gt hfho2_0 hlho2_2 (by omega))
   have ap9 : Apart [h2_0.size] fw1_1 := (apart_gt hfho2_6 hlho2_2 (by omega))
   have hlho2_7 := hlho2_2
   refine plKb_pres (Chg.pb c2_7 (fun b hb => hb)) ?_
   try simp -implicitDefEqProofs (disch := first | decide | assumption | omega) only [go_sem, plGb_none, ldOk, true_and]
   refine hK _ _ ?_
   clear hK K
   refine den_ret ?_
   simp (disch := decide) only [resP_2, puts_same, puts_ne]
   exact ⟨_, _, rfl, eB⟩
  ·simp -implicitDefEqProofs (disch := first | decide | assumption | omega) only [go_sem, plGb_none, ldOk, true_and]
   refine op_bsI5 (a0 := (2 : Int)) (a1 := (3 : Int)) (a2 := (5 : Int)) (a3 := (7 : Int)) (a4 := (4 : Int)) rfl rfl rfl rfl rfl ?_
   intro v2_6 h2_6 ho2_6 e2_6
   replace ho2_2 := OSr.ext ho2_2 e2_6
   have := Ext.size e2_6
   replace eB := Ext.trans eB e2_6
   have hlenho2_6 : ([(2 : Int), (3 : Int), (5 : Int), (7 : Int), (4 : Int)] : List Int).length = 5 := rfl
   have hfho2_6 : Fresh h2_2.size [h2_2.size] := Fresh.one _
   have hlho2_6 := OS.lt ho2_6
   try simp (disch := decide) only [outv_some, put_puts]
   refine plKb_pres ((Ext.pres e2_6).pb) ?_
   try simp -implicitDefEqProofs (disch := first | decide | assumption | omega) only [go_sem]
   refine And.intro ?_ ?_
   ·simp -implicitDefEqProofs (disch := first | decide | assumption | omega) only [go_sem, plGb_none, ldOk, true_and]
    refine op_bsT6 (a0 := ([112, 111, 105, 110, 116])) (a1 := ([99, 105, 114, 99, 108, 101])) (a2 := ([116, 111, 114, 117, 115])) (a3 := ([100, 105, 115, 99])) (a4 := ([115, 112, 104, 101, 114, 101])) (a5 := ([])) rfl rfl rfl rfl rfl rfl ?_
    intro v2_0 h2_0 ho2_0 e2_0
    replace ho2_2 := OSr.ext ho2_2 e2_0
    replace ho2_6 := OS.ext ho2_6 e2_0
    have := Ext.size e2_0
    replace eB := Ext.trans eB e2_0
    have hlenho2_0 : ([([112, 111, 105, 110, 116]), ([99, 105, 114, 99, 108, 101]), ([116, 111, 114, 117, 115]), ([100, 105, 115, 99]), ([115, 112, 104, 101, 114, 101]), ([])] : List (List UInt8)).length = 6 := rfl
    have hfho2_0 : Fresh h2_6.size [h2_6.size] := Fresh.one _
    have hlho2_0 := OS.lt ho2_0
    have hnbho2_0 : ∀ j, ((sA v2_0).add j).block ∉ fw1_1 := OS.blk ho2_0 (by decide) (apart_lt hlho2_2 hfho2_0 (by omega))
    try simp (disch := decide) only [outv_some, put_puts]
    refine plKb_pres ((Ext.pres e2_0).pb) ?_
    try simp -implicitDefEqProofs (disch := first | decide | assumption | omega) only [go_sem, plGb_none, ldOk, ldA, not_false_eq_true, true_and, hnbho2_0, ld9, RdS.idx (OS.rd ho2_0) sl89, RT.strN (OS.rd ho2_0)]
    refine CallA.mono (sPick_ok _ _ ([(2 : Int), (3 : Int), (5 : Int), (7 : Int), (4 : Int)]) _ _ _ _ ho2_2 (hf1_1.mono (by omega)) ho2_6 (apart_gt hfho2_6 hlho2_2 (by omega)) (by simp) (by simp)) ?_
    intro v_ h2_7
    rintro ⟨x2_7, rfl, hx2_7, ho2_7, c2_7⟩
    simp only [List.mem_cons, List.not_mem_nil, or_false] at hx2_7
    have hsz2_7 := c2_7.size
    replace ho2_6 := OS.chg ho2_6 c2_7 (apart_gt hfho2_6 hlho2_2 (by omega))
    replace ho2_0 := OS.chg ho2_0 c2_7 (apart_gt hfho2_0 hlho2_2 (by omega))
    have := c2_7.size
    replace eB := Ext.then eB c2_7 (ge_of hf1_1 (by omega))
    have ap10 : Apart [h2_2.size] fw1_1 := (apart_gt hfho2_6 hlho2_2 (by omega))
    have ap11 : Apart [h2_6.size] fw1_1 := (apart_gt hfho2_0 hlho2_2 (by omega))
    have hlho2_7 := hlho2_2
    refine plKb_pres (Chg.pb c2_7 (fun b hb => hb)) ?_
    try simp -implicitDefEqProofs (disch := first | decide | assumption | omega) only [go_sem, plGb_none, ldOk, true_and]
    refine hK _ _ ?_
    clear hK K
    refine den_ret ?_
    simp (disch := decide) only [resP_2, puts_same, puts_ne]
    exact ⟨_, _, rfl, eB⟩
   ·simp -implicitDefEqProofs (disch := first | decide | assumption | omega) only [go_sem, plGb_none, ldOk, true_and]
    refine CallA.mono (sPick_ok _ _ ([(2 : Int), (3 : Int), (5 : Int), (7 : Int), (4 : Int)]) _ _ _ _ ho2_2 (hf1_1.mono (by omega)) ho2_6 (apart_gt hfho2_6 hlho2_2 (by omega)) (by simp) (by simp)) ?_
    intro v_ h2_7
    rintro ⟨x2_7, rfl, hx2_7, ho2_7, c2_7⟩
    simp only [List.mem_cons, List.not_mem_nil, or_false] at hx2_7
    have hsz2_7 := c2_7.size
    replace ho2_6 := OS.chg ho2_6 c2_7 (apart_gt hfho2_6 hlho2_2 (by omega))
    have := c2_7.size
    replace eB := Ext.then eB c2_7 (ge_of hf1_1 (by omega))
    have ap12 : Apart [h2_2.size] fw1_1 := (apart_gt hfho2_6 hlho2_2 (by omega))
    have hlho2_7 := hlho2_2
    refine plKb_pres (Chg.pb c2_7 (fun b hb => hb)) ?_
    try simp -implicitDefEqProofs (disch := first | decide | assumption | omega) only [go_sem, plGb_none, ldOk, true_and]
    refine op_bsT6 (a0 := ([112, 111, 105, 110, 116])) (a1 := ([99, 105, 114, 99, 108, 101])) (a2 := ([116, 111, 114, 117, 115])) (a3 := ([100, 105, 115, 99])) (a4 := ([115, 112, 104, 101, 114, 101])) (a5 := ([])) rfl rfl rfl rfl rfl rfl ?_
    intro v2_0 h2_0 ho2_0 e2_0
    replace ho2_6 := OS.ext ho2_6 e2_0
    replace ho2_7 := OSr.ext ho2_7 e2_0
    have := Ext.size e2_0
    replace eB := Ext.trans eB e2_0
    have hlenho2_0 : ([([112, 111, 105, 110, 116]), ([99, 105, 114, 99, 108, 101]), ([116, 111, 114, 117, 115]), ([100, 105, 115, 99]), ([115, 112, 104, 101, 114, 101]), ([])] : List (List UInt8)).length = 6 := rfl
    have hfho2_0 : Fresh h2_7.size [h2_7.size] := Fresh.one _
    have hlho2_0 := OS.lt ho2_0
    have hnbho2_0 : ∀ j, ((sA v2_0).add j).block ∉ fw1_1 := OS.blk ho2_0 (by decide) (apart_lt hlho2_7 hfho2_0 (by omega))
    try simp (disch := decide) only [outv_some, put_puts]
    refine plKb_pres ((Ext.pres e2_0).pb) ?_
    try simp -implicitDefEqProofs (disch := first | decide | assumption | omega) only [go_sem, plGb_none, ldOk, ldA, not_false_eq_true, true_and, hnbho2_0, ld9, RdS.idx (OS.rd ho2_0) sl89, RT.strN (OS.rd ho2_0)]
    refine hK _ _ ?_
    clear hK K
    refine den_ret ?_
    simp (disch := decide) only [resP_2, puts_same, puts_ne]
    exact ⟨_, _, rfl, eB⟩
 ·simp -implicitDefEqProofs (disch := first | decide | assumption | omega) only [go_sem, plGb_none, ldOk, true_and]
  refine op_bsI5 (a0 := (2 : Int)) (a1 := (3 : Int)) (a2 := (5 : Int)) (a3 := (7 : Int)) (a4 := (4 : Int)) rfl rfl rfl rfl rfl ?_
  intro v2_6 h2_6 ho2_6 e2_6
  replace ho1_1 := OSr.ext ho1_1 e2_6
  have := Ext.size e2_6
  replace eB := Ext.trans eB e2_6
  have hlenho2_6 : ([(2 : Int), (3 : Int), (5 : Int), (7 : Int), (4 : Int)] : List Int).length = 5 := rfl
  have hfho2_6 : Fresh h1_1.size [h1_1.size] := Fresh.one _
  have hlho2_6 := OS.lt ho2_6
  try simp (disch := decide) only [outv_some, put_puts]
  refine plKb_pres ((Ext.pres e2_6).pb) ?_
  try simp -implicitDefEqProofs (disch := first | decide | assumption | omega) only [go_sem]
  refine And.intro ?_ ?_
  ·simp -implicitDefEqProofs (disch := first | decide | assumption | omega) only [go_sem, plGb_none, ldOk, true_and]
   refine op_bsT6 (a0 := ([112, 111, 105, 110, 116])) (a1 := ([99, 105, 114, 99, 108, 101])) (a2 := ([116, 111, 114, 117, 115])) (a3 := ([100, 105, 115, 99])) (a4 := ([115, 112, 104, 101, 114, 101])) (a5 := ([])) rfl rfl rfl rfl rfl rfl ?_
   intro v2_0 h2_0 ho2_0 e2_0
   replace ho1_1 := OSr.ext ho1_1 e2_0
   replace ho2_6 := OS.ext ho2_6 e2_0
   have := Ext.size e2_0
   replace eB := Ext.trans eB e2_0
   have hlenho2_0 : ([([112, 111, 105, 110, 116]), ([99, 105, 114, 99, 108, 101]), ([116, 111, 114, 117, 115]), ([100, 105, 115, 99]), ([115, 112, 104, 101, 114, 101]), ([])] : List (List UInt8)).length = 6 := rfl
   have hfho2_0 : Fresh h2_6.size [h2_6.size] := Fresh.one _
   have hlho2_0 := OS.lt ho2_0
   have hnbho2_0 : ∀ j, ((sA v2_0).add j).block ∉ fw1_1 := OS.blk ho2_0 (by decide) (apart_lt hlho1_1 hfho2_0 (by omega))
   try simp (disch := decide) only [outv_some, put_puts]
   refine plKb_pres ((Ext.pres e2_0).pb) ?_
   try simp -implicitDefEqProofs (disch := first | decide | assumption | omega) only [go_sem, plGb_none, ldOk, true_and]
   refine CallA.mono (sNext_ok _ _ (6 : Int) _ _ ho1_1) ?_
   intro v_ h2_2
   rintro ⟨x2_2, rfl, hx2_2, ho2_2, c2_2⟩
   replace hx2_2 := hx2_2 (by first | omega | (simp; done))
   have hsz2_2 := c2_2.size
   replace ho2_6 := OS.chg ho2_6 c2_2 (apart_gt hfho2_6 hlho1_1 (by omega))
   replace ho2_0 := OS.chg ho2_0 c2_2 (apart_gt hfho2_0 hlho1_1 (by omega))
   have := c2_2.size
   replace eB := Ext.then eB c2_2 (ge_of hf1_1 (by omega))
   have ap13 : Apart [h1_1.size] fw1_1 := (apart_gt hfho2_6 hlho1_1 (by omega))
   have ap14 : Apart [h2_6.size] fw1_1 := (apart_gt hfho2_0 hlho1_1 (by omega))
   have hlho2_2 := hlho1_1
   refine plKb_pres (Chg.pb c2_2 (fun b hb => hb)) ?_
   try simp -implicitDefEqProofs (disch := first | decide | assumption | omega) only [go_sem, plGb_none, ldOk, ldA, not_false_eq_true, true_and, hnbho2_0, ld9, RdS.idx (OS.rd ho2_0) sl89, RT.strN (OS.rd ho2_0)]
   refine CallA.mono (sPick_ok _ _ ([(2 : Int), (3 : Int), (5 : Int), (7 : Int), (4 : Int)]) _ _ _ _ ho2_2 (hf1_1.mono (by omega)) ho2_6 ap13 (by simp) (by simp)) ?_
   intro v_ h2_7
   rintro ⟨x2_7, rfl, hx2_7, ho2_7, c2_7⟩
   simp only [List.mem_cons, List.not_mem_nil, or_false] at hx2_7
   have hsz2_7 := c2_7.size
   replace ho2_6 := OS.chg ho2_6 c2_7 ap13
   replace ho2_0 := OS.chg ho2_0 c2_7 ap14
   have := c2_7.size
   replace eB := Ext.then eB c2_7 (ge_of hf1_1 (by omega))
   have ap15 : Apart [h1_1.size] fw1_1 := ap13
   have ap16 : Apart [h2_6.size] fw1_1 := ap14
   have hlho2_7 := hlho2_2
   refine plKb_pres (Chg.pb c2_7 (fun b hb => hb)) ?_
   try simp -implicitDefEqProofs (disch := first | decide | assumption | omega) only [go_sem, plGb_none, ldOk, true_and]
   refine hK _ _ ?_
   clear hK K
   refine den_ret ?_
   simp (disch := decide) only [resP_2, puts_same, puts_ne]
   exact ⟨_, _, rfl, eB⟩
  ·simp -implicitDefEqProofs (disch := first | decide | assumption | omega) only [go_sem, plGb_none, ldOk, true_and]
   refine CallA.mono (sNext_ok _ _ (6 : Int) _ _ ho1_1) ?_
   intro v_ h2_2
   rintro ⟨x2_2, rfl, hx2_2, ho2_2, c2_2⟩
   replace hx2_2 := hx2_2 (by first | omega | (simp; done))
   have hsz2_2 := c2_2.size
   replace ho2_6 := OS.chg ho2_6 c2_2 (apart_gt hfho2_6 hlho1_1 (by omega))
   have := c2_2.size
   replace eB := Ext.then eB c2_2 (ge_of hf1_1 (by omega))
   have ap17 : Apart [h1_1.size] fw1_1 := (apart_gt hfho2_6 hlho1_1 (by omega))
   have hlho2_2 := hlho1_1
   refine plKb_pres (Chg.pb c2_2 (fun b hb => hb)) ?_
   try simp -implicitDefEqProofs (disch := first | decide | assumption | omega) only [go_sem]
   refine And.intro ?_ ?_
   ·simp -implicitDefEqProofs (disch := first | decide | assumption | omega) only [go_sem, plGb_none, ldOk, true_and]
    refine op_bsT6 (a0 := ([112, 111, 105, 110, 116])) (a1 := ([99, 105, 114, 99, 108, 101])) (a2 := ([116, 111, 114, 117, 115])) (a3 := ([100, 105, 115, 99])) (a4 := ([115, 112, 104, 101, 114, 101])) (a5 := ([])) rfl rfl rfl rfl rfl rfl ?_
    intro v2_0 h2_0 ho2_0 e2_0
    replace ho2_6 := OS.ext ho2_6 e2_0
    replace ho2_2 := OSr.ext ho2_2 e2_0
    have := Ext.size e2_0
    replace eB := Ext.trans eB e2_0
    have hlenho2_0 : ([([112, 111, 105, 110, 116]), ([99, 105, 114, 99, 108, 101]), ([116, 111, 114, 117, 115]), ([100, 105, 115, 99]), ([115, 112, 104, 101, 114, 101]), ([])] : List (List UInt8)).length = 6 := rfl
    have hfho2_0 : Fresh h2_2.size [h2_2.size] := Fresh.one _
    have hlho2_0 := OS.lt ho2_0
    have hnbho2_0 : ∀ j, ((sA v2_0).add j).block ∉ fw1_1 := OS.blk ho2_0 (by decide) (apart_lt hlho2_2 hfho2_0 (by omega))
    try simp (disch := decide) only [outv_some, put_puts]
    refine plKb_pres ((Ext.pres e2_0).pb) ?_
    try simp -implicitDefEqProofs (disch := first | decide | assumption | omega) only [go_sem, plGb_none, ldOk, ldA, not_false_eq_true, true_and, hnbho2_0, ld9, RdS.idx (OS.rd ho2_0) sl89, RT.strN (OS.rd ho2_0)]
    refine CallA.mono (sPick_ok _ _ ([(2 : Int), (3 : Int), (5 : Int), (7 : Int), (4 : Int)]) _ _ _ _ ho2_2 (hf1_1.mono (by omega)) ho2_6 ap17 (by simp) (by simp)) ?_
    intro v_ h2_7
    rintro ⟨x2_7, rfl, hx2_7, ho2_7, c2_7⟩
    simp only [List.mem_cons, List.not_mem_nil, or_false] at hx2_7
    have hsz2_7 := c2_7.size
    replace ho2_6 := OS.chg ho2_6 c2_7 ap17
    replace ho2_0 := OS.chg ho2_0 c2_7 (apart_gt hfho2_0 hlho2_2 (by omega))
    have := c2_7.size
    replace eB := Ext.then eB c2_7 (ge_of hf1_1 (by omega))
    have ap18 : Apart [h1_1.size] fw1_1 := ap17
    have ap19 : Apart [h2_2.size] fw1_1 := (apart_gt hfho2_0 hlho2_2 (by omega))
    have hlho2_7 := hlho2_2
    refine plKb_pres (Chg.pb c2_7 (fun b hb => hb)) ?_
    try simp -implicitDefEqProofs (disch := first | decide | assumption | omega) only [go_sem, plGb_none, ldOk, true_and]
    refine hK _ _ ?_
    clear hK K
    refine den_ret ?_
    simp (disch := decide) only [resP_2, puts_same, puts_ne]
    exact ⟨_, _, rfl, eB⟩
   ·simp -implicitDefEqProofs (disch := first | decide | assumption | omega) only [go_sem, plGb_none, ldOk, true_and]
    refine CallA.mono (sPick_ok _ _ ([(2 : Int), (3 : Int), (5 : Int), (7 : Int), (4 : Int)]) _ _ _ _ ho2_2 (hf1_1.mono (by omega)) ho2_6 ap17 (by simp) (by simp)) ?_
    intro v_ h2_7
    rintro ⟨x2_7, rfl, hx2_7, ho2_7, c2_7⟩
    simp only [List.mem_cons, List.not_mem_nil, or_false] at hx2_7
    have hsz2_7 := c2_7.size
    replace ho2_6 := OS.chg ho2_6 c2_7 ap17
    have := c2_7.size
    replace eB := Ext.then eB c2_7 (ge_of hf1_1 (by omega))
    have ap20 : Apart [h1_1.size] fw1_1 := ap17
    have hlho2_7 := hlho2_2
    refine plKb_pres (Chg.pb c2_7 (fun b hb => hb)) ?_
    try simp -implicitDefEqProofs (disch := first | decide | assumption | omega) only [go_sem, plGb_none, ldOk, true_and]
    refine op_bsT6 (a0 := ([112, 111, 105, 110, 116])) (a1 := ([99, 105, 114, 99, 108, 101])) (a2 := ([116, 111, 114, 117, 115])) (a3 := ([100, 105, 115, 99])) (a4 := ([115, 112, 104, 101, 114, 101])) (a5 := ([])) rfl rfl rfl rfl rfl rfl ?_
    intro v2_0 h2_0 ho2_0 e2_0
    replace ho2_6 := OS.ext ho2_6 e2_0
    replace ho2_7 := OSr.ext ho2_7 e2_0
    have := Ext.size e2_0
    replace eB := Ext.trans eB e2_0
    have hlenho2_0 : ([([112, 111, 105, 110, 116]), ([99, 105, 114, 99, 108, 101]), ([116, 111, 114, 117, 115]), ([100, 105, 115, 99]), ([115, 112, 104, 101, 114, 101]), ([])] : List (List UInt8)).length = 6 := rfl
    have hfho2_0 : Fresh h2_7.size [h2_7.size] := Fresh.one _
    have hlho2_0 := OS.lt ho2_0
    have hnbho2_0 : ∀ j, ((sA v2_0).add j).block ∉ fw1_1 := OS.blk ho2_0 (by decide) (apart_lt hlho2_7 hfho2_0 (by omega))
    try simp (disch := decide) only [outv_some, put_puts]
    refine plKb_pres ((Ext.pres e2_0).pb) ?_
    try simp -implicitDefEqProofs (disch := first | decide | assumption | omega) only [go_sem, plGb_none, ldOk, ldA, not_false_eq_true, true_and, hnbho2_0, ld9, RdS.idx (OS.rd ho2_0) sl89, RT.strN (OS.rd ho2_0)]
    refine hK _ _ ?_
    clear hK K
    refine den_ret ?_
    simp (disch := decide) only [resP_2, puts_same, puts_ne]
    exact ⟨_, _, rfl, eB⟩
end Go.Proofs.Ytacajcjibhifmaa

namespace Go.Proofs.Ytacajcjibhifmaa
open Go
set_option maxRecDepth 100000 in
set_option maxHeartbeats 40000000 in
theorem dTn_ok (vc : Value) (code : List Int) (h : Heap) (rc : RY h vc code) : CallA Try.prog 23 #[vc] h fun u h' => ∃ X Y : Dg, u = .tuple #[.agg (dgA X), .agg (dgA Y)] ∧ DgB X ∧ DgB Y ∧ Ext h h' := by
 have hle := RdS.le rc
 refine callA_intro TTok (args := [_]) Try.func23 (by kernel_rfl) rfl 37 rfl (by simp) [.cell 2 34, .cell 3 34] rfl ?_
 simp only [idxs]
 refine den_seq ?_
 refine den_region TTok ?_
 intro K hK
 simp -implicitDefEqProofs (disch := first | decide | assumption | omega) only [go_sem]
 refine op_alloc (cs := dgA dgZ) (by kernel_rfl) ?_
 intro h0_0 e0_0 hb0_0 z0_0
 have := Ext.size e0_0
 have eB := e0_0
 have hfhb0_0 : Fresh h.size [h.size] := Fresh.one _
 have hlhb0_0 := one_lt (show h.size < h0_0.size by omega)
 try simp -implicitDefEqProofs (disch := first | decide | assumption | omega) only [go_sem]
 refine op_alloc (cs := dgA dgZ) (by kernel_rfl) ?_
 intro h0_1 e0_1 hb0_1 z0_1
 replace hb0_0 := BoxAt.ext hb0_0 e0_1
 have := Ext.size e0_1
 replace eB := Ext.trans eB e0_1
 have hfhb0_1 : Fresh h0_0.size [h0_0.size] := Fresh.one _
 have hlhb0_1 := one_lt (show h0_0.size < h0_1.size by omega)
 try simp -implicitDefEqProofs (disch := first | decide | assumption | omega) only [go_sem]
 refine hK _ _ ?_
 clear hK K
 refine den_seq ?_
 refine den_region TTok ?_
 intro K hK
 simp -implicitDefEqProofs (disch := first | decide | assumption | omega) only [go_sem]
 refine CallA.mono (sFrom_ok _ _ _ (RdS.pres rc (Ext.pres eB))) ?_
 intro vw1_1 h1_1
 rintro ⟨z1_1, zvw1_1, fw1_1, rfl, ho1_1, hf1_1, hz1_1, e1_1⟩
 replace hb0_0 := BoxAt.ext hb0_0 e1_1
 replace hb0_1 := BoxAt.ext hb0_1 e1_1
 have := Ext.size e1_1
 replace eB := Ext.trans eB e1_1
 have hlho1_1 := OSr.lt ho1_1
 refine hK _ _ ?_
 clear hK K
 refine den_seq ?_
 refine den_region TTok ?_
 intro K hK
 simp -implicitDefEqProofs (disch := first | decide | assumption | omega) only [go_sem]
 refine CallA.mono (sDr_ok _ _ _ _ ho1_1 (hf1_1.mono (by omega))) ?_
 intro v_ h2_1
 rintro ⟨A2_1, rfl, hBA2_1, ho2_1, c2_1⟩
 have hsz2_1 := c2_1.size
 replace hb0_0 := BoxAt.chgA hb0_0 c2_1 (apart_lt hlhb0_0 hf1_1 (by omega))
 replace hb0_1 := BoxAt.chgA hb0_1 c2_1 (apart_lt hlhb0_1 hf1_1 (by omega))
 have := c2_1.size
 replace eB := Ext.then eB c2_1 (ge_of hf1_1 (by omega))
 have hlho2_1 := hlho1_1
 refine op_alloc (cs := dgA dgZ) (by kernel_rfl) ?_
 intro h2_2 e2_2 hb2_2 z2_2
 replace ho2_1 := OSr.ext ho2_1 e2_2
 replace hb0_0 := BoxAt.ext hb0_0 e2_2
 replace hb0_1 := BoxAt.ext hb0_1 e2_2
 have := Ext.size e2_2
 replace eB := Ext.trans eB e2_2
 have hfhb2_2 : Fresh h2_1.size [h2_1.size] := Fresh.one _
 have hlhb2_2 := one_lt (show h2_1.size < h2_2.size by omega)
 try simp -implicitDefEqProofs (disch := first | decide | assumption | omega) only [go_sem]
 refine op_storeDg (Y := A2_1) hb2_2 rfl rfl ?_
 intro h2_3 hb2_2 c2_3
 replace ho2_1 := OSr.chg ho2_1 c2_3 (apart_lt hlho2_1 hfhb2_2 (by omega)) (ge_of hfhb2_2 (by omega))
 replace hb0_0 := BoxAt.chgA hb0_0 c2_3 (apart_lt hlhb0_0 hfhb2_2 (by omega))
 replace hb0_1 := BoxAt.chgA hb0_1 c2_3 (apart_lt hlhb0_1 hfhb2_2 (by omega))
 have := c2_3.size
 replace eB := Ext.then eB c2_3 (ge_of hfhb2_2 (by omega))
 try simp -implicitDefEqProofs (disch := first | decide | assumption | omega) only [go_sem]
 refine hK _ _ ?_
 clear hK K
 refine den_seq ?_
 refine den_region TTok ?_
 intro K hK
 simp -implicitDefEqProofs (disch := first | decide | assumption | omega) only [go_sem]
 refine CallA.mono (sDr_ok _ _ _ _ ho2_1 (hf1_1.mono (by omega))) ?_
 intro v_ h3_1
 rintro ⟨A3_1, rfl, hBA3_1, ho3_1, c3_1⟩
 have hsz3_1 := c3_1.size
 replace hb0_0 := BoxAt.chgA hb0_0 c3_1 (apart_lt hlhb0_0 hf1_1 (by omega))
 replace hb0_1 := BoxAt.chgA hb0_1 c3_1 (apart_lt hlhb0_1 hf1_1 (by omega))
 replace hb2_2 := BoxAt.chgA hb2_2 c3_1 (apart_gt hfhb2_2 hlho2_1 (by omega))
 have := c3_1.size
 replace eB := Ext.then eB c3_1 (ge_of hf1_1 (by omega))
 have ap1 : Apart [h2_1.size] fw1_1 := (apart_gt hfhb2_2 hlho2_1 (by omega))
 have hlho3_1 := hlho2_1
 refine op_alloc (cs := dgA dgZ) (by kernel_rfl) ?_
 intro h3_2 e3_2 hb3_2 z3_2
 replace ho3_1 := OSr.ext ho3_1 e3_2
 replace hb0_0 := BoxAt.ext hb0_0 e3_2
 replace hb0_1 := BoxAt.ext hb0_1 e3_2
 replace hb2_2 := BoxAt.ext hb2_2 e3_2
 have := Ext.size e3_2
 replace eB := Ext.trans eB e3_2
 have hfhb3_2 : Fresh h3_1.size [h3_1.size] := Fresh.one _
 have hlhb3_2 := one_lt (show h3_1.size < h3_2.size by omega)
 try simp -implicitDefEqProofs (disch := first | decide | assumption | omega) only [go_sem]
 refine op_storeDg (Y := A3_1) hb3_2 rfl rfl ?_
 intro h3_3 hb3_2 c3_3
 replace ho3_1 := OSr.chg ho3_1 c3_3 (apart_lt hlho3_1 hfhb3_2 (by omega)) (ge_of hfhb3_2 (by omega))
 replace hb0_0 := BoxAt.chgA hb0_0 c3_3 (apart_lt hlhb0_0 hfhb3_2 (by omega))
 replace hb0_1 := BoxAt.chgA hb0_1 c3_3 (apart_lt hlhb0_1 hfhb3_2 (by omega))
 replace hb2_2 := BoxAt.chgA hb2_2 c3_3 (apart_lt hlhb2_2 hfhb3_2 (by omega))
 have := c3_3.size
 replace eB := Ext.then eB c3_3 (ge_of hfhb3_2 (by omega))
 try simp -implicitDefEqProofs (disch := first | decide | assumption | omega) only [go_sem]
 refine hK _ _ ?_
 clear hK K
 refine den_seq ?_
 refine den_seq ?_
 refine den_region TTok ?_
 intro K hK
 simp -implicitDefEqProofs (disch := first | decide | assumption | (simp (disch := decide) only [gvA, eq_self, if_true, if_false, Bool.false_eq_true]; done) | omega) only [go_sem]
 refine CallA.mono (sNext_ok _ _ (2 : Int) _ _ ho3_1) ?_
 intro v_ h4_1
 rintro ⟨x4_1, rfl, hx4_1, ho4_1, c4_1⟩
 replace hx4_1 := hx4_1 (by first | omega | (simp; done))
 have hsz4_1 := c4_1.size
 replace hb0_0 := BoxAt.chgA hb0_0 c4_1 (apart_lt hlhb0_0 hf1_1 (by omega))
 replace hb0_1 := BoxAt.chgA hb0_1 c4_1 (apart_lt hlhb0_1 hf1_1 (by omega))
 replace hb2_2 := BoxAt.chgA hb2_2 c4_1 ap1
 replace hb3_2 := BoxAt.chgA hb3_2 c4_1 (apart_gt hfhb3_2 hlho3_1 (by omega))
 have := c4_1.size
 replace eB := Ext.then eB c4_1 (ge_of hf1_1 (by omega))
 have ap2 : Apart [h2_1.size] fw1_1 := ap1
 have ap3 : Apart [h3_1.size] fw1_1 := (apart_gt hfhb3_2 hlho3_1 (by omega))
 have hlho4_1 := hlho3_1
 try simp -implicitDefEqProofs (disch := first | decide | assumption | (simp (disch := decide) only [gvA, eq_self, if_true, if_false, Bool.false_eq_true]; done) | omega) only [go_sem]
 refine opsP_T (by simp (disch := decide) only [slotOf_zero, slotOf_succ, Option.map_some, puts_same]; rfl) (fun g4 => ?_) (fun g4 => ?_)
 ·try simp -implicitDefEqProofs (disch := first | decide | assumption | (simp (disch := decide) only [gvA, eq_self, if_true, if_false, Bool.false_eq_true, g4]; done) | omega) only [go_sem, fa34_0, ld2, BoxAt.dgP hb2_2, g4, eq_self, if_true]
  refine CallA.pure (sPrime_ok _ _) ?_
  refine hK _ _ ?_
  clear hK K
  refine den_cond rfl (fun c0 => ?_) (fun c0 => ?_)
  ·have hpp := isP_bnd (by simpa using c0)
   refine den_seq ?_
   refine den_sel [2, 3, 4, 5, 6] ?_
   intro env_5
   simp only [go_sem]
   refine den_drawTJB (σ := Nat × Dg) TTok (fun st_ => [(7, .pointer (some ⟨st_.1, 0, none⟩))]) (fun st_ H => (DgB st_.2) ∧ (BoxAt H st_.1 (dgA st_.2) 34) ∧ (Fresh h4_1.size [st_.1]) ∧ (OSr H vw1_1 (z1_1) fw1_1) ∧ (Chg fw1_1 h4_1 H)) mixed fw1_1 [12] [(1, true), (5, true), (6, true)] (.fork3 0 [] (.fork 2 [(3, true), (4, true)] (.fork 7 [(8, true), (9, true)] (.fork 10 [(11, false), (12, false), (13, true)] .fin 11 [] (.fork 10 [(12, false), (13, true)] .fin 12 [(10, true), (13, true)] .fin)) 11 [(7, false), (8, true), (9, true)] (.fork 10 [(12, false), (13, true)] .fin 12 [(10, true), (13, true)] .fin)) 11 [(2, false), (3, true), (4, true), (7, false), (8, true), (9, true)] (.fork 10 [(12, false), (13, true)] .fin 12 [(10, true), (13, true)] .fin)) 2 [] (.fork 0 [(3, true), (4, true)] (.fork 7 [(8, true), (9, true)] (.fork 10 [(11, false), (12, false), (13, true)] .fin 11 [] (.fork 10 [(12, false), (13, true)] .fin 12 [(10, true), (13, true)] .fin)) 11 [(7, false), (8, true), (9, true)] (.fork 10 [(12, false), (13, true)] .fin 12 [(10, true), (13, true)] .fin)) 11 [(0, false), (3, true), (4, true), (7, false), (8, true), (9, true)] (.fork 10 [(12, false), (13, true)] .fin 12 [(10, true), (13, true)] .fin)) 11 [] (.fork 0 [(2, false), (3, true), (4, true), (7, false), (8, true), (9, true)] (.fork 10 [(12, false), (13, true)] .fin 12 [(10, true), (13, true)] .fin) 2 [(0, false), (3, true), (4, true), (7, false), (8, true), (9, true)] (.fork 10 [(12, false), (13, true)] .fin 12 [(10, true), (13, true)] .fin))) (by kernel_rfl) ?_ ?_
   ·intro K hK
    have hnB : h2_1.size ∉ fw1_1 := fun hb => (Apart.symm ap2) _ hb (List.mem_singleton.2 rfl)
    have cJ6 := Chg.refl fw1_1 h4_1
    simp -implicitDefEqProofs (disch := first | decide | assumption | omega) only [go_sem, plGb_none, ldOk, ldA, hnB, not_false_eq_true, true_and, fa34_0, ld2, BoxAt.dgP hb2_2, sV_p, sV_c, sV_d]
    refine And.intro ?_ (And.intro ?_ ?_)
    ·simp -implicitDefEqProofs (disch := first | decide | assumption | omega) only [go_sem, plGb_none, ldOk, true_and]
     refine op_bsT3 (a0 := ([112, 111, 105, 110, 116])) (a1 := ([99, 105, 114, 99, 108, 101])) (a2 := ([100, 105, 115, 99])) rfl rfl rfl ?_
     intro v5_0 h5_0 ho5_0 e5_0
     replace ho4_1 := OSr.ext ho4_1 e5_0
     replace hb0_0 := BoxAt.ext hb0_0 e5_0
     replace hb0_1 := BoxAt.ext hb0_1 e5_0
     replace hb2_2 := BoxAt.ext hb2_2 e5_0
     replace hb3_2 := BoxAt.ext hb3_2 e5_0
     have := Ext.size e5_0
     replace eB := Ext.trans eB e5_0
     replace cJ6 := Chg.stepE cJ6 e5_0
     have hlenho5_0 : ([([112, 111, 105, 110, 116]), ([99, 105, 114, 99, 108, 101]), ([100, 105, 115, 99])] : List (List UInt8)).length = 3 := rfl
     have hfho5_0 : Fresh h4_1.size [h4_1.size] := Fresh.one _
     have hlho5_0 := OS.lt ho5_0
     have hnbho5_0 : ∀ j, ((sA v5_0).add j).block ∉ fw1_1 := OS.blk ho5_0 (by decide) (apart_lt hlho4_1 hfho5_0 (by omega))
     try simp (disch := decide) only [outv_some, put_puts]
     refine plKb_pres ((Ext.pres e5_0).pb) ?_
     try simp -implicitDefEqProofs (disch := first | decide | assumption | omega) only [go_sem]
     refine And.intro ?_ ?_
     ·simp -implicitDefEqProofs (disch := first | decide | assumption | omega) only [go_sem, plGb_none, ldOk, true_and]
      refine CallA.mono (sNext_ok _ _ (3 : Int) _ _ ho4_1) ?_
      intro v_ h5_2
      rintro ⟨x5_2, rfl, hx5_2, ho5_2, c5_2⟩
      replace hx5_2 := hx5_2 (by first | omega | (simp; done))
      have hsz5_2 := c5_2.size
      replace ho5_0 := OS.chg ho5_0 c5_2 (apart_gt hfho5_0 hlho4_1 (by omega))
      replace hb0_0 := BoxAt.chgA hb0_0 c5_2 (apart_lt hlhb0_0 hf1_1 (by omega))
      replace hb0_1 := BoxAt.chgA hb0_1 c5_2 (apart_lt hlhb0_1 hf1_1 (by omega))
      replace hb2_2 := BoxAt.chgA hb2_2 c5_2 ap2
      replace hb3_2 := BoxAt.chgA hb3_2 c5_2 ap3
      have := c5_2.size
      replace eB := Ext.then eB c5_2 (ge_of hf1_1 (by omega))
      replace cJ6 := Chg.step cJ6 c5_2 Sub.refl
      have ap7 : Apart [h4_1.size] fw1_1 := (apart_gt hfho5_0 hlho4_1 (by omega))
      have ap8 : Apart [h2_1.size] fw1_1 := ap2
      have ap9 : Apart [h3_1.size] fw1_1 := ap3
      have hlho5_2 := hlho4_1
      refine plKb_pres (Chg.pb c5_2 (fun b hb => hb)) ?_
      try simp -implicitDefEqProofs (disch := first | decide | assumption | omega) only [go_sem, plGb_none, ldOk, ldA, not_false_eq_true, true_and, hnbho5_0, ld9, RdS.idx (OS.rd ho5_0) sl89, RT.strN (OS.rd ho5_0)]
      refine And.intro ?_ ?_
      ·simp -implicitDefEqProofs (disch := first | decide | assumption | omega) only [go_sem, plGb_none, ldOk, true_and]
       refine CallA.mono (sNam_ok  (([([112, 111, 105, 110, 116]), ([99, 105, 114, 99, 108, 101]), ([100, 105, 115, 99])]).getD (x5_2).toNat []) A2_1.p _  hpp) ?_
       intro v_ h5_7
       rintro ⟨rfl, e5_7⟩
       replace ho5_0 := OS.ext ho5_0 e5_7
       replace ho5_2 := OSr.ext ho5_2 e5_7
       replace hb0_0 := BoxAt.ext hb0_0 e5_7
       replace hb0_1 := BoxAt.ext hb0_1 e5_7
       replace hb2_2 := BoxAt.ext hb2_2 e5_7
       replace hb3_2 := BoxAt.ext hb3_2 e5_7
       have := Ext.size e5_7
       replace eB := Ext.trans eB e5_7
       replace cJ6 := Chg.stepE cJ6 e5_7
       refine plKb_pres ((Ext.pres e5_7).pb) ?_
       try simp -implicitDefEqProofs (disch := first | decide | assumption | omega) only [go_sem, plGb_none, ldOk, true_and]
       refine And.intro ?_ ?_
       ·simp -implicitDefEqProofs (disch := first | decide | assumption | omega) only [go_sem, plGb_none, ldOk, true_and]
        refine op_alloc (cs := dgA dgZ) (by kernel_rfl) ?_
        intro h5_11 e5_11 hb5_11 z5_11
        replace ho5_0 := OS.ext ho5_0 e5_11
        replace ho5_2 := OSr.ext ho5_2 e5_11
        replace hb0_0 := BoxAt.ext hb0_0 e5_11
        replace hb0_1 := BoxAt.ext hb0_1 e5_11
        replace hb2_2 := BoxAt.ext hb2_2 e5_11
        replace hb3_2 := BoxAt.ext hb3_2 e5_11
        have := Ext.size e5_11
        replace eB := Ext.trans eB e5_11
        replace cJ6 := Chg.stepE cJ6 e5_11
        have hfhb5_11 : Fresh h5_7.size [h5_7.size] := Fresh.one _
        have hlhb5_11 := one_lt (show h5_7.size < h5_11.size by omega)
        try simp (disch := decide) only [outv_some, put_puts]
        refine plKb_pres ((Ext.pres e5_11).pb) ?_
        try simp -implicitDefEqProofs (disch := first | decide | assumption | omega) only [go_sem, plGb_none, ldOk, true_and]
        refine op_storeDg (Y := nmL (([([112, 111, 105, 110, 116]), ([99, 105, 114, 99, 108, 101]), ([100, 105, 115, 99])]).getD (x5_2).toNat []) A2_1.p) hb5_11 rfl rfl ?_
        intro h5_12 hb5_11 c5_12
        replace ho5_0 := OS.chg ho5_0 c5_12 (apart_lt hlho5_0 hfhb5_11 (by omega))
        replace ho5_2 := OSr.chg ho5_2 c5_12 (apart_lt hlho5_2 hfhb5_11 (by omega)) (ge_of hfhb5_11 (by omega))
        replace hb0_0 := BoxAt.chgA hb0_0 c5_12 (apart_lt hlhb0_0 hfhb5_11 (by omega))
        replace hb0_1 := BoxAt.chgA hb0_1 c5_12 (apart_lt hlhb0_1 hfhb5_11 (by omega))
        replace hb2_2 := BoxAt.chgA hb2_2 c5_12 (apart_lt hlhb2_2 hfhb5_11 (by omega))
        replace hb3_2 := BoxAt.chgA hb3_2 c5_12 (apart_lt hlhb3_2 hfhb5_11 (by omega))
        have := c5_12.size
        replace eB := Ext.then eB c5_12 (ge_of hfhb5_11 (by omega))
        replace cJ6 := Chg.step cJ6 c5_12 (Sub.fresh hfhb5_11 (by omega))
        try simp (disch := decide) only [outv_none]
        refine plKb_last (by decide) ?_
        try simp -implicitDefEqProofs (disch := first | decide | assumption | omega) only [go_sem, plGb_none, ldOk, true_and]
        exact hK (h5_7.size, nmL (([([112, 111, 105, 110, 116]), ([99, 105, 114, 99, 108, 101]), ([100, 105, 115, 99])]).getD (x5_2).toNat []) A2_1.p) _ _ (by simp [HasL, puts_at]) ⟨(nmL_db _ hpp), hb5_11, (hfhb5_11.mono (by omega)), ho5_2, cJ6⟩
       ·simp -implicitDefEqProofs (disch := first | decide | assumption | omega) only [go_sem, plGb_none, ldOk, true_and]
        refine op_alloc (cs := dgA dgZ) (by kernel_rfl) ?_
        intro h5_11 e5_11 hb5_11 z5_11
        replace ho5_0 := OS.ext ho5_0 e5_11
        replace ho5_2 := OSr.ext ho5_2 e5_11
        replace hb0_0 := BoxAt.ext hb0_0 e5_11
        replace hb0_1 := BoxAt.ext hb0_1 e5_11
        replace hb2_2 := BoxAt.ext hb2_2 e5_11
        replace hb3_2 := BoxAt.ext hb3_2 e5_11
        have := Ext.size e5_11
        replace eB := Ext.trans eB e5_11
        replace cJ6 := Chg.stepE cJ6 e5_11
        have hfhb5_11 : Fresh h5_7.size [h5_7.size] := Fresh.one _
        have hlhb5_11 := one_lt (show h5_7.size < h5_11.size by omega)
        try simp (disch := decide) only [outv_some, put_puts]
        refine plKb_pres ((Ext.pres e5_11).pb) ?_
        try simp -implicitDefEqProofs (disch := first | decide | assumption | omega) only [go_sem]
        refine And.intro ?_ ?_
        ·simp -implicitDefEqProofs (disch := first | decide | assumption | omega) only [go_sem, plGb_none, ldOk, true_and]
         refine op_storeDg (Y := nmL (([([112, 111, 105, 110, 116]), ([99, 105, 114, 99, 108, 101]), ([100, 105, 115, 99])]).getD (x5_2).toNat []) A2_1.p) hb5_11 rfl rfl ?_
         intro h5_12 hb5_11 c5_12
         replace ho5_0 := OS.chg ho5_0 c5_12 (apart_lt hlho5_0 hfhb5_11 (by omega))
         replace ho5_2 := OSr.chg ho5_2 c5_12 (apart_lt hlho5_2 hfhb5_11 (by omega)) (ge_of hfhb5_11 (by omega))
         replace hb0_0 := BoxAt.chgA hb0_0 c5_12 (apart_lt hlhb0_0 hfhb5_11 (by omega))
         replace hb0_1 := BoxAt.chgA hb0_1 c5_12 (apart_lt hlhb0_1 hfhb5_11 (by omega))
         replace hb2_2 := BoxAt.chgA hb2_2 c5_12 (apart_lt hlhb2_2 hfhb5_11 (by omega))
         replace hb3_2 := BoxAt.chgA hb3_2 c5_12 (apart_lt hlhb3_2 hfhb5_11 (by omega))
         have := c5_12.size
         replace eB := Ext.then eB c5_12 (ge_of hfhb5_11 (by omega))
         replace cJ6 := Chg.step cJ6 c5_12 (Sub.fresh hfhb5_11 (by omega))
         try simp (disch := decide) only [outv_none]
         refine plKb_last (by decide) ?_
         try simp -implicitDefEqProofs (disch := first | decide | assumption | omega) only [go_sem, plGb_none, ldOk, true_and]
         exact hK (h5_7.size, nmL (([([112, 111, 105, 110, 116]), ([99, 105, 114, 99, 108, 101]), ([100, 105, 115, 99])]).getD (x5_2).toNat []) A2_1.p) _ _ (by simp [HasL, puts_at]) ⟨(nmL_db _ hpp), hb5_11, (hfhb5_11.mono (by omega)), ho5_2, cJ6⟩
        ·simp -implicitDefEqProofs (disch := first | decide | assumption | omega) only [go_sem, plGb_none, ldOk, true_and]
         refine op_storeDg (Y := nmL (([([112, 111, 105, 110, 116]), ([99, 105, 114, 99, 108, 101]), ([100, 105, 115, 99])]).getD (x5_2).toNat []) A2_1.p) hb5_11 rfl rfl ?_
         intro h5_12 hb5_11 c5_12
         replace ho5_0 := OS.chg ho5_0 c5_12 (apart_lt hlho5_0 hfhb5_11 (by omega))
         replace ho5_2 := OSr.chg ho5_2 c5_12 (apart_lt hlho5_2 hfhb5_11 (by omega)) (ge_of hfhb5_11 (by omega))
         replace hb0_0 := BoxAt.chgA hb0_0 c5_12 (apart_lt hlhb0_0 hfhb5_11 (by omega))
         replace hb0_1 := BoxAt.chgA hb0_1 c5_12 (apart_lt hlhb0_1 hfhb5_11 (by omega))
         replace hb2_2 := BoxAt.chgA hb2_2 c5_12 (apart_lt hlhb2_2 hfhb5_11 (by omega))
         replace hb3_2 := BoxAt.chgA hb3_2 c5_12 (apart_lt hlhb3_2 hfhb5_11 (by omega))
         have := c5_12.size
         replace eB := Ext.then eB c5_12 (ge_of hfhb5_11 (by omega))
         replace cJ6 := Chg.step cJ6 c5_12 (Sub.fresh hfhb5_11 (by omega))
         try simp (disch := decide) only [outv_none]
         refine plKb_last (by decide) ?_
         try simp -implicitDefEqProofs (disch := first | decide | assumption | omega) only [go_sem, plGb_none, ldOk, true_and]
         exact hK (h5_7.size, nmL (([([112, 111, 105, 110, 116]), ([99, 105, 114, 99, 108, 101]), ([100, 105, 115, 99])]).getD (x5_2).toNat []) A2_1.p) _ _ (by simp [HasL, puts_at]) ⟨(nmL_db _ hpp), hb5_11, (hfhb5_11.mono (by omega)), ho5_2, cJ6⟩
      ·simp -implicitDefEqProofs (disch := first | decide | assumption | omega) only [go_sem, plGb_none, ldOk, true_and]
       refine op_alloc (cs := dgA dgZ) (by kernel_rfl) ?_
       intro h5_11 e5_11 hb5_11 z5_11
       replace ho5_0 := OS.ext ho5_0 e5_11
       replace ho5_2 := OSr.ext ho5_2 e5_11
       replace hb0_0 := BoxAt.ext hb0_0 e5_11
       replace hb0_1 := BoxAt.ext hb0_1 e5_11
       replace hb2_2 := BoxAt.ext hb2_2 e5_11
       replace hb3_2 := BoxAt.ext hb3_2 e5_11
       have := Ext.size e5_11
       replace eB := Ext.trans eB e5_11
       replace cJ6 := Chg.stepE cJ6 e5_11
       have hfhb5_11 : Fresh h5_2.size [h5_2.size] := Fresh.one _
       have hlhb5_11 := one_lt (show h5_2.size < h5_11.size by omega)
       try simp (disch := decide) only [outv_some, put_puts]
       refine plKb_pres ((Ext.pres e5_11).pb) ?_
       try simp -implicitDefEqProofs (disch := first | decide | assumption | omega) only [go_sem, plGb_none, ldOk, true_and]
       refine CallA.mono (sNam_ok  (([([112, 111, 105, 110, 116]), ([99, 105, 114, 99, 108, 101]), ([100, 105, 115, 99])]).getD (x5_2).toNat []) A2_1.p _  hpp) ?_
       intro v_ h5_7
       rintro ⟨rfl, e5_7⟩
       replace ho5_0 := OS.ext ho5_0 e5_7
       replace ho5_2 := OSr.ext ho5_2 e5_7
       replace hb0_0 := BoxAt.ext hb0_0 e5_7
       replace hb0_1 := BoxAt.ext hb0_1 e5_7
       replace hb2_2 := BoxAt.ext hb2_2 e5_7
       replace hb3_2 := BoxAt.ext hb3_2 e5_7
       replace hb5_11 := BoxAt.ext hb5_11 e5_7
       have := Ext.size e5_7
       replace eB := Ext.trans eB e5_7
       replace cJ6 := Chg.stepE cJ6 e5_7
       refine plKb_pres ((Ext.pres e5_7).pb) ?_
       try simp -implicitDefEqProofs (disch := first | decide | assumption | omega) only [go_sem, plGb_none, ldOk, true_and]
       refine And.intro ?_ ?_
       ·simp -implicitDefEqProofs (disch := first | decide | assumption | omega) only [go_sem, plGb_none, ldOk, true_and]
        refine op_storeDg (Y := nmL (([([112, 111, 105, 110, 116]), ([99, 105, 114, 99, 108, 101]), ([100, 105, 115, 99])]).getD (x5_2).toNat []) A2_1.p) hb5_11 rfl rfl ?_
        intro h5_12 hb5_11 c5_12
        replace ho5_0 := OS.chg ho5_0 c5_12 (apart_lt hlho5_0 hfhb5_11 (by omega))
        replace ho5_2 := OSr.chg ho5_2 c5_12 (apart_lt hlho5_2 hfhb5_11 (by omega)) (ge_of hfhb5_11 (by omega))
        replace hb0_0 := BoxAt.chgA hb0_0 c5_12 (apart_lt hlhb0_0 hfhb5_11 (by omega))
        replace hb0_1 := BoxAt.chgA hb0_1 c5_12 (apart_lt hlhb0_1 hfhb5_11 (by omega))
        replace hb2_2 := BoxAt.chgA hb2_2 c5_12 (apart_lt hlhb2_2 hfhb5_11 (by omega))
        replace hb3_2 := BoxAt.chgA hb3_2 c5_12 (apart_lt hlhb3_2 hfhb5_11 (by omega))
        have := c5_12.size
        replace eB := Ext.then eB c5_12 (ge_of hfhb5_11 (by omega))
        replace cJ6 := Chg.step cJ6 c5_12 (Sub.fresh hfhb5_11 (by omega))
        try simp (disch := decide) only [outv_none]
        refine plKb_last (by decide) ?_
        try simp -implicitDefEqProofs (disch := first | decide | assumption | omega) only [go_sem, plGb_none, ldOk, true_and]
        exact hK (h5_2.size, nmL (([([112, 111, 105, 110, 116]), ([99, 105, 114, 99, 108, 101]), ([100, 105, 115, 99])]).getD (x5_2).toNat []) A2_1.p) _ _ (by simp [HasL, puts_at]) ⟨(nmL_db _ hpp), hb5_11, (hfhb5_11.mono (by omega)), ho5_2, cJ6⟩
       ·simp -implicitDefEqProofs (disch := first | decide | assumption | omega) only [go_sem, plGb_none, ldOk, true_and]
        refine op_storeDg (Y := nmL (([([112, 111, 105, 110, 116]), ([99, 105, 114, 99, 108, 101]), ([100, 105, 115, 99])]).getD (x5_2).toNat []) A2_1.p) hb5_11 rfl rfl ?_
        intro h5_12 hb5_11 c5_12
        replace ho5_0 := OS.chg ho5_0 c5_12 (apart_lt hlho5_0 hfhb5_11 (by omega))
        replace ho5_2 := OSr.chg ho5_2 c5_12 (apart_lt hlho5_2 hfhb5_11 (by omega)) (ge_of hfhb5_11 (by omega))
        replace hb0_0 := BoxAt.chgA hb0_0 c5_12 (apart_lt hlhb0_0 hfhb5_11 (by omega))
        replace hb0_1 := BoxAt.chgA hb0_1 c5_12 (apart_lt hlhb0_1 hfhb5_11 (by omega))
        replace hb2_2 := BoxAt.chgA hb2_2 c5_12 (apart_lt hlhb2_2 hfhb5_11 (by omega))
        replace hb3_2 := BoxAt.chgA hb3_2 c5_12 (apart_lt hlhb3_2 hfhb5_11 (by omega))
        have := c5_12.size
        replace eB := Ext.then eB c5_12 (ge_of hfhb5_11 (by omega))
        replace cJ6 := Chg.step cJ6 c5_12 (Sub.fresh hfhb5_11 (by omega))
        try simp (disch := decide) only [outv_none]
        refine plKb_last (by decide) ?_
        try simp -implicitDefEqProofs (disch := first | decide | assumption | omega) only [go_sem, plGb_none, ldOk, true_and]
        exact hK (h5_2.size, nmL (([([112, 111, 105, 110, 116]), ([99, 105, 114, 99, 108, 101]), ([100, 105, 115, 99])]).getD (x5_2).toNat []) A2_1.p) _ _ (by simp [HasL, puts_at]) ⟨(nmL_db _ hpp), hb5_11, (hfhb5_11.mono (by omega)), ho5_2, cJ6⟩
     ·simp -implicitDefEqProofs (disch := first | decide | assumption | omega) only [go_sem, plGb_none, ldOk, true_and]
      refine op_alloc (cs := dgA dgZ) (by kernel_rfl) ?_
      intro h5_11 e5_11 hb5_11 z5_11
      replace ho4_1 := OSr.ext ho4_1 e5_11
      replace ho5_0 := OS.ext ho5_0 e5_11
      replace hb0_0 := BoxAt.ext hb0_0 e5_11
      replace hb0_1 := BoxAt.ext hb0_1 e5_11
      replace hb2_2 := BoxAt.ext hb2_2 e5_11
      replace hb3_2 := BoxAt.ext hb3_2 e5_11
      have := Ext.size e5_11
      replace eB := Ext.trans eB e5_11
      replace cJ6 := Chg.stepE cJ6 e5_11
      have hfhb5_11 : Fresh h5_0.size [h5_0.size] := Fresh.one _
      have hlhb5_11 := one_lt (show h5_0.size < h5_11.size by omega)
      try simp (disch := decide) only [outv_some, put_puts]
      refine plKb_pres ((Ext.pres e5_11).pb) ?_
      try simp -implicitDefEqProofs (disch := first | decide | assumption | omega) only [go_sem, plGb_none, ldOk, true_and]
      refine CallA.mono (sNext_ok _ _ (3 : Int) _ _ ho4_1) ?_
      intro v_ h5_2
      rintro ⟨x5_2, rfl, hx5_2, ho5_2, c5_2⟩
      replace hx5_2 := hx5_2 (by first | omega | (simp; done))
      have hsz5_2 := c5_2.size
      replace ho5_0 := OS.chg ho5_0 c5_2 (apart_gt hfho5_0 hlho4_1 (by omega))
      replace hb0_0 := BoxAt.chgA hb0_0 c5_2 (apart_lt hlhb0_0 hf1_1 (by omega))
      replace hb0_1 := BoxAt.chgA hb0_1 c5_2 (apart_lt hlhb0_1 hf1_1 (by omega))
      replace hb2_2 := BoxAt.chgA hb2_2 c5_2 ap2
      replace hb3_2 := BoxAt.chgA hb3_2 c5_2 ap3
      replace hb5_11 := BoxAt.chgA hb5_11 c5_2 (apart_gt hfhb5_11 hlho4_1 (by omega))
      have := c5_2.size
      replace eB := Ext.then eB c5_2 (ge_of hf1_1 (by omega))
      replace cJ6 := Chg.step cJ6 c5_2 Sub.refl
      have ap10 : Apart [h4_1.size] fw1_1 := (apart_gt hfho5_0 hlho4_1 (by omega))
      have ap11 : Apart [h2_1.size] fw1_1 := ap2
      have ap12 : Apart [h3_1.size] fw1_1 := ap3
      have ap13 : Apart [h5_0.size] fw1_1 := (apart_gt hfhb5_11 hlho4_1 (by omega))
      have hlho5_2 := hlho4_1
      refine plKb_pres (Chg.pb c5_2 (fun b hb => hb)) ?_
      try simp -implicitDefEqProofs (disch := first | decide | assumption | omega) only [go_sem, plGb_none, ldOk, ldA, not_false_eq_true, true_and, hnbho5_0, ld9, RdS.idx (OS.rd ho5_0) sl89, RT.strN (OS.rd ho5_0)]
      refine CallA.mono (sNam_ok  (([([112, 111, 105, 110, 116]), ([99, 105, 114, 99, 108, 101]), ([100, 105, 115, 99])]).getD (x5_2).toNat []) A2_1.p _  hpp) ?_
      intro v_ h5_7
      rintro ⟨rfl, e5_7⟩
      replace ho5_0 := OS.ext ho5_0 e5_7
      replace ho5_2 := OSr.ext ho5_2 e5_7
      replace hb0_0 := BoxAt.ext hb0_0 e5_7
      replace hb0_1 := BoxAt.ext hb0_1 e5_7
      replace hb2_2 := BoxAt.ext hb2_2 e5_7
      replace hb3_2 := BoxAt.ext hb3_2 e5_7
      replace hb5_11 := BoxAt.ext hb5_11 e5_7
      have := Ext.size e5_7
      replace eB := Ext.trans eB e5_7
      replace cJ6 := Chg.stepE cJ6 e5_7
      refine plKb_pres ((Ext.pres e5_7).pb) ?_
      try simp -implicitDefEqProofs (disch := first | decide | assumption | omega) only [go_sem, plGb_none, ldOk, true_and]
      refine And.intro ?_ ?_
      ·simp -implicitDefEqProofs (disch := first | decide | assumption | omega) only [go_sem, plGb_none, ldOk, true_and]
       refine op_storeDg (Y := nmL (([([112, 111, 105, 110, 116]), ([99, 105, 114, 99, 108, 101]), ([100, 105, 115, 99])]).getD (x5_2).toNat []) A2_1.p) hb5_11 rfl rfl ?_
       intro h5_12 hb5_11 c5_12
       replace ho5_0 := OS.chg ho5_0 c5_12 (apart_lt hlho5_0 hfhb5_11 (by omega))
       replace ho5_2 := OSr.chg ho5_2 c5_12 (Apart.symm ap13) (ge_of hfhb5_11 (by omega))
       replace hb0_0 := BoxAt.chgA hb0_0 c5_12 (apart_lt hlhb0_0 hfhb5_11 (by omega))
       replace hb0_1 := BoxAt.chgA hb0_1 c5_12 (apart_lt hlhb0_1 hfhb5_11 (by omega))
       replace hb2_2 := BoxAt.chgA hb2_2 c5_12 (apart_lt hlhb2_2 hfhb5_11 (by omega))
       replace hb3_2 := BoxAt.chgA hb3_2 c5_12 (apart_lt hlhb3_2 hfhb5_11 (by omega))
       have := c5_12.size
       replace eB := Ext.then eB c5_12 (ge_of hfhb5_11 (by omega))
       replace cJ6 := Chg.step cJ6 c5_12 (Sub.fresh hfhb5_11 (by omega))
       try simp (disch := decide) only [outv_none]
       refine plKb_last (by decide) ?_
       try simp -implicitDefEqProofs (disch := first | decide | assumption | omega) only [go_sem, plGb_none, ldOk, true_and]
       exact hK (h5_0.size, nmL (([([112, 111, 105, 110, 116]), ([99, 105, 114, 99, 108, 101]), ([100, 105, 115, 99])]).getD (x5_2).toNat []) A2_1.p) _ _ (by simp [HasL, puts_at]) ⟨(nmL_db _ hpp), hb5_11, (hfhb5_11.mono (by omega)), ho5_2, cJ6⟩
      ·simp -implicitDefEqProofs (disch := first | decide | assumption | omega) only [go_sem, plGb_none, ldOk, true_and]
       refine op_storeDg (Y := nmL (([([112, 111, 105, 110, 116]), ([99, 105, 114, 99, 108, 101]), ([100, 105, 115, 99])]).getD (x5_2).toNat []) A2_1.p) hb5_11 rfl rfl ?_
       intro h5_12 hb5_11 c5_12
       replace ho5_0 := OS.chg ho5_0 c5_12 (apart_lt hlho5_0 hfhb5_11 (by omega))
       replace ho5_2 := OSr.chg ho5_2 c5_12 (Apart.symm ap13) (ge_of hfhb5_11 (by omega))
       replace hb0_0 := BoxAt.chgA hb0_0 c5_12 (apart_lt hlhb0_0 hfhb5_11 (by omega))
       replace hb0_1 := BoxAt.chgA hb0_1 c5_12 (apart_lt hlhb0_1 hfhb5_11 (by omega))
       replace hb2_2 := BoxAt.chgA hb2_2 c5_12 (apart_lt hlhb2_2 hfhb5_11 (by omega))
       replace hb3_2 := BoxAt.chgA hb3_2 c5_12 (apart_lt hlhb3_2 hfhb5_11 (by omega))
       have := c5_12.size
       replace eB := Ext.then eB c5_12 (ge_of hfhb5_11 (by omega))
       replace cJ6 := Chg.step cJ6 c5_12 (Sub.fresh hfhb5_11 (by omega))
       try simp (disch := decide) only [outv_none]
       refine plKb_last (by decide) ?_
       try simp -implicitDefEqProofs (disch := first | decide | assumption | omega) only [go_sem, plGb_none, ldOk, true_and]
       exact hK (h5_0.size, nmL (([([112, 111, 105, 110, 116]), ([99, 105, 114, 99, 108, 101]), ([100, 105, 115, 99])]).getD (x5_2).toNat []) A2_1.p) _ _ (by simp [HasL, puts_at]) ⟨(nmL_db _ hpp), hb5_11, (hfhb5_11.mono (by omega)), ho5_2, cJ6⟩
    ·simp -implicitDefEqProofs (disch := first | decide | assumption | omega) only [go_sem, plGb_none, ldOk, true_and]
     refine CallA.mono (sNext_ok _ _ (3 : Int) _ _ ho4_1) ?_
     intro v_ h5_2
     rintro ⟨x5_2, rfl, hx5_2, ho5_2, c5_2⟩
     replace hx5_2 := hx5_2 (by first | omega | (simp; done))
     have hsz5_2 := c5_2.size
     replace hb0_0 := BoxAt.chgA hb0_0 c5_2 (apart_lt hlhb0_0 hf1_1 (by omega))
     replace hb0_1 := BoxAt.chgA hb0_1 c5_2 (apart_lt hlhb0_1 hf1_1 (by omega))
     replace hb2_2 := BoxAt.chgA hb2_2 c5_2 ap2
     replace hb3_2 := BoxAt.chgA hb3_2 c5_2 ap3
     have := c5_2.size
     replace eB := Ext.then eB c5_2 (ge_of hf1_1 (by omega))
     replace cJ6 := Chg.step cJ6 c5_2 Sub.refl
     have ap14 : Apart [h2_1.size] fw1_1 := ap2
     have ap15 : Apart [h3_1.size] fw1_1 := ap3
     have hlho5_2 := hlho4_1
     refine plKb_pres (Chg.pb c5_2 (fun b hb => hb)) ?_
     try simp -implicitDefEqProofs (disch := first | decide | assumption | omega) only [go_sem]
     refine And.intro ?_ ?_
     ·simp -implicitDefEqProofs (disch := first | decide | assumption | omega) only [go_sem, plGb_none, ldOk, true_and]
      refine op_bsT3 (a0 := ([112, 111, 105, 110, 116])) (a1 := ([99, 105, 114, 99, 108, 101])) (a2 := ([100, 105, 115, 99])) rfl rfl rfl ?_
      intro v5_0 h5_0 ho5_0 e5_0
      replace ho5_2 := OSr.ext ho5_2 e5_0
      replace hb0_0 := BoxAt.ext hb0_0 e5_0
      replace hb0_1 := BoxAt.ext hb0_1 e5_0
      replace hb2_2 := BoxAt.ext hb2_2 e5_0
      replace hb3_2 := BoxAt.ext hb3_2 e5_0
      have := Ext.size e5_0
      replace eB := Ext.trans eB e5_0
      replace cJ6 := Chg.stepE cJ6 e5_0
      have hlenho5_0 : ([([112, 111, 105, 110, 116]), ([99, 105, 114, 99, 108, 101]), ([100, 105, 115, 99])] : List (List UInt8)).length = 3 := rfl
      have hfho5_0 : Fresh h5_2.size [h5_2.size] := Fresh.one _
      have hlho5_0 := OS.lt ho5_0
      have hnbho5_0 : ∀ j, ((sA v5_0).add j).block ∉ fw1_1 := OS.blk ho5_0 (by decide) (apart_lt hlho5_2 hfho5_0 (by omega))
      try simp (disch := decide) only [outv_some, put_puts]
      refine plKb_pres ((Ext.pres e5_0).pb) ?_
      try simp -implicitDefEqProofs (disch := first | decide | assumption | omega) only [go_sem, plGb_none, ldOk, ldA, not_false_eq_true, true_and, hnbho5_0, ld9, RdS.idx (OS.rd ho5_0) sl89, RT.strN (OS.rd ho5_0)]
      refine And.intro ?_ ?_
      ·simp -implicitDefEqProofs (disch := first | decide | assumption | omega) only [go_sem, plGb_none, ldOk, true_and]
       refine CallA.mono (sNam_ok  (([([112, 111, 105, 110, 116]), ([99, 105, 114, 99, 108, 101]), ([100, 105, 115, 99])]).getD (x5_2).toNat []) A2_1.p _  hpp) ?_
       intro v_ h5_7
       rintro ⟨rfl, e5_7⟩
       replace ho5_2 := OSr.ext ho5_2 e5_7
       replace ho5_0 := OS.ext ho5_0 e5_7
       replace hb0_0 := BoxAt.ext hb0_0 e5_7
       replace hb0_1 := BoxAt.ext hb0_1 e5_7
       replace hb2_2 := BoxAt.ext hb2_2 e5_7
       replace hb3_2 := BoxAt.ext hb3_2 e5_7
       have := Ext.size e5_7
       replace eB := Ext.trans eB e5_7
       replace cJ6 := Chg.stepE cJ6 e5_7
       refine plKb_pres ((Ext.pres e5_7).pb) ?_
       try simp -implicitDefEqProofs (disch := first | decide | assumption | omega) only [go_sem, plGb_none, ldOk, true_and]
       refine And.intro ?_ ?_
       ·simp -implicitDefEqProofs (disch := first | decide | assumption | omega) only [go_sem, plGb_none, ldOk, true_and]
        refine op_alloc (cs := dgA dgZ) (by kernel_rfl) ?_
        intro h5_11 e5_11 hb5_11 z5_11
        replace ho5_2 := OSr.ext ho5_2 e5_11
        replace ho5_0 := OS.ext ho5_0 e5_11
        replace hb0_0 := BoxAt.ext hb0_0 e5_11
        replace hb0_1 := BoxAt.ext hb0_1 e5_11
        replace hb2_2 := BoxAt.ext hb2_2 e5_11
        replace hb3_2 := BoxAt.ext hb3_2 e5_11
        have := Ext.size e5_11
        replace eB := Ext.trans eB e5_11
        replace cJ6 := Chg.stepE cJ6 e5_11
        have hfhb5_11 : Fresh h5_7.size [h5_7.size] := Fresh.one _
        have hlhb5_11 := one_lt (show h5_7.size < h5_11.size by omega)
        try simp (disch := decide) only [outv_some, put_puts]
        refine plKb_pres ((Ext.pres e5_11).pb) ?_
        try simp -implicitDefEqProofs (disch := first | decide | assumption | omega) only [go_sem, plGb_none, ldOk, true_and]
        refine op_storeDg (Y := nmL (([([112, 111, 105, 110, 116]), ([99, 105, 114, 99, 108, 101]), ([100, 105, 115, 99])]).getD (x5_2).toNat []) A2_1.p) hb5_11 rfl rfl ?_
        intro h5_12 hb5_11 c5_12
        replace ho5_2 := OSr.chg ho5_2 c5_12 (apart_lt hlho5_2 hfhb5_11 (by omega)) (ge_of hfhb5_11 (by omega))
        replace ho5_0 := OS.chg ho5_0 c5_12 (apart_lt hlho5_0 hfhb5_11 (by omega))
        replace hb0_0 := BoxAt.chgA hb0_0 c5_12 (apart_lt hlhb0_0 hfhb5_11 (by omega))
        replace hb0_1 := BoxAt.chgA hb0_1 c5_12 (apart_lt hlhb0_1 hfhb5_11 (by omega))
        replace hb2_2 := BoxAt.chgA hb2_2 c5_12 (apart_lt hlhb2_2 hfhb5_11 (by omega))
        replace hb3_2 := BoxAt.chgA hb3_2 c5_12 (apart_lt hlhb3_2 hfhb5_11 (by omega))
        have := c5_12.size
        replace eB := Ext.then eB c5_12 (ge_of hfhb5_11 (by omega))
        replace cJ6 := Chg.step cJ6 c5_12 (Sub.fresh hfhb5_11 (by omega))
        try simp (disch := decide) only [outv_none]
        refine plKb_last (by decide) ?_
        try simp -implicitDefEqProofs (disch := first | decide | assumption | omega) only [go_sem, plGb_none, ldOk, true_and]
        exact hK (h5_7.size, nmL (([([112, 111, 105, 110, 116]), ([99, 105, 114, 99, 108, 101]), ([100, 105, 115, 99])]).getD (x5_2).toNat []) A2_1.p) _ _ (by simp [HasL, puts_at]) ⟨(nmL_db _ hpp), hb5_11, (hfhb5_11.mono (by omega)), ho5_2, cJ6⟩
       ·simp -implicitDefEqProofs (disch := first | decide | assumption | omega) only [go_sem, plGb_none, ldOk, true_and]
        refine op_alloc (cs := dgA dgZ) (by kernel_rfl) ?_
        intro h5_11 e5_11 hb5_11 z5_11
        replace ho5_2 := OSr.ext ho5_2 e5_11
        replace ho5_0 := OS.ext ho5_0 e5_11
        replace hb0_0 := BoxAt.ext hb0_0 e5_11
        replace hb0_1 := BoxAt.ext hb0_1 e5_11
        replace hb2_2 := BoxAt.ext hb2_2 e5_11
        replace hb3_2 := BoxAt.ext hb3_2 e5_11
        have := Ext.size e5_11
        replace eB := Ext.trans eB e5_11
        replace cJ6 := Chg.stepE cJ6 e5_11
        have hfhb5_11 : Fresh h5_7.size [h5_7.size] := Fresh.one _
        have hlhb5_11 := one_lt (show h5_7.size < h5_11.size by omega)
        try simp (disch := decide) only [outv_some, put_puts]
        refine plKb_pres ((Ext.pres e5_11).pb) ?_
        try simp -implicitDefEqProofs (disch := first | decide | assumption | omega) only [go_sem]
        refine And.intro ?_ ?_
        ·simp -implicitDefEqProofs (disch := first | decide | assumption | omega) only [go_sem, plGb_none, ldOk, true_and]
         refine op_storeDg (Y := nmL (([([112, 111, 105, 110, 116]), ([99, 105, 114, 99, 108, 101]), ([100, 105, 115, 99])]).getD (x5_2).toNat []) A2_1.p) hb5_11 rfl rfl ?_
         intro h5_12 hb5_11 c5_12
         replace ho5_2 := OSr.chg ho5_2 c5_12 (apart_lt hlho5_2 hfhb5_11 (by omega)) (ge_of hfhb5_11 (by omega))
         replace ho5_0 := OS.chg ho5_0 c5_12 (apart_lt hlho5_0 hfhb5_11 (by omega))
         replace hb0_0 := BoxAt.chgA hb0_0 c5_12 (apart_lt hlhb0_0 hfhb5_11 (by omega))
         replace hb0_1 := BoxAt.chgA hb0_1 c5_12 (apart_lt hlhb0_1 hfhb5_11 (by omega))
         replace hb2_2 := BoxAt.chgA hb2_2 c5_12 (apart_lt hlhb2_2 hfhb5_11 (by omega))
         replace hb3_2 := BoxAt.chgA hb3_2 c5_12 (apart_lt hlhb3_2 hfhb5_11 (by omega))
         have := c5_12.size
         replace eB := Ext.then eB c5_12 (ge_of hfhb5_11 (by omega))
         replace cJ6 := Chg.step cJ6 c5_12 (Sub.fresh hfhb5_11 (by omega))
         try simp (disch := decide) only [outv_none]
         refine plKb_last (by decide) ?_
         try simp -implicitDefEqProofs (disch := first | decide | assumption | omega) only [go_sem, plGb_none, ldOk, true_and]
         exact hK (h5_7.size, nmL (([([112, 111, 105, 110, 116]), ([99, 105, 114, 99, 108, 101]), ([100, 105, 115, 99])]).getD (x5_2).toNat []) A2_1.p) _ _ (by simp [HasL, puts_at]) ⟨(nmL_db _ hpp), hb5_11, (hfhb5_11.mono (by omega)), ho5_2, cJ6⟩
        ·simp -implicitDefEqProofs (disch := first | decide | assumption | omega) only [go_sem, plGb_none, ldOk, true_and]
         refine op_storeDg (Y := nmL (([([112, 111, 105, 110, 116]), ([99, 105, 114, 99, 108, 101]), ([100, 105, 115, 99])]).getD (x5_2).toNat []) A2_1.p) hb5_11 rfl rfl ?_
         intro h5_12 hb5_11 c5_12
         replace ho5_2 := OSr.chg ho5_2 c5_12 (apart_lt hlho5_2 hfhb5_11 (by omega)) (ge_of hfhb5_11 (by omega))
         replace ho5_0 := OS.chg ho5_0 c5_12 (apart_lt hlho5_0 hfhb5_11 (by omega))
         replace hb0_0 := BoxAt.chgA hb0_0 c5_12 (apart_lt hlhb0_0 hfhb5_11 (by omega))
         replace hb0_1 := BoxAt.chgA hb0_1 c5_12 (apart_lt hlhb0_1 hfhb5_11 (by omega))
         replace hb2_2 := BoxAt.chgA hb2_2 c5_12 (apart_lt hlhb2_2 hfhb5_11 (by omega))
         replace hb3_2 := BoxAt.chgA hb3_2 c5_12 (apart_lt hlhb3_2 hfhb5_11 (by omega))
         have := c5_12.size
         replace eB := Ext.then eB c5_12 (ge_of hfhb5_11 (by omega))
         replace cJ6 := Chg.step cJ6 c5_12 (Sub.fresh hfhb5_11 (by omega))
         try simp (disch := decide) only [outv_none]
         refine plKb_last (by decide) ?_
         try simp -implicitDefEqProofs (disch := first | decide | assumption | omega) only [go_sem, plGb_none, ldOk, true_and]
         exact hK (h5_7.size, nmL (([([112, 111, 105, 110, 116]), ([99, 105, 114, 99, 108, 101]), ([100, 105, 115, 99])]).getD (x5_2).toNat []) A2_1.p) _ _ (by simp [HasL, puts_at]) ⟨(nmL_db _ hpp), hb5_11, (hfhb5_11.mono (by omega)), ho5_2, cJ6⟩
      ·simp -implicitDefEqProofs (disch := first | decide | assumption | omega) only [go_sem, plGb_none, ldOk, true_and]
       refine op_alloc (cs := dgA dgZ) (by kernel_rfl) ?_
       intro h5_11 e5_11 hb5_11 z5_11
       replace ho5_2 := OSr.ext ho5_2 e5_11
       replace ho5_0 := OS.ext ho5_0 e5_11
       replace hb0_0 := BoxAt.ext hb0_0 e5_11
       replace hb0_1 := BoxAt.ext hb0_1 e5_11
       replace hb2_2 := BoxAt.ext hb2_2 e5_11
       replace hb3_2 := BoxAt.ext hb3_2 e5_11
       have := Ext.size e5_11
       replace eB := Ext.trans eB e5_11
       replace cJ6 := Chg.stepE cJ6 e5_11
       have hfhb5_11 : Fresh h5_0.size [h5_0.size] := Fresh.one _
       have hlhb5_11 := one_lt (show h5_0.size < h5_11.size by omega)
       try simp (disch := decide) only [outv_some, put_puts]
       refine plKb_pres ((Ext.pres e5_11).pb) ?_
       try simp -implicitDefEqProofs (disch := first | decide | assumption | omega) only [go_sem, plGb_none, ldOk, true_and]
       refine CallA.mono (sNam_ok  (([([112, 111, 105, 110, 116]), ([99, 105, 114, 99, 108, 101]), ([100, 105, 115, 99])]).getD (x5_2).toNat []) A2_1.p _  hpp) ?_
       intro v_ h5_7
       rintro ⟨rfl, e5_7⟩
       replace ho5_2 := OSr.ext ho5_2 e5_7
       replace ho5_0 := OS.ext ho5_0 e5_7
       replace hb0_0 := BoxAt.ext hb0_0 e5_7
       replace hb0_1 := BoxAt.ext hb0_1 e5_7
       replace hb2_2 := BoxAt.ext hb2_2 e5_7
       replace hb3_2 := BoxAt.ext hb3_2 e5_7
       replace hb5_11 := BoxAt.ext hb5_11 e5_7
       have := Ext.size e5_7
       replace eB := Ext.trans eB e5_7
       replace cJ6 := Chg.stepE cJ6 e5_7
       refine plKb_pres ((Ext.pres e5_7).pb) ?_
       try simp -implicitDefEqProofs (disch := first | decide | assumption | omega) only [go_sem, plGb_none, ldOk, true_and]
       refine And.intro ?_ ?_
       ·simp -implicitDefEqProofs (disch := first | decide | assumption | omega) only [go_sem, plGb_none, ldOk, true_and]
        refine op_storeDg (Y := nmL (([([112, 111, 105, 110, 116]), ([99, 105, 114, 99, 108, 101]), ([100, 105, 115, 99])]).getD (x5_2).toNat []) A2_1.p) hb5_11 rfl rfl ?_
        intro h5_12 hb5_11 c5_12
        replace ho5_2 := OSr.chg ho5_2 c5_12 (apart_lt hlho5_2 hfhb5_11 (by omega)) (ge_of hfhb5_11 (by omega))
        replace ho5_0 := OS.chg ho5_0 c5_12 (apart_lt hlho5_0 hfhb5_11 (by omega))
        replace hb0_0 := BoxAt.chgA hb0_0 c5_12 (apart_lt hlhb0_0 hfhb5_11 (by omega))
        replace hb0_1 := BoxAt.chgA hb0_1 c5_12 (apart_lt hlhb0_1 hfhb5_11 (by omega))
        replace hb2_2 := BoxAt.chgA hb2_2 c5_12 (apart_lt hlhb2_2 hfhb5_11 (by omega))
        replace hb3_2 := BoxAt.chgA hb3_2 c5_12 (apart_lt hlhb3_2 hfhb5_11 (by omega))
        have := c5_12.size
        replace eB := Ext.then eB c5_12 (ge_of hfhb5_11 (by omega))
        replace cJ6 := Chg.step cJ6 c5_12 (Sub.fresh hfhb5_11 (by omega))
        try simp (disch := decide) only [outv_none]
        refine plKb_last (by decide) ?_
        try simp -implicitDefEqProofs (disch := first | decide | assumption | omega) only [go_sem, plGb_none, ldOk, true_and]
        exact hK (h5_0.size, nmL (([([112, 111, 105, 110, 116]), ([99, 105, 114, 99, 108, 101]), ([100, 105, 115, 99])]).getD (x5_2).toNat []) A2_1.p) _ _ (by simp [HasL, puts_at]) ⟨(nmL_db _ hpp), hb5_11, (hfhb5_11.mono (by omega)), ho5_2, cJ6⟩
       ·simp -implicitDefEqProofs (disch := first | decide | assumption | omega) only [go_sem, plGb_none, ldOk, true_and]
        refine op_storeDg (Y := nmL (([([112, 111, 105, 110, 116]), ([99, 105, 114, 99, 108, 101]), ([100, 105, 115, 99])]).getD (x5_2).toNat []) A2_1.p) hb5_11 rfl rfl ?_
        intro h5_12 hb5_11 c5_12
        replace ho5_2 := OSr.chg ho5_2 c5_12 (apart_lt hlho5_2 hfhb5_11 (by omega)) (ge_of hfhb5_11 (by omega))
        replace ho5_0 := OS.chg ho5_0 c5_12 (apart_lt hlho5_0 hfhb5_11 (by omega))
        replace hb0_0 := BoxAt.chgA hb0_0 c5_12 (apart_lt hlhb0_0 hfhb5_11 (by omega))
        replace hb0_1 := BoxAt.chgA hb0_1 c5_12 (apart_lt hlhb0_1 hfhb5_11 (by omega))
        replace hb2_2 := BoxAt.chgA hb2_2 c5_12 (apart_lt hlhb2_2 hfhb5_11 (by omega))
        replace hb3_2 := BoxAt.chgA hb3_2 c5_12 (apart_lt hlhb3_2 hfhb5_11 (by omega))
        have := c5_12.size
        replace eB := Ext.then eB c5_12 (ge_of hfhb5_11 (by omega))
        replace cJ6 := Chg.step cJ6 c5_12 (Sub.fresh hfhb5_11 (by omega))
        try simp (disch := decide) only [outv_none]
        refine plKb_last (by decide) ?_
        try simp -implicitDefEqProofs (disch := first | decide | assumption | omega) only [go_sem, plGb_none, ldOk, true_and]
        exact hK (h5_0.size, nmL (([([112, 111, 105, 110, 116]), ([99, 105, 114, 99, 108, 101]), ([100, 105, 115, 99])]).getD (x5_2).toNat []) A2_1.p) _ _ (by simp [HasL, puts_at]) ⟨(nmL_db _ hpp), hb5_11, (hfhb5_11.mono (by omega)), ho5_2, cJ6⟩
     ·simp -implicitDefEqProofs (disch := first | decide | assumption | omega) only [go_sem, plGb_none, ldOk, true_and]
      refine op_alloc (cs := dgA dgZ) (by kernel_rfl) ?_
      intro h5_11 e5_11 hb5_11 z5_11
      replace ho5_2 := OSr.ext ho5_2 e5_11
      replace hb0_0 := BoxAt.ext hb0_0 e5_11
      replace hb0_1 := BoxAt.ext hb0_1 e5_11
      replace hb2_2 := BoxAt.ext hb2_2 e5_11
      replace hb3_2 := BoxAt.ext hb3_2 e5_11
      have := Ext.size e5_11
      replace eB := Ext.trans eB e5_11
      replace cJ6 := Chg.stepE cJ6 e5_11
      have hfhb5_11 : Fresh h5_2.size [h5_2.size] := Fresh.one _
      have hlhb5_11 := one_lt (show h5_2.size < h5_11.size by omega)
      try simp (disch := decide) only [outv_some, put_puts]
      refine plKb_pres ((Ext.pres e5_11).pb) ?_
      try simp -implicitDefEqProofs (disch := first | decide | assumption | omega) only [go_sem, plGb_none, ldOk, true_and]
      refine op_bsT3 (a0 := ([112, 111, 105, 110, 116])) (a1 := ([99, 105, 114, 99, 108, 101])) (a2 := ([100, 105, 115, 99])) rfl rfl rfl ?_
      intro v5_0 h5_0 ho5_0 e5_0
      replace ho5_2 := OSr.ext ho5_2 e5_0
      replace hb0_0 := BoxAt.ext hb0_0 e5_0
      replace hb0_1 := BoxAt.ext hb0_1 e5_0
      replace hb2_2 := BoxAt.ext hb2_2 e5_0
      replace hb3_2 := BoxAt.ext hb3_2 e5_0
      replace hb5_11 := BoxAt.ext hb5_11 e5_0
      have := Ext.size e5_0
      replace eB := Ext.trans eB e5_0
      replace cJ6 := Chg.stepE cJ6 e5_0
      have hlenho5_0 : ([([112, 111, 105, 110, 116]), ([99, 105, 114, 99, 108, 101]), ([100, 105, 115, 99])] : List (List UInt8)).length = 3 := rfl
      have hfho5_0 : Fresh h5_11.size [h5_11.size] := Fresh.one _
      have hlho5_0 := OS.lt ho5_0
      have hnbho5_0 : ∀ j, ((sA v5_0).add j).block ∉ fw1_1 := OS.blk ho5_0 (by decide) (apart_lt hlho5_2 hfho5_0 (by omega))
      try simp (disch := decide) only [outv_some, put_puts]
      refine plKb_pres ((Ext.pres e5_0).pb) ?_
      try simp -implicitDefEqProofs (disch := first | decide | assumption | omega) only [go_sem, plGb_none, ldOk, ldA, not_false_eq_true, true_and, hnbho5_0, ld9, RdS.idx (OS.rd ho5_0) sl89, RT.strN (OS.rd ho5_0)]
      refine CallA.mono (sNam_ok  (([([112, 111, 105, 110, 116]), ([99, 105, 114, 99, 108, 101]), ([100, 105, 115, 99])]).getD (x5_2).toNat []) A2_1.p _  hpp) ?_
      intro v_ h5_7
      rintro ⟨rfl, e5_7⟩
      replace ho5_2 := OSr.ext ho5_2 e5_7
      replace ho5_0 := OS.ext ho5_0 e5_7
      replace hb0_0 := BoxAt.ext hb0_0 e5_7
      replace hb0_1 := BoxAt.ext hb0_1 e5_7
      replace hb2_2 := BoxAt.ext hb2_2 e5_7
      replace hb3_2 := BoxAt.ext hb3_2 e5_7
      replace hb5_11 := BoxAt.ext hb5_11 e5_7
      have := Ext.size e5_7
      replace eB := Ext.trans eB e5_7
      replace cJ6 := Chg.stepE cJ6 e5_7
      refine plKb_pres ((Ext.pres e5_7).pb) ?_
      try simp -implicitDefEqProofs (disch := first | decide | assumption | omega) only [go_sem, plGb_none, ldOk, true_and]
      refine And.intro ?_ ?_
      ·simp -implicitDefEqProofs (disch := first | decide | assumption | omega) only [go_sem, plGb_none, ldOk, true_and]
       refine op_storeDg (Y := nmL (([([112, 111, 105, 110, 116]), ([99, 105, 114, 99, 108, 101]), ([100, 105, 115, 99])]).getD (x5_2).toNat []) A2_1.p) hb5_11 rfl rfl ?_
       intro h5_12 hb5_11 c5_12
       replace ho5_2 := OSr.chg ho5_2 c5_12 (apart_lt hlho5_2 hfhb5_11 (by omega)) (ge_of hfhb5_11 (by omega))
       replace ho5_0 := OS.chg ho5_0 c5_12 (apart_gt hfho5_0 hlhb5_11 (by omega))
       replace hb0_0 := BoxAt.chgA hb0_0 c5_12 (apart_lt hlhb0_0 hfhb5_11 (by omega))
       replace hb0_1 := BoxAt.chgA hb0_1 c5_12 (apart_lt hlhb0_1 hfhb5_11 (by omega))
       replace hb2_2 := BoxAt.chgA hb2_2 c5_12 (apart_lt hlhb2_2 hfhb5_11 (by omega))
       replace hb3_2 := BoxAt.chgA hb3_2 c5_12 (apart_lt hlhb3_2 hfhb5_11 (by omega))
       have := c5_12.size
       replace eB := Ext.then eB c5_12 (ge_of hfhb5_11 (by omega))
       replace cJ6 := Chg.step cJ6 c5_12 (Sub.fresh hfhb5_11 (by omega))
       try simp (disch := decide) only [outv_none]
       refine plKb_last (by decide) ?_
       try simp -implicitDefEqProofs (disch := first | decide | assumption | omega) only [go_sem, plGb_none, ldOk, true_and]
       exact hK (h5_2.size, nmL (([([112, 111, 105, 110, 116]), ([99, 105, 114, 99, 108, 101]), ([100, 105, 115, 99])]).getD (x5_2).toNat []) A2_1.p) _ _ (by simp [HasL, puts_at]) ⟨(nmL_db _ hpp), hb5_11, (hfhb5_11.mono (by omega)), ho5_2, cJ6⟩
      ·simp -implicitDefEqProofs (disch := first | decide | assumption | omega) only [go_sem, plGb_none, ldOk, true_and]
       refine op_storeDg (Y := nmL (([([112, 111, 105, 110, 116]), ([99, 105, 114, 99, 108, 101]), ([100, 105, 115, 99])]).getD (x5_2).toNat []) A2_1.p) hb5_11 rfl rfl ?_
       intro h5_12 hb5_11 c5_12
       replace ho5_2 := OSr.chg ho5_2 c5_12 (apart_lt hlho5_2 hfhb5_11 (by omega)) (ge_of hfhb5_11 (by omega))
       replace ho5_0 := OS.chg ho5_0 c5_12 (apart_gt hfho5_0 hlhb5_11 (by omega))
       replace hb0_0 := BoxAt.chgA hb0_0 c5_12 (apart_lt hlhb0_0 hfhb5_11 (by omega))
       replace hb0_1 := BoxAt.chgA hb0_1 c5_12 (apart_lt hlhb0_1 hfhb5_11 (by omega))
       replace hb2_2 := BoxAt.chgA hb2_2 c5_12 (apart_lt hlhb2_2 hfhb5_11 (by omega))
       replace hb3_2 := BoxAt.chgA hb3_2 c5_12 (apart_lt hlhb3_2 hfhb5_11 (by omega))
       have := c5_12.size
       replace eB := Ext.then eB c5_12 (ge_of hfhb5_11 (by omega))
       replace cJ6 := Chg.step cJ6 c5_12 (Sub.fresh hfhb5_11 (by omega))
       try simp (disch := decide) only [outv_none]
       refine plKb_last (by decide) ?_
       try simp -implicitDefEqProofs (disch := first | decide | assumption | omega) only [go_sem, plGb_none, ldOk, true_and]
       exact hK (h5_2.size, nmL (([([112, 111, 105, 110, 116]), ([99, 105, 114, 99, 108, 101]), ([100, 105, 115, 99])]).getD (x5_2).toNat []) A2_1.p) _ _ (by simp [HasL, puts_at]) ⟨(nmL_db _ hpp), hb5_11, (hfhb5_11.mono (by omega)), ho5_2, cJ6⟩
    ·simp -implicitDefEqProofs (disch := first | decide | assumption | omega) only [go_sem, plGb_none, ldOk, true_and]
     refine op_alloc (cs := dgA dgZ) (by kernel_rfl) ?_
     intro h5_11 e5_11 hb5_11 z5_11
     replace ho4_1 := OSr.ext ho4_1 e5_11
     replace hb0_0 := BoxAt.ext hb0_0 e5_11
     replace hb0_1 := BoxAt.ext hb0_1 e5_11
     replace hb2_2 := BoxAt.ext hb2_2 e5_11
     replace hb3_2 := BoxAt.ext hb3_2 e5_11
     have := Ext.size e5_11
     replace eB := Ext.trans eB e5_11
     replace cJ6 := Chg.stepE cJ6 e5_11
     have hfhb5_11 : Fresh h4_1.size [h4_1.size] := Fresh.one _
     have hlhb5_11 := one_lt (show h4_1.size < h5_11.size by omega)
     try simp (disch := decide) only [outv_some, put_puts]
     refine plKb_pres ((Ext.pres e5_11).pb) ?_
     try simp -implicitDefEqProofs (disch := first | decide | assumption | omega) only [go_sem]
     refine And.intro ?_ ?_
     ·simp -implicitDefEqProofs (disch := first | decide | assumption | omega) only [go_sem, plGb_none, ldOk, true_and]
      refine op_bsT3 (a0 := ([112, 111, 105, 110, 116])) (a1 := ([99, 105, 114, 99, 108, 101])) (a2 := ([100, 105, 115, 99])) rfl rfl rfl ?_
      intro v5_0 h5_0 ho5_0 e5_0
      replace ho4_1 := OSr.ext ho4_1 e5_0
      replace hb0_0 := BoxAt.ext hb0_0 e5_0
      replace hb0_1 := BoxAt.ext hb0_1 e5_0
      replace hb2_2 := BoxAt.ext hb2_2 e5_0
      replace hb3_2 := BoxAt.ext hb3_2 e5_0
      replace hb5_11 := BoxAt.ext hb5_11 e5_0
      have := Ext.size e5_0
      replace eB := Ext.trans eB e5_0
      replace cJ6 := Chg.stepE cJ6 e5_0
      have hlenho5_0 : ([([112, 111, 105, 110, 116]), ([99, 105, 114, 99, 108, 101]), ([100, 105, 115, 99])] : List (List UInt8)).length = 3 := rfl
      have hfho5_0 : Fresh h5_11.size [h5_11.size] := Fresh.one _
      have hlho5_0 := OS.lt ho5_0
      have hnbho5_0 : ∀ j, ((sA v5_0).add j).block ∉ fw1_1 := OS.blk ho5_0 (by decide) (apart_lt hlho4_1 hfho5_0 (by omega))
      try simp (disch := decide) only [outv_some, put_puts]
      refine plKb_pres ((Ext.pres e5_0).pb) ?_
      try simp -implicitDefEqProofs (disch := first | decide | assumption | omega) only [go_sem, plGb_none, ldOk, true_and]
      refine CallA.mono (sNext_ok _ _ (3 : Int) _ _ ho4_1) ?_
      intro v_ h5_2
      rintro ⟨x5_2, rfl, hx5_2, ho5_2, c5_2⟩
      replace hx5_2 := hx5_2 (by first | omega | (simp; done))
      have hsz5_2 := c5_2.size
      replace ho5_0 := OS.chg ho5_0 c5_2 (apart_gt hfho5_0 hlho4_1 (by omega))
      replace hb0_0 := BoxAt.chgA hb0_0 c5_2 (apart_lt hlhb0_0 hf1_1 (by omega))
      replace hb0_1 := BoxAt.chgA hb0_1 c5_2 (apart_lt hlhb0_1 hf1_1 (by omega))
      replace hb2_2 := BoxAt.chgA hb2_2 c5_2 ap2
      replace hb3_2 := BoxAt.chgA hb3_2 c5_2 ap3
      replace hb5_11 := BoxAt.chgA hb5_11 c5_2 (apart_gt hfhb5_11 hlho4_1 (by omega))
      have := c5_2.size
      replace eB := Ext.then eB c5_2 (ge_of hf1_1 (by omega))
      replace cJ6 := Chg.step cJ6 c5_2 Sub.refl
      have ap16 : Apart [h5_11.size] fw1_1 := (apart_gt hfho5_0 hlho4_1 (by omega))
      have ap17 : Apart [h2_1.size] fw1_1 := ap2
      have ap18 : Apart [h3_1.size] fw1_1 := ap3
      have ap19 : Apart [h4_1.size] fw1_1 := (apart_gt hfhb5_11 hlho4_1 (by omega))
      have hlho5_2 := hlho4_1
      refine plKb_pres (Chg.pb c5_2 (fun b hb => hb)) ?_
      try simp -implicitDefEqProofs (disch := first | decide | assumption | omega) only [go_sem, plGb_none, ldOk, ldA, not_false_eq_true, true_and, hnbho5_0, ld9, RdS.idx (OS.rd ho5_0) sl89, RT.strN (OS.rd ho5_0)]
      refine CallA.mono (sNam_ok  (([([112, 111, 105, 110, 116]), ([99, 105, 114, 99, 108, 101]), ([100, 105, 115, 99])]).getD (x5_2).toNat []) A2_1.p _  hpp) ?_
      intro v_ h5_7
      rintro ⟨rfl, e5_7⟩
      replace ho5_0 := OS.ext ho5_0 e5_7
      replace ho5_2 := OSr.ext ho5_2 e5_7
      replace hb0_0 := BoxAt.ext hb0_0 e5_7
      replace hb0_1 := BoxAt.ext hb0_1 e5_7
      replace hb2_2 := BoxAt.ext hb2_2 e5_7
      replace hb3_2 := BoxAt.ext hb3_2 e5_7
      replace hb5_11 := BoxAt.ext hb5_11 e5_7
      have := Ext.size e5_7
      replace eB := Ext.trans eB e5_7
      replace cJ6 := Chg.stepE cJ6 e5_7
      refine plKb_pres ((Ext.pres e5_7).pb) ?_
      try simp -implicitDefEqProofs (disch := first | decide | assumption | omega) only [go_sem, plGb_none, ldOk, true_and]
      refine And.intro ?_ ?_
      ·simp -implicitDefEqProofs (disch := first | decide | assumption | omega) only [go_sem, plGb_none, ldOk, true_and]
       refine op_storeDg (Y := nmL (([([112, 111, 105, 110, 116]), ([99, 105, 114, 99, 108, 101]), ([100, 105, 115, 99])]).getD (x5_2).toNat []) A2_1.p) hb5_11 rfl rfl ?_
       intro h5_12 hb5_11 c5_12
       replace ho5_0 := OS.chg ho5_0 c5_12 (apart_gt hfho5_0 hlhb5_11 (by omega))
       replace ho5_2 := OSr.chg ho5_2 c5_12 (Apart.symm ap19) (ge_of hfhb5_11 (by omega))
       replace hb0_0 := BoxAt.chgA hb0_0 c5_12 (apart_lt hlhb0_0 hfhb5_11 (by omega))
       replace hb0_1 := BoxAt.chgA hb0_1 c5_12 (apart_lt hlhb0_1 hfhb5_11 (by omega))
       replace hb2_2 := BoxAt.chgA hb2_2 c5_12 (apart_lt hlhb2_2 hfhb5_11 (by omega))
       replace hb3_2 := BoxAt.chgA hb3_2 c5_12 (apart_lt hlhb3_2 hfhb5_11 (by omega))
       have := c5_12.size
       replace eB := Ext.then eB c5_12 (ge_of hfhb5_11 (by omega))
       replace cJ6 := Chg.step cJ6 c5_12 (Sub.fresh hfhb5_11 (by omega))
       try simp (disch := decide) only [outv_none]
       refine plKb_last (by decide) ?_
       try simp -implicitDefEqProofs (disch := first | decide | assumption | omega) only [go_sem, plGb_none, ldOk, true_and]
       exact hK (h4_1.size, nmL (([([112, 111, 105, 110, 116]), ([99, 105, 114, 99, 108, 101]), ([100, 105, 115, 99])]).getD (x5_2).toNat []) A2_1.p) _ _ (by simp [HasL, puts_at]) ⟨(nmL_db _ hpp), hb5_11, (hfhb5_11.mono (by omega)), ho5_2, cJ6⟩
      ·simp -implicitDefEqProofs (disch := first | decide | assumption | omega) only [go_sem, plGb_none, ldOk, true_and]
       refine op_storeDg (Y := nmL (([([112, 111, 105, 110, 116]), ([99, 105, 114, 99, 108, 101]), ([100, 105, 115, 99])]).getD (x5_2).toNat []) A2_1.p) hb5_11 rfl rfl ?_
       intro h5_12 hb5_11 c5_12
       replace ho5_0 := OS.chg ho5_0 c5_12 (apart_gt hfho5_0 hlhb5_11 (by omega))
       replace ho5_2 := OSr.chg ho5_2 c5_12 (Apart.symm ap19) (ge_of hfhb5_11 (by omega))
       replace hb0_0 := BoxAt.chgA hb0_0 c5_12 (apart_lt hlhb0_0 hfhb5_11 (by omega))
       replace hb0_1 := BoxAt.chgA hb0_1 c5_12 (apart_lt hlhb0_1 hfhb5_11 (by omega))
       replace hb2_2 := BoxAt.chgA hb2_2 c5_12 (apart_lt hlhb2_2 hfhb5_11 (by omega))
       replace hb3_2 := BoxAt.chgA hb3_2 c5_12 (apart_lt hlhb3_2 hfhb5_11 (by omega))
       have := c5_12.size
       replace eB := Ext.then eB c5_12 (ge_of hfhb5_11 (by omega))
       replace cJ6 := Chg.step cJ6 c5_12 (Sub.fresh hfhb5_11 (by omega))
       try simp (disch := decide) only [outv_none]
       refine plKb_last (by decide) ?_
       try simp -implicitDefEqProofs (disch := first | decide | assumption | omega) only [go_sem, plGb_none, ldOk, true_and]
       exact hK (h4_1.size, nmL (([([112, 111, 105, 110, 116]), ([99, 105, 114, 99, 108, 101]), ([100, 105, 115, 99])]).getD (x5_2).toNat []) A2_1.p) _ _ (by simp [HasL, puts_at]) ⟨(nmL_db _ hpp), hb5_11, (hfhb5_11.mono (by omega)), ho5_2, cJ6⟩
     ·simp -implicitDefEqProofs (disch := first | decide | assumption | omega) only [go_sem, plGb_none, ldOk, true_and]
      refine CallA.mono (sNext_ok _ _ (3 : Int) _ _ ho4_1) ?_
      intro v_ h5_2
      rintro ⟨x5_2, rfl, hx5_2, ho5_2, c5_2⟩
      replace hx5_2 := hx5_2 (by first | omega | (simp; done))
      have hsz5_2 := c5_2.size
      replace hb0_0 := BoxAt.chgA hb0_0 c5_2 (apart_lt hlhb0_0 hf1_1 (by omega))
      replace hb0_1 := BoxAt.chgA hb0_1 c5_2 (apart_lt hlhb0_1 hf1_1 (by omega))
      replace hb2_2 := BoxAt.chgA hb2_2 c5_2 ap2
      replace hb3_2 := BoxAt.chgA hb3_2 c5_2 ap3
      replace hb5_11 := BoxAt.chgA hb5_11 c5_2 (apart_gt hfhb5_11 hlho4_1 (by omega))
      have := c5_2.size
      replace eB := Ext.then eB c5_2 (ge_of hf1_1 (by omega))
      replace cJ6 := Chg.step cJ6 c5_2 Sub.refl
      have ap20 : Apart [h2_1.size] fw1_1 := ap2
      have ap21 : Apart [h3_1.size] fw1_1 := ap3
      have ap22 : Apart [h4_1.size] fw1_1 := (apart_gt hfhb5_11 hlho4_1 (by omega))
      have hlho5_2 := hlho4_1
      refine plKb_pres (Chg.pb c5_2 (fun b hb => hb)) ?_
      try simp -implicitDefEqProofs (disch := first | decide | assumption | omega) only [go_sem, plGb_none, ldOk, true_and]
      refine op_bsT3 (a0 := ([112, 111, 105, 110, 116])) (a1 := ([99, 105, 114, 99, 108, 101])) (a2 := ([100, 105, 115, 99])) rfl rfl rfl ?_
      intro v5_0 h5_0 ho5_0 e5_0
      replace ho5_2 := OSr.ext ho5_2 e5_0
      replace hb0_0 := BoxAt.ext hb0_0 e5_0
      replace hb0_1 := BoxAt.ext hb0_1 e5_0
      replace hb2_2 := BoxAt.ext hb2_2 e5_0
      replace hb3_2 := BoxAt.ext hb3_2 e5_0
      replace hb5_11 := BoxAt.ext hb5_11 e5_0
      have := Ext.size e5_0
      replace eB := Ext.trans eB e5_0
      replace cJ6 := Chg.stepE cJ6 e5_0
      have hlenho5_0 : ([([112, 111, 105, 110, 116]), ([99, 105, 114, 99, 108, 101]), ([100, 105, 115, 99])] : List (List UInt8)).length = 3 := rfl
      have hfho5_0 : Fresh h5_2.size [h5_2.size] := Fresh.one _
      have hlho5_0 := OS.lt ho5_0
      have hnbho5_0 : ∀ j, ((sA v5_0).add j).block ∉ fw1_1 := OS.blk ho5_0 (by decide) (apart_lt hlho5_2 hfho5_0 (by omega))
      try simp (disch := decide) only [outv_some, put_puts]
      refine plKb_pres ((Ext.pres e5_0).pb) ?_
      try simp -implicitDefEqProofs (disch := first | decide | assumption | omega) only [go_sem, plGb_none, ldOk, ldA, not_false_eq_true, true_and, hnbho5_0, ld9, RdS.idx (OS.rd ho5_0) sl89, RT.strN (OS.rd ho5_0)]
      refine CallA.mono (sNam_ok  (([([112, 111, 105, 110, 116]), ([99, 105, 114, 99, 108, 101]), ([100, 105, 115, 99])]).getD (x5_2).toNat []) A2_1.p _  hpp) ?_
      intro v_ h5_7
      rintro ⟨rfl, e5_7⟩
      replace ho5_2 := OSr.ext ho5_2 e5_7
      replace ho5_0 := OS.ext ho5_0 e5_7
      replace hb0_0 := BoxAt.ext hb0_0 e5_7
      replace hb0_1 := BoxAt.ext hb0_1 e5_7
      replace hb2_2 := BoxAt.ext hb2_2 e5_7
      replace hb3_2 := BoxAt.ext hb3_2 e5_7
      replace hb5_11 := BoxAt.ext hb5_11 e5_7
      have := Ext.size e5_7
      replace eB := Ext.trans eB e5_7
      replace cJ6 := Chg.stepE cJ6 e5_7
      refine plKb_pres ((Ext.pres e5_7).pb) ?_
      try simp -implicitDefEqProofs (disch := first | decide | assumption | omega) only [go_sem, plGb_none, ldOk, true_and]
      refine And.intro ?_ ?_
      ·simp -implicitDefEqProofs (disch := first | decide | assumption | omega) only [go_sem, plGb_none, ldOk, true_and]
       refine op_storeDg (Y := nmL (([([112, 111, 105, 110, 116]), ([99, 105, 114, 99, 108, 101]), ([100, 105, 115, 99])]).getD (x5_2).toNat []) A2_1.p) hb5_11 rfl rfl ?_
       intro h5_12 hb5_11 c5_12
       replace ho5_2 := OSr.chg ho5_2 c5_12 (Apart.symm ap22) (ge_of hfhb5_11 (by omega))
       replace ho5_0 := OS.chg ho5_0 c5_12 (apart_gt hfho5_0 hlhb5_11 (by omega))
       replace hb0_0 := BoxAt.chgA hb0_0 c5_12 (apart_lt hlhb0_0 hfhb5_11 (by omega))
       replace hb0_1 := BoxAt.chgA hb0_1 c5_12 (apart_lt hlhb0_1 hfhb5_11 (by omega))
       replace hb2_2 := BoxAt.chgA hb2_2 c5_12 (apart_lt hlhb2_2 hfhb5_11 (by omega))
       replace hb3_2 := BoxAt.chgA hb3_2 c5_12 (apart_lt hlhb3_2 hfhb5_11 (by omega))
       have := c5_12.size
       replace eB := Ext.then eB c5_12 (ge_of hfhb5_11 (by omega))
       replace cJ6 := Chg.step cJ6 c5_12 (Sub.fresh hfhb5_11 (by omega))
       try simp (disch := decide) only [outv_none]
       refine plKb_last (by decide) ?_
       try simp -implicitDefEqProofs (disch := first | decide | assumption | omega) only [go_sem, plGb_none, ldOk, true_and]
       exact hK (h4_1.size, nmL (([([112, 111, 105, 110, 116]), ([99, 105, 114, 99, 108, 101]), ([100, 105, 115, 99])]).getD (x5_2).toNat []) A2_1.p) _ _ (by simp [HasL, puts_at]) ⟨(nmL_db _ hpp), hb5_11, (hfhb5_11.mono (by omega)), ho5_2, cJ6⟩
      ·simp -implicitDefEqProofs (disch := first | decide | assumption | omega) only [go_sem, plGb_none, ldOk, true_and]
       refine op_storeDg (Y := nmL (([([112, 111, 105, 110, 116]), ([99, 105, 114, 99, 108, 101]), ([100, 105, 115, 99])]).getD (x5_2).toNat []) A2_1.p) hb5_11 rfl rfl ?_
       intro h5_12 hb5_11 c5_12
       replace ho5_2 := OSr.chg ho5_2 c5_12 (Apart.symm ap22) (ge_of hfhb5_11 (by omega))
       replace ho5_0 := OS.chg ho5_0 c5_12 (apart_gt hfho5_0 hlhb5_11 (by omega))
       replace hb0_0 := BoxAt.chgA hb0_0 c5_12 (apart_lt hlhb0_0 hfhb5_11 (by omega))
       replace hb0_1 := BoxAt.chgA hb0_1 c5_12 (apart_lt hlhb0_1 hfhb5_11 (by omega))
       replace hb2_2 := BoxAt.chgA hb2_2 c5_12 (apart_lt hlhb2_2 hfhb5_11 (by omega))
       replace hb3_2 := BoxAt.chgA hb3_2 c5_12 (apart_lt hlhb3_2 hfhb5_11 (by omega))
       have := c5_12.size
       replace eB := Ext.then eB c5_12 (ge_of hfhb5_11 (by omega))
       replace cJ6 := Chg.step cJ6 c5_12 (Sub.fresh hfhb5_11 (by omega))
       try simp (disch := decide) only [outv_none]
       refine plKb_last (by decide) ?_
       try simp -implicitDefEqProofs (disch := first | decide | assumption | omega) only [go_sem, plGb_none, ldOk, true_and]
       exact hK (h4_1.size, nmL (([([112, 111, 105, 110, 116]), ([99, 105, 114, 99, 108, 101]), ([100, 105, 115, 99])]).getD (x5_2).toNat []) A2_1.p) _ _ (by simp [HasL, puts_at]) ⟨(nmL_db _ hpp), hb5_11, (hfhb5_11.mono (by omega)), ho5_2, cJ6⟩
   ·rintro ⟨bJhb5_11, AJhb5_11⟩ hj23 ee25 ⟨hBAJhb5_11, hb5_11, hfhb5_11, hSJcJ6, eJ24⟩
    dsimp only at hBAJhb5_11 hb5_11 hfhb5_11 hSJcJ6 eJ24
    have hszJ := eJ24.size
    replace hb0_0 := BoxAt.chgA hb0_0 eJ24 (apart_lt hlhb0_0 hf1_1 (by omega))
    replace hb0_1 := BoxAt.chgA hb0_1 eJ24 (apart_lt hlhb0_1 hf1_1 (by omega))
    replace hb2_2 := BoxAt.chgA hb2_2 eJ24 ap2
    replace hb3_2 := BoxAt.chgA hb3_2 eJ24 ap3
    have := eJ24.size
    replace eB := Ext.then eB eJ24 (ge_of hf1_1 (by omega))
    have ap26 : Apart [h2_1.size] fw1_1 := ap2
    have ap27 : Apart [h3_1.size] fw1_1 := ap3
    have hlhSJcJ6 := hlho4_1
    have hlhb5_11 := one_lt hb5_11.lt
    simp only [List.cons_append, List.nil_append]
    refine den_region TTok ?_
    intro K hK
    simp -implicitDefEqProofs (disch := first | decide | assumption | omega) only [go_sem, BoxAt.dgL hb5_11]
    refine op_storeDg (Y := AJhb5_11) hb3_2 rfl rfl ?_
    intro h6_1 hb3_2 c6_1
    replace hSJcJ6 := OSr.chg hSJcJ6 c6_1 (Apart.symm ap27) (ge_of hfhb3_2 (by omega))
    replace hb0_0 := BoxAt.chgA hb0_0 c6_1 (apart_lt hlhb0_0 hfhb3_2 (by omega))
    replace hb0_1 := BoxAt.chgA hb0_1 c6_1 (apart_lt hlhb0_1 hfhb3_2 (by omega))
    replace hb2_2 := BoxAt.chgA hb2_2 c6_1 (apart_lt hlhb2_2 hfhb3_2 (by omega))
    replace hb5_11 := BoxAt.chgA hb5_11 c6_1 (apart_gt hfhb5_11 hlhb3_2 (by omega))
    have := c6_1.size
    replace eB := Ext.then eB c6_1 (ge_of hfhb3_2 (by omega))
    try simp -implicitDefEqProofs (disch := first | decide | assumption | omega) only [go_sem]
    refine hK _ _ ?_
    clear hK K
    refine den_seq ?_
    refine den_drawT TTok mixed [2, 3] [(0, true)] (.fork 1 [(2, false), (3, false)] .fin 2 [(1, true), (3, false)] .fin) (by kernel_rfl) ?_
    intro K hK
    simp -implicitDefEqProofs (disch := first | decide | assumption | omega) only [go_sem, BoxAt.dgL hb2_2]
    refine And.intro ?_ ?_
    ·simp -implicitDefEqProofs (disch := first | decide | assumption | omega) only [go_sem, BoxAt.dgL hb3_2]
     refine op_storeDg (Y := A2_1) hb0_0 rfl rfl ?_
     intro h7_2 hb0_0 c7_2
     replace hb0_1 := BoxAt.chgA hb0_1 c7_2 (apart_gt hfhb0_1 hlhb0_0 (by omega))
     replace hb2_2 := BoxAt.chgA hb2_2 c7_2 (apart_gt hfhb2_2 hlhb0_0 (by omega))
     replace hb3_2 := BoxAt.chgA hb3_2 c7_2 (apart_gt hfhb3_2 hlhb0_0 (by omega))
     have := c7_2.size
     replace eB := Ext.then eB c7_2 (ge_of hfhb0_0 (by omega))
     try simp (disch := decide) only [outv_none]
     refine plK_last (by decide) ?_
     try simp -implicitDefEqProofs (disch := first | decide | assumption | omega) only [go_sem]
     refine op_storeDg (Y := AJhb5_11) hb0_1 rfl rfl ?_
     intro h7_3 hb0_1 c7_3
     replace hb0_0 := BoxAt.chgA hb0_0 c7_3 (apart_lt hlhb0_0 hfhb0_1 (by omega))
     replace hb2_2 := BoxAt.chgA hb2_2 c7_3 (apart_gt hfhb2_2 hlhb0_1 (by omega))
     replace hb3_2 := BoxAt.chgA hb3_2 c7_3 (apart_gt hfhb3_2 hlhb0_1 (by omega))
     have := c7_3.size
     replace eB := Ext.then eB c7_3 (ge_of hfhb0_1 (by omega))
     try simp (disch := decide) only [outv_none]
     refine plK_last (by decide) ?_
     try simp -implicitDefEqProofs (disch := first | decide | assumption | omega) only [go_sem]
     refine hK _ _ ?_
     clear hK K
     refine den_ret ?_
     try simp -implicitDefEqProofs (disch := first | decide | assumption | omega) only [go_sem, BoxAt.dgL hb0_0, BoxAt.dgL hb0_1, resP_cc]
     exact ⟨_, _, rfl, hBA2_1, hBAJhb5_11, eB⟩
    ·simp -implicitDefEqProofs (disch := first | decide | assumption | omega) only [go_sem]
     refine op_storeDg (Y := A2_1) hb0_0 rfl rfl ?_
     intro h7_2 hb0_0 c7_2
     replace hb0_1 := BoxAt.chgA hb0_1 c7_2 (apart_gt hfhb0_1 hlhb0_0 (by omega))
     replace hb2_2 := BoxAt.chgA hb2_2 c7_2 (apart_gt hfhb2_2 hlhb0_0 (by omega))
     replace hb3_2 := BoxAt.chgA hb3_2 c7_2 (apart_gt hfhb3_2 hlhb0_0 (by omega))
     have := c7_2.size
     replace eB := Ext.then eB c7_2 (ge_of hfhb0_0 (by omega))
     try simp (disch := decide) only [outv_none]
     refine plK_last (by decide) ?_
     try simp -implicitDefEqProofs (disch := first | decide | assumption | omega) only [go_sem, BoxAt.dgL hb3_2]
     refine op_storeDg (Y := AJhb5_11) hb0_1 rfl rfl ?_
     intro h7_3 hb0_1 c7_3
     replace hb0_0 := BoxAt.chgA hb0_0 c7_3 (apart_lt hlhb0_0 hfhb0_1 (by omega))
     replace hb2_2 := BoxAt.chgA hb2_2 c7_3 (apart_gt hfhb2_2 hlhb0_1 (by omega))
     replace hb3_2 := BoxAt.chgA hb3_2 c7_3 (apart_gt hfhb3_2 hlhb0_1 (by omega))
     have := c7_3.size
     replace eB := Ext.then eB c7_3 (ge_of hfhb0_1 (by omega))
     try simp (disch := decide) only [outv_none]
     refine plK_last (by decide) ?_
     try simp -implicitDefEqProofs (disch := first | decide | assumption | omega) only [go_sem]
     refine hK _ _ ?_
     clear hK K
     refine den_ret ?_
     try simp -implicitDefEqProofs (disch := first | decide | assumption | omega) only [go_sem, BoxAt.dgL hb0_0, BoxAt.dgL hb0_1, resP_cc]
     exact ⟨_, _, rfl, hBA2_1, hBAJhb5_11, eB⟩
  ·refine den_skip ?_
   refine den_seq ?_
   refine den_drawT TTok mixed [2, 3] [(0, true)] (.fork 1 [(2, false), (3, false)] .fin 2 [(1, true), (3, false)] .fin) (by kernel_rfl) ?_
   intro K hK
   simp -implicitDefEqProofs (disch := first | decide | assumption | omega) only [go_sem, BoxAt.dgL hb2_2]
   refine And.intro ?_ ?_
   ·simp -implicitDefEqProofs (disch := first | decide | assumption | omega) only [go_sem, BoxAt.dgL hb3_2]
    refine op_storeDg (Y := A2_1) hb0_0 rfl rfl ?_
    intro h7_2_1 hb0_0 c7_2_1
    replace hb0_1 := BoxAt.chgA hb0_1 c7_2_1 (apart_gt hfhb0_1 hlhb0_0 (by omega))
    replace hb2_2 := BoxAt.chgA hb2_2 c7_2_1 (apart_gt hfhb2_2 hlhb0_0 (by omega))
    replace hb3_2 := BoxAt.chgA hb3_2 c7_2_1 (apart_gt hfhb3_2 hlhb0_0 (by omega))
    have := c7_2_1.size
    replace eB := Ext.then eB c7_2_1 (ge_of hfhb0_0 (by omega))
    try simp (disch := decide) only [outv_none]
    refine plK_last (by decide) ?_
    try simp -implicitDefEqProofs (disch := first | decide | assumption | omega) only [go_sem]
    refine op_storeDg (Y := A3_1) hb0_1 rfl rfl ?_
    intro h7_3_1 hb0_1 c7_3_1
    replace hb0_0 := BoxAt.chgA hb0_0 c7_3_1 (apart_lt hlhb0_0 hfhb0_1 (by omega))
    replace hb2_2 := BoxAt.chgA hb2_2 c7_3_1 (apart_gt hfhb2_2 hlhb0_1 (by omega))
    replace hb3_2 := BoxAt.chgA hb3_2 c7_3_1 (apart_gt hfhb3_2 hlhb0_1 (by omega))
    have := c7_3_1.size
    replace eB := Ext.then eB c7_3_1 (ge_of hfhb0_1 (by omega))
    try simp (disch := decide) only [outv_none]
    refine plK_last (by decide) ?_
    try simp -implicitDefEqProofs (disch := first | decide | assumption | omega) only [go_sem]
    refine hK _ _ ?_
    clear hK K
    refine den_ret ?_
    try simp -implicitDefEqProofs (disch := first | decide | assumption | omega) only [go_sem, BoxAt.dgL hb0_0, BoxAt.dgL hb0_1, resP_cc]
    exact ⟨_, _, rfl, hBA2_1, hBA3_1, eB⟩
   ·simp -implicitDefEqProofs (disch := first | decide | assumption | omega) only [go_sem]
    refine op_storeDg (Y := A2_1) hb0_0 rfl rfl ?_
    intro h7_2_1 hb0_0 c7_2_1
    replace hb0_1 := BoxAt.chgA hb0_1 c7_2_1 (apart_gt hfhb0_1 hlhb0_0 (by omega))
    replace hb2_2 := BoxAt.chgA hb2_2 c7_2_1 (apart_gt hfhb2_2 hlhb0_0 (by omega))
    replace hb3_2 := BoxAt.chgA hb3_2 c7_2_1 (apart_gt hfhb3_2 hlhb0_0 (by omega))
    have := c7_2_1.size
    replace eB := Ext.then eB c7_2_1 (ge_of hfhb0_0 (by omega))
    try simp (disch := decide) only [outv_none]
    refine plK_last (by decide) ?_
    try simp -implicitDefEqProofs (disch := first | decide | assumption | omega) only [go_sem, BoxAt.dgL hb3_2]
    refine op_storeDg (Y := A3_1) hb0_1 rfl rfl ?_
    intro h7_3_1 hb0_1 c7_3_1
    replace hb0_0 := BoxAt.chgA hb0_0 c7_3_1 (apart_lt hlhb0_0 hfhb0_1 (by omega))
    replace hb2_2 := BoxAt.chgA hb2_2 c7_3_1 (apart_gt hfhb2_2 hlhb0_1 (by omega))
    replace hb3_2 := BoxAt.chgA hb3_2 c7_3_1 (apart_gt hfhb3_2 hlhb0_1 (by omega))
    have := c7_3_1.size
    replace eB := Ext.then eB c7_3_1 (ge_of hfhb0_1 (by omega))
    try simp (disch := decide) only [outv_none]
    refine plK_last (by decide) ?_
    try simp -implicitDefEqProofs (disch := first | decide | assumption | omega) only [go_sem]
    refine hK _ _ ?_
    clear hK K
    refine den_ret ?_
    try simp -implicitDefEqProofs (disch := first | decide | assumption | omega) only [go_sem, BoxAt.dgL hb0_0, BoxAt.dgL hb0_1, resP_cc]
    exact ⟨_, _, rfl, hBA2_1, hBA3_1, eB⟩
 ·try simp -implicitDefEqProofs (disch := first | decide | assumption | (simp (disch := decide) only [gvA, eq_self, if_true, if_false, Bool.false_eq_true, g4]; done) | omega) only [go_sem, g4, if_false, Bool.false_eq_true]
  refine hK _ _ ?_
  clear hK K
  refine den_cond rfl (fun c1 => ?_) (fun c1 => ?_)
  ·first | (cases c1; done) | exact absurd c1 (by simp)
  ·try simp only [] at c1
   refine den_skip ?_
   refine den_seq ?_
   refine den_drawT TTok mixed [2, 3] [(0, true)] (.fork 1 [(2, false), (3, false)] .fin 2 [(1, true), (3, false)] .fin) (by kernel_rfl) ?_
   intro K hK
   simp -implicitDefEqProofs (disch := first | decide | assumption | omega) only [go_sem, BoxAt.dgL hb2_2]
   refine And.intro ?_ ?_
   ·simp -implicitDefEqProofs (disch := first | decide | assumption | omega) only [go_sem, BoxAt.dgL hb3_2]
    refine op_storeDg (Y := A2_1) hb0_0 rfl rfl ?_
    intro h7_2_2 hb0_0 c7_2_2
    replace hb0_1 := BoxAt.chgA hb0_1 c7_2_2 (apart_gt hfhb0_1 hlhb0_0 (by omega))
    replace hb2_2 := BoxAt.chgA hb2_2 c7_2_2 (apart_gt hfhb2_2 hlhb0_0 (by omega))
    replace hb3_2 := BoxAt.chgA hb3_2 c7_2_2 (apart_gt hfhb3_2 hlhb0_0 (by omega))
    have := c7_2_2.size
    replace eB := Ext.then eB c7_2_2 (ge_of hfhb0_0 (by omega))
    try simp (disch := decide) only [outv_none]
    refine plK_last (by decide) ?_
    try simp -implicitDefEqProofs (disch := first | decide | assumption | omega) only [go_sem]
    refine op_storeDg (Y := A3_1) hb0_1 rfl rfl ?_
    intro h7_3_2 hb0_1 c7_3_2
    replace hb0_0 := BoxAt.chgA hb0_0 c7_3_2 (apart_lt hlhb0_0 hfhb0_1 (by omega))
    replace hb2_2 := BoxAt.chgA hb2_2 c7_3_2 (apart_gt hfhb2_2 hlhb0_1 (by omega))
    replace hb3_2 := BoxAt.chgA hb3_2 c7_3_2 (apart_gt hfhb3_2 hlhb0_1 (by omega))
    have := c7_3_2.size
    replace eB := Ext.then eB c7_3_2 (ge_of hfhb0_1 (by omega))
    try simp (disch := decide) only [outv_none]
    refine plK_last (by decide) ?_
    try simp -implicitDefEqProofs (disch := first | decide | assumption | omega) only [go_sem]
    refine hK _ _ ?_
    clear hK K
    refine den_ret ?_
    try simp -implicitDefEqProofs (disch := first | decide | assumption | omega) only [go_sem, BoxAt.dgL hb0_0, BoxAt.dgL hb0_1, resP_cc]
    exact ⟨_, _, rfl, hBA2_1, hBA3_1, eB⟩
   ·simp -implicitDefEqProofs (disch := first | decide | assumption | omega) only [go_sem]
    refine op_storeDg (Y := A2_1) hb0_0 rfl rfl ?_
    intro h7_2_2 hb0_0 c7_2_2
    replace hb0_1 := BoxAt.chgA hb0_1 c7_2_2 (apart_gt hfhb0_1 hlhb0_0 (by omega))
    replace hb2_2 := BoxAt.chgA hb2_2 c7_2_2 (apart_gt hfhb2_2 hlhb0_0 (by omega))
    replace hb3_2 := BoxAt.chgA hb3_2 c7_2_2 (apart_gt hfhb3_2 hlhb0_0 (by omega))
    have := c7_2_2.size
    replace eB := Ext.then eB c7_2_2 (ge_of hfhb0_0 (by omega))
    try simp (disch := decide) only [outv_none]
    refine plK_last (by decide) ?_
    try simp -implicitDefEqProofs (disch := first | decide | assumption | omega) only [go_sem, BoxAt.dgL hb3_2]
    refine op_storeDg (Y := A3_1) hb0_1 rfl rfl ?_
    intro h7_3_2 hb0_1 c7_3_2
    replace hb0_0 := BoxAt.chgA hb0_0 c7_3_2 (apart_lt hlhb0_0 hfhb0_1 (by omega))
    replace hb2_2 := BoxAt.chgA hb2_2 c7_3_2 (apart_gt hfhb2_2 hlhb0_1 (by omega))
    replace hb3_2 := BoxAt.chgA hb3_2 c7_3_2 (apart_gt hfhb3_2 hlhb0_1 (by omega))
    have := c7_3_2.size
    replace eB := Ext.then eB c7_3_2 (ge_of hfhb0_1 (by omega))
    try simp (disch := decide) only [outv_none]
    refine plK_last (by decide) ?_
    try simp -implicitDefEqProofs (disch := first | decide | assumption | omega) only [go_sem]
    refine hK _ _ ?_
    clear hK K
    refine den_ret ?_
    try simp -implicitDefEqProofs (disch := first | decide | assumption | omega) only [go_sem, BoxAt.dgL hb0_0, BoxAt.dgL hb0_1, resP_cc]
    exact ⟨_, _, rfl, hBA2_1, hBA3_1, eB⟩
end Go.Proofs.Ytacajcjibhifmaa
