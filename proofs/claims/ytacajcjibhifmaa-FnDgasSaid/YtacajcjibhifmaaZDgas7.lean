/-
  What the statement FnDgas uses of the walks, part 7.
  Conditions: each theorem's own.
-/
import Derived.OrdersHeld
import Derived.WalkKit
import Derived.KernelRfl
import Derived.Deep.LoopGhost
import Derived.Laws.BytesString
import Derived.Test.YtacajcjibhifmaaProg
import Derived.ProofKit
import Derived.OpenShut
import Derived.ShutString
import Derived.ChangeOld
import Derived.Below
import Derived.SizedLaws
import Derived.Lib.SmallJoins
import Derived.Test.YtacajcjibhifmaaZDgas1
import Derived.Test.YtacajcjibhifmaaZDgas2
import Derived.Test.YtacajcjibhifmaaZDgas3
import Derived.Test.YtacajcjibhifmaaZDgas4
import Derived.Test.YtacajcjibhifmaaZDgas5
import Derived.Test.YtacajcjibhifmaaZDgas6
set_option linter.unusedVariables false
set_option linter.unusedSimpArgs false
namespace Go.Proofs.Ytacajcjibhifmaa
open Go
theorem build_el1 : buildV TT 30 [(0, .int .u8 1)] = some (.agg (elA (e8 0))) := by kernel_rfl
theorem diP_by (X : Dg) (u : Nat → Int) : By (diP X u).1 := by
 by_cases h : dgB X = true ∧ isEl X.p X.s u
 ·rw [diP_y h]; exact dfI_by (isP_bnd (dgB_t.1 h.1).fm.p) 8
 ·rw [diP_n h]; exact By.z8
theorem diP_dd {X : Dg} {u : Nat → Int} (hB : DgB X) (h : (diP X u).2 = 0) : (diP X (diP X u).1).2 = 0 ∧ eqE (diP X (diP X u).1).1 z8 = true := by
 by_cases hh : dgB X = true ∧ isEl X.p X.s u
 ·have hg := dgB_t.1 hh.1
  rw [diP_y hh]
  dsimp only
  rw [diP_y ⟨hh.1, dd_isEl hB hg.fm⟩]
  exact ⟨rfl, eqE_iff.2 fun k hk => dd_el hB hg.fm ((dg_AL hB hg.fm).1 hg) hh.2 hk⟩
 ·rw [diP_n hh] at h; exact absurd h (by decide)
theorem mlP_z {X : Dg} {u v : Nat → Int} (h : ¬ (mlP X u v).2 = 0) : eqE (mlP X u v).1 z8 = true := by
 by_cases hh : dgB X = true ∧ isEl X.p X.s u ∧ isEl X.p X.s v
 ·rw [mlP_y hh] at h; exact absurd rfl h
 ·rw [mlP_n hh]; exact eqE_iff.2 fun _ _ => rfl
theorem mlP_un {X : Dg} {u v : Nat → Int} (hB : DgB X) (hu : By u) (h : (mlP X u v).2 = 0) : (mlP X (e8 0) u).2 = 0 ∧ eqE (mlP X (e8 0) u).1 u = true := by
 by_cases hh : dgB X = true ∧ isEl X.p X.s u ∧ isEl X.p X.s v
 ·have hg := dgB_t.1 hh.1
  have hs := hg.fm.s
  rw [mlP_y ⟨hh.1, e8_el (isP_ge hg.fm.p) (show ((0 : Nat) : Int) < X.s by omega), hh.2.1⟩]
  exact ⟨rfl, eqE_iff.2 fun k hk => un_el hB hg.fm ((dg_AL hB hg.fm).1 hg) hu hh.2.1 hk⟩
 ·rw [mlP_n hh] at h; exact absurd h (by decide)
theorem eqE_r (u : Nat → Int) : eqE u u = true := eqE_iff.2 fun _ _ => rfl
theorem gcR_ok {X : Dg} (h : dgB X = true) : (gcR X).1 = gcB X ∧ (gcR X).2 = 0 := by rw [gcR_y h]; exact ⟨rfl, rfl⟩

set_option maxRecDepth 100000 in
theorem big_ok (vc : Value) (code : List Int) (h : Heap) (rc : RY h vc code) : CallA Try.prog 11 #[vc] h fun u h' => u = .bool (decide (4096 < (code.length : Int))) ∧ h' = h := by
 have hle := RdS.le rc
 refine callA_intro TTok (args := [_]) Try.func11 (by kernel_rfl) rfl 6 rfl (by simp) [.tmp 2] rfl ?_
 simp only [idxs]
 refine den_seq ?_
 refine den_region TTok ?_
 intro K hK
 simp -implicitDefEqProofs (disch := first | decide | assumption | omega) only [go_sem]
 refine hK _ _ ?_
 clear hK K
 refine den_seq ?_
 refine den_region TTok ?_
 intro K hK
 simp -implicitDefEqProofs (disch := first | decide | assumption | omega) only [go_sem, RdS.len rc sl37]
 refine hK _ _ ?_
 clear hK K
 refine den_ret ?_
 simp (disch := decide) only [resP_1, puts_same]
 exact ⟨by first | rfl | trivial, by first | rfl | trivial⟩

set_option maxRecDepth 100000 in
set_option maxHeartbeats 40000000 in
theorem fnDgas_law (vc : Value) (code : List Int) (h : Heap) (rc : RY h vc code) : CallA Try.prog 4 #[vc] h fun u h' => u = .bool true ∧ Ext h h' := by
 have hle := RdS.le rc
 have hfa : True := trivial
 have hfb : True := trivial
 have hfc : True := trivial
 have hun : True ∧ True := ⟨trivial, trivial⟩
 refine callA_intro TTok (args := [_]) Try.func4 (by kernel_rfl) rfl 273 rfl (by simp) [.tmp 2] rfl ?_
 simp only [idxs]
 refine den_seq ?_
 refine den_region TTok ?_
 intro K hK
 simp -implicitDefEqProofs (disch := first | decide | assumption | omega) only [go_sem]
 refine hK _ _ ?_
 clear hK K
 refine den_seq ?_
 refine den_seq ?_
 refine den_region TTok ?_
 intro K hK
 simp -implicitDefEqProofs (disch := first | decide | assumption | omega) only [go_sem]
 refine CallA.pure (big_ok _ _ _ rc) ?_
 refine hK _ _ ?_
 clear hK K
 refine den_cond rfl (fun c0 => ?_) (fun c0 => ?_)
 ·try simp only [decide_eq_true_eq] at c0
  refine den_seq ?_
  refine den_region TTok ?_
  intro K hK
  simp -implicitDefEqProofs (disch := first | decide | assumption | omega) only [go_sem]
  refine hK _ _ ?_
  clear hK K
  refine den_ret ?_
  simp (disch := decide) only [resP_1, puts_same]
  exact ⟨by first | rfl | trivial, (Ext.refl _)⟩
 ·try simp only [decide_eq_false_iff_not] at c0
  refine den_skip ?_
  refine den_seq ?_
  refine den_region TTok ?_
  intro K hK
  simp -implicitDefEqProofs (disch := first | decide | assumption | omega) only [go_sem]
  refine CallA.mono (dMl_ok _ _ _ rc) ?_
  intro v_ h3_1
  rintro ⟨A0x3_1, u1x3_1, u2x3_1, rfl, hBA0x3_1, hByu1x3_1, hByu2x3_1, e3_1⟩
  have := Ext.size e3_1
  have eB := e3_1
  try simp -implicitDefEqProofs (disch := first | decide | assumption | omega) only [go_sem]
  refine op_alloc (cs := dgA dgZ) (by kernel_rfl) ?_
  intro h3_6 e3_6 hb3_6 z3_6
  have := Ext.size e3_6
  replace eB := Ext.trans eB e3_6
  have hfhb3_6 : Fresh h3_1.size [h3_1.size] := Fresh.one _
  have hlhb3_6 := one_lt (show h3_1.size < h3_6.size by omega)
  try simp -implicitDefEqProofs (disch := first | decide | assumption | omega) only [go_sem]
  refine op_alloc (cs := elA z8) (by kernel_rfl) ?_
  intro h3_7 e3_7 hb3_7 z3_7
  replace hb3_6 := BoxAt.ext hb3_6 e3_7
  have := Ext.size e3_7
  replace eB := Ext.trans eB e3_7
  have hfhb3_7 : Fresh h3_6.size [h3_6.size] := Fresh.one _
  have hlhb3_7 := one_lt (show h3_6.size < h3_7.size by omega)
  try simp -implicitDefEqProofs (disch := first | decide | assumption | omega) only [go_sem]
  refine op_alloc (cs := elA z8) (by kernel_rfl) ?_
  intro h3_8 e3_8 hb3_8 z3_8
  replace hb3_6 := BoxAt.ext hb3_6 e3_8
  replace hb3_7 := BoxAt.ext hb3_7 e3_8
  have := Ext.size e3_8
  replace eB := Ext.trans eB e3_8
  have hfhb3_8 : Fresh h3_7.size [h3_7.size] := Fresh.one _
  have hlhb3_8 := one_lt (show h3_7.size < h3_8.size by omega)
  try simp -implicitDefEqProofs (disch := first | decide | assumption | omega) only [go_sem]
  refine op_storeDg (Y := A0x3_1) hb3_6 rfl rfl ?_
  intro h3_9 hb3_6 c3_9
  replace hb3_7 := BoxAt.chgA hb3_7 c3_9 (apart_gt hfhb3_7 hlhb3_6 (by omega))
  replace hb3_8 := BoxAt.chgA hb3_8 c3_9 (apart_gt hfhb3_8 hlhb3_6 (by omega))
  have := c3_9.size
  replace eB := Ext.then eB c3_9 (ge_of hfhb3_6 (by omega))
  try simp -implicitDefEqProofs (disch := first | decide | assumption | omega) only [go_sem]
  refine op_storeB (o := 0) (vs := elA u1x3_1) (cs' := elA u1x3_1) st30 hb3_7 rfl rfl (elA_sz _) (by rw [elA_sz]; decide) elA_one elA_all ?_
  intro h3_10 hb3_7 c3_10
  replace hb3_6 := BoxAt.chgA hb3_6 c3_10 (apart_lt hlhb3_6 hfhb3_7 (by omega))
  replace hb3_8 := BoxAt.chgA hb3_8 c3_10 (apart_gt hfhb3_8 hlhb3_7 (by omega))
  have := c3_10.size
  replace eB := Ext.then eB c3_10 (ge_of hfhb3_7 (by omega))
  try simp -implicitDefEqProofs (disch := first | decide | assumption | omega) only [go_sem]
  refine op_storeB (o := 0) (vs := elA u2x3_1) (cs' := elA u2x3_1) st30 hb3_8 rfl rfl (elA_sz _) (by rw [elA_sz]; decide) elA_one elA_all ?_
  intro h3_11 hb3_8 c3_11
  replace hb3_6 := BoxAt.chgA hb3_6 c3_11 (apart_lt hlhb3_6 hfhb3_8 (by omega))
  replace hb3_7 := BoxAt.chgA hb3_7 c3_11 (apart_lt hlhb3_7 hfhb3_8 (by omega))
  have := c3_11.size
  replace eB := Ext.then eB c3_11 (ge_of hfhb3_8 (by omega))
  try simp -implicitDefEqProofs (disch := first | decide | assumption | omega) only [go_sem]
  refine hK _ _ ?_
  clear hK K
  refine den_seq ?_
  refine den_region TTok ?_
  intro K hK
  simp -implicitDefEqProofs (disch := first | decide | assumption | omega) only [go_sem, BoxAt.dgL hb3_6, BoxAt.elL hb3_7, BoxAt.elL hb3_8]
  refine CallA.mono (iMl_ok  A0x3_1 u1x3_1 u2x3_1 _  hBA0x3_1 hByu1x3_1 hByu2x3_1) ?_
  intro v_ h4_3
  rintro ⟨rfl, e4_3⟩
  replace hb3_6 := BoxAt.ext hb3_6 e4_3
  replace hb3_7 := BoxAt.ext hb3_7 e4_3
  replace hb3_8 := BoxAt.ext hb3_8 e4_3
  have := Ext.size e4_3
  replace eB := Ext.trans eB e4_3
  try simp -implicitDefEqProofs (disch := first | decide | assumption | omega) only [go_sem]
  refine op_alloc (cs := elA z8) (by kernel_rfl) ?_
  intro h4_7 e4_7 hb4_7 z4_7
  replace hb3_6 := BoxAt.ext hb3_6 e4_7
  replace hb3_7 := BoxAt.ext hb3_7 e4_7
  replace hb3_8 := BoxAt.ext hb3_8 e4_7
  have := Ext.size e4_7
  replace eB := Ext.trans eB e4_7
  have hfhb4_7 : Fresh h4_3.size [h4_3.size] := Fresh.one _
  have hlhb4_7 := one_lt (show h4_3.size < h4_7.size by omega)
  try simp -implicitDefEqProofs (disch := first | decide | assumption | omega) only [go_sem]
  refine op_storeB (o := 0) (vs := elA ((mlP A0x3_1 u1x3_1 u2x3_1).1)) (cs' := elA ((mlP A0x3_1 u1x3_1 u2x3_1).1)) st30 hb4_7 rfl rfl (elA_sz _) (by rw [elA_sz]; decide) elA_one elA_all ?_
  intro h4_8 hb4_7 c4_8
  replace hb3_6 := BoxAt.chgA hb3_6 c4_8 (apart_lt hlhb3_6 hfhb4_7 (by omega))
  replace hb3_7 := BoxAt.chgA hb3_7 c4_8 (apart_lt hlhb3_7 hfhb4_7 (by omega))
  replace hb3_8 := BoxAt.chgA hb3_8 c4_8 (apart_lt hlhb3_8 hfhb4_7 (by omega))
  have := c4_8.size
  replace eB := Ext.then eB c4_8 (ge_of hfhb4_7 (by omega))
  try simp -implicitDefEqProofs (disch := first | decide | assumption | omega) only [go_sem]
  refine hK _ _ ?_
  clear hK K
  refine den_seq ?_
  refine den_seq ?_
  refine den_region TTok ?_
  intro K hK
  simp -implicitDefEqProofs (disch := first | decide | assumption | omega) only [go_sem, BoxAt.dgL hb3_6, BoxAt.elL hb3_7, BoxAt.elL hb3_8]
  refine CallA.mono (sMl_ok  A0x3_1 u1x3_1 u2x3_1 _  hBA0x3_1 hByu1x3_1 hByu2x3_1) ?_
  intro v_ h5_3
  rintro ⟨rfl, e5_3⟩
  replace hb3_6 := BoxAt.ext hb3_6 e5_3
  replace hb3_7 := BoxAt.ext hb3_7 e5_3
  replace hb3_8 := BoxAt.ext hb3_8 e5_3
  replace hb4_7 := BoxAt.ext hb4_7 e5_3
  have := Ext.size e5_3
  replace eB := Ext.trans eB e5_3
  try simp -implicitDefEqProofs (disch := first | decide | assumption | omega) only [go_sem]
  refine op_alloc (cs := elA z8) (by kernel_rfl) ?_
  intro h5_7 e5_7 hb5_7 z5_7
  replace hb3_6 := BoxAt.ext hb3_6 e5_7
  replace hb3_7 := BoxAt.ext hb3_7 e5_7
  replace hb3_8 := BoxAt.ext hb3_8 e5_7
  replace hb4_7 := BoxAt.ext hb4_7 e5_7
  have := Ext.size e5_7
  replace eB := Ext.trans eB e5_7
  have hfhb5_7 : Fresh h5_3.size [h5_3.size] := Fresh.one _
  have hlhb5_7 := one_lt (show h5_3.size < h5_7.size by omega)
  try simp -implicitDefEqProofs (disch := first | decide | assumption | omega) only [go_sem]
  refine op_storeB (o := 0) (vs := elA ((mlP A0x3_1 u1x3_1 u2x3_1).1)) (cs' := elA ((mlP A0x3_1 u1x3_1 u2x3_1).1)) st30 hb5_7 rfl rfl (elA_sz _) (by rw [elA_sz]; decide) elA_one elA_all ?_
  intro h5_8 hb5_7 c5_8
  replace hb3_6 := BoxAt.chgA hb3_6 c5_8 (apart_lt hlhb3_6 hfhb5_7 (by omega))
  replace hb3_7 := BoxAt.chgA hb3_7 c5_8 (apart_lt hlhb3_7 hfhb5_7 (by omega))
  replace hb3_8 := BoxAt.chgA hb3_8 c5_8 (apart_lt hlhb3_8 hfhb5_7 (by omega))
  replace hb4_7 := BoxAt.chgA hb4_7 c5_8 (apart_lt hlhb4_7 hfhb5_7 (by omega))
  have := c5_8.size
  replace eB := Ext.then eB c5_8 (ge_of hfhb5_7 (by omega))
  try simp -implicitDefEqProofs (disch := first | decide | assumption | omega) only [go_sem]
  refine hK _ _ ?_
  clear hK K
  refine den_seq ?_
  refine den_merge [(82, .bool ((((((mlP A0x3_1 u1x3_1 u2x3_1).2) != ((mlP A0x3_1 u1x3_1 u2x3_1).2)) || (!(eqE ((mlP A0x3_1 u1x3_1 u2x3_1).1) ((mlP A0x3_1 u1x3_1 u2x3_1).1)))) || (!((dgB A0x3_1) == (dgB A0x3_1))))))] [0, 3, 4, 6, 7] (fun H => Ext h5_8 H) ?_ ?_
   -- a way
  ·refine den_draw TTok mixed [] [(0, true), (1, true), (2, true), (3, true), (4, true), (5, true), (6, true), (7, true), (8, true), (9, true), (11, true), (10, false), (12, false), (13, true), (14, true)] (by kernel_rfl) ?_
   intro K hK
   simp -implicitDefEqProofs (disch := first | decide | assumption | (simp (disch := decide) only [gvA, eq_self, if_true, if_false, Bool.false_eq_true]; done) | omega) only [go_sem]
   refine plG_F (by simp (disch := decide) only [slotOf_zero, slotOf_succ, Option.map_some, puts_same]; rfl) (fun g1 => ?_) (fun g1 => ?_)
   ·try simp -implicitDefEqProofs (disch := first | decide | assumption | (simp (disch := decide) only [gvA, eq_self, if_true, if_false, Bool.false_eq_true, g1]; done) | omega) only [go_sem, BoxAt.elL hb4_7, BoxAt.elL hb5_7, ne_el, g1, if_false, Bool.false_eq_true]
    refine plG_F (by simp (disch := decide) only [slotOf_zero, slotOf_succ, Option.map_some, puts_same]; rfl) (fun g2 => ?_) (fun g2 => ?_)
    ·try simp -implicitDefEqProofs (disch := first | decide | assumption | (simp (disch := decide) only [gvA, eq_self, if_true, if_false, Bool.false_eq_true, g1, g2]; done) | omega) only [go_sem, BoxAt.dgL hb3_6, g2]
     refine CallA.mono (iDg_ok  A0x3_1 _  hBA0x3_1) ?_
     intro v_ h6_10
     rintro ⟨rfl, e6_10⟩
     replace hb3_6 := BoxAt.ext hb3_6 e6_10
     replace hb3_7 := BoxAt.ext hb3_7 e6_10
     replace hb4_7 := BoxAt.ext hb4_7 e6_10
     replace hb5_7 := BoxAt.ext hb5_7 e6_10
     have := Ext.size e6_10
     replace eB := Ext.trans eB e6_10
     refine plK_pres (Ext.pres e6_10) ?_
     try simp -implicitDefEqProofs (disch := first | decide | assumption | (simp (disch := decide) only [gvA, eq_self, if_true, if_false, Bool.false_eq_true, g1, g2]; done) | omega) only [go_sem]
     refine CallA.mono (sId_ok  A0x3_1 _  hBA0x3_1) ?_
     intro v_ h6_12
     rintro ⟨rfl, e6_12⟩
     replace hb3_6 := BoxAt.ext hb3_6 e6_12
     replace hb3_7 := BoxAt.ext hb3_7 e6_12
     replace hb4_7 := BoxAt.ext hb4_7 e6_12
     replace hb5_7 := BoxAt.ext hb5_7 e6_12
     have := Ext.size e6_12
     replace eB := Ext.trans eB e6_12
     refine plK_pres (Ext.pres e6_12) ?_
     try simp -implicitDefEqProofs (disch := first | decide | assumption | (simp (disch := decide) only [gvA, eq_self, if_true, if_false, Bool.false_eq_true, g1, g2]; done) | omega) only [go_sem, if_false, Bool.false_eq_true]
     refine hK _ _ ?_
     clear hK K
     refine den_stop ?_
     refine ⟨?_, (Ext.trans e6_10 e6_12)⟩
     first | (simp (disch := decide) only [go_sem, g1, g2, eq_self, Bool.false_or, Bool.or_false]; done) | simp [HasL, sel, puts_at, g1, g2]
    ·try simp -implicitDefEqProofs (disch := first | decide | assumption | (simp (disch := decide) only [gvA, eq_self, if_true, if_false, Bool.false_eq_true, g1, g2]; done) | omega) only [go_sem, g2, eq_self, if_true]
     refine hK _ _ ?_
     clear hK K
     refine den_stop ?_
     refine ⟨?_, Ext.refl _⟩
     first | (simp (disch := decide) only [go_sem, g1, g2, eq_self, Bool.true_or, Bool.or_true]; done) | simp [HasL, sel, puts_at, g1, g2]
   ·try simp -implicitDefEqProofs (disch := first | decide | assumption | (simp (disch := decide) only [gvA, eq_self, if_true, if_false, Bool.false_eq_true, g1]; done) | omega) only [go_sem, g1, eq_self, if_true]
    refine hK _ _ ?_
    clear hK K
    refine den_stop ?_
    refine ⟨?_, Ext.refl _⟩
    first | (simp (disch := decide) only [go_sem, g1, eq_self, Bool.true_or]; done) | simp [HasL, sel, puts_at, g1]
  intro en3 h4 e5
  replace hb3_6 := BoxAt.ext hb3_6 e5
  replace hb3_7 := BoxAt.ext hb3_7 e5
  replace hb4_7 := BoxAt.ext hb4_7 e5
  replace hb5_7 := BoxAt.ext hb5_7 e5
  have := Ext.size e5
  replace eB := Ext.trans eB e5
  simp (disch := decide) only [go_sem]
  refine den_cond rfl (fun c1 => ?_) (fun c1 => ?_)
  ·try simp only [beq_eq_false_iff_ne, bne_iff_ne, ne_eq, Bool.not_eq_true', Bool.or_eq_true] at c1
   refine den_seq ?_
   refine den_region TTok ?_
   intro K hK
   simp -implicitDefEqProofs (disch := first | decide | assumption | omega) only [go_sem]
   refine hK _ _ ?_
   clear hK K
   refine den_ret ?_
   simp (disch := decide) only [resP_1, puts_same]
   exact absurd c1 (by first | (simp [eqE_r]; done) | (simp [hfa]; done) | (simp [hfa, hfb]; done) | (simp [hfa, hfb]; exact hfc))
  ·refine den_skip ?_
   refine den_seq ?_
   refine den_region TTok ?_
   intro K hK
   simp -implicitDefEqProofs (disch := first | decide | assumption | omega) only [go_sem]
   refine CallA.mono (dDi_ok _ _ _ (RdS.pres rc (Ext.pres eB))) ?_
   intro v_ h8_1
   rintro ⟨A0x8_1, u1x8_1, rfl, hBA0x8_1, hByu1x8_1, e8_1⟩
   replace hb3_6 := BoxAt.ext hb3_6 e8_1
   replace hb3_7 := BoxAt.ext hb3_7 e8_1
   replace hb4_7 := BoxAt.ext hb4_7 e8_1
   have := Ext.size e8_1
   replace eB := Ext.trans eB e8_1
   try simp -implicitDefEqProofs (disch := first | decide | assumption | omega) only [go_sem]
   refine op_alloc (cs := dgA dgZ) (by kernel_rfl) ?_
   intro h8_5 e8_5 hb8_5 z8_5
   replace hb3_6 := BoxAt.ext hb3_6 e8_5
   replace hb3_7 := BoxAt.ext hb3_7 e8_5
   replace hb4_7 := BoxAt.ext hb4_7 e8_5
   have := Ext.size e8_5
   replace eB := Ext.trans eB e8_5
   have hfhb8_5 : Fresh h8_1.size [h8_1.size] := Fresh.one _
   have hlhb8_5 := one_lt (show h8_1.size < h8_5.size by omega)
   try simp -implicitDefEqProofs (disch := first | decide | assumption | omega) only [go_sem]
   refine op_alloc (cs := elA z8) (by kernel_rfl) ?_
   intro h8_6 e8_6 hb8_6 z8_6
   replace hb3_6 := BoxAt.ext hb3_6 e8_6
   replace hb3_7 := BoxAt.ext hb3_7 e8_6
   replace hb4_7 := BoxAt.ext hb4_7 e8_6
   replace hb8_5 := BoxAt.ext hb8_5 e8_6
   have := Ext.size e8_6
   replace eB := Ext.trans eB e8_6
   have hfhb8_6 : Fresh h8_5.size [h8_5.size] := Fresh.one _
   have hlhb8_6 := one_lt (show h8_5.size < h8_6.size by omega)
   try simp -implicitDefEqProofs (disch := first | decide | assumption | omega) only [go_sem]
   refine op_storeDg (Y := A0x8_1) hb8_5 rfl rfl ?_
   intro h8_7 hb8_5 c8_7
   replace hb3_6 := BoxAt.chgA hb3_6 c8_7 (apart_lt hlhb3_6 hfhb8_5 (by omega))
   replace hb3_7 := BoxAt.chgA hb3_7 c8_7 (apart_lt hlhb3_7 hfhb8_5 (by omega))
   replace hb4_7 := BoxAt.chgA hb4_7 c8_7 (apart_lt hlhb4_7 hfhb8_5 (by omega))
   replace hb8_6 := BoxAt.chgA hb8_6 c8_7 (apart_gt hfhb8_6 hlhb8_5 (by omega))
   have := c8_7.size
   replace eB := Ext.then eB c8_7 (ge_of hfhb8_5 (by omega))
   try simp -implicitDefEqProofs (disch := first | decide | assumption | omega) only [go_sem]
   refine op_storeB (o := 0) (vs := elA u1x8_1) (cs' := elA u1x8_1) st30 hb8_6 rfl rfl (elA_sz _) (by rw [elA_sz]; decide) elA_one elA_all ?_
   intro h8_8 hb8_6 c8_8
   replace hb3_6 := BoxAt.chgA hb3_6 c8_8 (apart_lt hlhb3_6 hfhb8_6 (by omega))
   replace hb3_7 := BoxAt.chgA hb3_7 c8_8 (apart_lt hlhb3_7 hfhb8_6 (by omega))
   replace hb4_7 := BoxAt.chgA hb4_7 c8_8 (apart_lt hlhb4_7 hfhb8_6 (by omega))
   replace hb8_5 := BoxAt.chgA hb8_5 c8_8 (apart_lt hlhb8_5 hfhb8_6 (by omega))
   have := c8_8.size
   replace eB := Ext.then eB c8_8 (ge_of hfhb8_6 (by omega))
   try simp -implicitDefEqProofs (disch := first | decide | assumption | omega) only [go_sem]
   refine hK _ _ ?_
   clear hK K
   refine den_seq ?_
   refine den_region TTok ?_
   intro K hK
   simp -implicitDefEqProofs (disch := first | decide | assumption | omega) only [go_sem, BoxAt.dgL hb8_5, BoxAt.elL hb8_6]
   refine CallA.mono (iDi_ok  A0x8_1 u1x8_1 _  hBA0x8_1 hByu1x8_1) ?_
   intro v_ h9_2
   rintro ⟨rfl, e9_2⟩
   replace hb3_6 := BoxAt.ext hb3_6 e9_2
   replace hb3_7 := BoxAt.ext hb3_7 e9_2
   replace hb4_7 := BoxAt.ext hb4_7 e9_2
   replace hb8_5 := BoxAt.ext hb8_5 e9_2
   replace hb8_6 := BoxAt.ext hb8_6 e9_2
   have := Ext.size e9_2
   replace eB := Ext.trans eB e9_2
   try simp -implicitDefEqProofs (disch := first | decide | assumption | omega) only [go_sem]
   refine op_alloc (cs := elA z8) (by kernel_rfl) ?_
   intro h9_6 e9_6 hb9_6 z9_6
   replace hb3_6 := BoxAt.ext hb3_6 e9_6
   replace hb3_7 := BoxAt.ext hb3_7 e9_6
   replace hb4_7 := BoxAt.ext hb4_7 e9_6
   replace hb8_5 := BoxAt.ext hb8_5 e9_6
   replace hb8_6 := BoxAt.ext hb8_6 e9_6
   have := Ext.size e9_6
   replace eB := Ext.trans eB e9_6
   have hfhb9_6 : Fresh h9_2.size [h9_2.size] := Fresh.one _
   have hlhb9_6 := one_lt (show h9_2.size < h9_6.size by omega)
   try simp -implicitDefEqProofs (disch := first | decide | assumption | omega) only [go_sem]
   refine op_storeB (o := 0) (vs := elA ((diP A0x8_1 u1x8_1).1)) (cs' := elA ((diP A0x8_1 u1x8_1).1)) st30 hb9_6 rfl rfl (elA_sz _) (by rw [elA_sz]; decide) elA_one elA_all ?_
   intro h9_7 hb9_6 c9_7
   replace hb3_6 := BoxAt.chgA hb3_6 c9_7 (apart_lt hlhb3_6 hfhb9_6 (by omega))
   replace hb3_7 := BoxAt.chgA hb3_7 c9_7 (apart_lt hlhb3_7 hfhb9_6 (by omega))
   replace hb4_7 := BoxAt.chgA hb4_7 c9_7 (apart_lt hlhb4_7 hfhb9_6 (by omega))
   replace hb8_5 := BoxAt.chgA hb8_5 c9_7 (apart_lt hlhb8_5 hfhb9_6 (by omega))
   replace hb8_6 := BoxAt.chgA hb8_6 c9_7 (apart_lt hlhb8_6 hfhb9_6 (by omega))
   have := c9_7.size
   replace eB := Ext.then eB c9_7 (ge_of hfhb9_6 (by omega))
   try simp -implicitDefEqProofs (disch := first | decide | assumption | omega) only [go_sem]
   refine hK _ _ ?_
   clear hK K
   refine den_seq ?_
   refine den_seq ?_
   refine den_region TTok ?_
   intro K hK
   simp -implicitDefEqProofs (disch := first | decide | assumption | omega) only [go_sem, BoxAt.dgL hb8_5, BoxAt.elL hb8_6]
   refine CallA.mono (sDi_ok  A0x8_1 u1x8_1 _  hBA0x8_1 hByu1x8_1) ?_
   intro v_ h10_2
   rintro ⟨rfl, e10_2⟩
   replace hb3_6 := BoxAt.ext hb3_6 e10_2
   replace hb3_7 := BoxAt.ext hb3_7 e10_2
   replace hb4_7 := BoxAt.ext hb4_7 e10_2
   replace hb8_5 := BoxAt.ext hb8_5 e10_2
   replace hb8_6 := BoxAt.ext hb8_6 e10_2
   replace hb9_6 := BoxAt.ext hb9_6 e10_2
   have := Ext.size e10_2
   replace eB := Ext.trans eB e10_2
   try simp -implicitDefEqProofs (disch := first | decide | assumption | omega) only [go_sem]
   refine op_alloc (cs := elA z8) (by kernel_rfl) ?_
   intro h10_6 e10_6 hb10_6 z10_6
   replace hb3_6 := BoxAt.ext hb3_6 e10_6
   replace hb3_7 := BoxAt.ext hb3_7 e10_6
   replace hb4_7 := BoxAt.ext hb4_7 e10_6
   replace hb8_5 := BoxAt.ext hb8_5 e10_6
   replace hb8_6 := BoxAt.ext hb8_6 e10_6
   replace hb9_6 := BoxAt.ext hb9_6 e10_6
   have := Ext.size e10_6
   replace eB := Ext.trans eB e10_6
   have hfhb10_6 : Fresh h10_2.size [h10_2.size] := Fresh.one _
   have hlhb10_6 := one_lt (show h10_2.size < h10_6.size by omega)
   try simp -implicitDefEqProofs (disch := first | decide | assumption | omega) only [go_sem]
   refine op_storeB (o := 0) (vs := elA ((diP A0x8_1 u1x8_1).1)) (cs' := elA ((diP A0x8_1 u1x8_1).1)) st30 hb10_6 rfl rfl (elA_sz _) (by rw [elA_sz]; decide) elA_one elA_all ?_
   intro h10_7 hb10_6 c10_7
   replace hb3_6 := BoxAt.chgA hb3_6 c10_7 (apart_lt hlhb3_6 hfhb10_6 (by omega))
   replace hb3_7 := BoxAt.chgA hb3_7 c10_7 (apart_lt hlhb3_7 hfhb10_6 (by omega))
   replace hb4_7 := BoxAt.chgA hb4_7 c10_7 (apart_lt hlhb4_7 hfhb10_6 (by omega))
   replace hb8_5 := BoxAt.chgA hb8_5 c10_7 (apart_lt hlhb8_5 hfhb10_6 (by omega))
   replace hb8_6 := BoxAt.chgA hb8_6 c10_7 (apart_lt hlhb8_6 hfhb10_6 (by omega))
   replace hb9_6 := BoxAt.chgA hb9_6 c10_7 (apart_lt hlhb9_6 hfhb10_6 (by omega))
   have := c10_7.size
   replace eB := Ext.then eB c10_7 (ge_of hfhb10_6 (by omega))
   try simp -implicitDefEqProofs (disch := first | decide | assumption | omega) only [go_sem]
   refine hK _ _ ?_
   clear hK K
   refine den_seq ?_
   refine den_mergeH [(107, .bool (((((diP A0x8_1 u1x8_1).2) != ((diP A0x8_1 u1x8_1).2)) || (!(eqE ((diP A0x8_1 u1x8_1).1) ((diP A0x8_1 u1x8_1).1))))))] [0, 3, 4, 6, 7, 10, 12, 13] ?_ ?_
    -- a way
   ·refine den_region TTok ?_
    intro K hK
    simp -implicitDefEqProofs (disch := first | decide | assumption | (simp (disch := decide) only [gvA, eq_self, if_true, if_false, Bool.false_eq_true]; done) | omega) only [go_sem]
    refine opsP_F (by simp (disch := decide) only [slotOf_zero, slotOf_succ, Option.map_some, puts_same]; rfl) (fun g6 => ?_) (fun g6 => ?_)
    ·try simp -implicitDefEqProofs (disch := first | decide | assumption | (simp (disch := decide) only [gvA, eq_self, if_true, if_false, Bool.false_eq_true, g6]; done) | omega) only [go_sem, BoxAt.elL hb9_6, BoxAt.elL hb10_6, ne_el, g6, if_false, Bool.false_eq_true]
     refine hK _ _ ?_
     clear hK K
     refine den_stop ?_
     refine ⟨?_, rfl⟩
     first | (simp (disch := decide) only [go_sem, g6, eq_self, Bool.false_or]; done) | simp [HasL, sel, puts_at, g6]
    ·try simp -implicitDefEqProofs (disch := first | decide | assumption | (simp (disch := decide) only [gvA, eq_self, if_true, if_false, Bool.false_eq_true, g6]; done) | omega) only [go_sem, g6, eq_self, if_true]
     refine hK _ _ ?_
     clear hK K
     refine den_stop ?_
     refine ⟨?_, rfl⟩
     first | (simp (disch := decide) only [go_sem, g6, eq_self, Bool.true_or]; done) | simp [HasL, sel, puts_at, g6]
   intro en7
   simp (disch := decide) only [go_sem]
   refine den_cond rfl (fun c2 => ?_) (fun c2 => ?_)
   ·try simp only [bne_iff_ne, ne_eq, Bool.not_eq_true', Bool.or_eq_true] at c2
    refine den_seq ?_
    refine den_region TTok ?_
    intro K hK
    simp -implicitDefEqProofs (disch := first | decide | assumption | omega) only [go_sem]
    refine hK _ _ ?_
    clear hK K
    refine den_ret ?_
    simp (disch := decide) only [resP_1, puts_same]
    exact absurd c2 (by first | (simp [eqE_r]; done) | (simp [hfa]; done) | (simp [hfa, hfb]; done) | (simp [hfa, hfb]; exact hfc))
   ·refine den_skip ?_
    refine den_seq ?_
    refine den_region TTok ?_
    intro K hK
    simp -implicitDefEqProofs (disch := first | decide | assumption | omega) only [go_sem]
    refine CallA.mono (dNd_ok _ _ _ (RdS.pres rc (Ext.pres eB))) ?_
    intro v_ h13_1
    rintro ⟨n0x13_1, p1x13_1, rfl, e13_1⟩
    replace hb3_6 := BoxAt.ext hb3_6 e13_1
    replace hb3_7 := BoxAt.ext hb3_7 e13_1
    replace hb4_7 := BoxAt.ext hb4_7 e13_1
    replace hb8_5 := BoxAt.ext hb8_5 e13_1
    replace hb9_6 := BoxAt.ext hb9_6 e13_1
    have := Ext.size e13_1
    replace eB := Ext.trans eB e13_1
    try simp -implicitDefEqProofs (disch := first | decide | assumption | omega) only [go_sem]
    refine hK _ _ ?_
    clear hK K
    refine den_seq ?_
    refine den_region TTok ?_
    intro K hK
    simp -implicitDefEqProofs (disch := first | decide | assumption | omega) only [go_sem]
    refine CallA.mono (iNd_ok  n0x13_1 p1x13_1 _  ) ?_
    intro v_ h14_2
    rintro ⟨rfl, e14_2⟩
    replace hb3_6 := BoxAt.ext hb3_6 e14_2
    replace hb3_7 := BoxAt.ext hb3_7 e14_2
    replace hb4_7 := BoxAt.ext hb4_7 e14_2
    replace hb8_5 := BoxAt.ext hb8_5 e14_2
    replace hb9_6 := BoxAt.ext hb9_6 e14_2
    have := Ext.size e14_2
    replace eB := Ext.trans eB e14_2
    try simp -implicitDefEqProofs (disch := first | decide | assumption | omega) only [go_sem]
    refine op_alloc (cs := dgA dgZ) (by kernel_rfl) ?_
    intro h14_6 e14_6 hb14_6 z14_6
    replace hb3_6 := BoxAt.ext hb3_6 e14_6
    replace hb3_7 := BoxAt.ext hb3_7 e14_6
    replace hb4_7 := BoxAt.ext hb4_7 e14_6
    replace hb8_5 := BoxAt.ext hb8_5 e14_6
    replace hb9_6 := BoxAt.ext hb9_6 e14_6
    have := Ext.size e14_6
    replace eB := Ext.trans eB e14_6
    have hfhb14_6 : Fresh h14_2.size [h14_2.size] := Fresh.one _
    have hlhb14_6 := one_lt (show h14_2.size < h14_6.size by omega)
    try simp -implicitDefEqProofs (disch := first | decide | assumption | omega) only [go_sem]
    refine op_storeDg (Y := (ndP n0x13_1 p1x13_1).1) hb14_6 rfl rfl ?_
    intro h14_7 hb14_6 c14_7
    replace hb3_6 := BoxAt.chgA hb3_6 c14_7 (apart_lt hlhb3_6 hfhb14_6 (by omega))
    replace hb3_7 := BoxAt.chgA hb3_7 c14_7 (apart_lt hlhb3_7 hfhb14_6 (by omega))
    replace hb4_7 := BoxAt.chgA hb4_7 c14_7 (apart_lt hlhb4_7 hfhb14_6 (by omega))
    replace hb8_5 := BoxAt.chgA hb8_5 c14_7 (apart_lt hlhb8_5 hfhb14_6 (by omega))
    replace hb9_6 := BoxAt.chgA hb9_6 c14_7 (apart_lt hlhb9_6 hfhb14_6 (by omega))
    have := c14_7.size
    replace eB := Ext.then eB c14_7 (ge_of hfhb14_6 (by omega))
    try simp -implicitDefEqProofs (disch := first | decide | assumption | omega) only [go_sem]
    refine hK _ _ ?_
    clear hK K
    refine den_seq ?_
    refine den_seq ?_
    refine den_region TTok ?_
    intro K hK
    simp -implicitDefEqProofs (disch := first | decide | assumption | omega) only [go_sem]
    refine CallA.mono (sNd_ok  n0x13_1 p1x13_1 _  ) ?_
    intro v_ h15_2
    rintro ⟨rfl, e15_2⟩
    replace hb3_6 := BoxAt.ext hb3_6 e15_2
    replace hb3_7 := BoxAt.ext hb3_7 e15_2
    replace hb4_7 := BoxAt.ext hb4_7 e15_2
    replace hb8_5 := BoxAt.ext hb8_5 e15_2
    replace hb9_6 := BoxAt.ext hb9_6 e15_2
    replace hb14_6 := BoxAt.ext hb14_6 e15_2
    have := Ext.size e15_2
    replace eB := Ext.trans eB e15_2
    try simp -implicitDefEqProofs (disch := first | decide | assumption | omega) only [go_sem]
    refine op_alloc (cs := dgA dgZ) (by kernel_rfl) ?_
    intro h15_6 e15_6 hb15_6 z15_6
    replace hb3_6 := BoxAt.ext hb3_6 e15_6
    replace hb3_7 := BoxAt.ext hb3_7 e15_6
    replace hb4_7 := BoxAt.ext hb4_7 e15_6
    replace hb8_5 := BoxAt.ext hb8_5 e15_6
    replace hb9_6 := BoxAt.ext hb9_6 e15_6
    replace hb14_6 := BoxAt.ext hb14_6 e15_6
    have := Ext.size e15_6
    replace eB := Ext.trans eB e15_6
    have hfhb15_6 : Fresh h15_2.size [h15_2.size] := Fresh.one _
    have hlhb15_6 := one_lt (show h15_2.size < h15_6.size by omega)
    try simp -implicitDefEqProofs (disch := first | decide | assumption | omega) only [go_sem]
    refine op_storeDg (Y := (ndP n0x13_1 p1x13_1).1) hb15_6 rfl rfl ?_
    intro h15_7 hb15_6 c15_7
    replace hb3_6 := BoxAt.chgA hb3_6 c15_7 (apart_lt hlhb3_6 hfhb15_6 (by omega))
    replace hb3_7 := BoxAt.chgA hb3_7 c15_7 (apart_lt hlhb3_7 hfhb15_6 (by omega))
    replace hb4_7 := BoxAt.chgA hb4_7 c15_7 (apart_lt hlhb4_7 hfhb15_6 (by omega))
    replace hb8_5 := BoxAt.chgA hb8_5 c15_7 (apart_lt hlhb8_5 hfhb15_6 (by omega))
    replace hb9_6 := BoxAt.chgA hb9_6 c15_7 (apart_lt hlhb9_6 hfhb15_6 (by omega))
    replace hb14_6 := BoxAt.chgA hb14_6 c15_7 (apart_lt hlhb14_6 hfhb15_6 (by omega))
    have := c15_7.size
    replace eB := Ext.then eB c15_7 (ge_of hfhb15_6 (by omega))
    try simp -implicitDefEqProofs (disch := first | decide | assumption | omega) only [go_sem]
    refine hK _ _ ?_
    clear hK K
    refine den_seq ?_
    refine den_mergeH [(132, .bool (((((ndP n0x13_1 p1x13_1).2) != ((ndP n0x13_1 p1x13_1).2)) || false)))] [0, 3, 4, 6, 7, 10, 12, 13, 18, 19] ?_ ?_
     -- a way
    ·refine den_region TTok ?_
     intro K hK
     simp -implicitDefEqProofs (disch := first | decide | assumption | (simp (disch := decide) only [gvA, eq_self, if_true, if_false, Bool.false_eq_true]; done) | omega) only [go_sem]
     refine opsP_F (by simp (disch := decide) only [slotOf_zero, slotOf_succ, Option.map_some, puts_same]; rfl) (fun g10 => ?_) (fun g10 => ?_)
     ·try simp -implicitDefEqProofs (disch := first | decide | assumption | (simp (disch := decide) only [gvA, eq_self, if_true, if_false, Bool.false_eq_true, g10]; done) | omega) only [go_sem, BoxAt.dgL hb14_6, BoxAt.dgL hb15_6, ne_dg, g10, if_false, Bool.false_eq_true]
      refine hK _ _ ?_
      clear hK K
      refine den_stop ?_
      refine ⟨?_, rfl⟩
      first | (simp (disch := decide) only [go_sem, g10, eq_self, Bool.or_false]; done) | simp [HasL, sel, puts_at, g10]
     ·try simp -implicitDefEqProofs (disch := first | decide | assumption | (simp (disch := decide) only [gvA, eq_self, if_true, if_false, Bool.false_eq_true, g10]; done) | omega) only [go_sem, g10, eq_self, if_true]
      refine hK _ _ ?_
      clear hK K
      refine den_stop ?_
      refine ⟨?_, rfl⟩
      first | (simp (disch := decide) only [go_sem, g10, eq_self, Bool.or_false]; done) | simp [HasL, sel, puts_at, g10]
    intro en11
    simp (disch := decide) only [go_sem]
    refine den_cond rfl (fun c3 => ?_) (fun c3 => ?_)
    ·try simp only [bne_iff_ne, ne_eq, Bool.or_eq_true] at c3
     refine den_seq ?_
     refine den_region TTok ?_
     intro K hK
     simp -implicitDefEqProofs (disch := first | decide | assumption | omega) only [go_sem]
     refine hK _ _ ?_
     clear hK K
     refine den_ret ?_
     simp (disch := decide) only [resP_1, puts_same]
     exact absurd c3 (by first | (simp []; done) | (simp [hfa]; done) | (simp [hfa, hfb]; done) | (simp [hfa, hfb]; exact hfc))
    ·refine den_skip ?_
     refine den_seq ?_
     refine den_region TTok ?_
     intro K hK
     simp -implicitDefEqProofs (disch := first | decide | assumption | omega) only [go_sem]
     refine CallA.mono (dTn_ok _ _ _ (RdS.pres rc (Ext.pres eB))) ?_
     intro v_ h18_1
     rintro ⟨A0x18_1, A1x18_1, rfl, hBA0x18_1, hBA1x18_1, e18_1⟩
     replace hb3_6 := BoxAt.ext hb3_6 e18_1
     replace hb3_7 := BoxAt.ext hb3_7 e18_1
     replace hb4_7 := BoxAt.ext hb4_7 e18_1
     replace hb8_5 := BoxAt.ext hb8_5 e18_1
     replace hb9_6 := BoxAt.ext hb9_6 e18_1
     replace hb14_6 := BoxAt.ext hb14_6 e18_1
     have := Ext.size e18_1
     replace eB := Ext.trans eB e18_1
     try simp -implicitDefEqProofs (disch := first | decide | assumption | omega) only [go_sem]
     refine op_alloc (cs := dgA dgZ) (by kernel_rfl) ?_
     intro h18_5 e18_5 hb18_5 z18_5
     replace hb3_6 := BoxAt.ext hb3_6 e18_5
     replace hb3_7 := BoxAt.ext hb3_7 e18_5
     replace hb4_7 := BoxAt.ext hb4_7 e18_5
     replace hb8_5 := BoxAt.ext hb8_5 e18_5
     replace hb9_6 := BoxAt.ext hb9_6 e18_5
     replace hb14_6 := BoxAt.ext hb14_6 e18_5
     have := Ext.size e18_5
     replace eB := Ext.trans eB e18_5
     have hfhb18_5 : Fresh h18_1.size [h18_1.size] := Fresh.one _
     have hlhb18_5 := one_lt (show h18_1.size < h18_5.size by omega)
     try simp -implicitDefEqProofs (disch := first | decide | assumption | omega) only [go_sem]
     refine op_alloc (cs := dgA dgZ) (by kernel_rfl) ?_
     intro h18_6 e18_6 hb18_6 z18_6
     replace hb3_6 := BoxAt.ext hb3_6 e18_6
     replace hb3_7 := BoxAt.ext hb3_7 e18_6
     replace hb4_7 := BoxAt.ext hb4_7 e18_6
     replace hb8_5 := BoxAt.ext hb8_5 e18_6
     replace hb9_6 := BoxAt.ext hb9_6 e18_6
     replace hb14_6 := BoxAt.ext hb14_6 e18_6
     replace hb18_5 := BoxAt.ext hb18_5 e18_6
     have := Ext.size e18_6
     replace eB := Ext.trans eB e18_6
     have hfhb18_6 : Fresh h18_5.size [h18_5.size] := Fresh.one _
     have hlhb18_6 := one_lt (show h18_5.size < h18_6.size by omega)
     try simp -implicitDefEqProofs (disch := first | decide | assumption | omega) only [go_sem]
     refine op_storeDg (Y := A0x18_1) hb18_5 rfl rfl ?_
     intro h18_7 hb18_5 c18_7
     replace hb3_6 := BoxAt.chgA hb3_6 c18_7 (apart_lt hlhb3_6 hfhb18_5 (by omega))
     replace hb3_7 := BoxAt.chgA hb3_7 c18_7 (apart_lt hlhb3_7 hfhb18_5 (by omega))
     replace hb4_7 := BoxAt.chgA hb4_7 c18_7 (apart_lt hlhb4_7 hfhb18_5 (by omega))
     replace hb8_5 := BoxAt.chgA hb8_5 c18_7 (apart_lt hlhb8_5 hfhb18_5 (by omega))
     replace hb9_6 := BoxAt.chgA hb9_6 c18_7 (apart_lt hlhb9_6 hfhb18_5 (by omega))
     replace hb14_6 := BoxAt.chgA hb14_6 c18_7 (apart_lt hlhb14_6 hfhb18_5 (by omega))
     replace hb18_6 := BoxAt.chgA hb18_6 c18_7 (apart_gt hfhb18_6 hlhb18_5 (by omega))
     have := c18_7.size
     replace eB := Ext.then eB c18_7 (ge_of hfhb18_5 (by omega))
     try simp -implicitDefEqProofs (disch := first | decide | assumption | omega) only [go_sem]
     refine op_storeDg (Y := A1x18_1) hb18_6 rfl rfl ?_
     intro h18_8 hb18_6 c18_8
     replace hb3_6 := BoxAt.chgA hb3_6 c18_8 (apart_lt hlhb3_6 hfhb18_6 (by omega))
     replace hb3_7 := BoxAt.chgA hb3_7 c18_8 (apart_lt hlhb3_7 hfhb18_6 (by omega))
     replace hb4_7 := BoxAt.chgA hb4_7 c18_8 (apart_lt hlhb4_7 hfhb18_6 (by omega))
     replace hb8_5 := BoxAt.chgA hb8_5 c18_8 (apart_lt hlhb8_5 hfhb18_6 (by omega))
     replace hb9_6 := BoxAt.chgA hb9_6 c18_8 (apart_lt hlhb9_6 hfhb18_6 (by omega))
     replace hb14_6 := BoxAt.chgA hb14_6 c18_8 (apart_lt hlhb14_6 hfhb18_6 (by omega))
     replace hb18_5 := BoxAt.chgA hb18_5 c18_8 (apart_lt hlhb18_5 hfhb18_6 (by omega))
     have := c18_8.size
     replace eB := Ext.then eB c18_8 (ge_of hfhb18_6 (by omega))
     try simp -implicitDefEqProofs (disch := first | decide | assumption | omega) only [go_sem]
     refine hK _ _ ?_
     clear hK K
     refine den_seq ?_
     refine den_region TTok ?_
     intro K hK
     simp -implicitDefEqProofs (disch := first | decide | assumption | omega) only [go_sem, BoxAt.dgL hb18_5, BoxAt.dgL hb18_6]
     refine CallA.mono (iTn_ok  A0x18_1 A1x18_1 _  hBA0x18_1 hBA1x18_1) ?_
     intro v_ h19_2
     rintro ⟨rfl, e19_2⟩
     replace hb3_6 := BoxAt.ext hb3_6 e19_2
     replace hb3_7 := BoxAt.ext hb3_7 e19_2
     replace hb4_7 := BoxAt.ext hb4_7 e19_2
     replace hb8_5 := BoxAt.ext hb8_5 e19_2
     replace hb9_6 := BoxAt.ext hb9_6 e19_2
     replace hb14_6 := BoxAt.ext hb14_6 e19_2
     replace hb18_5 := BoxAt.ext hb18_5 e19_2
     replace hb18_6 := BoxAt.ext hb18_6 e19_2
     have := Ext.size e19_2
     replace eB := Ext.trans eB e19_2
     try simp -implicitDefEqProofs (disch := first | decide | assumption | omega) only [go_sem]
     refine op_alloc (cs := dgA dgZ) (by kernel_rfl) ?_
     intro h19_6 e19_6 hb19_6 z19_6
     replace hb3_6 := BoxAt.ext hb3_6 e19_6
     replace hb3_7 := BoxAt.ext hb3_7 e19_6
     replace hb4_7 := BoxAt.ext hb4_7 e19_6
     replace hb8_5 := BoxAt.ext hb8_5 e19_6
     replace hb9_6 := BoxAt.ext hb9_6 e19_6
     replace hb14_6 := BoxAt.ext hb14_6 e19_6
     replace hb18_5 := BoxAt.ext hb18_5 e19_6
     replace hb18_6 := BoxAt.ext hb18_6 e19_6
     have := Ext.size e19_6
     replace eB := Ext.trans eB e19_6
     have hfhb19_6 : Fresh h19_2.size [h19_2.size] := Fresh.one _
     have hlhb19_6 := one_lt (show h19_2.size < h19_6.size by omega)
     try simp -implicitDefEqProofs (disch := first | decide | assumption | omega) only [go_sem]
     refine op_storeDg (Y := (tnP A0x18_1 A1x18_1).1) hb19_6 rfl rfl ?_
     intro h19_7 hb19_6 c19_7
     replace hb3_6 := BoxAt.chgA hb3_6 c19_7 (apart_lt hlhb3_6 hfhb19_6 (by omega))
     replace hb3_7 := BoxAt.chgA hb3_7 c19_7 (apart_lt hlhb3_7 hfhb19_6 (by omega))
     replace hb4_7 := BoxAt.chgA hb4_7 c19_7 (apart_lt hlhb4_7 hfhb19_6 (by omega))
     replace hb8_5 := BoxAt.chgA hb8_5 c19_7 (apart_lt hlhb8_5 hfhb19_6 (by omega))
     replace hb9_6 := BoxAt.chgA hb9_6 c19_7 (apart_lt hlhb9_6 hfhb19_6 (by omega))
     replace hb14_6 := BoxAt.chgA hb14_6 c19_7 (apart_lt hlhb14_6 hfhb19_6 (by omega))
     replace hb18_5 := BoxAt.chgA hb18_5 c19_7 (apart_lt hlhb18_5 hfhb19_6 (by omega))
     replace hb18_6 := BoxAt.chgA hb18_6 c19_7 (apart_lt hlhb18_6 hfhb19_6 (by omega))
     have := c19_7.size
     replace eB := Ext.then eB c19_7 (ge_of hfhb19_6 (by omega))
     try simp -implicitDefEqProofs (disch := first | decide | assumption | omega) only [go_sem]
     refine hK _ _ ?_
     clear hK K
     refine den_seq ?_
     refine den_seq ?_
     refine den_region TTok ?_
     intro K hK
     simp -implicitDefEqProofs (disch := first | decide | assumption | omega) only [go_sem, BoxAt.dgL hb18_5, BoxAt.dgL hb18_6]
     refine CallA.mono (sTn_ok  A0x18_1 A1x18_1 _  hBA0x18_1 hBA1x18_1) ?_
     intro v_ h20_2
     rintro ⟨rfl, e20_2⟩
     replace hb3_6 := BoxAt.ext hb3_6 e20_2
     replace hb3_7 := BoxAt.ext hb3_7 e20_2
     replace hb4_7 := BoxAt.ext hb4_7 e20_2
     replace hb8_5 := BoxAt.ext hb8_5 e20_2
     replace hb9_6 := BoxAt.ext hb9_6 e20_2
     replace hb14_6 := BoxAt.ext hb14_6 e20_2
     replace hb18_5 := BoxAt.ext hb18_5 e20_2
     replace hb18_6 := BoxAt.ext hb18_6 e20_2
     replace hb19_6 := BoxAt.ext hb19_6 e20_2
     have := Ext.size e20_2
     replace eB := Ext.trans eB e20_2
     try simp -implicitDefEqProofs (disch := first | decide | assumption | omega) only [go_sem]
     refine op_alloc (cs := dgA dgZ) (by kernel_rfl) ?_
     intro h20_6 e20_6 hb20_6 z20_6
     replace hb3_6 := BoxAt.ext hb3_6 e20_6
     replace hb3_7 := BoxAt.ext hb3_7 e20_6
     replace hb4_7 := BoxAt.ext hb4_7 e20_6
     replace hb8_5 := BoxAt.ext hb8_5 e20_6
     replace hb9_6 := BoxAt.ext hb9_6 e20_6
     replace hb14_6 := BoxAt.ext hb14_6 e20_6
     replace hb18_5 := BoxAt.ext hb18_5 e20_6
     replace hb18_6 := BoxAt.ext hb18_6 e20_6
     replace hb19_6 := BoxAt.ext hb19_6 e20_6
     have := Ext.size e20_6
     replace eB := Ext.trans eB e20_6
     have hfhb20_6 : Fresh h20_2.size [h20_2.size] := Fresh.one _
     have hlhb20_6 := one_lt (show h20_2.size < h20_6.size by omega)
     try simp -implicitDefEqProofs (disch := first | decide | assumption | omega) only [go_sem]
     refine op_storeDg (Y := (tnP A0x18_1 A1x18_1).1) hb20_6 rfl rfl ?_
     intro h20_7 hb20_6 c20_7
     replace hb3_6 := BoxAt.chgA hb3_6 c20_7 (apart_lt hlhb3_6 hfhb20_6 (by omega))
     replace hb3_7 := BoxAt.chgA hb3_7 c20_7 (apart_lt hlhb3_7 hfhb20_6 (by omega))
     replace hb4_7 := BoxAt.chgA hb4_7 c20_7 (apart_lt hlhb4_7 hfhb20_6 (by omega))
     replace hb8_5 := BoxAt.chgA hb8_5 c20_7 (apart_lt hlhb8_5 hfhb20_6 (by omega))
     replace hb9_6 := BoxAt.chgA hb9_6 c20_7 (apart_lt hlhb9_6 hfhb20_6 (by omega))
     replace hb14_6 := BoxAt.chgA hb14_6 c20_7 (apart_lt hlhb14_6 hfhb20_6 (by omega))
     replace hb18_5 := BoxAt.chgA hb18_5 c20_7 (apart_lt hlhb18_5 hfhb20_6 (by omega))
     replace hb18_6 := BoxAt.chgA hb18_6 c20_7 (apart_lt hlhb18_6 hfhb20_6 (by omega))
     replace hb19_6 := BoxAt.chgA hb19_6 c20_7 (apart_lt hlhb19_6 hfhb20_6 (by omega))
     have := c20_7.size
     replace eB := Ext.then eB c20_7 (ge_of hfhb20_6 (by omega))
     try simp -implicitDefEqProofs (disch := first | decide | assumption | omega) only [go_sem]
     refine hK _ _ ?_
     clear hK K
     refine den_seq ?_
     refine den_mergeH [(157, .bool (((((tnP A0x18_1 A1x18_1).2) != ((tnP A0x18_1 A1x18_1).2)) || false)))] [0, 3, 4, 6, 7, 10, 12, 13, 18, 19, 22, 23, 24, 25] ?_ ?_
      -- a way
     ·refine den_region TTok ?_
      intro K hK
      simp -implicitDefEqProofs (disch := first | decide | assumption | (simp (disch := decide) only [gvA, eq_self, if_true, if_false, Bool.false_eq_true]; done) | omega) only [go_sem]
      refine opsP_F (by simp (disch := decide) only [slotOf_zero, slotOf_succ, Option.map_some, puts_same]; rfl) (fun g14 => ?_) (fun g14 => ?_)
      ·try simp -implicitDefEqProofs (disch := first | decide | assumption | (simp (disch := decide) only [gvA, eq_self, if_true, if_false, Bool.false_eq_true, g14]; done) | omega) only [go_sem, BoxAt.dgL hb19_6, BoxAt.dgL hb20_6, ne_dg, g14, if_false, Bool.false_eq_true]
       refine hK _ _ ?_
       clear hK K
       refine den_stop ?_
       refine ⟨?_, rfl⟩
       first | (simp (disch := decide) only [go_sem, g14, eq_self, Bool.or_false]; done) | simp [HasL, sel, puts_at, g14]
      ·try simp -implicitDefEqProofs (disch := first | decide | assumption | (simp (disch := decide) only [gvA, eq_self, if_true, if_false, Bool.false_eq_true, g14]; done) | omega) only [go_sem, g14, eq_self, if_true]
       refine hK _ _ ?_
       clear hK K
       refine den_stop ?_
       refine ⟨?_, rfl⟩
       first | (simp (disch := decide) only [go_sem, g14, eq_self, Bool.or_false]; done) | simp [HasL, sel, puts_at, g14]
     intro en15
     simp (disch := decide) only [go_sem]
     refine den_cond rfl (fun c4 => ?_) (fun c4 => ?_)
     ·try simp only [bne_iff_ne, ne_eq, Bool.or_eq_true] at c4
      refine den_seq ?_
      refine den_region TTok ?_
      intro K hK
      simp -implicitDefEqProofs (disch := first | decide | assumption | omega) only [go_sem]
      refine hK _ _ ?_
      clear hK K
      refine den_ret ?_
      simp (disch := decide) only [resP_1, puts_same]
      exact absurd c4 (by first | (simp []; done) | (simp [hfa]; done) | (simp [hfa, hfb]; done) | (simp [hfa, hfb]; exact hfc))
     ·refine den_skip ?_
      refine den_seq ?_
      refine den_region TTok ?_
      intro K hK
      simp -implicitDefEqProofs (disch := first | decide | assumption | omega) only [go_sem]
      refine CallA.mono (dGc_ok _ _ _ (RdS.pres rc (Ext.pres eB))) ?_
      intro v_ h23_1
      rintro ⟨A0x23_1, rfl, hBA0x23_1, e23_1⟩
      replace hb3_6 := BoxAt.ext hb3_6 e23_1
      replace hb3_7 := BoxAt.ext hb3_7 e23_1
      replace hb4_7 := BoxAt.ext hb4_7 e23_1
      replace hb8_5 := BoxAt.ext hb8_5 e23_1
      replace hb9_6 := BoxAt.ext hb9_6 e23_1
      replace hb14_6 := BoxAt.ext hb14_6 e23_1
      replace hb18_5 := BoxAt.ext hb18_5 e23_1
      replace hb18_6 := BoxAt.ext hb18_6 e23_1
      replace hb19_6 := BoxAt.ext hb19_6 e23_1
      have := Ext.size e23_1
      replace eB := Ext.trans eB e23_1
      refine op_alloc (cs := dgA dgZ) (by kernel_rfl) ?_
      intro h23_2 e23_2 hb23_2 z23_2
      replace hb3_6 := BoxAt.ext hb3_6 e23_2
      replace hb3_7 := BoxAt.ext hb3_7 e23_2
      replace hb4_7 := BoxAt.ext hb4_7 e23_2
      replace hb8_5 := BoxAt.ext hb8_5 e23_2
      replace hb9_6 := BoxAt.ext hb9_6 e23_2
      replace hb14_6 := BoxAt.ext hb14_6 e23_2
      replace hb18_5 := BoxAt.ext hb18_5 e23_2
      replace hb18_6 := BoxAt.ext hb18_6 e23_2
      replace hb19_6 := BoxAt.ext hb19_6 e23_2
      have := Ext.size e23_2
      replace eB := Ext.trans eB e23_2
      have hfhb23_2 : Fresh h23_1.size [h23_1.size] := Fresh.one _
      have hlhb23_2 := one_lt (show h23_1.size < h23_2.size by omega)
      try simp -implicitDefEqProofs (disch := first | decide | assumption | omega) only [go_sem]
      refine op_storeDg (Y := A0x23_1) hb23_2 rfl rfl ?_
      intro h23_3 hb23_2 c23_3
      replace hb3_6 := BoxAt.chgA hb3_6 c23_3 (apart_lt hlhb3_6 hfhb23_2 (by omega))
      replace hb3_7 := BoxAt.chgA hb3_7 c23_3 (apart_lt hlhb3_7 hfhb23_2 (by omega))
      replace hb4_7 := BoxAt.chgA hb4_7 c23_3 (apart_lt hlhb4_7 hfhb23_2 (by omega))
      replace hb8_5 := BoxAt.chgA hb8_5 c23_3 (apart_lt hlhb8_5 hfhb23_2 (by omega))
      replace hb9_6 := BoxAt.chgA hb9_6 c23_3 (apart_lt hlhb9_6 hfhb23_2 (by omega))
      replace hb14_6 := BoxAt.chgA hb14_6 c23_3 (apart_lt hlhb14_6 hfhb23_2 (by omega))
      replace hb18_5 := BoxAt.chgA hb18_5 c23_3 (apart_lt hlhb18_5 hfhb23_2 (by omega))
      replace hb18_6 := BoxAt.chgA hb18_6 c23_3 (apart_lt hlhb18_6 hfhb23_2 (by omega))
      replace hb19_6 := BoxAt.chgA hb19_6 c23_3 (apart_lt hlhb19_6 hfhb23_2 (by omega))
      have := c23_3.size
      replace eB := Ext.then eB c23_3 (ge_of hfhb23_2 (by omega))
      try simp -implicitDefEqProofs (disch := first | decide | assumption | omega) only [go_sem]
      refine hK _ _ ?_
      clear hK K
      refine den_seq ?_
      refine den_region TTok ?_
      intro K hK
      simp -implicitDefEqProofs (disch := first | decide | assumption | omega) only [go_sem, BoxAt.dgL hb23_2]
      refine CallA.mono (iGC_ok  A0x23_1 _  hBA0x23_1) ?_
      intro v_ h24_1
      rintro ⟨rfl, e24_1⟩
      replace hb3_6 := BoxAt.ext hb3_6 e24_1
      replace hb3_7 := BoxAt.ext hb3_7 e24_1
      replace hb4_7 := BoxAt.ext hb4_7 e24_1
      replace hb8_5 := BoxAt.ext hb8_5 e24_1
      replace hb9_6 := BoxAt.ext hb9_6 e24_1
      replace hb14_6 := BoxAt.ext hb14_6 e24_1
      replace hb18_5 := BoxAt.ext hb18_5 e24_1
      replace hb18_6 := BoxAt.ext hb18_6 e24_1
      replace hb19_6 := BoxAt.ext hb19_6 e24_1
      replace hb23_2 := BoxAt.ext hb23_2 e24_1
      have := Ext.size e24_1
      replace eB := Ext.trans eB e24_1
      try simp -implicitDefEqProofs (disch := first | decide | assumption | omega) only [go_sem]
      refine hK _ _ ?_
      clear hK K
      refine den_seq ?_
      refine den_seq ?_
      refine den_region TTok ?_
      intro K hK
      simp -implicitDefEqProofs (disch := first | decide | assumption | omega) only [go_sem, BoxAt.dgL hb23_2]
      refine CallA.mono (sGC_ok  A0x23_1 _  hBA0x23_1) ?_
      intro v_ h25_1
      rintro ⟨rfl, e25_1⟩
      replace hb3_6 := BoxAt.ext hb3_6 e25_1
      replace hb3_7 := BoxAt.ext hb3_7 e25_1
      replace hb4_7 := BoxAt.ext hb4_7 e25_1
      replace hb8_5 := BoxAt.ext hb8_5 e25_1
      replace hb9_6 := BoxAt.ext hb9_6 e25_1
      replace hb14_6 := BoxAt.ext hb14_6 e25_1
      replace hb18_5 := BoxAt.ext hb18_5 e25_1
      replace hb18_6 := BoxAt.ext hb18_6 e25_1
      replace hb19_6 := BoxAt.ext hb19_6 e25_1
      replace hb23_2 := BoxAt.ext hb23_2 e25_1
      have := Ext.size e25_1
      replace eB := Ext.trans eB e25_1
      try simp -implicitDefEqProofs (disch := first | decide | assumption | omega) only [go_sem]
      refine hK _ _ ?_
      clear hK K
      refine den_seq ?_
      refine den_mergeH [(177, .bool (((((gcR A0x23_1).2) != ((gcR A0x23_1).2)) || (!(((gcR A0x23_1).1) == ((gcR A0x23_1).1))))))] [3, 4, 6, 7, 10, 12, 13, 18, 19, 22, 23, 24, 25] ?_ ?_
       -- a way
      ·refine den_region TTok ?_
       intro K hK
       simp -implicitDefEqProofs (disch := first | decide | assumption | (simp (disch := decide) only [gvA, eq_self, if_true, if_false, Bool.false_eq_true]; done) | omega) only [go_sem]
       refine opsP_F (by simp (disch := decide) only [slotOf_zero, slotOf_succ, Option.map_some, puts_same]; rfl) (fun g18 => ?_) (fun g18 => ?_)
       ·try simp -implicitDefEqProofs (disch := first | decide | assumption | (simp (disch := decide) only [gvA, eq_self, if_true, if_false, Bool.false_eq_true, g18]; done) | omega) only [go_sem, g18, if_false, Bool.false_eq_true]
        refine hK _ _ ?_
        clear hK K
        refine den_stop ?_
        refine ⟨?_, rfl⟩
        first | (simp (disch := decide) only [go_sem, g18, eq_self, Bool.false_or, Bool.or_false]; done) | simp [HasL, sel, puts_at, g18]
       ·try simp -implicitDefEqProofs (disch := first | decide | assumption | (simp (disch := decide) only [gvA, eq_self, if_true, if_false, Bool.false_eq_true, g18]; done) | omega) only [go_sem, g18, eq_self, if_true]
        refine hK _ _ ?_
        clear hK K
        refine den_stop ?_
        refine ⟨?_, rfl⟩
        first | (simp (disch := decide) only [go_sem, g18, eq_self, Bool.true_or, Bool.or_false]; done) | simp [HasL, sel, puts_at, g18]
      intro en19
      simp (disch := decide) only [go_sem]
      refine den_cond rfl (fun c5 => ?_) (fun c5 => ?_)
      ·try simp only [beq_eq_false_iff_ne, bne_iff_ne, ne_eq, Bool.not_eq_true', Bool.or_eq_true] at c5
       refine den_seq ?_
       refine den_region TTok ?_
       intro K hK
       simp -implicitDefEqProofs (disch := first | decide | assumption | omega) only [go_sem]
       refine hK _ _ ?_
       clear hK K
       refine den_ret ?_
       simp (disch := decide) only [resP_1, puts_same]
       exact absurd c5 (by first | (simp []; done) | (simp [hfa]; done) | (simp [hfa, hfb]; done) | (simp [hfa, hfb]; exact hfc))
      ·refine den_skip ?_
       refine den_seq ?_
       refine den_seq ?_
       refine den_region TTok ?_
       intro K hK
       simp -implicitDefEqProofs (disch := first | decide | assumption | omega) only [go_sem]
       refine hK _ _ ?_
       clear hK K
       refine den_merge [] [3, 4, 6, 7, 18, 19, 22, 23, 24, 25] (fun H => Ext h25_1 H) ?_ ?_
       ·have cX22 := Ext.refl h25_1
        refine den_cond rfl (fun c6 => ?_) (fun c6 => ?_)
        ·try simp only [beq_iff_eq] at c6
         refine den_seq ?_
         have hfa := diP_dd (u := u1x8_1) hBA0x8_1 (by simpa using c6)
         refine den_region TTok ?_
         intro K hK
         simp -implicitDefEqProofs (disch := first | decide | assumption | omega) only [go_sem, BoxAt.dgL hb8_5, BoxAt.elL hb9_6]
         refine CallA.mono (iDi_ok  A0x8_1 ((diP A0x8_1 u1x8_1).1) _  hBA0x8_1 (diP_by _ _)) ?_
         intro v_ h29_2
         rintro ⟨rfl, e29_2⟩
         replace hb3_6 := BoxAt.ext hb3_6 e29_2
         replace hb3_7 := BoxAt.ext hb3_7 e29_2
         replace hb4_7 := BoxAt.ext hb4_7 e29_2
         replace hb8_5 := BoxAt.ext hb8_5 e29_2
         replace hb9_6 := BoxAt.ext hb9_6 e29_2
         replace hb14_6 := BoxAt.ext hb14_6 e29_2
         replace hb18_5 := BoxAt.ext hb18_5 e29_2
         replace hb18_6 := BoxAt.ext hb18_6 e29_2
         replace hb19_6 := BoxAt.ext hb19_6 e29_2
         have := Ext.size e29_2
         replace eB := Ext.trans eB e29_2
         replace cX22 := Ext.trans cX22 e29_2
         try simp -implicitDefEqProofs (disch := first | decide | assumption | omega) only [go_sem]
         refine op_alloc (cs := elA z8) (by kernel_rfl) ?_
         intro h29_6 e29_6 hb29_6 z29_6
         replace hb3_6 := BoxAt.ext hb3_6 e29_6
         replace hb3_7 := BoxAt.ext hb3_7 e29_6
         replace hb4_7 := BoxAt.ext hb4_7 e29_6
         replace hb8_5 := BoxAt.ext hb8_5 e29_6
         replace hb9_6 := BoxAt.ext hb9_6 e29_6
         replace hb14_6 := BoxAt.ext hb14_6 e29_6
         replace hb18_5 := BoxAt.ext hb18_5 e29_6
         replace hb18_6 := BoxAt.ext hb18_6 e29_6
         replace hb19_6 := BoxAt.ext hb19_6 e29_6
         have := Ext.size e29_6
         replace eB := Ext.trans eB e29_6
         replace cX22 := Ext.trans cX22 e29_6
         have hfhb29_6 : Fresh h29_2.size [h29_2.size] := Fresh.one _
         have hlhb29_6 := one_lt (show h29_2.size < h29_6.size by omega)
         try simp -implicitDefEqProofs (disch := first | decide | assumption | omega) only [go_sem]
         refine op_storeB (o := 0) (vs := elA ((diP A0x8_1 ((diP A0x8_1 u1x8_1).1)).1)) (cs' := elA ((diP A0x8_1 ((diP A0x8_1 u1x8_1).1)).1)) st30 hb29_6 rfl rfl (elA_sz _) (by rw [elA_sz]; decide) elA_one elA_all ?_
         intro h29_7 hb29_6 c29_7
         replace hb3_6 := BoxAt.chgA hb3_6 c29_7 (apart_lt hlhb3_6 hfhb29_6 (by omega))
         replace hb3_7 := BoxAt.chgA hb3_7 c29_7 (apart_lt hlhb3_7 hfhb29_6 (by omega))
         replace hb4_7 := BoxAt.chgA hb4_7 c29_7 (apart_lt hlhb4_7 hfhb29_6 (by omega))
         replace hb8_5 := BoxAt.chgA hb8_5 c29_7 (apart_lt hlhb8_5 hfhb29_6 (by omega))
         replace hb9_6 := BoxAt.chgA hb9_6 c29_7 (apart_lt hlhb9_6 hfhb29_6 (by omega))
         replace hb14_6 := BoxAt.chgA hb14_6 c29_7 (apart_lt hlhb14_6 hfhb29_6 (by omega))
         replace hb18_5 := BoxAt.chgA hb18_5 c29_7 (apart_lt hlhb18_5 hfhb29_6 (by omega))
         replace hb18_6 := BoxAt.chgA hb18_6 c29_7 (apart_lt hlhb18_6 hfhb29_6 (by omega))
         replace hb19_6 := BoxAt.chgA hb19_6 c29_7 (apart_lt hlhb19_6 hfhb29_6 (by omega))
         have := c29_7.size
         replace eB := Ext.then eB c29_7 (ge_of hfhb29_6 (by omega))
         replace cX22 := Ext.then cX22 c29_7 (ge_of hfhb29_6 (by omega))
         try simp -implicitDefEqProofs (disch := first | decide | assumption | omega) only [go_sem]
         refine hK _ _ ?_
         clear hK K
         refine den_seq ?_
         refine den_mergeH [(192, .bool (((((diP A0x8_1 ((diP A0x8_1 u1x8_1).1)).2) != (0 : Int)) || (!(eqE ((diP A0x8_1 ((diP A0x8_1 u1x8_1).1)).1) z8)))))] [3, 4, 6, 7, 18, 19, 22, 23, 24, 25] ?_ ?_
          -- a way
         ·refine den_region TTok ?_
          intro K hK
          simp -implicitDefEqProofs (disch := first | decide | assumption | (simp (disch := decide) only [gvA, eq_self, if_true, if_false, Bool.false_eq_true]; done) | omega) only [go_sem]
          refine opsP_F (by simp (disch := decide) only [slotOf_zero, slotOf_succ, Option.map_some, puts_same]; rfl) (fun g23 => ?_) (fun g23 => ?_)
          ·try simp -implicitDefEqProofs (disch := first | decide | assumption | (simp (disch := decide) only [gvA, eq_self, if_true, if_false, Bool.false_eq_true, g23]; done) | omega) only [go_sem, BoxAt.elL hb29_6, ne_el, build_el, g23, if_false, Bool.false_eq_true]
           refine hK _ _ ?_
           clear hK K
           refine den_stop ?_
           refine ⟨?_, rfl⟩
           first | (simp (disch := decide) only [go_sem, g23, eq_self, Bool.false_or]; done) | simp [HasL, sel, puts_at, g23]
          ·try simp -implicitDefEqProofs (disch := first | decide | assumption | (simp (disch := decide) only [gvA, eq_self, if_true, if_false, Bool.false_eq_true, g23]; done) | omega) only [go_sem, g23, eq_self, if_true]
           refine hK _ _ ?_
           clear hK K
           refine den_stop ?_
           refine ⟨?_, rfl⟩
           first | (simp (disch := decide) only [go_sem, g23, eq_self, Bool.true_or]; done) | simp [HasL, sel, puts_at, g23]
         intro en24
         simp (disch := decide) only [go_sem]
         refine den_cond rfl (fun c7 => ?_) (fun c7 => ?_)
         ·try simp only [bne_iff_ne, ne_eq, Bool.not_eq_true', Bool.or_eq_true] at c7
          refine den_seq ?_
          refine den_region TTok ?_
          intro K hK
          simp -implicitDefEqProofs (disch := first | decide | assumption | omega) only [go_sem]
          refine hK _ _ ?_
          clear hK K
          refine den_ret ?_
          simp (disch := decide) only [resP_1, puts_same]
          exact absurd c7 (by first | (simp []; done) | (simp [hfa]; done) | (simp [hfa, hfb]; done) | (simp [hfa, hfb]; exact hfc))
         ·refine den_skip ?_
          refine den_stop ?_
          exact ⟨by first | (simp (disch := decide) only [go_sem]; done) | simp [HasL, sel, puts_at], cX22⟩
        ·try simp only [beq_eq_false_iff_ne, ne_eq] at c6
         refine den_skip ?_
         refine den_stop ?_
         exact ⟨by first | (simp (disch := decide) only [go_sem]; done) | simp [HasL, sel, puts_at], cX22⟩
       intro en27 h28 e29
       replace hb3_6 := BoxAt.ext hb3_6 e29
       replace hb3_7 := BoxAt.ext hb3_7 e29
       replace hb4_7 := BoxAt.ext hb4_7 e29
       replace hb8_5 := BoxAt.ext hb8_5 e29
       replace hb9_6 := BoxAt.ext hb9_6 e29
       replace hb14_6 := BoxAt.ext hb14_6 e29
       replace hb18_5 := BoxAt.ext hb18_5 e29
       replace hb18_6 := BoxAt.ext hb18_6 e29
       replace hb19_6 := BoxAt.ext hb19_6 e29
       have := Ext.size e29
       replace eB := Ext.trans eB e29
       simp (disch := decide) only [go_sem]
       refine den_seq ?_
       refine den_seq ?_
       refine den_region TTok ?_
       intro K hK
       simp -implicitDefEqProofs (disch := first | decide | assumption | omega) only [go_sem]
       refine hK _ _ ?_
       clear hK K
       refine den_merge [] [3, 4, 6, 7, 22, 23, 24, 25] (fun H => Ext h28 H) ?_ ?_
       ·have cX30 := Ext.refl h28
        refine den_cond rfl (fun c8 => ?_) (fun c8 => ?_)
        ·try simp only [beq_iff_eq] at c8
         refine den_seq ?_
         have hok := ndP_ok (by simpa using c8 : ((ndP n0x13_1 p1x13_1).2) = 0)
         have hfa := hok.2
         have hfb := gcR_ok hok.2.1
         refine den_region TTok ?_
         intro K hK
         simp -implicitDefEqProofs (disch := first | decide | assumption | omega) only [go_sem, BoxAt.dgL hb14_6]
         refine CallA.mono (iGC_ok  ((ndP n0x13_1 p1x13_1).1) _  (ndP_db _ _)) ?_
         intro v_ h33_1
         rintro ⟨rfl, e33_1⟩
         replace hb3_6 := BoxAt.ext hb3_6 e33_1
         replace hb3_7 := BoxAt.ext hb3_7 e33_1
         replace hb4_7 := BoxAt.ext hb4_7 e33_1
         replace hb14_6 := BoxAt.ext hb14_6 e33_1
         replace hb18_5 := BoxAt.ext hb18_5 e33_1
         replace hb18_6 := BoxAt.ext hb18_6 e33_1
         replace hb19_6 := BoxAt.ext hb19_6 e33_1
         have := Ext.size e33_1
         replace eB := Ext.trans eB e33_1
         replace cX30 := Ext.trans cX30 e33_1
         try simp -implicitDefEqProofs (disch := first | decide | assumption | omega) only [go_sem]
         refine hK _ _ ?_
         clear hK K
         refine den_seq ?_
         refine den_merge [(210, .bool ((((!((dgB ((ndP n0x13_1 p1x13_1).1)))) || (((gcR ((ndP n0x13_1 p1x13_1).1)).2) != (0 : Int))) || (!(((gcR ((ndP n0x13_1 p1x13_1).1)).1))))))] [3, 4, 6, 7, 22, 23, 24, 25] (fun H => Ext h33_1 H) ?_ ?_
          -- a way
         ·refine den_region TTok ?_
          intro K hK
          simp -implicitDefEqProofs (disch := first | decide | assumption | (simp (disch := decide) only [gvA, eq_self, if_true, if_false, Bool.false_eq_true]; done) | omega) only [go_sem, BoxAt.dgL hb14_6]
          refine CallA.mono (iDg_ok  ((ndP n0x13_1 p1x13_1).1) _  (ndP_db _ _)) ?_
          intro v_ h34_1
          rintro ⟨rfl, e34_1⟩
          replace hb3_6 := BoxAt.ext hb3_6 e34_1
          replace hb3_7 := BoxAt.ext hb3_7 e34_1
          replace hb4_7 := BoxAt.ext hb4_7 e34_1
          replace hb14_6 := BoxAt.ext hb14_6 e34_1
          replace hb18_5 := BoxAt.ext hb18_5 e34_1
          replace hb18_6 := BoxAt.ext hb18_6 e34_1
          replace hb19_6 := BoxAt.ext hb19_6 e34_1
          have := Ext.size e34_1
          replace eB := Ext.trans eB e34_1
          replace cX30 := Ext.trans cX30 e34_1
          try simp -implicitDefEqProofs (disch := first | decide | assumption | (simp (disch := decide) only [gvA, eq_self, if_true, if_false, Bool.false_eq_true]; done) | omega) only [go_sem]
          refine opsP_F (by simp (disch := decide) only [slotOf_zero, slotOf_succ, Option.map_some, puts_same]; rfl) (fun g31 => ?_) (fun g31 => ?_)
          ·try simp -implicitDefEqProofs (disch := first | decide | assumption | (simp (disch := decide) only [gvA, eq_self, if_true, if_false, Bool.false_eq_true, g31]; done) | omega) only [go_sem, g31, if_false, Bool.false_eq_true]
           refine opsP_F (by simp (disch := decide) only [slotOf_zero, slotOf_succ, Option.map_some, puts_same]; rfl) (fun g32 => ?_) (fun g32 => ?_)
           ·try simp -implicitDefEqProofs (disch := first | decide | assumption | (simp (disch := decide) only [gvA, eq_self, if_true, if_false, Bool.false_eq_true, g31, g32]; done) | omega) only [go_sem, g32, if_false, Bool.false_eq_true]
            refine hK _ _ ?_
            clear hK K
            refine den_stop ?_
            refine ⟨?_, e34_1⟩
            first | (simp (disch := decide) only [go_sem, g31, g32, eq_self, Bool.false_or, Bool.or_false]; done) | simp [HasL, sel, puts_at, g31, g32]
           ·try simp -implicitDefEqProofs (disch := first | decide | assumption | (simp (disch := decide) only [gvA, eq_self, if_true, if_false, Bool.false_eq_true, g31, g32]; done) | omega) only [go_sem, g32, eq_self, if_true]
            refine hK _ _ ?_
            clear hK K
            refine den_stop ?_
            refine ⟨?_, e34_1⟩
            first | (simp (disch := decide) only [go_sem, g31, g32, eq_self, Bool.true_or, Bool.or_true]; done) | simp [HasL, sel, puts_at, g31, g32]
          ·try simp -implicitDefEqProofs (disch := first | decide | assumption | (simp (disch := decide) only [gvA, eq_self, if_true, if_false, Bool.false_eq_true, g31]; done) | omega) only [go_sem, g31, eq_self, if_true]
           refine hK _ _ ?_
           clear hK K
           refine den_stop ?_
           refine ⟨?_, e34_1⟩
           first | (simp (disch := decide) only [go_sem, g31, eq_self, Bool.true_or]; done) | simp [HasL, sel, puts_at, g31]
         intro en33 h34 e35
         replace hb3_6 := BoxAt.ext hb3_6 e35
         replace hb3_7 := BoxAt.ext hb3_7 e35
         replace hb4_7 := BoxAt.ext hb4_7 e35
         replace hb14_6 := BoxAt.ext hb14_6 e35
         replace hb18_5 := BoxAt.ext hb18_5 e35
         replace hb18_6 := BoxAt.ext hb18_6 e35
         replace hb19_6 := BoxAt.ext hb19_6 e35
         have := Ext.size e35
         replace eB := Ext.trans eB e35
         replace cX30 := Ext.trans cX30 e35
         simp (disch := decide) only [go_sem]
         refine den_cond rfl (fun c9 => ?_) (fun c9 => ?_)
         ·try simp only [bne_iff_ne, ne_eq, Bool.not_eq_true', Bool.or_eq_true] at c9
          refine den_seq ?_
          refine den_region TTok ?_
          intro K hK
          simp -implicitDefEqProofs (disch := first | decide | assumption | omega) only [go_sem]
          refine hK _ _ ?_
          clear hK K
          refine den_ret ?_
          simp (disch := decide) only [resP_1, puts_same]
          exact absurd c9 (by first | (simp []; done) | (simp [hfa]; done) | (simp [hfa, hfb]; done) | (simp [hfa, hfb]; exact hfc))
         ·refine den_skip ?_
          refine den_stop ?_
          exact ⟨by first | (simp (disch := decide) only [go_sem]; done) | simp [HasL, sel, puts_at], cX30⟩
        ·try simp only [beq_eq_false_iff_ne, ne_eq] at c8
         refine den_skip ?_
         refine den_stop ?_
         exact ⟨by first | (simp (disch := decide) only [go_sem]; done) | simp [HasL, sel, puts_at], cX30⟩
       intro en36 h37 e38
       replace hb3_6 := BoxAt.ext hb3_6 e38
       replace hb3_7 := BoxAt.ext hb3_7 e38
       replace hb4_7 := BoxAt.ext hb4_7 e38
       replace hb14_6 := BoxAt.ext hb14_6 e38
       replace hb18_5 := BoxAt.ext hb18_5 e38
       replace hb18_6 := BoxAt.ext hb18_6 e38
       replace hb19_6 := BoxAt.ext hb19_6 e38
       have := Ext.size e38
       replace eB := Ext.trans eB e38
       simp (disch := decide) only [go_sem]
       refine den_seq ?_
       refine den_seq ?_
       refine den_region TTok ?_
       intro K hK
       simp -implicitDefEqProofs (disch := first | decide | assumption | omega) only [go_sem]
       refine hK _ _ ?_
       clear hK K
       refine den_merge [] [3, 4, 6, 7] (fun H => Ext h37 H) ?_ ?_
       ·have cX39 := Ext.refl h37
        refine den_cond rfl (fun c10 => ?_) (fun c10 => ?_)
        ·try simp only [beq_iff_eq] at c10
         refine den_seq ?_
         have hok := tnP_ok hBA0x18_1 hBA1x18_1 (by simpa using c10 : ((tnP A0x18_1 A1x18_1).2) = 0)
         have hfa := hok.2.2.2.1
         have hfb := And.intro (gcR_ok hok.1) (And.intro (gcR_ok hok.2.1) (gcR_ok hok.2.2.2.1))
         have hfc := hok.2.2.2.2
         refine den_region TTok ?_
         intro K hK
         simp -implicitDefEqProofs (disch := first | decide | assumption | omega) only [go_sem, BoxAt.dgL hb18_5]
         refine CallA.mono (iGC_ok  A0x18_1 _  hBA0x18_1) ?_
         intro v_ h37_1
         rintro ⟨rfl, e37_1⟩
         replace hb3_6 := BoxAt.ext hb3_6 e37_1
         replace hb3_7 := BoxAt.ext hb3_7 e37_1
         replace hb4_7 := BoxAt.ext hb4_7 e37_1
         replace hb18_5 := BoxAt.ext hb18_5 e37_1
         replace hb18_6 := BoxAt.ext hb18_6 e37_1
         replace hb19_6 := BoxAt.ext hb19_6 e37_1
         have := Ext.size e37_1
         replace eB := Ext.trans eB e37_1
         replace cX39 := Ext.trans cX39 e37_1
         try simp -implicitDefEqProofs (disch := first | decide | assumption | omega) only [go_sem]
         refine hK _ _ ?_
         clear hK K
         refine den_seq ?_
         refine den_region TTok ?_
         intro K hK
         simp -implicitDefEqProofs (disch := first | decide | assumption | omega) only [go_sem, BoxAt.dgL hb18_6]
         refine CallA.mono (iGC_ok  A1x18_1 _  hBA1x18_1) ?_
         intro v_ h38_1
         rintro ⟨rfl, e38_1⟩
         replace hb3_6 := BoxAt.ext hb3_6 e38_1
         replace hb3_7 := BoxAt.ext hb3_7 e38_1
         replace hb4_7 := BoxAt.ext hb4_7 e38_1
         replace hb18_6 := BoxAt.ext hb18_6 e38_1
         replace hb19_6 := BoxAt.ext hb19_6 e38_1
         have := Ext.size e38_1
         replace eB := Ext.trans eB e38_1
         replace cX39 := Ext.trans cX39 e38_1
         try simp -implicitDefEqProofs (disch := first | decide | assumption | omega) only [go_sem]
         refine hK _ _ ?_
         clear hK K
         refine den_seq ?_
         refine den_region TTok ?_
         intro K hK
         simp -implicitDefEqProofs (disch := first | decide | assumption | omega) only [go_sem, BoxAt.dgL hb19_6]
         refine CallA.mono (iGC_ok  ((tnP A0x18_1 A1x18_1).1) _  (tnP_db hBA0x18_1 hBA1x18_1)) ?_
         intro v_ h39_1
         rintro ⟨rfl, e39_1⟩
         replace hb3_6 := BoxAt.ext hb3_6 e39_1
         replace hb3_7 := BoxAt.ext hb3_7 e39_1
         replace hb4_7 := BoxAt.ext hb4_7 e39_1
         replace hb19_6 := BoxAt.ext hb19_6 e39_1
         have := Ext.size e39_1
         replace eB := Ext.trans eB e39_1
         replace cX39 := Ext.trans cX39 e39_1
         try simp -implicitDefEqProofs (disch := first | decide | assumption | omega) only [go_sem]
         refine hK _ _ ?_
         clear hK K
         refine den_seq ?_
         refine den_merge [(252, .bool ((((((!((dgB ((tnP A0x18_1 A1x18_1).1)))) || (((gcR A0x18_1).2) != (0 : Int))) || (((gcR A1x18_1).2) != (0 : Int))) || (((gcR ((tnP A0x18_1 A1x18_1).1)).2) != (0 : Int))) || ((((gcR A0x18_1).1) && ((gcR A1x18_1).1)) && (!(((gcR ((tnP A0x18_1 A1x18_1).1)).1)))))))] [3, 4, 6, 7] (fun H => Ext h39_1 H) ?_ ?_
          -- a way
         ·refine den_region TTok ?_
          intro K hK
          simp -implicitDefEqProofs (disch := first | decide | assumption | (simp (disch := decide) only [gvA, eq_self, if_true, if_false, Bool.false_eq_true]; done) | omega) only [go_sem, BoxAt.dgL hb19_6]
          refine CallA.mono (iDg_ok  ((tnP A0x18_1 A1x18_1).1) _  (tnP_db hBA0x18_1 hBA1x18_1)) ?_
          intro v_ h40_1
          rintro ⟨rfl, e40_1⟩
          replace hb3_6 := BoxAt.ext hb3_6 e40_1
          replace hb3_7 := BoxAt.ext hb3_7 e40_1
          replace hb4_7 := BoxAt.ext hb4_7 e40_1
          replace hb19_6 := BoxAt.ext hb19_6 e40_1
          have := Ext.size e40_1
          replace eB := Ext.trans eB e40_1
          replace cX39 := Ext.trans cX39 e40_1
          try simp -implicitDefEqProofs (disch := first | decide | assumption | (simp (disch := decide) only [gvA, eq_self, if_true, if_false, Bool.false_eq_true]; done) | omega) only [go_sem]
          refine opsP_F (by simp (disch := decide) only [slotOf_zero, slotOf_succ, Option.map_some, puts_same]; rfl) (fun g40 => ?_) (fun g40 => ?_)
          ·try simp -implicitDefEqProofs (disch := first | decide | assumption | (simp (disch := decide) only [gvA, eq_self, if_true, if_false, Bool.false_eq_true, g40]; done) | omega) only [go_sem, g40, if_false, Bool.false_eq_true]
           refine opsP_F (by simp (disch := decide) only [slotOf_zero, slotOf_succ, Option.map_some, puts_same]; rfl) (fun g41 => ?_) (fun g41 => ?_)
           ·try simp -implicitDefEqProofs (disch := first | decide | assumption | (simp (disch := decide) only [gvA, eq_self, if_true, if_false, Bool.false_eq_true, g40, g41]; done) | omega) only [go_sem, g41, if_false, Bool.false_eq_true]
            refine opsP_F (by simp (disch := decide) only [slotOf_zero, slotOf_succ, Option.map_some, puts_same]; rfl) (fun g42 => ?_) (fun g42 => ?_)
            ·try simp -implicitDefEqProofs (disch := first | decide | assumption | (simp (disch := decide) only [gvA, eq_self, if_true, if_false, Bool.false_eq_true, g40, g41, g42]; done) | omega) only [go_sem, g42, if_false, Bool.false_eq_true]
             refine opsP_F (by simp (disch := decide) only [slotOf_zero, slotOf_succ, Option.map_some, puts_same]; rfl) (fun g43 => ?_) (fun g43 => ?_)
             ·try simp -implicitDefEqProofs (disch := first | decide | assumption | (simp (disch := decide) only [gvA, eq_self, if_true, if_false, Bool.false_eq_true, g40, g41, g42, g43]; done) | omega) only [go_sem, g43]
              refine opsP_T (by simp (disch := decide) only [slotOf_zero, slotOf_succ, Option.map_some, puts_same]; rfl) (fun g44 => ?_) (fun g44 => ?_)
              ·try simp -implicitDefEqProofs (disch := first | decide | assumption | (simp (disch := decide) only [gvA, eq_self, if_true, if_false, Bool.false_eq_true, g40, g41, g42, g43, g44]; done) | omega) only [go_sem, g44, eq_self, if_true]
               refine opsP_T (by simp (disch := decide) only [slotOf_zero, slotOf_succ, Option.map_some, puts_same]; rfl) (fun g45 => ?_) (fun g45 => ?_)
               ·try simp -implicitDefEqProofs (disch := first | decide | assumption | (simp (disch := decide) only [gvA, eq_self, if_true, if_false, Bool.false_eq_true, g40, g41, g42, g43, g44, g45]; done) | omega) only [go_sem, g45, eq_self, if_true, if_false, Bool.false_eq_true]
                refine hK _ _ ?_
                clear hK K
                refine den_stop ?_
                refine ⟨?_, e40_1⟩
                first | (simp (disch := decide) only [go_sem, g40, g41, g42, g43, g44, g45, eq_self, Bool.true_and, Bool.and_true, Bool.false_or, Bool.or_false]; done) | simp [HasL, sel, puts_at, g40, g41, g42, g43, g44, g45]
               ·try simp -implicitDefEqProofs (disch := first | decide | assumption | (simp (disch := decide) only [gvA, eq_self, if_true, if_false, Bool.false_eq_true, g40, g41, g42, g43, g44, g45]; done) | omega) only [go_sem, g45, if_false, Bool.false_eq_true]
                refine hK _ _ ?_
                clear hK K
                refine den_stop ?_
                refine ⟨?_, e40_1⟩
                first | (simp (disch := decide) only [go_sem, g40, g41, g42, g43, g44, g45, eq_self, Bool.false_and, Bool.and_false, Bool.or_false]; done) | simp [HasL, sel, puts_at, g40, g41, g42, g43, g44, g45]
              ·try simp -implicitDefEqProofs (disch := first | decide | assumption | (simp (disch := decide) only [gvA, eq_self, if_true, if_false, Bool.false_eq_true, g40, g41, g42, g43, g44]; done) | omega) only [go_sem, g44, if_false, Bool.false_eq_true]
               refine hK _ _ ?_
               clear hK K
               refine den_stop ?_
               refine ⟨?_, e40_1⟩
               first | (simp (disch := decide) only [go_sem, g40, g41, g42, g43, g44, eq_self, Bool.false_and, Bool.or_false]; done) | simp [HasL, sel, puts_at, g40, g41, g42, g43, g44]
             ·try simp -implicitDefEqProofs (disch := first | decide | assumption | (simp (disch := decide) only [gvA, eq_self, if_true, if_false, Bool.false_eq_true, g40, g41, g42, g43]; done) | omega) only [go_sem, g43, eq_self, if_true]
              refine hK _ _ ?_
              clear hK K
              refine den_stop ?_
              refine ⟨?_, e40_1⟩
              first | (simp (disch := decide) only [go_sem, g40, g41, g42, g43, eq_self, Bool.true_or, Bool.or_true, Bool.or_false]; done) | simp [HasL, sel, puts_at, g40, g41, g42, g43]
            ·try simp -implicitDefEqProofs (disch := first | decide | assumption | (simp (disch := decide) only [gvA, eq_self, if_true, if_false, Bool.false_eq_true, g40, g41, g42]; done) | omega) only [go_sem, g42, eq_self, if_true]
             refine hK _ _ ?_
             clear hK K
             refine den_stop ?_
             refine ⟨?_, e40_1⟩
             first | (simp (disch := decide) only [go_sem, g40, g41, g42, eq_self, Bool.true_or, Bool.or_true, Bool.or_false]; done) | simp [HasL, sel, puts_at, g40, g41, g42]
           ·try simp -implicitDefEqProofs (disch := first | decide | assumption | (simp (disch := decide) only [gvA, eq_self, if_true, if_false, Bool.false_eq_true, g40, g41]; done) | omega) only [go_sem, g41, eq_self, if_true]
            refine hK _ _ ?_
            clear hK K
            refine den_stop ?_
            refine ⟨?_, e40_1⟩
            first | (simp (disch := decide) only [go_sem, g40, g41, eq_self, Bool.true_or, Bool.or_true]; done) | simp [HasL, sel, puts_at, g40, g41]
          ·try simp -implicitDefEqProofs (disch := first | decide | assumption | (simp (disch := decide) only [gvA, eq_self, if_true, if_false, Bool.false_eq_true, g40]; done) | omega) only [go_sem, g40, eq_self, if_true]
           refine hK _ _ ?_
           clear hK K
           refine den_stop ?_
           refine ⟨?_, e40_1⟩
           first | (simp (disch := decide) only [go_sem, g40, eq_self, Bool.true_or]; done) | simp [HasL, sel, puts_at, g40]
         intro en46 h47 e48
         replace hb3_6 := BoxAt.ext hb3_6 e48
         replace hb3_7 := BoxAt.ext hb3_7 e48
         replace hb4_7 := BoxAt.ext hb4_7 e48
         replace hb19_6 := BoxAt.ext hb19_6 e48
         have := Ext.size e48
         replace eB := Ext.trans eB e48
         replace cX39 := Ext.trans cX39 e48
         simp (disch := decide) only [go_sem]
         refine den_cond rfl (fun c11 => ?_) (fun c11 => ?_)
         ·try simp only [bne_iff_ne, ne_eq, Bool.not_eq_true', Bool.and_eq_true, Bool.or_eq_true] at c11
          refine den_seq ?_
          refine den_region TTok ?_
          intro K hK
          simp -implicitDefEqProofs (disch := first | decide | assumption | omega) only [go_sem]
          refine hK _ _ ?_
          clear hK K
          refine den_ret ?_
          simp (disch := decide) only [resP_1, puts_same]
          exact absurd c11 (by first | (simp []; done) | (simp [hfa]; done) | (simp [hfa, hfb]; done) | (simp [hfa, hfb]; exact hfc))
         ·refine den_skip ?_
          refine den_stop ?_
          exact ⟨by first | (simp (disch := decide) only [go_sem]; done) | simp [HasL, sel, puts_at], cX39⟩
        ·try simp only [beq_eq_false_iff_ne, ne_eq] at c10
         refine den_skip ?_
         refine den_stop ?_
         exact ⟨by first | (simp (disch := decide) only [go_sem]; done) | simp [HasL, sel, puts_at], cX39⟩
       intro en49 h50 e51
       replace hb3_6 := BoxAt.ext hb3_6 e51
       replace hb3_7 := BoxAt.ext hb3_7 e51
       replace hb4_7 := BoxAt.ext hb4_7 e51
       replace hb18_5 := BoxAt.ext hb18_5 e51
       replace hb18_6 := BoxAt.ext hb18_6 e51
       replace hb19_6 := BoxAt.ext hb19_6 e51
       have := Ext.size e51
       replace eB := Ext.trans eB e51
       simp (disch := decide) only [go_sem]
       refine den_seq ?_
       refine den_seq ?_
       refine den_region TTok ?_
       intro K hK
       simp -implicitDefEqProofs (disch := first | decide | assumption | omega) only [go_sem]
       refine hK _ _ ?_
       clear hK K
       refine den_cond rfl (fun c12 => ?_) (fun c12 => ?_)
       ·try simp only [bne_iff_ne, ne_eq] at c12
        refine den_seq ?_
        refine den_region TTok ?_
        intro K hK
        simp -implicitDefEqProofs (disch := first | decide | assumption | omega) only [go_sem, BoxAt.elL hb4_7, eq_el, build_el]
        refine hK _ _ ?_
        clear hK K
        refine den_ret ?_
        simp (disch := decide) only [resP_1, puts_same]
        exact ⟨by rw [mlP_z c12], eB⟩
       ·try simp only [bne_eq_false_iff_eq] at c12
        refine den_skip ?_
        refine den_seq ?_
        have hun := mlP_un (v := u2x3_1) hBA0x3_1 hByu1x3_1 (by simpa using c12)
        refine den_region TTok ?_
        intro K hK
        simp -implicitDefEqProofs (disch := first | decide | assumption | omega) only [go_sem, build_el1]
        refine op_alloc (cs := elA z8) (by kernel_rfl) ?_
        intro h44_1 e44_1 hb44_1 z44_1
        replace hb3_6 := BoxAt.ext hb3_6 e44_1
        replace hb3_7 := BoxAt.ext hb3_7 e44_1
        have := Ext.size e44_1
        replace eB := Ext.trans eB e44_1
        have hfhb44_1 : Fresh h50.size [h50.size] := Fresh.one _
        have hlhb44_1 := one_lt (show h50.size < h44_1.size by omega)
        try simp -implicitDefEqProofs (disch := first | decide | assumption | omega) only [go_sem]
        refine op_storeB (o := 0) (vs := elA (e8 0)) (cs' := elA (e8 0)) st30 hb44_1 rfl rfl (elA_sz _) (by rw [elA_sz]; decide) elA_one elA_all ?_
        intro h44_2 hb44_1 c44_2
        replace hb3_6 := BoxAt.chgA hb3_6 c44_2 (apart_lt hlhb3_6 hfhb44_1 (by omega))
        replace hb3_7 := BoxAt.chgA hb3_7 c44_2 (apart_lt hlhb3_7 hfhb44_1 (by omega))
        have := c44_2.size
        replace eB := Ext.then eB c44_2 (ge_of hfhb44_1 (by omega))
        try simp -implicitDefEqProofs (disch := first | decide | assumption | omega) only [go_sem]
        refine hK _ _ ?_
        clear hK K
        refine den_seq ?_
        refine den_region TTok ?_
        intro K hK
        simp -implicitDefEqProofs (disch := first | decide | assumption | omega) only [go_sem, BoxAt.dgL hb3_6, BoxAt.elL hb3_7, BoxAt.elL hb44_1]
        refine CallA.mono (iMl_ok  A0x3_1 (e8 0) u1x3_1 _  hBA0x3_1 (e8_by 0) hByu1x3_1) ?_
        intro v_ h45_3
        rintro ⟨rfl, e45_3⟩
        replace hb3_6 := BoxAt.ext hb3_6 e45_3
        replace hb3_7 := BoxAt.ext hb3_7 e45_3
        replace hb44_1 := BoxAt.ext hb44_1 e45_3
        have := Ext.size e45_3
        replace eB := Ext.trans eB e45_3
        try simp -implicitDefEqProofs (disch := first | decide | assumption | omega) only [go_sem]
        refine op_alloc (cs := elA z8) (by kernel_rfl) ?_
        intro h45_7 e45_7 hb45_7 z45_7
        replace hb3_6 := BoxAt.ext hb3_6 e45_7
        replace hb3_7 := BoxAt.ext hb3_7 e45_7
        replace hb44_1 := BoxAt.ext hb44_1 e45_7
        have := Ext.size e45_7
        replace eB := Ext.trans eB e45_7
        have hfhb45_7 : Fresh h45_3.size [h45_3.size] := Fresh.one _
        have hlhb45_7 := one_lt (show h45_3.size < h45_7.size by omega)
        try simp -implicitDefEqProofs (disch := first | decide | assumption | omega) only [go_sem]
        refine op_storeB (o := 0) (vs := elA ((mlP A0x3_1 (e8 0) u1x3_1).1)) (cs' := elA ((mlP A0x3_1 (e8 0) u1x3_1).1)) st30 hb45_7 rfl rfl (elA_sz _) (by rw [elA_sz]; decide) elA_one elA_all ?_
        intro h45_8 hb45_7 c45_8
        replace hb3_6 := BoxAt.chgA hb3_6 c45_8 (apart_lt hlhb3_6 hfhb45_7 (by omega))
        replace hb3_7 := BoxAt.chgA hb3_7 c45_8 (apart_lt hlhb3_7 hfhb45_7 (by omega))
        replace hb44_1 := BoxAt.chgA hb44_1 c45_8 (apart_lt hlhb44_1 hfhb45_7 (by omega))
        have := c45_8.size
        replace eB := Ext.then eB c45_8 (ge_of hfhb45_7 (by omega))
        try simp -implicitDefEqProofs (disch := first | decide | assumption | omega) only [go_sem]
        refine hK _ _ ?_
        clear hK K
        refine den_seq ?_
        refine den_mergeH [(2, .bool (((((mlP A0x3_1 (e8 0) u1x3_1).2) == (0 : Int)) && (eqE ((mlP A0x3_1 (e8 0) u1x3_1).1) u1x3_1))))] [] ?_ ?_
         -- a way
        ·refine den_region TTok ?_
         intro K hK
         simp -implicitDefEqProofs (disch := first | decide | assumption | (simp (disch := decide) only [gvA, eq_self, if_true, if_false, Bool.false_eq_true]; done) | omega) only [go_sem]
         refine opsP_T (by simp (disch := decide) only [slotOf_zero, slotOf_succ, Option.map_some, puts_same]; rfl) (fun g52 => ?_) (fun g52 => ?_)
         ·try simp -implicitDefEqProofs (disch := first | decide | assumption | (simp (disch := decide) only [gvA, eq_self, if_true, if_false, Bool.false_eq_true, g52]; done) | omega) only [go_sem, BoxAt.elL hb3_7, BoxAt.elL hb45_7, eq_el, g52, eq_self, if_true]
          refine hK _ _ ?_
          clear hK K
          refine den_stop ?_
          refine ⟨?_, rfl⟩
          first | (simp (disch := decide) only [go_sem, g52, eq_self, Bool.true_and]; done) | simp [HasL, sel, puts_at, g52]
         ·try simp -implicitDefEqProofs (disch := first | decide | assumption | (simp (disch := decide) only [gvA, eq_self, if_true, if_false, Bool.false_eq_true, g52]; done) | omega) only [go_sem, g52, if_false, Bool.false_eq_true]
          refine hK _ _ ?_
          clear hK K
          refine den_stop ?_
          refine ⟨?_, rfl⟩
          first | (simp (disch := decide) only [go_sem, g52, eq_self, Bool.false_and]; done) | simp [HasL, sel, puts_at, g52]
        intro en53
        simp (disch := decide) only [go_sem]
        refine den_ret ?_
        simp (disch := decide) only [resP_1, puts_same]
        exact ⟨by rw [hun.1, hun.2]; rfl, eB⟩
end Go.Proofs.Ytacajcjibhifmaa

namespace Go.Proofs.Ytacajcjibhifmaa
open Go
theorem opens_u8 : Opens Try.prog 5 RdU := by
 intro H enc w base spare held fuel cs x h
 obtain ⟨n, e, _, hw⟩ := DataW.trod_int Try.underlying5 h
 exact ⟨_, n, e, rfl, wf_u8 hw⟩
theorem opensY : Opens Try.prog 37 RY := opens_slice Try.underlying37 (by kernel_rfl) opens_u8
theorem dgas_law (vc : Value) (code : List Int) (h : Heap) (rc : RY h vc code) : CallA Try.prog 4 #[vc] h fun u h' => u = .bool true ∧ Ext h h' := fnDgas_law vc code h rc
end Go.Proofs.Ytacajcjibhifmaa
