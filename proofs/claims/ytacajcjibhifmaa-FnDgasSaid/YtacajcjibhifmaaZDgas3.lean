/-
  What the statement FnDgas uses of the walks, part 3.
  Conditions: each theorem's own.
-/
import Derived.OrdersHeld
import Derived.WalkKit
import Derived.KernelRfl
import Derived.Deep.LoopGhost
import Derived.Laws.BytesString
import Derived.Test.YtacajcjibhifmaaProg
import Derived.ProofKit
import Derived.OpenShut
import Derived.ShutString
import Derived.ChangeOld
import Derived.Below
import Derived.SizedLaws
import Derived.Lib.SmallJoins
import Derived.Test.YtacajcjibhifmaaZDgas1
import Derived.Test.YtacajcjibhifmaaZDgas2
set_option linter.unusedVariables false
set_option linter.unusedSimpArgs false
namespace Go.Proofs.Ytacajcjibhifmaa
open Go
theorem sg_bnd {d : Int} : -1 ≤ 1 - d.tmod 2 * 2 ∧ 1 - d.tmod 2 * 2 ≤ 3 := by
 have h1 := Int.tmod_lt_of_pos d (show (0 : Int) < 2 by decide)
 have h2 := Int.lt_tmod_of_pos d (show (0 : Int) < 2 by decide)
 omega
def UnF (X : Dg) (i : Nat) : Prop := eqE (timesP X.p X.tab (e8 0) (e8 i) 8) (e8 i) = true ∧ eqE (timesP X.p X.tab (e8 i) (e8 0) 8) (e8 i) = true ∧ eqE (dfI X.p X.dif (X.dif i) 8) z8 = true
def LbF (X : Dg) (i j : Nat) : Prop := eqE (dfI X.p X.dif (X.tab i j) 8) (plusN X.p (timesP X.p X.tab (X.dif i) (e8 j) 8) (timesP X.p X.tab (e8 i) (X.dif j) 8) (1 - (X.deg i).tmod 2 * 2) 8) = true
def AsF (X : Dg) (i j k : Nat) : Prop := eqE (timesP X.p X.tab (X.tab i j) (e8 k) 8) (timesP X.p X.tab (e8 i) (X.tab j k) 8) = true
structure IsDg (X : Dg) : Prop where
 fm : IsFm X
 un : ∀ i : Nat, (i : Int) < X.s → UnF X i
 lb : ∀ i : Nat, (i : Int) < X.s → ∀ j : Nat, (j : Int) < X.s → LbF X i j
 ac : ∀ i : Nat, (i : Int) < X.s → ∀ j : Nat, (j : Int) < X.s → ∀ k : Nat, (k : Int) < X.s → AsF X i j k
noncomputable def dgB (X : Dg) : Bool := @decide (IsDg X) (Classical.propDecidable _)
theorem dgB_t {X : Dg} : dgB X = true ↔ IsDg X := @decide_eq_true_iff _ (Classical.propDecidable _)
theorem dgB_y {X : Dg} (h : IsDg X) : true = dgB X := (dgB_t.2 h).symm
theorem dgB_n {X : Dg} (h : ¬ IsDg X) : false = dgB X := by
 cases e : dgB X
 ·rfl
 ·exact absurd (dgB_t.1 e) h
theorem un_no {X : Dg} {i : Nat} (h : UnF X i) (c : (eqE (timesP X.p X.tab (e8 0) (e8 i) 8) (e8 i) = false ∨ eqE (timesP X.p X.tab (e8 i) (e8 0) 8) (e8 i) = false) ∨ eqE (dfI X.p X.dif (X.dif i) 8) z8 = false) : False := by
 rcases c with (c | c) | c
 ·rw [h.1] at c; cases c
 ·rw [h.2.1] at c; cases c
 ·rw [h.2.2] at c; cases c

set_option maxRecDepth 100000 in
set_option maxHeartbeats 4000000 in
theorem iDg_ok (X : Dg) (h : Heap)  (hB : DgB X) : CallA Try.prog 15 #[.agg (dgA X)] h fun v' h' => v' = .bool (dgB X) ∧ Ext h h' := by
 have hBd := hB.dif
 have hBt := hB.tab
 refine callA_intro TTok (args := [_]) Try.func15 (by kernel_rfl) rfl 116 rfl (by simp) [.tmp 2] rfl ?_
 simp only [idxs]
 refine den_seq ?_
 refine den_region TTok ?_
 intro K hK
 simp -implicitDefEqProofs (disch := first | decide | assumption | omega) only [go_sem]
 refine op_box (cs := dgA X) rfl ?_
 intro h0_0 e0_0 hb0_0 z0_0
 have := Ext.size e0_0
 have eB := e0_0
 have hfhb0_0 : Fresh h.size [h.size] := Fresh.one _
 have hlhb0_0 := one_lt (show h.size < h0_0.size by omega)
 try simp -implicitDefEqProofs (disch := first | decide | assumption | omega) only [go_sem]
 refine hK _ _ ?_
 clear hK K
 refine den_seq ?_
 refine den_seq ?_
 refine den_region TTok ?_
 intro K hK
 simp -implicitDefEqProofs (disch := first | decide | assumption | omega) only [go_sem, BoxAt.dgL hb0_0]
 refine CallA.mono (iFm_ok  X _  hB) ?_
 intro v_ h1_1
 rintro ⟨rfl, e1_1⟩
 replace hb0_0 := BoxAt.ext hb0_0 e1_1
 have := Ext.size e1_1
 replace eB := Ext.trans eB e1_1
 try simp -implicitDefEqProofs (disch := first | decide | assumption | omega) only [go_sem]
 refine hK _ _ ?_
 clear hK K
 refine den_cond rfl (fun c0 => ?_) (fun c0 => ?_)
 ·try simp only [Bool.not_eq_true'] at c0
  refine den_seq ?_
  refine den_region TTok ?_
  intro K hK
  simp -implicitDefEqProofs (disch := first | decide | assumption | omega) only [go_sem]
  refine hK _ _ ?_
  clear hK K
  refine den_ret ?_
  simp (disch := decide) only [resP_1, puts_same]
  exact ⟨vbool (dgB_n (fun hh => by rw [fmB_t.2 hh.fm] at c0; cases c0)), eB⟩
 ·try simp only [Bool.not_eq_false'] at c0
  have hfm := fmB_t.1 c0
  have hs8 := hfm.s
  have hpb := isP_bnd hfm.p
  have hpG : 0 < X.p ∧ X.p ≤ 7 := ⟨by omega, by omega⟩
  refine den_skip ?_
  refine den_seq ?_
  refine den_seq ?_
  refine den_region TTok ?_
  intro K hK
  simp -implicitDefEqProofs (disch := first | decide | assumption | omega) only [go_sem, fa34_1, ld2, BoxAt.dgS hb0_0, Nat.zero_add]
  refine hK _ _ ?_
  clear hK K
  refine den_block ?_
  refine den_sel [15, 1, 14] ?_
  intro env_1
  simp only [go_sem]
  refine den_loopS (σ := Nat) (fun st_ => [(15, .int .i64 (st_ : Int))]) (fun st_ H => ((st_ : Int) ≤ X.s) ∧ (∀ a : Nat, a < st_ → UnF X a ∧ ∀ b : Nat, (b : Int) < X.s → LbF X a b ∧ ∀ k : Nat, (k : Int) < X.s → AsF X a b k) ∧ (Ext h1_1 H)) (fun st_ => X.s.toNat - st_) 0 ?_ ?_
  ·exact ⟨by omega, fun a h => by omega, Ext.refl _⟩
  ·rintro i h4 ee3 ⟨hi, hz, cL2⟩
   replace hb0_0 := BoxAt.ext hb0_0 cL2
   have := Ext.size cL2
   replace eB := Ext.trans eB cL2
   simp only [List.cons_append, List.nil_append]
   refine den_seq ?_
   refine den_region TTok ?_
   intro K hK
   simp -implicitDefEqProofs (disch := first | decide | assumption | omega) only [go_sem]
   refine hK _ _ ?_
   clear hK K
   refine den_seq ?_
   refine den_cond rfl (fun c1 => ?_) (fun c1 => ?_)
   ·try simp only [decide_eq_true_eq] at c1
    refine den_skip ?_
    refine den_seq ?_
    refine den_block ?_
    refine den_seq ?_
    refine den_region TTok ?_
    intro K hK
    simp -implicitDefEqProofs (disch := first | decide | assumption | omega) only [go_sem]
    refine hK _ _ ?_
    clear hK K
    refine den_seq ?_
    refine den_region TTok ?_
    intro K hK
    simp -implicitDefEqProofs (disch := first | decide | assumption | omega) only [go_sem, BoxAt.dgL hb0_0]
    refine CallA.mono (iBas_ok  X (i : Int) _  (by omega)) ?_
    intro v_ h6_2
    rintro ⟨rfl, e6_2⟩
    replace hb0_0 := BoxAt.ext hb0_0 e6_2
    have := Ext.size e6_2
    replace eB := Ext.trans eB e6_2
    replace cL2 := Ext.trans cL2 e6_2
    try simp -implicitDefEqProofs (disch := first | decide | assumption | omega) only [go_sem]
    refine op_alloc (cs := elA z8) (by kernel_rfl) ?_
    intro h6_3 e6_3 hb6_3 z6_3
    replace hb0_0 := BoxAt.ext hb0_0 e6_3
    have := Ext.size e6_3
    replace eB := Ext.trans eB e6_3
    replace cL2 := Ext.trans cL2 e6_3
    have hfhb6_3 : Fresh h6_2.size [h6_2.size] := Fresh.one _
    have hlhb6_3 := one_lt (show h6_2.size < h6_3.size by omega)
    try simp -implicitDefEqProofs (disch := first | decide | assumption | omega) only [go_sem]
    refine op_storeB (o := 0) (cs' := elA (e8 i)) st30 hb6_3 rfl rfl (elA_sz _) (by rw [elA_sz]; decide) elA_one elA_all ?_
    intro h6_4 hb6_3 c6_4
    replace hb0_0 := BoxAt.chgA hb0_0 c6_4 (apart_lt hlhb0_0 hfhb6_3 (by omega))
    have := c6_4.size
    replace eB := Ext.then eB c6_4 (ge_of hfhb6_3 (by omega))
    replace cL2 := Ext.then cL2 c6_4 (ge_of hfhb6_3 (by omega))
    try simp -implicitDefEqProofs (disch := first | decide | assumption | omega) only [go_sem]
    refine hK _ _ ?_
    clear hK K
    refine den_seq ?_
    refine den_seq ?_
    refine den_merge [(46, .bool ((((!(eqE (timesP X.p X.tab (e8 0) (e8 i) 8) (e8 i))) || (!(eqE (timesP X.p X.tab (e8 i) (e8 0) 8) (e8 i)))) || (!(eqE (dfI X.p X.dif (X.dif i) 8) z8)))))] [1, 3, 4, 14, 15] (fun H => Ext h6_4 H) ?_ ?_
     -- a way
    ·refine den_draw TTok mixed [] [(0, true), (1, true), (3, true), (5, true), (2, false), (4, false), (6, true), (7, true), (8, true), (9, true), (10, true), (13, true), (11, false), (12, false), (14, true), (15, true), (16, true), (17, true), (18, true), (19, true), (20, true), (21, true), (23, true), (22, false), (24, true), (25, true)] (by kernel_rfl) ?_
     intro K hK
     simp -implicitDefEqProofs (disch := first | decide | assumption | (simp (disch := decide) only [gvA, eq_self, if_true, if_false, Bool.false_eq_true]; done) | omega) only [go_sem, BoxAt.dgL hb0_0, BoxAt.elL hb6_3]
     refine CallA.mono (iBas_ok  X (0 : Int) _  (by omega)) ?_
     intro v_ h7_2
     rintro ⟨rfl, e7_2⟩
     replace hb0_0 := BoxAt.ext hb0_0 e7_2
     replace hb6_3 := BoxAt.ext hb6_3 e7_2
     have := Ext.size e7_2
     replace eB := Ext.trans eB e7_2
     replace cL2 := Ext.trans cL2 e7_2
     refine plK_pres (Ext.pres e7_2) ?_
     try simp -implicitDefEqProofs (disch := first | decide | assumption | (simp (disch := decide) only [gvA, eq_self, if_true, if_false, Bool.false_eq_true]; done) | omega) only [go_sem, Int.toNat_zero]
     refine CallA.mono (iTms_ok  X (e8 0) (e8 i) _  hpG (by first | assumption | exact e8_by _ | exact By.z8 | exact hBd _ | exact hBt _ _ | exact tmJ_by (by omega) (tmI_by (by omega) _) _ | exact timesP_by (by omega) | exact dfI_by (by omega) _ | exact plusN_by (by omega) (timesP_by (by omega)) | exact dfI_by (by omega) 8) (by first | assumption | exact e8_by _ | exact By.z8 | exact hBd _ | exact hBt _ _ | exact tmJ_by (by omega) (tmI_by (by omega) _) _ | exact timesP_by (by omega) | exact dfI_by (by omega) _ | exact plusN_by (by omega) (timesP_by (by omega)) | exact dfI_by (by omega) 8) hBt) ?_
     intro v_ h7_4
     rintro ⟨rfl, e7_4⟩
     replace hb0_0 := BoxAt.ext hb0_0 e7_4
     replace hb6_3 := BoxAt.ext hb6_3 e7_4
     have := Ext.size e7_4
     replace eB := Ext.trans eB e7_4
     replace cL2 := Ext.trans cL2 e7_4
     refine plK_pres (Ext.pres e7_4) ?_
     try simp -implicitDefEqProofs (disch := first | decide | assumption | (simp (disch := decide) only [gvA, eq_self, if_true, if_false, Bool.false_eq_true]; done) | omega) only [go_sem, ne_el]
     refine plG_F (by simp (disch := decide) only [slotOf_zero, slotOf_succ, Option.map_some, puts_same]; rfl) (fun g5 => ?_) (fun g5 => ?_)
     ·try simp -implicitDefEqProofs (disch := first | decide | assumption | (simp (disch := decide) only [gvA, eq_self, if_true, if_false, Bool.false_eq_true, g5]; done) | omega) only [go_sem, BoxAt.dgL hb0_0, BoxAt.elL hb6_3, g5]
      refine CallA.mono (iBas_ok  X (0 : Int) _  (by omega)) ?_
      intro v_ h7_11
      rintro ⟨rfl, e7_11⟩
      replace hb0_0 := BoxAt.ext hb0_0 e7_11
      replace hb6_3 := BoxAt.ext hb6_3 e7_11
      have := Ext.size e7_11
      replace eB := Ext.trans eB e7_11
      replace cL2 := Ext.trans cL2 e7_11
      refine plK_pres (Ext.pres e7_11) ?_
      try simp -implicitDefEqProofs (disch := first | decide | assumption | (simp (disch := decide) only [gvA, eq_self, if_true, if_false, Bool.false_eq_true, g5]; done) | omega) only [go_sem, Int.toNat_zero]
      refine CallA.mono (iTms_ok  X (e8 i) (e8 0) _  hpG (by first | assumption | exact e8_by _ | exact By.z8 | exact hBd _ | exact hBt _ _ | exact tmJ_by (by omega) (tmI_by (by omega) _) _ | exact timesP_by (by omega) | exact dfI_by (by omega) _ | exact plusN_by (by omega) (timesP_by (by omega)) | exact dfI_by (by omega) 8) (by first | assumption | exact e8_by _ | exact By.z8 | exact hBd _ | exact hBt _ _ | exact tmJ_by (by omega) (tmI_by (by omega) _) _ | exact timesP_by (by omega) | exact dfI_by (by omega) _ | exact plusN_by (by omega) (timesP_by (by omega)) | exact dfI_by (by omega) 8) hBt) ?_
      intro v_ h7_12
      rintro ⟨rfl, e7_12⟩
      replace hb0_0 := BoxAt.ext hb0_0 e7_12
      replace hb6_3 := BoxAt.ext hb6_3 e7_12
      have := Ext.size e7_12
      replace eB := Ext.trans eB e7_12
      replace cL2 := Ext.trans cL2 e7_12
      refine plK_pres (Ext.pres e7_12) ?_
      try simp -implicitDefEqProofs (disch := first | decide | assumption | (simp (disch := decide) only [gvA, eq_self, if_true, if_false, Bool.false_eq_true, g5]; done) | omega) only [go_sem, ne_el, if_false, Bool.false_eq_true]
      refine plG_F (by simp (disch := decide) only [slotOf_zero, slotOf_succ, Option.map_some, puts_same]; rfl) (fun g6 => ?_) (fun g6 => ?_)
      ·try simp -implicitDefEqProofs (disch := first | decide | assumption | (simp (disch := decide) only [gvA, eq_self, if_true, if_false, Bool.false_eq_true, g5, g6]; done) | omega) only [go_sem, fa34_4, ia31, BoxAt.dgL hb0_0, BoxAt.dgDifL hb0_0, Nat.zero_add, build_el, g6]
       refine CallA.mono (iDif_ok  X (X.dif i) _  hpG (by first | assumption | exact e8_by _ | exact By.z8 | exact hBd _ | exact hBt _ _ | exact tmJ_by (by omega) (tmI_by (by omega) _) _ | exact timesP_by (by omega) | exact dfI_by (by omega) _ | exact plusN_by (by omega) (timesP_by (by omega)) | exact dfI_by (by omega) 8) hBd) ?_
       intro v_ h7_22
       rintro ⟨rfl, e7_22⟩
       replace hb0_0 := BoxAt.ext hb0_0 e7_22
       replace hb6_3 := BoxAt.ext hb6_3 e7_22
       have := Ext.size e7_22
       replace eB := Ext.trans eB e7_22
       replace cL2 := Ext.trans cL2 e7_22
       refine plK_pres (Ext.pres e7_22) ?_
       try simp -implicitDefEqProofs (disch := first | decide | assumption | (simp (disch := decide) only [gvA, eq_self, if_true, if_false, Bool.false_eq_true, g5, g6]; done) | omega) only [go_sem, ne_el, if_false, Bool.false_eq_true]
       refine hK _ _ ?_
       clear hK K
       refine den_stop ?_
       refine ⟨?_, (Ext.trans (Ext.trans (Ext.trans (Ext.trans e7_2 e7_4) e7_11) e7_12) e7_22)⟩
       first | (simp (disch := decide) only [go_sem, g5, g6, eq_self, Bool.false_or, Bool.or_false]; done) | simp [HasL, sel, puts_at, g5, g6]
      ·try simp -implicitDefEqProofs (disch := first | decide | assumption | (simp (disch := decide) only [gvA, eq_self, if_true, if_false, Bool.false_eq_true, g5, g6]; done) | omega) only [go_sem, g6, eq_self, if_true]
       refine hK _ _ ?_
       clear hK K
       refine den_stop ?_
       refine ⟨?_, (Ext.trans (Ext.trans (Ext.trans e7_2 e7_4) e7_11) e7_12)⟩
       first | (simp (disch := decide) only [go_sem, g5, g6, eq_self, Bool.true_or, Bool.or_true]; done) | simp [HasL, sel, puts_at, g5, g6]
     ·try simp -implicitDefEqProofs (disch := first | decide | assumption | (simp (disch := decide) only [gvA, eq_self, if_true, if_false, Bool.false_eq_true, g5]; done) | omega) only [go_sem, g5, eq_self, if_true]
      refine hK _ _ ?_
      clear hK K
      refine den_stop ?_
      refine ⟨?_, (Ext.trans e7_2 e7_4)⟩
      first | (simp (disch := decide) only [go_sem, g5, eq_self, Bool.true_or]; done) | simp [HasL, sel, puts_at, g5]
    intro en7 h8 e9
    replace hb0_0 := BoxAt.ext hb0_0 e9
    replace hb6_3 := BoxAt.ext hb6_3 e9
    have := Ext.size e9
    replace eB := Ext.trans eB e9
    replace cL2 := Ext.trans cL2 e9
    simp (disch := decide) only [go_sem]
    refine den_cond rfl (fun c2 => ?_) (fun c2 => ?_)
    ·try simp only [Bool.not_eq_true', Bool.or_eq_true] at c2
     refine den_seq ?_
     refine den_region TTok ?_
     intro K hK
     simp -implicitDefEqProofs (disch := first | decide | assumption | omega) only [go_sem]
     refine hK _ _ ?_
     clear hK K
     refine den_ret ?_
     simp (disch := decide) only [resP_1, puts_same]
     exact ⟨vbool (dgB_n (fun hh => un_no (hh.un i (by omega)) c2)), eB⟩
    ·try simp only [Bool.not_eq_false', Bool.or_eq_false_iff] at c2
     refine den_skip ?_
     refine den_seq ?_
     refine den_region TTok ?_
     intro K hK
     simp -implicitDefEqProofs (disch := first | decide | assumption | omega) only [go_sem, fa34_1, ld2, BoxAt.dgS hb0_0, Nat.zero_add]
     refine hK _ _ ?_
     clear hK K
     refine den_block ?_
     refine den_sel [49, 1, 3, 4, 14, 15, 48] ?_
     intro env_10
     simp only [go_sem]
     refine den_loopS (σ := Nat) (fun st_ => [(49, .int .i64 (st_ : Int))]) (fun st_ H => ((st_ : Int) ≤ X.s) ∧ (∀ b : Nat, b < st_ → LbF X i b ∧ ∀ k : Nat, (k : Int) < X.s → AsF X i b k) ∧ (Ext h8 H)) (fun st_ => X.s.toNat - st_) 0 ?_ ?_
     ·exact ⟨by omega, fun b h => by omega, Ext.refl _⟩
     ·rintro j h13 ee12 ⟨hj, hzj, cL11⟩
      replace hb0_0 := BoxAt.ext hb0_0 cL11
      replace hb6_3 := BoxAt.ext hb6_3 cL11
      have := Ext.size cL11
      replace eB := Ext.trans eB cL11
      replace cL2 := Ext.trans cL2 cL11
      simp only [List.cons_append, List.nil_append]
      refine den_seq ?_
      refine den_region TTok ?_
      intro K hK
      simp -implicitDefEqProofs (disch := first | decide | assumption | omega) only [go_sem]
      refine hK _ _ ?_
      clear hK K
      refine den_seq ?_
      refine den_cond rfl (fun c3 => ?_) (fun c3 => ?_)
      ·try simp only [decide_eq_true_eq] at c3
       refine den_skip ?_
       refine den_seq ?_
       refine den_block ?_
       refine den_seq ?_
       refine den_region TTok ?_
       intro K hK
       simp -implicitDefEqProofs (disch := first | decide | assumption | omega) only [go_sem]
       refine hK _ _ ?_
       clear hK K
       refine den_seq ?_
       refine den_region TTok ?_
       intro K hK
       simp -implicitDefEqProofs (disch := first | decide | assumption | omega) only [go_sem, BoxAt.dgL hb0_0]
       refine CallA.mono (iBas_ok  X (j : Int) _  (by omega)) ?_
       intro v_ h12_2
       rintro ⟨rfl, e12_2⟩
       replace hb0_0 := BoxAt.ext hb0_0 e12_2
       replace hb6_3 := BoxAt.ext hb6_3 e12_2
       have := Ext.size e12_2
       replace eB := Ext.trans eB e12_2
       replace cL2 := Ext.trans cL2 e12_2
       replace cL11 := Ext.trans cL11 e12_2
       try simp -implicitDefEqProofs (disch := first | decide | assumption | omega) only [go_sem]
       refine op_alloc (cs := elA z8) (by kernel_rfl) ?_
       intro h12_3 e12_3 hb12_3 z12_3
       replace hb0_0 := BoxAt.ext hb0_0 e12_3
       replace hb6_3 := BoxAt.ext hb6_3 e12_3
       have := Ext.size e12_3
       replace eB := Ext.trans eB e12_3
       replace cL2 := Ext.trans cL2 e12_3
       replace cL11 := Ext.trans cL11 e12_3
       have hfhb12_3 : Fresh h12_2.size [h12_2.size] := Fresh.one _
       have hlhb12_3 := one_lt (show h12_2.size < h12_3.size by omega)
       try simp -implicitDefEqProofs (disch := first | decide | assumption | omega) only [go_sem]
       refine op_storeB (o := 0) (cs' := elA (e8 j)) st30 hb12_3 rfl rfl (elA_sz _) (by rw [elA_sz]; decide) elA_one elA_all ?_
       intro h12_4 hb12_3 c12_4
       replace hb0_0 := BoxAt.chgA hb0_0 c12_4 (apart_lt hlhb0_0 hfhb12_3 (by omega))
       replace hb6_3 := BoxAt.chgA hb6_3 c12_4 (apart_lt hlhb6_3 hfhb12_3 (by omega))
       have := c12_4.size
       replace eB := Ext.then eB c12_4 (ge_of hfhb12_3 (by omega))
       replace cL2 := Ext.then cL2 c12_4 (ge_of hfhb12_3 (by omega))
       replace cL11 := Ext.then cL11 c12_4 (ge_of hfhb12_3 (by omega))
       try simp -implicitDefEqProofs (disch := first | decide | assumption | omega) only [go_sem]
       refine hK _ _ ?_
       clear hK K
       refine den_seq ?_
       refine den_sel [1, 3, 4, 5, 6, 14, 15, 48, 49] ?_
       intro env_14
       simp only [go_sem]
       refine den_drawTJ (σ := Nat) TTok (fun st_ => [(7, .pointer (some ⟨st_, 0, none⟩))]) (fun st_ H => (BoxAt H st_ (elA (dfI X.p X.dif ((X.tab i) j) 8)) 30) ∧ (Fresh h12_4.size [st_]) ∧ (Ext h12_4 H)) mixed [9] [(0, true), (1, true), (2, true), (3, true), (4, true), (5, true), (6, true)] (.fork 7 [(8, false), (9, false)] .fin 8 [(7, false), (9, false)] .fin) (by kernel_rfl) ?_ ?_
       ·intro K hK
        have cJ15 := Ext.refl h12_4
        simp -implicitDefEqProofs (disch := first | decide | assumption | omega) only [go_sem, fa34_5, ia32, ia31, BoxAt.dgL hb0_0, BoxAt.dgTabL hb0_0, Nat.zero_add]
        refine And.intro ?_ ?_
        ·simp -implicitDefEqProofs (disch := first | decide | assumption | omega) only [go_sem]
         refine CallA.mono (iDif_ok  X ((X.tab i) j) _  hpG (by first | assumption | exact e8_by _ | exact By.z8 | exact hBd _ | exact hBt _ _ | exact tmJ_by (by omega) (tmI_by (by omega) _) _ | exact timesP_by (by omega) | exact dfI_by (by omega) _ | exact plusN_by (by omega) (timesP_by (by omega)) | exact dfI_by (by omega) 8) hBd) ?_
         intro v_ h13_7
         rintro ⟨rfl, e13_7⟩
         replace hb0_0 := BoxAt.ext hb0_0 e13_7
         replace hb6_3 := BoxAt.ext hb6_3 e13_7
         replace hb12_3 := BoxAt.ext hb12_3 e13_7
         have := Ext.size e13_7
         replace eB := Ext.trans eB e13_7
         replace cL2 := Ext.trans cL2 e13_7
         replace cL11 := Ext.trans cL11 e13_7
         replace cJ15 := Ext.trans cJ15 e13_7
         refine plK_pres (Ext.pres e13_7) ?_
         try simp -implicitDefEqProofs (disch := first | decide | assumption | omega) only [go_sem]
         refine op_alloc (cs := elA z8) (by kernel_rfl) ?_
         intro h13_8 e13_8 hb13_8 z13_8
         replace hb0_0 := BoxAt.ext hb0_0 e13_8
         replace hb6_3 := BoxAt.ext hb6_3 e13_8
         replace hb12_3 := BoxAt.ext hb12_3 e13_8
         have := Ext.size e13_8
         replace eB := Ext.trans eB e13_8
         replace cL2 := Ext.trans cL2 e13_8
         replace cL11 := Ext.trans cL11 e13_8
         replace cJ15 := Ext.trans cJ15 e13_8
         have hfhb13_8 : Fresh h13_7.size [h13_7.size] := Fresh.one _
         have hlhb13_8 := one_lt (show h13_7.size < h13_8.size by omega)
         try simp (disch := decide) only [outv_some, put_puts]
         refine plK_pres (Ext.pres e13_8) ?_
         try simp -implicitDefEqProofs (disch := first | decide | assumption | omega) only [go_sem]
         refine op_storeB (o := 0) (cs' := elA (dfI X.p X.dif ((X.tab i) j) 8)) st30 hb13_8 rfl rfl (elA_sz _) (by rw [elA_sz]; decide) elA_one elA_all ?_
         intro h13_9 hb13_8 c13_9
         replace hb0_0 := BoxAt.chgA hb0_0 c13_9 (apart_lt hlhb0_0 hfhb13_8 (by omega))
         replace hb6_3 := BoxAt.chgA hb6_3 c13_9 (apart_lt hlhb6_3 hfhb13_8 (by omega))
         replace hb12_3 := BoxAt.chgA hb12_3 c13_9 (apart_lt hlhb12_3 hfhb13_8 (by omega))
         have := c13_9.size
         replace eB := Ext.then eB c13_9 (ge_of hfhb13_8 (by omega))
         replace cL2 := Ext.then cL2 c13_9 (ge_of hfhb13_8 (by omega))
         replace cL11 := Ext.then cL11 c13_9 (ge_of hfhb13_8 (by omega))
         replace cJ15 := Ext.then cJ15 c13_9 (ge_of hfhb13_8 (by omega))
         try simp (disch := decide) only [outv_none]
         refine plK_last (by decide) ?_
         try simp -implicitDefEqProofs (disch := first | decide | assumption | omega) only [go_sem]
         exact hK h13_7.size _ _ (by simp [HasL, puts_at]) ⟨hb13_8, (hfhb13_8.mono (by omega)), cJ15⟩
        ·simp -implicitDefEqProofs (disch := first | decide | assumption | omega) only [go_sem]
         refine op_alloc (cs := elA z8) (by kernel_rfl) ?_
         intro h13_8 e13_8 hb13_8 z13_8
         replace hb0_0 := BoxAt.ext hb0_0 e13_8
         replace hb6_3 := BoxAt.ext hb6_3 e13_8
         replace hb12_3 := BoxAt.ext hb12_3 e13_8
         have := Ext.size e13_8
         replace eB := Ext.trans eB e13_8
         replace cL2 := Ext.trans cL2 e13_8
         replace cL11 := Ext.trans cL11 e13_8
         replace cJ15 := Ext.trans cJ15 e13_8
         have hfhb13_8 : Fresh h12_4.size [h12_4.size] := Fresh.one _
         have hlhb13_8 := one_lt (show h12_4.size < h13_8.size by omega)
         try simp (disch := decide) only [outv_some, put_puts]
         refine plK_pres (Ext.pres e13_8) ?_
         try simp -implicitDefEqProofs (disch := first | decide | assumption | omega) only [go_sem]
         refine CallA.mono (iDif_ok  X ((X.tab i) j) _  hpG (by first | assumption | exact e8_by _ | exact By.z8 | exact hBd _ | exact hBt _ _ | exact tmJ_by (by omega) (tmI_by (by omega) _) _ | exact timesP_by (by omega) | exact dfI_by (by omega) _ | exact plusN_by (by omega) (timesP_by (by omega)) | exact dfI_by (by omega) 8) hBd) ?_
         intro v_ h13_7
         rintro ⟨rfl, e13_7⟩
         replace hb0_0 := BoxAt.ext hb0_0 e13_7
         replace hb6_3 := BoxAt.ext hb6_3 e13_7
         replace hb12_3 := BoxAt.ext hb12_3 e13_7
         replace hb13_8 := BoxAt.ext hb13_8 e13_7
         have := Ext.size e13_7
         replace eB := Ext.trans eB e13_7
         replace cL2 := Ext.trans cL2 e13_7
         replace cL11 := Ext.trans cL11 e13_7
         replace cJ15 := Ext.trans cJ15 e13_7
         refine plK_pres (Ext.pres e13_7) ?_
         try simp -implicitDefEqProofs (disch := first | decide | assumption | omega) only [go_sem]
         refine op_storeB (o := 0) (cs' := elA (dfI X.p X.dif ((X.tab i) j) 8)) st30 hb13_8 rfl rfl (elA_sz _) (by rw [elA_sz]; decide) elA_one elA_all ?_
         intro h13_9 hb13_8 c13_9
         replace hb0_0 := BoxAt.chgA hb0_0 c13_9 (apart_lt hlhb0_0 hfhb13_8 (by omega))
         replace hb6_3 := BoxAt.chgA hb6_3 c13_9 (apart_lt hlhb6_3 hfhb13_8 (by omega))
         replace hb12_3 := BoxAt.chgA hb12_3 c13_9 (apart_lt hlhb12_3 hfhb13_8 (by omega))
         have := c13_9.size
         replace eB := Ext.then eB c13_9 (ge_of hfhb13_8 (by omega))
         replace cL2 := Ext.then cL2 c13_9 (ge_of hfhb13_8 (by omega))
         replace cL11 := Ext.then cL11 c13_9 (ge_of hfhb13_8 (by omega))
         replace cJ15 := Ext.then cJ15 c13_9 (ge_of hfhb13_8 (by omega))
         try simp (disch := decide) only [outv_none]
         refine plK_last (by decide) ?_
         try simp -implicitDefEqProofs (disch := first | decide | assumption | omega) only [go_sem]
         exact hK h12_4.size _ _ (by simp [HasL, puts_at]) ⟨hb13_8, (hfhb13_8.mono (by omega)), cJ15⟩
       ·rintro bJhb13_8 hj16 ee18 ⟨hb13_8, hfhb13_8, eJ17⟩
        replace hb0_0 := BoxAt.ext hb0_0 eJ17
        replace hb6_3 := BoxAt.ext hb6_3 eJ17
        replace hb12_3 := BoxAt.ext hb12_3 eJ17
        have := Ext.size eJ17
        replace eB := Ext.trans eB eJ17
        replace cL2 := Ext.trans cL2 eJ17
        replace cL11 := Ext.trans cL11 eJ17
        have hlhb13_8 := one_lt hb13_8.lt
        simp only [List.cons_append, List.nil_append]
        refine den_seq ?_
        have hdr := (hfm.row i (by omega)).deg
        have hsg := sg_bnd (d := X.deg i)
        refine den_sel [1, 3, 4, 5, 6, 7, 14, 15, 48, 49] ?_
        intro env_19
        simp only [go_sem]
        refine den_drawTJ (σ := Nat) TTok (fun st_ => [(8, .pointer (some ⟨st_, 0, none⟩))]) (fun st_ H => (BoxAt H st_ (elA (plusN X.p (timesP X.p X.tab (X.dif i) (e8 j) 8) (timesP X.p X.tab (e8 i) (X.dif j) 8) (1 - (X.deg i).tmod 2 * 2) 8)) 30) ∧ (Fresh hj16.size [st_]) ∧ (Ext hj16 H)) mixed [22] [(0, true), (1, true), (2, true), (3, true), (4, true), (5, true), (6, true), (8, true), (9, true), (10, true), (11, true), (12, true), (13, true), (15, true), (16, true), (17, true), (18, true)] (.fork 7 [] (.fork 14 [] (.fork 19 [] (.fork 20 [(21, false), (22, false)] .fin 21 [(20, false), (22, false)] .fin) 21 [(19, false), (20, false), (22, false)] .fin) 21 [(14, false), (19, false), (20, false), (22, false)] .fin) 21 [(7, false), (14, false), (19, false), (20, false), (22, false)] .fin) (by kernel_rfl) ?_ ?_
        ·intro K hK
         have cJ20 := Ext.refl hj16
         simp -implicitDefEqProofs (disch := first | decide | assumption | omega) only [go_sem, fa34_2, fa34_4, ia31, ia22, ld2, BoxAt.dgL hb0_0, BoxAt.dgDeg hb0_0, BoxAt.dgDifL hb0_0, BoxAt.elL hb6_3, BoxAt.elL hb12_3, Nat.zero_add]
         refine And.intro ?_ ?_
         ·simp -implicitDefEqProofs (disch := first | decide | assumption | omega) only [go_sem]
          refine CallA.mono (iTms_ok  X (X.dif i) (e8 j) _  hpG (by first | assumption | exact e8_by _ | exact By.z8 | exact hBd _ | exact hBt _ _ | exact tmJ_by (by omega) (tmI_by (by omega) _) _ | exact timesP_by (by omega) | exact dfI_by (by omega) _ | exact plusN_by (by omega) (timesP_by (by omega)) | exact dfI_by (by omega) 8) (by first | assumption | exact e8_by _ | exact By.z8 | exact hBd _ | exact hBt _ _ | exact tmJ_by (by omega) (tmI_by (by omega) _) _ | exact timesP_by (by omega) | exact dfI_by (by omega) _ | exact plusN_by (by omega) (timesP_by (by omega)) | exact dfI_by (by omega) 8) hBt) ?_
          intro v_ h14_7
          rintro ⟨rfl, e14_7⟩
          replace hb0_0 := BoxAt.ext hb0_0 e14_7
          replace hb6_3 := BoxAt.ext hb6_3 e14_7
          replace hb12_3 := BoxAt.ext hb12_3 e14_7
          replace hb13_8 := BoxAt.ext hb13_8 e14_7
          have := Ext.size e14_7
          replace eB := Ext.trans eB e14_7
          replace cL2 := Ext.trans cL2 e14_7
          replace cL11 := Ext.trans cL11 e14_7
          replace cJ20 := Ext.trans cJ20 e14_7
          refine plK_pres (Ext.pres e14_7) ?_
          try simp -implicitDefEqProofs (disch := first | decide | assumption | omega) only [go_sem]
          refine And.intro ?_ ?_
          ·simp -implicitDefEqProofs (disch := first | decide | assumption | omega) only [go_sem]
           refine CallA.mono (iTms_ok  X (e8 i) (X.dif j) _  hpG (by first | assumption | exact e8_by _ | exact By.z8 | exact hBd _ | exact hBt _ _ | exact tmJ_by (by omega) (tmI_by (by omega) _) _ | exact timesP_by (by omega) | exact dfI_by (by omega) _ | exact plusN_by (by omega) (timesP_by (by omega)) | exact dfI_by (by omega) 8) (by first | assumption | exact e8_by _ | exact By.z8 | exact hBd _ | exact hBt _ _ | exact tmJ_by (by omega) (tmI_by (by omega) _) _ | exact timesP_by (by omega) | exact dfI_by (by omega) _ | exact plusN_by (by omega) (timesP_by (by omega)) | exact dfI_by (by omega) 8) hBt) ?_
           intro v_ h14_14
           rintro ⟨rfl, e14_14⟩
           replace hb0_0 := BoxAt.ext hb0_0 e14_14
           replace hb6_3 := BoxAt.ext hb6_3 e14_14
           replace hb12_3 := BoxAt.ext hb12_3 e14_14
           replace hb13_8 := BoxAt.ext hb13_8 e14_14
           have := Ext.size e14_14
           replace eB := Ext.trans eB e14_14
           replace cL2 := Ext.trans cL2 e14_14
           replace cL11 := Ext.trans cL11 e14_14
           replace cJ20 := Ext.trans cJ20 e14_14
           refine plK_pres (Ext.pres e14_14) ?_
           try simp -implicitDefEqProofs (disch := first | decide | assumption | omega) only [go_sem]
           refine And.intro ?_ ?_
           ·simp -implicitDefEqProofs (disch := first | decide | assumption | omega) only [go_sem]
            refine CallA.mono (iSign_ok  (X.deg i) _  (by omega)) ?_
            intro v_ h14_19
            rintro ⟨rfl, e14_19⟩
            replace hb0_0 := BoxAt.ext hb0_0 e14_19
            replace hb6_3 := BoxAt.ext hb6_3 e14_19
            replace hb12_3 := BoxAt.ext hb12_3 e14_19
            replace hb13_8 := BoxAt.ext hb13_8 e14_19
            have := Ext.size e14_19
            replace eB := Ext.trans eB e14_19
            replace cL2 := Ext.trans cL2 e14_19
            replace cL11 := Ext.trans cL11 e14_19
            replace cJ20 := Ext.trans cJ20 e14_19
            refine plK_pres (Ext.pres e14_19) ?_
            try simp -implicitDefEqProofs (disch := first | decide | assumption | omega) only [go_sem]
            refine And.intro ?_ ?_
            ·simp -implicitDefEqProofs (disch := first | decide | assumption | omega) only [go_sem]
             refine CallA.mono (iPls_ok  X (timesP X.p X.tab (X.dif i) (e8 j) 8) (timesP X.p X.tab (e8 i) (X.dif j) 8) (1 - (X.deg i).tmod 2 * 2) _  hpG (by first | assumption | exact e8_by _ | exact By.z8 | exact hBd _ | exact hBt _ _ | exact tmJ_by (by omega) (tmI_by (by omega) _) _ | exact timesP_by (by omega) | exact dfI_by (by omega) _ | exact plusN_by (by omega) (timesP_by (by omega)) | exact dfI_by (by omega) 8) (by first | assumption | exact e8_by _ | exact By.z8 | exact hBd _ | exact hBt _ _ | exact tmJ_by (by omega) (tmI_by (by omega) _) _ | exact timesP_by (by omega) | exact dfI_by (by omega) _ | exact plusN_by (by omega) (timesP_by (by omega)) | exact dfI_by (by omega) 8) (by omega)) ?_
             intro v_ h14_20
             rintro ⟨rfl, e14_20⟩
             replace hb0_0 := BoxAt.ext hb0_0 e14_20
             replace hb6_3 := BoxAt.ext hb6_3 e14_20
             replace hb12_3 := BoxAt.ext hb12_3 e14_20
             replace hb13_8 := BoxAt.ext hb13_8 e14_20
             have := Ext.size e14_20
             replace eB := Ext.trans eB e14_20
             replace cL2 := Ext.trans cL2 e14_20
             replace cL11 := Ext.trans cL11 e14_20
             replace cJ20 := Ext.trans cJ20 e14_20
             refine plK_pres (Ext.pres e14_20) ?_
             try simp -implicitDefEqProofs (disch := first | decide | assumption | omega) only [go_sem]
             refine op_alloc (cs := elA z8) (by kernel_rfl) ?_
             intro h14_21 e14_21 hb14_21 z14_21
             replace hb0_0 := BoxAt.ext hb0_0 e14_21
             replace hb6_3 := BoxAt.ext hb6_3 e14_21
             replace hb12_3 := BoxAt.ext hb12_3 e14_21
             replace hb13_8 := BoxAt.ext hb13_8 e14_21
             have := Ext.size e14_21
             replace eB := Ext.trans eB e14_21
             replace cL2 := Ext.trans cL2 e14_21
             replace cL11 := Ext.trans cL11 e14_21
             replace cJ20 := Ext.trans cJ20 e14_21
             have hfhb14_21 : Fresh h14_20.size [h14_20.size] := Fresh.one _
             have hlhb14_21 := one_lt (show h14_20.size < h14_21.size by omega)
             try simp (disch := decide) only [outv_some, put_puts]
             refine plK_pres (Ext.pres e14_21) ?_
             try simp -implicitDefEqProofs (disch := first | decide | assumption | omega) only [go_sem]
             refine op_storeB (o := 0) (cs' := elA (plusN X.p (timesP X.p X.tab (X.dif i) (e8 j) 8) (timesP X.p X.tab (e8 i) (X.dif j) 8) (1 - (X.deg i).tmod 2 * 2) 8)) st30 hb14_21 rfl rfl (elA_sz _) (by rw [elA_sz]; decide) elA_one elA_all ?_
             intro h14_22 hb14_21 c14_22
             replace hb0_0 := BoxAt.chgA hb0_0 c14_22 (apart_lt hlhb0_0 hfhb14_21 (by omega))
             replace hb6_3 := BoxAt.chgA hb6_3 c14_22 (apart_lt hlhb6_3 hfhb14_21 (by omega))
             replace hb12_3 := BoxAt.chgA hb12_3 c14_22 (apart_lt hlhb12_3 hfhb14_21 (by omega))
             replace hb13_8 := BoxAt.chgA hb13_8 c14_22 (apart_lt hlhb13_8 hfhb14_21 (by omega))
             have := c14_22.size
             replace eB := Ext.then eB c14_22 (ge_of hfhb14_21 (by omega))
             replace cL2 := Ext.then cL2 c14_22 (ge_of hfhb14_21 (by omega))
             replace cL11 := Ext.then cL11 c14_22 (ge_of hfhb14_21 (by omega))
             replace cJ20 := Ext.then cJ20 c14_22 (ge_of hfhb14_21 (by omega))
             try simp (disch := decide) only [outv_none]
             refine plK_last (by decide) ?_
             try simp -implicitDefEqProofs (disch := first | decide | assumption | omega) only [go_sem]
             exact hK h14_20.size _ _ (by simp [HasL, puts_at]) ⟨hb14_21, (hfhb14_21.mono (by omega)), cJ20⟩
            ·simp -implicitDefEqProofs (disch := first | decide | assumption | omega) only [go_sem]
             refine op_alloc (cs := elA z8) (by kernel_rfl) ?_
             intro h14_21 e14_21 hb14_21 z14_21
             replace hb0_0 := BoxAt.ext hb0_0 e14_21
             replace hb6_3 := BoxAt.ext hb6_3 e14_21
             replace hb12_3 := BoxAt.ext hb12_3 e14_21
             replace hb13_8 := BoxAt.ext hb13_8 e14_21
             have := Ext.size e14_21
             replace eB := Ext.trans eB e14_21
             replace cL2 := Ext.trans cL2 e14_21
             replace cL11 := Ext.trans cL11 e14_21
             replace cJ20 := Ext.trans cJ20 e14_21
             have hfhb14_21 : Fresh h14_19.size [h14_19.size] := Fresh.one _
             have hlhb14_21 := one_lt (show h14_19.size < h14_21.size by omega)
             try simp (disch := decide) only [outv_some, put_puts]
             refine plK_pres (Ext.pres e14_21) ?_
             try simp -implicitDefEqProofs (disch := first | decide | assumption | omega) only [go_sem]
             refine CallA.mono (iPls_ok  X (timesP X.p X.tab (X.dif i) (e8 j) 8) (timesP X.p X.tab (e8 i) (X.dif j) 8) (1 - (X.deg i).tmod 2 * 2) _  hpG (by first | assumption | exact e8_by _ | exact By.z8 | exact hBd _ | exact hBt _ _ | exact tmJ_by (by omega) (tmI_by (by omega) _) _ | exact timesP_by (by omega) | exact dfI_by (by omega) _ | exact plusN_by (by omega) (timesP_by (by omega)) | exact dfI_by (by omega) 8) (by first | assumption | exact e8_by _ | exact By.z8 | exact hBd _ | exact hBt _ _ | exact tmJ_by (by omega) (tmI_by (by omega) _) _ | exact timesP_by (by omega) | exact dfI_by (by omega) _ | exact plusN_by (by omega) (timesP_by (by omega)) | exact dfI_by (by omega) 8) (by omega)) ?_
             intro v_ h14_20
             rintro ⟨rfl, e14_20⟩
             replace hb0_0 := BoxAt.ext hb0_0 e14_20
             replace hb6_3 := BoxAt.ext hb6_3 e14_20
             replace hb12_3 := BoxAt.ext hb12_3 e14_20
             replace hb13_8 := BoxAt.ext hb13_8 e14_20
             replace hb14_21 := BoxAt.ext hb14_21 e14_20
             have := Ext.size e14_20
             replace eB := Ext.trans eB e14_20
             replace cL2 := Ext.trans cL2 e14_20
             replace cL11 := Ext.trans cL11 e14_20
             replace cJ20 := Ext.trans cJ20 e14_20
             refine plK_pres (Ext.pres e14_20) ?_
             try simp -implicitDefEqProofs (disch := first | decide | assumption | omega) only [go_sem]
             refine op_storeB (o := 0) (cs' := elA (plusN X.p (timesP X.p X.tab (X.dif i) (e8 j) 8) (timesP X.p X.tab (e8 i) (X.dif j) 8) (1 - (X.deg i).tmod 2 * 2) 8)) st30 hb14_21 rfl rfl (elA_sz _) (by rw [elA_sz]; decide) elA_one elA_all ?_
             intro h14_22 hb14_21 c14_22
             replace hb0_0 := BoxAt.chgA hb0_0 c14_22 (apart_lt hlhb0_0 hfhb14_21 (by omega))
             replace hb6_3 := BoxAt.chgA hb6_3 c14_22 (apart_lt hlhb6_3 hfhb14_21 (by omega))
             replace hb12_3 := BoxAt.chgA hb12_3 c14_22 (apart_lt hlhb12_3 hfhb14_21 (by omega))
             replace hb13_8 := BoxAt.chgA hb13_8 c14_22 (apart_lt hlhb13_8 hfhb14_21 (by omega))
             have := c14_22.size
             replace eB := Ext.then eB c14_22 (ge_of hfhb14_21 (by omega))
             replace cL2 := Ext.then cL2 c14_22 (ge_of hfhb14_21 (by omega))
             replace cL11 := Ext.then cL11 c14_22 (ge_of hfhb14_21 (by omega))
             replace cJ20 := Ext.then cJ20 c14_22 (ge_of hfhb14_21 (by omega))
             try simp (disch := decide) only [outv_none]
             refine plK_last (by decide) ?_
             try simp -implicitDefEqProofs (disch := first | decide | assumption | omega) only [go_sem]
             exact hK h14_19.size _ _ (by simp [HasL, puts_at]) ⟨hb14_21, (hfhb14_21.mono (by omega)), cJ20⟩
           ·simp -implicitDefEqProofs (disch := first | decide | assumption | omega) only [go_sem]
            refine op_alloc (cs := elA z8) (by kernel_rfl) ?_
            intro h14_21 e14_21 hb14_21 z14_21
            replace hb0_0 := BoxAt.ext hb0_0 e14_21
            replace hb6_3 := BoxAt.ext hb6_3 e14_21
            replace hb12_3 := BoxAt.ext hb12_3 e14_21
            replace hb13_8 := BoxAt.ext hb13_8 e14_21
            have := Ext.size e14_21
            replace eB := Ext.trans eB e14_21
            replace cL2 := Ext.trans cL2 e14_21
            replace cL11 := Ext.trans cL11 e14_21
            replace cJ20 := Ext.trans cJ20 e14_21
            have hfhb14_21 : Fresh h14_14.size [h14_14.size] := Fresh.one _
            have hlhb14_21 := one_lt (show h14_14.size < h14_21.size by omega)
            try simp (disch := decide) only [outv_some, put_puts]
            refine plK_pres (Ext.pres e14_21) ?_
            try simp -implicitDefEqProofs (disch := first | decide | assumption | omega) only [go_sem]
            refine CallA.mono (iSign_ok  (X.deg i) _  (by omega)) ?_
            intro v_ h14_19
            rintro ⟨rfl, e14_19⟩
            replace hb0_0 := BoxAt.ext hb0_0 e14_19
            replace hb6_3 := BoxAt.ext hb6_3 e14_19
            replace hb12_3 := BoxAt.ext hb12_3 e14_19
            replace hb13_8 := BoxAt.ext hb13_8 e14_19
            replace hb14_21 := BoxAt.ext hb14_21 e14_19
            have := Ext.size e14_19
            replace eB := Ext.trans eB e14_19
            replace cL2 := Ext.trans cL2 e14_19
            replace cL11 := Ext.trans cL11 e14_19
            replace cJ20 := Ext.trans cJ20 e14_19
            refine plK_pres (Ext.pres e14_19) ?_
            try simp -implicitDefEqProofs (disch := first | decide | assumption | omega) only [go_sem]
            refine CallA.mono (iPls_ok  X (timesP X.p X.tab (X.dif i) (e8 j) 8) (timesP X.p X.tab (e8 i) (X.dif j) 8) (1 - (X.deg i).tmod 2 * 2) _  hpG (by first | assumption | exact e8_by _ | exact By.z8 | exact hBd _ | exact hBt _ _ | exact tmJ_by (by omega) (tmI_by (by omega) _) _ | exact timesP_by (by omega) | exact dfI_by (by omega) _ | exact plusN_by (by omega) (timesP_by (by omega)) | exact dfI_by (by omega) 8) (by first | assumption | exact e8_by _ | exact By.z8 | exact hBd _ | exact hBt _ _ | exact tmJ_by (by omega) (tmI_by (by omega) _) _ | exact timesP_by (by omega) | exact dfI_by (by omega) _ | exact plusN_by (by omega) (timesP_by (by omega)) | exact dfI_by (by omega) 8) (by omega)) ?_
            intro v_ h14_20
            rintro ⟨rfl, e14_20⟩
            replace hb0_0 := BoxAt.ext hb0_0 e14_20
            replace hb6_3 := BoxAt.ext hb6_3 e14_20
            replace hb12_3 := BoxAt.ext hb12_3 e14_20
            replace hb13_8 := BoxAt.ext hb13_8 e14_20
            replace hb14_21 := BoxAt.ext hb14_21 e14_20
            have := Ext.size e14_20
            replace eB := Ext.trans eB e14_20
            replace cL2 := Ext.trans cL2 e14_20
            replace cL11 := Ext.trans cL11 e14_20
            replace cJ20 := Ext.trans cJ20 e14_20
            refine plK_pres (Ext.pres e14_20) ?_
            try simp -implicitDefEqProofs (disch := first | decide | assumption | omega) only [go_sem]
            refine op_storeB (o := 0) (cs' := elA (plusN X.p (timesP X.p X.tab (X.dif i) (e8 j) 8) (timesP X.p X.tab (e8 i) (X.dif j) 8) (1 - (X.deg i).tmod 2 * 2) 8)) st30 hb14_21 rfl rfl (elA_sz _) (by rw [elA_sz]; decide) elA_one elA_all ?_
            intro h14_22 hb14_21 c14_22
            replace hb0_0 := BoxAt.chgA hb0_0 c14_22 (apart_lt hlhb0_0 hfhb14_21 (by omega))
            replace hb6_3 := BoxAt.chgA hb6_3 c14_22 (apart_lt hlhb6_3 hfhb14_21 (by omega))
            replace hb12_3 := BoxAt.chgA hb12_3 c14_22 (apart_lt hlhb12_3 hfhb14_21 (by omega))
            replace hb13_8 := BoxAt.chgA hb13_8 c14_22 (apart_lt hlhb13_8 hfhb14_21 (by omega))
            have := c14_22.size
            replace eB := Ext.then eB c14_22 (ge_of hfhb14_21 (by omega))
            replace cL2 := Ext.then cL2 c14_22 (ge_of hfhb14_21 (by omega))
            replace cL11 := Ext.then cL11 c14_22 (ge_of hfhb14_21 (by omega))
            replace cJ20 := Ext.then cJ20 c14_22 (ge_of hfhb14_21 (by omega))
            try simp (disch := decide) only [outv_none]
            refine plK_last (by decide) ?_
            try simp -implicitDefEqProofs (disch := first | decide | assumption | omega) only [go_sem]
            exact hK h14_14.size _ _ (by simp [HasL, puts_at]) ⟨hb14_21, (hfhb14_21.mono (by omega)), cJ20⟩
          ·simp -implicitDefEqProofs (disch := first | decide | assumption | omega) only [go_sem]
           refine op_alloc (cs := elA z8) (by kernel_rfl) ?_
           intro h14_21 e14_21 hb14_21 z14_21
           replace hb0_0 := BoxAt.ext hb0_0 e14_21
           replace hb6_3 := BoxAt.ext hb6_3 e14_21
           replace hb12_3 := BoxAt.ext hb12_3 e14_21
           replace hb13_8 := BoxAt.ext hb13_8 e14_21
           have := Ext.size e14_21
           replace eB := Ext.trans eB e14_21
           replace cL2 := Ext.trans cL2 e14_21
           replace cL11 := Ext.trans cL11 e14_21
           replace cJ20 := Ext.trans cJ20 e14_21
           have hfhb14_21 : Fresh h14_7.size [h14_7.size] := Fresh.one _
           have hlhb14_21 := one_lt (show h14_7.size < h14_21.size by omega)
           try simp (disch := decide) only [outv_some, put_puts]
           refine plK_pres (Ext.pres e14_21) ?_
           try simp -implicitDefEqProofs (disch := first | decide | assumption | omega) only [go_sem]
           refine CallA.mono (iTms_ok  X (e8 i) (X.dif j) _  hpG (by first | assumption | exact e8_by _ | exact By.z8 | exact hBd _ | exact hBt _ _ | exact tmJ_by (by omega) (tmI_by (by omega) _) _ | exact timesP_by (by omega) | exact dfI_by (by omega) _ | exact plusN_by (by omega) (timesP_by (by omega)) | exact dfI_by (by omega) 8) (by first | assumption | exact e8_by _ | exact By.z8 | exact hBd _ | exact hBt _ _ | exact tmJ_by (by omega) (tmI_by (by omega) _) _ | exact timesP_by (by omega) | exact dfI_by (by omega) _ | exact plusN_by (by omega) (timesP_by (by omega)) | exact dfI_by (by omega) 8) hBt) ?_
           intro v_ h14_14
           rintro ⟨rfl, e14_14⟩
           replace hb0_0 := BoxAt.ext hb0_0 e14_14
           replace hb6_3 := BoxAt.ext hb6_3 e14_14
           replace hb12_3 := BoxAt.ext hb12_3 e14_14
           replace hb13_8 := BoxAt.ext hb13_8 e14_14
           replace hb14_21 := BoxAt.ext hb14_21 e14_14
           have := Ext.size e14_14
           replace eB := Ext.trans eB e14_14
           replace cL2 := Ext.trans cL2 e14_14
           replace cL11 := Ext.trans cL11 e14_14
           replace cJ20 := Ext.trans cJ20 e14_14
           refine plK_pres (Ext.pres e14_14) ?_
           try simp -implicitDefEqProofs (disch := first | decide | assumption | omega) only [go_sem]
           refine CallA.mono (iSign_ok  (X.deg i) _  (by omega)) ?_
           intro v_ h14_19
           rintro ⟨rfl, e14_19⟩
           replace hb0_0 := BoxAt.ext hb0_0 e14_19
           replace hb6_3 := BoxAt.ext hb6_3 e14_19
           replace hb12_3 := BoxAt.ext hb12_3 e14_19
           replace hb13_8 := BoxAt.ext hb13_8 e14_19
           replace hb14_21 := BoxAt.ext hb14_21 e14_19
           have := Ext.size e14_19
           replace eB := Ext.trans eB e14_19
           replace cL2 := Ext.trans cL2 e14_19
           replace cL11 := Ext.trans cL11 e14_19
           replace cJ20 := Ext.trans cJ20 e14_19
           refine plK_pres (Ext.pres e14_19) ?_
           try simp -implicitDefEqProofs (disch := first | decide | assumption | omega) only [go_sem]
           refine CallA.mono (iPls_ok  X (timesP X.p X.tab (X.dif i) (e8 j) 8) (timesP X.p X.tab (e8 i) (X.dif j) 8) (1 - (X.deg i).tmod 2 * 2) _  hpG (by first | assumption | exact e8_by _ | exact By.z8 | exact hBd _ | exact hBt _ _ | exact tmJ_by (by omega) (tmI_by (by omega) _) _ | exact timesP_by (by omega) | exact dfI_by (by omega) _ | exact plusN_by (by omega) (timesP_by (by omega)) | exact dfI_by (by omega) 8) (by first | assumption | exact e8_by _ | exact By.z8 | exact hBd _ | exact hBt _ _ | exact tmJ_by (by omega) (tmI_by (by omega) _) _ | exact timesP_by (by omega) | exact dfI_by (by omega) _ | exact plusN_by (by omega) (timesP_by (by omega)) | exact dfI_by (by omega) 8) (by omega)) ?_
           intro v_ h14_20
           rintro ⟨rfl, e14_20⟩
           replace hb0_0 := BoxAt.ext hb0_0 e14_20
           replace hb6_3 := BoxAt.ext hb6_3 e14_20
           replace hb12_3 := BoxAt.ext hb12_3 e14_20
           replace hb13_8 := BoxAt.ext hb13_8 e14_20
           replace hb14_21 := BoxAt.ext hb14_21 e14_20
           have := Ext.size e14_20
           replace eB := Ext.trans eB e14_20
           replace cL2 := Ext.trans cL2 e14_20
           replace cL11 := Ext.trans cL11 e14_20
           replace cJ20 := Ext.trans cJ20 e14_20
           refine plK_pres (Ext.pres e14_20) ?_
           try simp -implicitDefEqProofs (disch := first | decide | assumption | omega) only [go_sem]
           refine op_storeB (o := 0) (cs' := elA (plusN X.p (timesP X.p X.tab (X.dif i) (e8 j) 8) (timesP X.p X.tab (e8 i) (X.dif j) 8) (1 - (X.deg i).tmod 2 * 2) 8)) st30 hb14_21 rfl rfl (elA_sz _) (by rw [elA_sz]; decide) elA_one elA_all ?_
           intro h14_22 hb14_21 c14_22
           replace hb0_0 := BoxAt.chgA hb0_0 c14_22 (apart_lt hlhb0_0 hfhb14_21 (by omega))
           replace hb6_3 := BoxAt.chgA hb6_3 c14_22 (apart_lt hlhb6_3 hfhb14_21 (by omega))
           replace hb12_3 := BoxAt.chgA hb12_3 c14_22 (apart_lt hlhb12_3 hfhb14_21 (by omega))
           replace hb13_8 := BoxAt.chgA hb13_8 c14_22 (apart_lt hlhb13_8 hfhb14_21 (by omega))
           have := c14_22.size
           replace eB := Ext.then eB c14_22 (ge_of hfhb14_21 (by omega))
           replace cL2 := Ext.then cL2 c14_22 (ge_of hfhb14_21 (by omega))
           replace cL11 := Ext.then cL11 c14_22 (ge_of hfhb14_21 (by omega))
           replace cJ20 := Ext.then cJ20 c14_22 (ge_of hfhb14_21 (by omega))
           try simp (disch := decide) only [outv_none]
           refine plK_last (by decide) ?_
           try simp -implicitDefEqProofs (disch := first | decide | assumption | omega) only [go_sem]
           exact hK h14_7.size _ _ (by simp [HasL, puts_at]) ⟨hb14_21, (hfhb14_21.mono (by omega)), cJ20⟩
         ·simp -implicitDefEqProofs (disch := first | decide | assumption | omega) only [go_sem]
          refine op_alloc (cs := elA z8) (by kernel_rfl) ?_
          intro h14_21 e14_21 hb14_21 z14_21
          replace hb0_0 := BoxAt.ext hb0_0 e14_21
          replace hb6_3 := BoxAt.ext hb6_3 e14_21
          replace hb12_3 := BoxAt.ext hb12_3 e14_21
          replace hb13_8 := BoxAt.ext hb13_8 e14_21
          have := Ext.size e14_21
          replace eB := Ext.trans eB e14_21
          replace cL2 := Ext.trans cL2 e14_21
          replace cL11 := Ext.trans cL11 e14_21
          replace cJ20 := Ext.trans cJ20 e14_21
          have hfhb14_21 : Fresh hj16.size [hj16.size] := Fresh.one _
          have hlhb14_21 := one_lt (show hj16.size < h14_21.size by omega)
          try simp (disch := decide) only [outv_some, put_puts]
          refine plK_pres (Ext.pres e14_21) ?_
          try simp -implicitDefEqProofs (disch := first | decide | assumption | omega) only [go_sem]
          refine CallA.mono (iTms_ok  X (X.dif i) (e8 j) _  hpG (by first | assumption | exact e8_by _ | exact By.z8 | exact hBd _ | exact hBt _ _ | exact tmJ_by (by omega) (tmI_by (by omega) _) _ | exact timesP_by (by omega) | exact dfI_by (by omega) _ | exact plusN_by (by omega) (timesP_by (by omega)) | exact dfI_by (by omega) 8) (by first | assumption | exact e8_by _ | exact By.z8 | exact hBd _ | exact hBt _ _ | exact tmJ_by (by omega) (tmI_by (by omega) _) _ | exact timesP_by (by omega) | exact dfI_by (by omega) _ | exact plusN_by (by omega) (timesP_by (by omega)) | exact dfI_by (by omega) 8) hBt) ?_
          intro v_ h14_7
          rintro ⟨rfl, e14_7⟩
          replace hb0_0 := BoxAt.ext hb0_0 e14_7
          replace hb6_3 := BoxAt.ext hb6_3 e14_7
          replace hb12_3 := BoxAt.ext hb12_3 e14_7
          replace hb13_8 := BoxAt.ext hb13_8 e14_7
          replace hb14_21 := BoxAt.ext hb14_21 e14_7
          have := Ext.size e14_7
          replace eB := Ext.trans eB e14_7
          replace cL2 := Ext.trans cL2 e14_7
          replace cL11 := Ext.trans cL11 e14_7
          replace cJ20 := Ext.trans cJ20 e14_7
          refine plK_pres (Ext.pres e14_7) ?_
          try simp -implicitDefEqProofs (disch := first | decide | assumption | omega) only [go_sem]
          refine CallA.mono (iTms_ok  X (e8 i) (X.dif j) _  hpG (by first | assumption | exact e8_by _ | exact By.z8 | exact hBd _ | exact hBt _ _ | exact tmJ_by (by omega) (tmI_by (by omega) _) _ | exact timesP_by (by omega) | exact dfI_by (by omega) _ | exact plusN_by (by omega) (timesP_by (by omega)) | exact dfI_by (by omega) 8) (by first | assumption | exact e8_by _ | exact By.z8 | exact hBd _ | exact hBt _ _ | exact tmJ_by (by omega) (tmI_by (by omega) _) _ | exact timesP_by (by omega) | exact dfI_by (by omega) _ | exact plusN_by (by omega) (timesP_by (by omega)) | exact dfI_by (by omega) 8) hBt) ?_
          intro v_ h14_14
          rintro ⟨rfl, e14_14⟩
          replace hb0_0 := BoxAt.ext hb0_0 e14_14
          replace hb6_3 := BoxAt.ext hb6_3 e14_14
          replace hb12_3 := BoxAt.ext hb12_3 e14_14
          replace hb13_8 := BoxAt.ext hb13_8 e14_14
          replace hb14_21 := BoxAt.ext hb14_21 e14_14
          have := Ext.size e14_14
          replace eB := Ext.trans eB e14_14
          replace cL2 := Ext.trans cL2 e14_14
          replace cL11 := Ext.trans cL11 e14_14
          replace cJ20 := Ext.trans cJ20 e14_14
          refine plK_pres (Ext.pres e14_14) ?_
          try simp -implicitDefEqProofs (disch := first | decide | assumption | omega) only [go_sem]
          refine CallA.mono (iSign_ok  (X.deg i) _  (by omega)) ?_
          intro v_ h14_19
          rintro ⟨rfl, e14_19⟩
          replace hb0_0 := BoxAt.ext hb0_0 e14_19
          replace hb6_3 := BoxAt.ext hb6_3 e14_19
          replace hb12_3 := BoxAt.ext hb12_3 e14_19
          replace hb13_8 := BoxAt.ext hb13_8 e14_19
          replace hb14_21 := BoxAt.ext hb14_21 e14_19
          have := Ext.size e14_19
          replace eB := Ext.trans eB e14_19
          replace cL2 := Ext.trans cL2 e14_19
          replace cL11 := Ext.trans cL11 e14_19
          replace cJ20 := Ext.trans cJ20 e14_19
          refine plK_pres (Ext.pres e14_19) ?_
          try simp -implicitDefEqProofs (disch := first | decide | assumption | omega) only [go_sem]
          refine CallA.mono (iPls_ok  X (timesP X.p X.tab (X.dif i) (e8 j) 8) (timesP X.p X.tab (e8 i) (X.dif j) 8) (1 - (X.deg i).tmod 2 * 2) _  hpG (by first | assumption | exact e8_by _ | exact By.z8 | exact hBd _ | exact hBt _ _ | exact tmJ_by (by omega) (tmI_by (by omega) _) _ | exact timesP_by (by omega) | exact dfI_by (by omega) _ | exact plusN_by (by omega) (timesP_by (by omega)) | exact dfI_by (by omega) 8) (by first | assumption | exact e8_by _ | exact By.z8 | exact hBd _ | exact hBt _ _ | exact tmJ_by (by omega) (tmI_by (by omega) _) _ | exact timesP_by (by omega) | exact dfI_by (by omega) _ | exact plusN_by (by omega) (timesP_by (by omega)) | exact dfI_by (by omega) 8) (by omega)) ?_
          intro v_ h14_20
          rintro ⟨rfl, e14_20⟩
          replace hb0_0 := BoxAt.ext hb0_0 e14_20
          replace hb6_3 := BoxAt.ext hb6_3 e14_20
          replace hb12_3 := BoxAt.ext hb12_3 e14_20
          replace hb13_8 := BoxAt.ext hb13_8 e14_20
          replace hb14_21 := BoxAt.ext hb14_21 e14_20
          have := Ext.size e14_20
          replace eB := Ext.trans eB e14_20
          replace cL2 := Ext.trans cL2 e14_20
          replace cL11 := Ext.trans cL11 e14_20
          replace cJ20 := Ext.trans cJ20 e14_20
          refine plK_pres (Ext.pres e14_20) ?_
          try simp -implicitDefEqProofs (disch := first | decide | assumption | omega) only [go_sem]
          refine op_storeB (o := 0) (cs' := elA (plusN X.p (timesP X.p X.tab (X.dif i) (e8 j) 8) (timesP X.p X.tab (e8 i) (X.dif j) 8) (1 - (X.deg i).tmod 2 * 2) 8)) st30 hb14_21 rfl rfl (elA_sz _) (by rw [elA_sz]; decide) elA_one elA_all ?_
          intro h14_22 hb14_21 c14_22
          replace hb0_0 := BoxAt.chgA hb0_0 c14_22 (apart_lt hlhb0_0 hfhb14_21 (by omega))
          replace hb6_3 := BoxAt.chgA hb6_3 c14_22 (apart_lt hlhb6_3 hfhb14_21 (by omega))
          replace hb12_3 := BoxAt.chgA hb12_3 c14_22 (apart_lt hlhb12_3 hfhb14_21 (by omega))
          replace hb13_8 := BoxAt.chgA hb13_8 c14_22 (apart_lt hlhb13_8 hfhb14_21 (by omega))
          have := c14_22.size
          replace eB := Ext.then eB c14_22 (ge_of hfhb14_21 (by omega))
          replace cL2 := Ext.then cL2 c14_22 (ge_of hfhb14_21 (by omega))
          replace cL11 := Ext.then cL11 c14_22 (ge_of hfhb14_21 (by omega))
          replace cJ20 := Ext.then cJ20 c14_22 (ge_of hfhb14_21 (by omega))
          try simp (disch := decide) only [outv_none]
          refine plK_last (by decide) ?_
          try simp -implicitDefEqProofs (disch := first | decide | assumption | omega) only [go_sem]
          exact hK hj16.size _ _ (by simp [HasL, puts_at]) ⟨hb14_21, (hfhb14_21.mono (by omega)), cJ20⟩
        ·rintro bJhb14_21 hj21 ee23 ⟨hb14_21, hfhb14_21, eJ22⟩
         replace hb0_0 := BoxAt.ext hb0_0 eJ22
         replace hb6_3 := BoxAt.ext hb6_3 eJ22
         replace hb12_3 := BoxAt.ext hb12_3 eJ22
         replace hb13_8 := BoxAt.ext hb13_8 eJ22
         have := Ext.size eJ22
         replace eB := Ext.trans eB eJ22
         replace cL2 := Ext.trans cL2 eJ22
         replace cL11 := Ext.trans cL11 eJ22
         have hlhb14_21 := one_lt hb14_21.lt
         simp only [List.cons_append, List.nil_append]
         refine den_seq ?_
         refine den_seq ?_
         refine den_region TTok ?_
         intro K hK
         simp -implicitDefEqProofs (disch := first | decide | assumption | omega) only [go_sem, BoxAt.elL hb13_8, BoxAt.elL hb14_21, ne_el]
         refine hK _ _ ?_
         clear hK K
         refine den_cond rfl (fun c4 => ?_) (fun c4 => ?_)
         ·try simp only [Bool.not_eq_true'] at c4
          refine den_seq ?_
          refine den_region TTok ?_
          intro K hK
          simp -implicitDefEqProofs (disch := first | decide | assumption | omega) only [go_sem]
          refine hK _ _ ?_
          clear hK K
          refine den_ret ?_
          simp (disch := decide) only [resP_1, puts_same]
          exact ⟨vbool (dgB_n (fun hh => by have h1 := hh.lb i (by omega) j (by omega); unfold LbF at h1; rw [h1] at c4; cases c4)), eB⟩
         ·try simp only [Bool.not_eq_false'] at c4
          refine den_skip ?_
          refine den_seq ?_
          refine den_region TTok ?_
          intro K hK
          simp -implicitDefEqProofs (disch := first | decide | assumption | omega) only [go_sem, fa34_1, ld2, BoxAt.dgS hb0_0, Nat.zero_add]
          refine hK _ _ ?_
          clear hK K
          refine den_block ?_
          refine den_sel [89, 1, 3, 4, 5, 14, 15, 48, 49, 88] ?_
          intro env_24
          simp only [go_sem]
          refine den_loopS (σ := Nat) (fun st_ => [(89, .int .i64 (st_ : Int))]) (fun st_ H => ((st_ : Int) ≤ X.s) ∧ (∀ m : Nat, m < st_ → AsF X i j m) ∧ (Ext hj21 H)) (fun st_ => X.s.toNat - st_) 0 ?_ ?_
          ·exact ⟨by omega, fun b h => by omega, Ext.refl _⟩
          ·rintro k h27 ee26 ⟨hk, hzk, cL25⟩
           replace hb0_0 := BoxAt.ext hb0_0 cL25
           replace hb6_3 := BoxAt.ext hb6_3 cL25
           have := Ext.size cL25
           replace eB := Ext.trans eB cL25
           replace cL2 := Ext.trans cL2 cL25
           replace cL11 := Ext.trans cL11 cL25
           simp only [List.cons_append, List.nil_append]
           refine den_seq ?_
           refine den_region TTok ?_
           intro K hK
           simp -implicitDefEqProofs (disch := first | decide | assumption | omega) only [go_sem]
           refine hK _ _ ?_
           clear hK K
           refine den_seq ?_
           refine den_cond rfl (fun c5 => ?_) (fun c5 => ?_)
           ·try simp only [decide_eq_true_eq] at c5
            refine den_skip ?_
            refine den_seq ?_
            refine den_block ?_
            refine den_seq ?_
            refine den_region TTok ?_
            intro K hK
            simp -implicitDefEqProofs (disch := first | decide | assumption | omega) only [go_sem]
            refine hK _ _ ?_
            clear hK K
            refine den_seq ?_
            refine den_draw TTok mixed [] [(0, true), (1, true), (2, true), (3, true), (4, true), (5, true), (6, true), (7, true), (8, true), (11, true), (12, true), (13, true), (14, true), (15, true), (16, true), (17, true), (18, true), (9, false), (10, false), (19, false), (20, true)] (by kernel_rfl) ?_
            intro K hK
            simp -implicitDefEqProofs (disch := first | decide | assumption | omega) only [go_sem, fa34_5, ia32, ia31, BoxAt.dgL hb0_0, BoxAt.dgTabL hb0_0, BoxAt.elL hb6_3, Nat.zero_add]
            refine CallA.mono (iBas_ok  X (k : Int) _  (by omega)) ?_
            intro v_ h20_9
            rintro ⟨rfl, e20_9⟩
            replace hb0_0 := BoxAt.ext hb0_0 e20_9
            replace hb6_3 := BoxAt.ext hb6_3 e20_9
            have := Ext.size e20_9
            replace eB := Ext.trans eB e20_9
            replace cL2 := Ext.trans cL2 e20_9
            replace cL11 := Ext.trans cL11 e20_9
            replace cL25 := Ext.trans cL25 e20_9
            refine plK_pres (Ext.pres e20_9) ?_
            try simp -implicitDefEqProofs (disch := first | decide | assumption | omega) only [go_sem]
            refine CallA.mono (iTms_ok  X ((X.tab i) j) (e8 k) _  hpG (by first | assumption | exact e8_by _ | exact By.z8 | exact hBd _ | exact hBt _ _ | exact tmJ_by (by omega) (tmI_by (by omega) _) _ | exact timesP_by (by omega) | exact dfI_by (by omega) _ | exact plusN_by (by omega) (timesP_by (by omega)) | exact dfI_by (by omega) 8) (by first | assumption | exact e8_by _ | exact By.z8 | exact hBd _ | exact hBt _ _ | exact tmJ_by (by omega) (tmI_by (by omega) _) _ | exact timesP_by (by omega) | exact dfI_by (by omega) _ | exact plusN_by (by omega) (timesP_by (by omega)) | exact dfI_by (by omega) 8) hBt) ?_
            intro v_ h20_10
            rintro ⟨rfl, e20_10⟩
            replace hb0_0 := BoxAt.ext hb0_0 e20_10
            replace hb6_3 := BoxAt.ext hb6_3 e20_10
            have := Ext.size e20_10
            replace eB := Ext.trans eB e20_10
            replace cL2 := Ext.trans cL2 e20_10
            replace cL11 := Ext.trans cL11 e20_10
            replace cL25 := Ext.trans cL25 e20_10
            refine plK_pres (Ext.pres e20_10) ?_
            try simp -implicitDefEqProofs (disch := first | decide | assumption | omega) only [go_sem]
            refine CallA.mono (iTms_ok  X (e8 i) ((X.tab j) k) _  hpG (by first | assumption | exact e8_by _ | exact By.z8 | exact hBd _ | exact hBt _ _ | exact tmJ_by (by omega) (tmI_by (by omega) _) _ | exact timesP_by (by omega) | exact dfI_by (by omega) _ | exact plusN_by (by omega) (timesP_by (by omega)) | exact dfI_by (by omega) 8) (by first | assumption | exact e8_by _ | exact By.z8 | exact hBd _ | exact hBt _ _ | exact tmJ_by (by omega) (tmI_by (by omega) _) _ | exact timesP_by (by omega) | exact dfI_by (by omega) _ | exact plusN_by (by omega) (timesP_by (by omega)) | exact dfI_by (by omega) 8) hBt) ?_
            intro v_ h20_19
            rintro ⟨rfl, e20_19⟩
            replace hb0_0 := BoxAt.ext hb0_0 e20_19
            replace hb6_3 := BoxAt.ext hb6_3 e20_19
            have := Ext.size e20_19
            replace eB := Ext.trans eB e20_19
            replace cL2 := Ext.trans cL2 e20_19
            replace cL11 := Ext.trans cL11 e20_19
            replace cL25 := Ext.trans cL25 e20_19
            refine plK_pres (Ext.pres e20_19) ?_
            try simp -implicitDefEqProofs (disch := first | decide | assumption | omega) only [go_sem, ne_el]
            refine hK _ _ ?_
            clear hK K
            refine den_cond rfl (fun c6 => ?_) (fun c6 => ?_)
            ·try simp only [Bool.not_eq_true'] at c6
             refine den_seq ?_
             refine den_region TTok ?_
             intro K hK
             simp -implicitDefEqProofs (disch := first | decide | assumption | omega) only [go_sem]
             refine hK _ _ ?_
             clear hK K
             refine den_ret ?_
             simp (disch := decide) only [resP_1, puts_same]
             exact ⟨vbool (dgB_n (fun hh => by have h1 := hh.ac i (by omega) j (by omega) k (by omega); have h2 := c6; unfold AsF at h1; rw [h1] at h2; cases h2)), eB⟩
            ·try simp only [Bool.not_eq_false'] at c6
             refine den_skip ?_
             refine den_blk ?_
             refine den_region TTok ?_
             intro K hK
             simp -implicitDefEqProofs (disch := first | decide | assumption | omega) only [go_sem, wrap_id]
             refine hK _ _ ?_
             clear hK K
             refine den_stop ?_
             exact ⟨k + 1, by simp [HasL, puts_at], ⟨by first | omega | (dsimp only; omega), fun m hm => by
 by_cases hab : m < k
 ·exact hzk m hab
 ·have e : m = k := by omega
  subst e
  exact c6, cL25⟩, by first | omega | (dsimp only; omega)⟩
           ·try simp only [decide_eq_false_iff_not] at c5
            refine den_exit ?_
            refine denX_code ?_
            refine denX_stop ?_
            refine denX_hit ?_
            refine den_blk ?_
            refine den_region TTok ?_
            intro K hK
            simp -implicitDefEqProofs (disch := first | decide | assumption | omega) only [go_sem, wrap_id]
            refine hK _ _ ?_
            clear hK K
            refine den_stop ?_
            exact ⟨j + 1, by simp [puts_at], ⟨by first | omega | (dsimp only; omega), fun b hb => by
 by_cases hab : b < j
 ·exact hzj b hab
 ·have e : b = j := by omega
  subst e
  exact ⟨c4, fun k hk => hzk k (by omega)⟩, cL11⟩, by first | omega | (dsimp only; omega)⟩
      ·try simp only [decide_eq_false_iff_not] at c3
       refine den_exit ?_
       refine denX_code ?_
       refine denX_stop ?_
       refine denX_hit ?_
       refine den_blk ?_
       refine den_region TTok ?_
       intro K hK
       simp -implicitDefEqProofs (disch := first | decide | assumption | omega) only [go_sem, wrap_id]
       refine hK _ _ ?_
       clear hK K
       refine den_stop ?_
       exact ⟨i + 1, by simp [puts_at], ⟨by first | omega | (dsimp only; omega), fun a ha => by
 by_cases hai : a < i
 ·exact hz a hai
 ·have e : a = i := by omega
  subst e
  exact ⟨⟨c2.1.1, c2.1.2, c2.2⟩, fun b hb => hzj b (by omega)⟩, cL2⟩, by first | omega | (dsimp only; omega)⟩
   ·try simp only [decide_eq_false_iff_not] at c1
    refine den_exit ?_
    refine denX_code ?_
    refine denX_stop ?_
    refine denX_hit ?_
    refine den_seq ?_
    refine den_region TTok ?_
    intro K hK
    simp -implicitDefEqProofs (disch := first | decide | assumption | omega) only [go_sem]
    refine hK _ _ ?_
    clear hK K
    refine den_ret ?_
    simp (disch := decide) only [resP_1, puts_same]
    exact ⟨vbool (dgB_y ⟨fmB_t.1 c0, fun i hi => (hz i (by omega)).1, fun i hi j hj => ((hz i (by omega)).2 j hj).1, fun i hi j hj k hk => ((hz i (by omega)).2 j hj).2 k hk⟩), eB⟩
end Go.Proofs.Ytacajcjibhifmaa

namespace Go.Proofs.Ytacajcjibhifmaa
open Go
theorem e8_lt {p : Int} (h : 2 ≤ p) (i : Nat) : ∀ k, k < 8 → e8 i k < p := fun k _ => by unfold e8 upd z8; split <;> omega
theorem e8_el {p s : Int} {i : Nat} (h : 2 ≤ p) (hi : (i : Int) < s) : isEl p s (e8 i) := fun k hk => ⟨e8_lt h i k hk, fun hs => by unfold e8 upd z8; rw [if_neg (by omega)]⟩
section
variable {p : Int} {tab : Nat → Nat → Nat → Int} {u v : Nat → Int}
theorem tmJ_cut {i : Nat} {o : Nat → Int} {m : Nat} : ∀ n, (∀ j, m ≤ j → j < m + n → v j = 0) → tmJ p tab u v i o (m + n) = tmJ p tab u v i o m
 | 0, _ => rfl
 | n + 1, h => by
  rw [← Nat.add_assoc, tmJ, if_neg (fun k => k.2 (h (m + n) (by omega) (by omega))), tmJ_cut n (fun j h1 h2 => h j h1 (by omega))]
theorem tmJ_zero {i : Nat} {o : Nat → Int} (h : u i = 0) : ∀ n, tmJ p tab u v i o n = o
 | 0 => rfl
 | n + 1 => by rw [tmJ, if_neg (fun k => k.1 h), tmJ_zero h n]
theorem tmI_cutJ {m n : Nat} (h : ∀ j, m ≤ j → j < m + n → v j = 0) : ∀ i, tmI p tab u v (m + n) i = tmI p tab u v m i
 | 0 => rfl
 | i + 1 => by rw [tmI, tmI, tmJ_cut n h, tmI_cutJ h i]
theorem tmI_cutI {q m : Nat} : ∀ n, (∀ j, m ≤ j → j < m + n → u j = 0) → tmI p tab u v q (m + n) = tmI p tab u v q m
 | 0, _ => rfl
 | n + 1, h => by rw [← Nat.add_assoc, tmI, tmJ_zero (h (m + n) (by omega) (by omega)), tmI_cutI n (fun j h1 h2 => h j h1 (by omega))]
theorem times_s {s : Int} (hs : 0 ≤ s ∧ s ≤ 8) (hu : isEl p s u) (hv : isEl p s v) : timesP p tab u v 8 = timesP p tab u v s.toNat := by
 unfold timesP
 obtain ⟨n, hn⟩ : ∃ n, 8 = s.toNat + n := ⟨8 - s.toNat, by omega⟩
 have h1 := tmI_cutJ (p := p) (tab := tab) (u := u) (v := v) (m := s.toNat) (n := n) (fun j h1 h2 => (hv j (by omega)).2 (by omega)) 8
 have h2 := tmI_cutI (p := p) (tab := tab) (u := u) (v := v) (q := s.toNat) (m := s.toNat) n (fun j h1 h2 => (hu j (by omega)).2 (by omega))
 rw [← hn] at h1 h2
 rw [h1, h2]
theorem plusN_nil {o w : Nat → Int} (h : ∀ k, k < 8 → 0 ≤ o k ∧ o k < p) : plusN p o w 0 8 = o := by
 funext k
 unfold plusN
 split
 ·rename_i hk
  rw [Int.zero_mul, Int.add_zero, Int.emod_eq_of_lt (h k hk).1 (h k hk).2]
 ·rfl
theorem plusN_red {o w : Nat → Int} {c : Int} (hp : 0 < p) : ∀ k, k < 8 → 0 ≤ plusN p o w c 8 k ∧ plusN p o w c 8 k < p := fun k hk => by
 unfold plusN
 rw [if_pos hk]
 exact ⟨Int.emod_nonneg _ (by omega), Int.emod_lt_of_pos _ hp⟩
theorem dfI_red {dif : Nat → Nat → Int} (hp : 0 < p) : ∀ i, ∀ k, k < 8 → 0 ≤ dfI p dif u i k ∧ dfI p dif u i k < p
 | 0, k, _ => ⟨Int.le_refl _, hp⟩
 | i + 1, k, hk => plusN_red hp k hk
theorem dfI_cut {dif : Nat → Nat → Int} {m : Nat} (hp : 0 < p) : ∀ n, (∀ j, m ≤ j → j < m + n → u j = 0) → dfI p dif u (m + n) = dfI p dif u m
 | 0, _ => rfl
 | n + 1, h => by rw [← Nat.add_assoc, dfI, h (m + n) (by omega) (by omega), plusN_nil (dfI_red hp _), dfI_cut hp n (fun j h1 h2 => h j h1 (by omega))]
theorem df_s {dif : Nat → Nat → Int} {s : Int} (hp : 0 < p) (hs : 0 ≤ s ∧ s ≤ 8) (hu : isEl p s u) : dfI p dif u 8 = dfI p dif u s.toNat := by
 obtain ⟨n, hn⟩ : ∃ n, 8 = s.toNat + n := ⟨8 - s.toNat, by omega⟩
 have h2 := dfI_cut (p := p) (dif := dif) (u := u) (m := s.toNat) hp n (fun j h1 h2 => (hu j (by omega)).2 (by omega))
 rw [← hn] at h2
 exact h2
theorem tmJ_e8 {a b i : Nat} {o : Nat → Int} : ∀ n, tmJ p tab (e8 a) (e8 b) i o n = if i = a ∧ b < n then plusN p o (tab a b) (1 * 1) 8 else o
 | 0 => by rw [if_neg (by omega)]; rfl
 | n + 1 => by
  rw [tmJ, tmJ_e8 n]
  by_cases hi : i = a
  ·subst hi
   by_cases hb : n = b
   ·subst hb
    rw [if_pos ⟨by simp [e8, upd], by simp [e8, upd]⟩, if_neg (by omega), if_pos (by omega)]
    simp [e8, upd]
   ·rw [if_neg (fun k => k.2 (by simp [e8, upd, z8, hb]))]
    by_cases h2 : b < n
    ·rw [if_pos ⟨rfl, h2⟩, if_pos ⟨rfl, by omega⟩]
    ·rw [if_neg (by omega), if_neg (by omega)]
  ·rw [if_neg (fun k => k.1 (by simp [e8, upd, z8, hi])), if_neg (fun k => hi k.1), if_neg (fun k => hi k.1)]
theorem tmI_e8 {a b m : Nat} (hb : b < m) : ∀ n, tmI p tab (e8 a) (e8 b) m n = if a < n then plusN p z8 (tab a b) (1 * 1) 8 else z8
 | 0 => rfl
 | n + 1 => by
  rw [tmI, tmJ_e8, tmI_e8 hb n]
  by_cases h : n = a
  ·subst h
   rw [if_pos ⟨rfl, hb⟩, if_neg (by omega), if_pos (by omega)]
  ·rw [if_neg (fun k => h k.1)]
   by_cases h2 : a < n
   ·rw [if_pos h2, if_pos (by omega)]
   ·rw [if_neg h2, if_neg (by omega)]
theorem times_e8 {a b : Nat} (ha : a < 8) (hb : b < 8) (hw : ∀ k, k < 8 → 0 ≤ tab a b k ∧ tab a b k < p) {w : Nat → Int} : eqE (timesP p tab (e8 a) (e8 b) 8) w = eqE (tab a b) w := by
 rw [timesP, tmI_e8 hb, if_pos ha, Bool.eq_iff_iff, eqE_iff, eqE_iff]
 have e : ∀ k, k < 8 → plusN p z8 (tab a b) (1 * 1) 8 k = tab a b k := fun k hk => by
  unfold plusN
  rw [if_pos hk]
  show (0 + 1 * 1 * tab a b k) % p = _
  rw [Int.zero_add, Int.one_mul, Int.one_mul, Int.emod_eq_of_lt (hw k hk).1 (hw k hk).2]
 exact ⟨fun h k hk => by rw [← e k hk]; exact h k hk, fun h k hk => by rw [e k hk]; exact h k hk⟩
end
section
variable {X : Dg} (hB : DgB X) (hf : IsFm X)
include hB hf
theorem un_sp {i : Nat} (hi : (i : Int) < X.s) : UnF X i ↔ (eqE (X.tab 0 i) (e8 i) = true ∧ eqE (X.tab i 0) (e8 i) = true) ∧ eqE (dfI X.p X.dif (X.dif i) X.s.toNat) z8 = true := by
 have hs := hf.s
 have hp := isP_bnd hf.p
 unfold UnF
 rw [times_e8 (a := 0) (b := i) (by omega) (by omega) (fun k hk => ⟨(hB.tab 0 i k).1, ((hf.cell 0 (by omega) i (by omega)).el k hk).1⟩), times_e8 (a := i) (b := 0) (by omega) (by omega) (fun k hk => ⟨(hB.tab i 0 k).1, ((hf.cell i (by omega) 0 (by omega)).el k hk).1⟩), df_s hp.1 (by omega) (hf.row i (by omega)).el, and_assoc]
theorem lb_sp {i j : Nat} (hi : (i : Int) < X.s) (hj : (j : Int) < X.s) : LbF X i j ↔ eqE (dfI X.p X.dif (X.tab i j) X.s.toNat) (plusN X.p (timesP X.p X.tab (X.dif i) (e8 j) X.s.toNat) (timesP X.p X.tab (e8 i) (X.dif j) X.s.toNat) (1 - 2 * (X.deg i).tmod 2) 8) = true := by
 have _ := hB
 have hs := hf.s
 have hp := isP_two hf.p
 unfold LbF
 rw [df_s (by omega) (by omega) (hf.cell i (by omega) j (by omega)).el, times_s (by omega) (hf.row i (by omega)).el (e8_el hp.1 hj), times_s (by omega) (e8_el hp.1 hi) (hf.row j (by omega)).el, Int.mul_comm 2]
theorem ac_sp {i j k : Nat} (hi : (i : Int) < X.s) (hj : (j : Int) < X.s) (hk : (k : Int) < X.s) : AsF X i j k ↔ eqE (timesP X.p X.tab (X.tab i j) (e8 k) X.s.toNat) (timesP X.p X.tab (e8 i) (X.tab j k) X.s.toNat) = true := by
 have _ := hB
 have hs := hf.s
 have hp := isP_two hf.p
 unfold AsF
 rw [times_s (by omega) (hf.cell i (by omega) j (by omega)).el (e8_el hp.1 hk), times_s (by omega) (e8_el hp.1 hi) (hf.cell j (by omega) k (by omega)).el]
theorem un_nos {i : Nat} (hi : (i : Int) < X.s) (h : UnF X i) (c : (eqE (X.tab 0 i) (e8 i) = false ∨ eqE (X.tab i 0) (e8 i) = false) ∨ eqE (dfI X.p X.dif (X.dif i) X.s.toNat) z8 = false) : False := by
 obtain ⟨⟨h1, h2⟩, h3⟩ := (un_sp hB hf hi).1 h
 rcases c with (c | c) | c
 ·rw [h1] at c; cases c
 ·rw [h2] at c; cases c
 ·rw [h3] at c; cases c
theorem lb_nos {i j : Nat} (hi : (i : Int) < X.s) (hj : (j : Int) < X.s) (h : LbF X i j) (c : eqE (dfI X.p X.dif (X.tab i j) X.s.toNat) (plusN X.p (timesP X.p X.tab (X.dif i) (e8 j) X.s.toNat) (timesP X.p X.tab (e8 i) (X.dif j) X.s.toNat) (1 - 2 * (X.deg i).tmod 2) 8) = false) : False := by
 rw [(lb_sp hB hf hi hj).1 h] at c; cases c
theorem ac_nos {i j k : Nat} (hi : (i : Int) < X.s) (hj : (j : Int) < X.s) (hk : (k : Int) < X.s) (h : AsF X i j k) (c : eqE (timesP X.p X.tab (X.tab i j) (e8 k) X.s.toNat) (timesP X.p X.tab (e8 i) (X.tab j k) X.s.toNat) = false) : False := by
 rw [(ac_sp hB hf hi hj hk).1 h] at c; cases c
end

set_option maxRecDepth 100000 in
set_option maxHeartbeats 4000000 in
theorem sDg_ok (X : Dg) (h : Heap)  (hB : DgB X) : CallA Try.prog 54 #[.agg (dgA X)] h fun v' h' => v' = .bool (dgB X) ∧ Ext h h' := by
 have hBd := hB.dif
 have hBt := hB.tab
 refine callA_intro TTok (args := [_]) Try.func54 (by kernel_rfl) rfl 114 rfl (by simp) [.tmp 2] rfl ?_
 simp only [idxs]
 refine den_seq ?_
 refine den_region TTok ?_
 intro K hK
 simp -implicitDefEqProofs (disch := first | decide | assumption | omega) only [go_sem]
 refine op_box (cs := dgA X) rfl ?_
 intro h0_0 e0_0 hb0_0 z0_0
 have := Ext.size e0_0
 have eB := e0_0
 have hfhb0_0 : Fresh h.size [h.size] := Fresh.one _
 have hlhb0_0 := one_lt (show h.size < h0_0.size by omega)
 try simp -implicitDefEqProofs (disch := first | decide | assumption | omega) only [go_sem]
 refine hK _ _ ?_
 clear hK K
 refine den_seq ?_
 refine den_seq ?_
 refine den_region TTok ?_
 intro K hK
 simp -implicitDefEqProofs (disch := first | decide | assumption | omega) only [go_sem, BoxAt.dgL hb0_0]
 refine CallA.mono (sFm_ok  X _  hB) ?_
 intro v_ h1_1
 rintro ⟨rfl, e1_1⟩
 replace hb0_0 := BoxAt.ext hb0_0 e1_1
 have := Ext.size e1_1
 replace eB := Ext.trans eB e1_1
 try simp -implicitDefEqProofs (disch := first | decide | assumption | omega) only [go_sem]
 refine hK _ _ ?_
 clear hK K
 refine den_cond rfl (fun c0 => ?_) (fun c0 => ?_)
 ·try simp only [Bool.not_eq_true'] at c0
  refine den_seq ?_
  refine den_region TTok ?_
  intro K hK
  simp -implicitDefEqProofs (disch := first | decide | assumption | omega) only [go_sem]
  refine hK _ _ ?_
  clear hK K
  refine den_ret ?_
  simp (disch := decide) only [resP_1, puts_same]
  exact ⟨vbool (dgB_n (fun hh => by rw [fmB_t.2 hh.fm] at c0; cases c0)), eB⟩
 ·try simp only [Bool.not_eq_false'] at c0
  have hfm := fmB_t.1 c0
  have hs8 := hfm.s
  have hpb := isP_bnd hfm.p
  have hpG : 0 < X.p ∧ X.p ≤ 7 := ⟨by omega, by omega⟩
  have hp2 := (isP_two hfm.p).1
  have hB7 : ∀ i, i < 8 → ∀ k, k < 8 → X.dif i k < X.p := fun i hi k hk => ((hfm.row i hi).el k hk).1
  have hB8 : ∀ i j, i < 8 → j < 8 → ∀ k, k < 8 → X.tab i j k < X.p := fun i j hi hj k hk => ((hfm.cell i hi j hj).el k hk).1
  refine den_skip ?_
  refine den_seq ?_
  refine den_seq ?_
  refine den_region TTok ?_
  intro K hK
  simp -implicitDefEqProofs (disch := first | decide | assumption | omega) only [go_sem]
  refine hK _ _ ?_
  clear hK K
  refine den_block ?_
  refine den_sel [3, 1] ?_
  intro env_1
  simp only [go_sem]
  refine den_loopS (σ := Nat) (fun st_ => [(3, .int .i64 (st_ : Int))]) (fun st_ H => ((st_ : Int) ≤ X.s) ∧ (∀ a : Nat, a < st_ → UnF X a ∧ ∀ b : Nat, (b : Int) < X.s → LbF X a b ∧ ∀ k : Nat, (k : Int) < X.s → AsF X a b k) ∧ (Ext h1_1 H)) (fun st_ => X.s.toNat - st_) 0 ?_ ?_
  ·exact ⟨by omega, fun a h => by omega, Ext.refl _⟩
  ·rintro i h4 ee3 ⟨hi, hz, cL2⟩
   replace hb0_0 := BoxAt.ext hb0_0 cL2
   have := Ext.size cL2
   replace eB := Ext.trans eB cL2
   simp only [List.cons_append, List.nil_append]
   refine den_seq ?_
   refine den_seq ?_
   refine den_region TTok ?_
   intro K hK
   simp -implicitDefEqProofs (disch := first | decide | assumption | omega) only [go_sem, fa34_1, ld2, BoxAt.dgS hb0_0, Nat.zero_add]
   refine hK _ _ ?_
   clear hK K
   refine den_cond rfl (fun c1 => ?_) (fun c1 => ?_)
   ·try simp only [decide_eq_true_eq] at c1
    refine den_skip ?_
    refine den_seq ?_
    refine den_block ?_
    refine den_seq ?_
    have hdr := (hfm.row i (by omega)).deg
    have hsg := tmod_in (p := 2) (x := X.deg i) (by decide)
    refine den_sel [1, 3] ?_
    intro env_5
    simp only [go_sem]
    refine den_drawTJ (σ := Nat) TTok (fun st_ => [(4, .pointer (some ⟨st_, 0, none⟩)), (5, .int .i64 (((1 : Int) - ((2 : Int) * (Int.tmod (X.deg i) (2 : Int))))))]) (fun st_ H => (BoxAt H st_ (elA (e8 i)) 30) ∧ (Fresh h4.size [st_]) ∧ (Ext h4 H)) mixed [10] [(0, true), (2, true), (3, true), (4, true)] (.fork3 1 [] (.fork 5 [(6, true), (7, true), (8, true), (9, false), (10, false), (11, true)] .fin 9 [] (.fork 5 [(6, true), (7, true), (8, true), (10, false), (11, true)] .fin 10 [(5, true), (6, true), (7, true), (8, true), (11, true)] .fin)) 5 [(6, true), (7, true), (8, true)] (.fork 1 [(9, false), (10, false), (11, true)] .fin 9 [(1, false), (10, false), (11, true)] .fin) 9 [] (.fork 1 [] (.fork 5 [(6, true), (7, true), (8, true), (10, false), (11, true)] .fin 10 [(5, true), (6, true), (7, true), (8, true), (11, true)] .fin) 5 [(6, true), (7, true), (8, true), (1, false), (10, false), (11, true)] .fin)) (by kernel_rfl) ?_ ?_
    ·intro K hK
     have cJ6 := Ext.refl h4
     simp -implicitDefEqProofs (disch := first | decide | assumption | omega) only [go_sem, fa34_2, ia22, Nat.zero_add]
     refine And.intro ?_ (And.intro ?_ ?_)
     ·simp -implicitDefEqProofs (disch := first | decide | assumption | omega) only [go_sem]
      refine CallA.mono (sUni_ok  (i : Int) _  (by omega)) ?_
      intro v_ h6_1
      rintro ⟨rfl, e6_1⟩
      replace hb0_0 := BoxAt.ext hb0_0 e6_1
      have := Ext.size e6_1
      replace eB := Ext.trans eB e6_1
      replace cL2 := Ext.trans cL2 e6_1
      replace cJ6 := Ext.trans cJ6 e6_1
      refine plK_pres (Ext.pres e6_1) ?_
      try simp -implicitDefEqProofs (disch := first | decide | assumption | omega) only [go_sem]
      refine And.intro ?_ ?_
      ·simp -implicitDefEqProofs (disch := first | decide | assumption | omega) only [go_sem, ld2, BoxAt.dgDeg hb0_0, wrap_id]
       refine op_alloc (cs := elA z8) (by kernel_rfl) ?_
       intro h6_9 e6_9 hb6_9 z6_9
       replace hb0_0 := BoxAt.ext hb0_0 e6_9
       have := Ext.size e6_9
       replace eB := Ext.trans eB e6_9
       replace cL2 := Ext.trans cL2 e6_9
       replace cJ6 := Ext.trans cJ6 e6_9
       have hfhb6_9 : Fresh h6_1.size [h6_1.size] := Fresh.one _
       have hlhb6_9 := one_lt (show h6_1.size < h6_9.size by omega)
       try simp (disch := decide) only [outv_some, put_puts]
       refine plK_pres (Ext.pres e6_9) ?_
       try simp -implicitDefEqProofs (disch := first | decide | assumption | omega) only [go_sem]
       refine op_storeB (o := 0) (cs' := elA (e8 i)) st30 hb6_9 rfl rfl (elA_sz _) (by rw [elA_sz]; decide) elA_one elA_all ?_
       intro h6_10 hb6_9 c6_10
       replace hb0_0 := BoxAt.chgA hb0_0 c6_10 (apart_lt hlhb0_0 hfhb6_9 (by omega))
       have := c6_10.size
       replace eB := Ext.then eB c6_10 (ge_of hfhb6_9 (by omega))
       replace cL2 := Ext.then cL2 c6_10 (ge_of hfhb6_9 (by omega))
       replace cJ6 := Ext.then cJ6 c6_10 (ge_of hfhb6_9 (by omega))
       try simp (disch := decide) only [outv_none]
       refine plK_last (by decide) ?_
       try simp -implicitDefEqProofs (disch := first | decide | assumption | omega) only [go_sem]
       exact hK h6_1.size _ _ (by simp [HasL, puts_at]) ⟨hb6_9, (hfhb6_9.mono (by omega)), cJ6⟩
      ·simp -implicitDefEqProofs (disch := first | decide | assumption | omega) only [go_sem]
       refine op_alloc (cs := elA z8) (by kernel_rfl) ?_
       intro h6_9 e6_9 hb6_9 z6_9
       replace hb0_0 := BoxAt.ext hb0_0 e6_9
       have := Ext.size e6_9
       replace eB := Ext.trans eB e6_9
       replace cL2 := Ext.trans cL2 e6_9
       replace cJ6 := Ext.trans cJ6 e6_9
       have hfhb6_9 : Fresh h6_1.size [h6_1.size] := Fresh.one _
       have hlhb6_9 := one_lt (show h6_1.size < h6_9.size by omega)
       try simp (disch := decide) only [outv_some, put_puts]
       refine plK_pres (Ext.pres e6_9) ?_
       try simp -implicitDefEqProofs (disch := first | decide | assumption | omega) only [go_sem]
       refine And.intro ?_ ?_
       ·simp -implicitDefEqProofs (disch := first | decide | assumption | omega) only [go_sem, ld2, BoxAt.dgDeg hb0_0, wrap_id]
        refine op_storeB (o := 0) (cs' := elA (e8 i)) st30 hb6_9 rfl rfl (elA_sz _) (by rw [elA_sz]; decide) elA_one elA_all ?_
        intro h6_10 hb6_9 c6_10
        replace hb0_0 := BoxAt.chgA hb0_0 c6_10 (apart_lt hlhb0_0 hfhb6_9 (by omega))
        have := c6_10.size
        replace eB := Ext.then eB c6_10 (ge_of hfhb6_9 (by omega))
        replace cL2 := Ext.then cL2 c6_10 (ge_of hfhb6_9 (by omega))
        replace cJ6 := Ext.then cJ6 c6_10 (ge_of hfhb6_9 (by omega))
        try simp (disch := decide) only [outv_none]
        refine plK_last (by decide) ?_
        try simp -implicitDefEqProofs (disch := first | decide | assumption | omega) only [go_sem]
        exact hK h6_1.size _ _ (by simp [HasL, puts_at]) ⟨hb6_9, (hfhb6_9.mono (by omega)), cJ6⟩
       ·simp -implicitDefEqProofs (disch := first | decide | assumption | omega) only [go_sem]
        refine op_storeB (o := 0) (cs' := elA (e8 i)) st30 hb6_9 rfl rfl (elA_sz _) (by rw [elA_sz]; decide) elA_one elA_all ?_
        intro h6_10 hb6_9 c6_10
        replace hb0_0 := BoxAt.chgA hb0_0 c6_10 (apart_lt hlhb0_0 hfhb6_9 (by omega))
        have := c6_10.size
        replace eB := Ext.then eB c6_10 (ge_of hfhb6_9 (by omega))
        replace cL2 := Ext.then cL2 c6_10 (ge_of hfhb6_9 (by omega))
        replace cJ6 := Ext.then cJ6 c6_10 (ge_of hfhb6_9 (by omega))
        try simp (disch := decide) only [outv_none]
        refine plK_last (by decide) ?_
        try simp -implicitDefEqProofs (disch := first | decide | assumption | omega) only [go_sem, ld2, BoxAt.dgDeg hb0_0, wrap_id]
        exact hK h6_1.size _ _ (by simp [HasL, puts_at]) ⟨hb6_9, (hfhb6_9.mono (by omega)), cJ6⟩
     ·simp -implicitDefEqProofs (disch := first | decide | assumption | omega) only [go_sem, ld2, BoxAt.dgDeg hb0_0, wrap_id]
      refine And.intro ?_ ?_
      ·simp -implicitDefEqProofs (disch := first | decide | assumption | omega) only [go_sem]
       refine CallA.mono (sUni_ok  (i : Int) _  (by omega)) ?_
       intro v_ h6_1
       rintro ⟨rfl, e6_1⟩
       replace hb0_0 := BoxAt.ext hb0_0 e6_1
       have := Ext.size e6_1
       replace eB := Ext.trans eB e6_1
       replace cL2 := Ext.trans cL2 e6_1
       replace cJ6 := Ext.trans cJ6 e6_1
       refine plK_pres (Ext.pres e6_1) ?_
       try simp -implicitDefEqProofs (disch := first | decide | assumption | omega) only [go_sem]
       refine op_alloc (cs := elA z8) (by kernel_rfl) ?_
       intro h6_9 e6_9 hb6_9 z6_9
       replace hb0_0 := BoxAt.ext hb0_0 e6_9
       have := Ext.size e6_9
       replace eB := Ext.trans eB e6_9
       replace cL2 := Ext.trans cL2 e6_9
       replace cJ6 := Ext.trans cJ6 e6_9
       have hfhb6_9 : Fresh h6_1.size [h6_1.size] := Fresh.one _
       have hlhb6_9 := one_lt (show h6_1.size < h6_9.size by omega)
       try simp (disch := decide) only [outv_some, put_puts]
       refine plK_pres (Ext.pres e6_9) ?_
       try simp -implicitDefEqProofs (disch := first | decide | assumption | omega) only [go_sem]
       refine op_storeB (o := 0) (cs' := elA (e8 i)) st30 hb6_9 rfl rfl (elA_sz _) (by rw [elA_sz]; decide) elA_one elA_all ?_
       intro h6_10 hb6_9 c6_10
       replace hb0_0 := BoxAt.chgA hb0_0 c6_10 (apart_lt hlhb0_0 hfhb6_9 (by omega))
       have := c6_10.size
       replace eB := Ext.then eB c6_10 (ge_of hfhb6_9 (by omega))
       replace cL2 := Ext.then cL2 c6_10 (ge_of hfhb6_9 (by omega))
       replace cJ6 := Ext.then cJ6 c6_10 (ge_of hfhb6_9 (by omega))
       try simp (disch := decide) only [outv_none]
       refine plK_last (by decide) ?_
       try simp -implicitDefEqProofs (disch := first | decide | assumption | omega) only [go_sem]
       exact hK h6_1.size _ _ (by simp [HasL, puts_at]) ⟨hb6_9, (hfhb6_9.mono (by omega)), cJ6⟩
      ·simp -implicitDefEqProofs (disch := first | decide | assumption | omega) only [go_sem]
       refine op_alloc (cs := elA z8) (by kernel_rfl) ?_
       intro h6_9 e6_9 hb6_9 z6_9
       replace hb0_0 := BoxAt.ext hb0_0 e6_9
       have := Ext.size e6_9
       replace eB := Ext.trans eB e6_9
       replace cL2 := Ext.trans cL2 e6_9
       replace cJ6 := Ext.trans cJ6 e6_9
       have hfhb6_9 : Fresh h4.size [h4.size] := Fresh.one _
       have hlhb6_9 := one_lt (show h4.size < h6_9.size by omega)
       try simp (disch := decide) only [outv_some, put_puts]
       refine plK_pres (Ext.pres e6_9) ?_
       try simp -implicitDefEqProofs (disch := first | decide | assumption | omega) only [go_sem]
       refine CallA.mono (sUni_ok  (i : Int) _  (by omega)) ?_
       intro v_ h6_1
       rintro ⟨rfl, e6_1⟩
       replace hb0_0 := BoxAt.ext hb0_0 e6_1
       replace hb6_9 := BoxAt.ext hb6_9 e6_1
       have := Ext.size e6_1
       replace eB := Ext.trans eB e6_1
       replace cL2 := Ext.trans cL2 e6_1
       replace cJ6 := Ext.trans cJ6 e6_1
       refine plK_pres (Ext.pres e6_1) ?_
       try simp -implicitDefEqProofs (disch := first | decide | assumption | omega) only [go_sem]
       refine op_storeB (o := 0) (cs' := elA (e8 i)) st30 hb6_9 rfl rfl (elA_sz _) (by rw [elA_sz]; decide) elA_one elA_all ?_
       intro h6_10 hb6_9 c6_10
       replace hb0_0 := BoxAt.chgA hb0_0 c6_10 (apart_lt hlhb0_0 hfhb6_9 (by omega))
       have := c6_10.size
       replace eB := Ext.then eB c6_10 (ge_of hfhb6_9 (by omega))
       replace cL2 := Ext.then cL2 c6_10 (ge_of hfhb6_9 (by omega))
       replace cJ6 := Ext.then cJ6 c6_10 (ge_of hfhb6_9 (by omega))
       try simp (disch := decide) only [outv_none]
       refine plK_last (by decide) ?_
       try simp -implicitDefEqProofs (disch := first | decide | assumption | omega) only [go_sem]
       exact hK h4.size _ _ (by simp [HasL, puts_at]) ⟨hb6_9, (hfhb6_9.mono (by omega)), cJ6⟩
     ·simp -implicitDefEqProofs (disch := first | decide | assumption | omega) only [go_sem]
      refine op_alloc (cs := elA z8) (by kernel_rfl) ?_
      intro h6_9 e6_9 hb6_9 z6_9
      replace hb0_0 := BoxAt.ext hb0_0 e6_9
      have := Ext.size e6_9
      replace eB := Ext.trans eB e6_9
      replace cL2 := Ext.trans cL2 e6_9
      replace cJ6 := Ext.trans cJ6 e6_9
      have hfhb6_9 : Fresh h4.size [h4.size] := Fresh.one _
      have hlhb6_9 := one_lt (show h4.size < h6_9.size by omega)
      try simp (disch := decide) only [outv_some, put_puts]
      refine plK_pres (Ext.pres e6_9) ?_
      try simp -implicitDefEqProofs (disch := first | decide | assumption | omega) only [go_sem]
      refine And.intro ?_ ?_
      ·simp -implicitDefEqProofs (disch := first | decide | assumption | omega) only [go_sem]
       refine CallA.mono (sUni_ok  (i : Int) _  (by omega)) ?_
       intro v_ h6_1
       rintro ⟨rfl, e6_1⟩
       replace hb0_0 := BoxAt.ext hb0_0 e6_1
       replace hb6_9 := BoxAt.ext hb6_9 e6_1
       have := Ext.size e6_1
       replace eB := Ext.trans eB e6_1
       replace cL2 := Ext.trans cL2 e6_1
       replace cJ6 := Ext.trans cJ6 e6_1
       refine plK_pres (Ext.pres e6_1) ?_
       try simp -implicitDefEqProofs (disch := first | decide | assumption | omega) only [go_sem]
       refine And.intro ?_ ?_
       ·simp -implicitDefEqProofs (disch := first | decide | assumption | omega) only [go_sem, ld2, BoxAt.dgDeg hb0_0, wrap_id]
        refine op_storeB (o := 0) (cs' := elA (e8 i)) st30 hb6_9 rfl rfl (elA_sz _) (by rw [elA_sz]; decide) elA_one elA_all ?_
        intro h6_10 hb6_9 c6_10
        replace hb0_0 := BoxAt.chgA hb0_0 c6_10 (apart_lt hlhb0_0 hfhb6_9 (by omega))
        have := c6_10.size
        replace eB := Ext.then eB c6_10 (ge_of hfhb6_9 (by omega))
        replace cL2 := Ext.then cL2 c6_10 (ge_of hfhb6_9 (by omega))
        replace cJ6 := Ext.then cJ6 c6_10 (ge_of hfhb6_9 (by omega))
        try simp (disch := decide) only [outv_none]
        refine plK_last (by decide) ?_
        try simp -implicitDefEqProofs (disch := first | decide | assumption | omega) only [go_sem]
        exact hK h4.size _ _ (by simp [HasL, puts_at]) ⟨hb6_9, (hfhb6_9.mono (by omega)), cJ6⟩
       ·simp -implicitDefEqProofs (disch := first | decide | assumption | omega) only [go_sem]
        refine op_storeB (o := 0) (cs' := elA (e8 i)) st30 hb6_9 rfl rfl (elA_sz _) (by rw [elA_sz]; decide) elA_one elA_all ?_
        intro h6_10 hb6_9 c6_10
        replace hb0_0 := BoxAt.chgA hb0_0 c6_10 (apart_lt hlhb0_0 hfhb6_9 (by omega))
        have := c6_10.size
        replace eB := Ext.then eB c6_10 (ge_of hfhb6_9 (by omega))
        replace cL2 := Ext.then cL2 c6_10 (ge_of hfhb6_9 (by omega))
        replace cJ6 := Ext.then cJ6 c6_10 (ge_of hfhb6_9 (by omega))
        try simp (disch := decide) only [outv_none]
        refine plK_last (by decide) ?_
        try simp -implicitDefEqProofs (disch := first | decide | assumption | omega) only [go_sem, ld2, BoxAt.dgDeg hb0_0, wrap_id]
        exact hK h4.size _ _ (by simp [HasL, puts_at]) ⟨hb6_9, (hfhb6_9.mono (by omega)), cJ6⟩
      ·simp -implicitDefEqProofs (disch := first | decide | assumption | omega) only [go_sem, ld2, BoxAt.dgDeg hb0_0, wrap_id]
       refine CallA.mono (sUni_ok  (i : Int) _  (by omega)) ?_
       intro v_ h6_1
       rintro ⟨rfl, e6_1⟩
       replace hb0_0 := BoxAt.ext hb0_0 e6_1
       replace hb6_9 := BoxAt.ext hb6_9 e6_1
       have := Ext.size e6_1
       replace eB := Ext.trans eB e6_1
       replace cL2 := Ext.trans cL2 e6_1
       replace cJ6 := Ext.trans cJ6 e6_1
       refine plK_pres (Ext.pres e6_1) ?_
       try simp -implicitDefEqProofs (disch := first | decide | assumption | omega) only [go_sem]
       refine op_storeB (o := 0) (cs' := elA (e8 i)) st30 hb6_9 rfl rfl (elA_sz _) (by rw [elA_sz]; decide) elA_one elA_all ?_
       intro h6_10 hb6_9 c6_10
       replace hb0_0 := BoxAt.chgA hb0_0 c6_10 (apart_lt hlhb0_0 hfhb6_9 (by omega))
       have := c6_10.size
       replace eB := Ext.then eB c6_10 (ge_of hfhb6_9 (by omega))
       replace cL2 := Ext.then cL2 c6_10 (ge_of hfhb6_9 (by omega))
       replace cJ6 := Ext.then cJ6 c6_10 (ge_of hfhb6_9 (by omega))
       try simp (disch := decide) only [outv_none]
       refine plK_last (by decide) ?_
       try simp -implicitDefEqProofs (disch := first | decide | assumption | omega) only [go_sem]
       exact hK h4.size _ _ (by simp [HasL, puts_at]) ⟨hb6_9, (hfhb6_9.mono (by omega)), cJ6⟩
    ·rintro bJhb6_9 hj7 ee9 ⟨hb6_9, hfhb6_9, eJ8⟩
     replace hb0_0 := BoxAt.ext hb0_0 eJ8
     have := Ext.size eJ8
     replace eB := Ext.trans eB eJ8
     replace cL2 := Ext.trans cL2 eJ8
     have hlhb6_9 := one_lt hb6_9.lt
     simp only [List.cons_append, List.nil_append]
     refine den_seq ?_
     refine den_seq ?_
     refine den_merge [(52, .bool ((((!(eqE ((X.tab 0) i) (e8 i))) || (!(eqE ((X.tab i) 0) (e8 i)))) || (!(eqE (dfI X.p X.dif (X.dif i) X.s.toNat) z8)))))] [1, 3, 4, 5] (fun H => Ext hj7 H) ?_ ?_
      -- a way
     ·refine den_draw TTok mixed [] [(0, true), (1, true), (2, true), (3, true), (4, true), (5, true), (6, true), (7, true), (8, true), (9, true), (10, true), (11, true), (12, true), (13, true), (14, true), (15, true), (16, true), (17, true), (18, true), (19, true), (20, true), (21, true), (23, true), (22, false), (24, true), (25, true)] (by kernel_rfl) ?_
      intro K hK
      simp -implicitDefEqProofs (disch := first | decide | assumption | (simp (disch := decide) only [gvA, eq_self, if_true, if_false, Bool.false_eq_true]; done) | omega) only [go_sem, Int.toNat_zero, fa34_5, ia32, ia31, BoxAt.dgTabL hb0_0, BoxAt.elL hb6_9, Nat.zero_add, ne_el, Int.toNat_zero]
      refine plG_F (by simp (disch := decide) only [slotOf_zero, slotOf_succ, Option.map_some, puts_same]; rfl) (fun g10 => ?_) (fun g10 => ?_)
      ·try simp -implicitDefEqProofs (disch := first | decide | assumption | (simp (disch := decide) only [gvA, eq_self, if_true, if_false, Bool.false_eq_true, g10]; done) | omega) only [go_sem, Int.toNat_zero, fa34_5, ia32, ia31, BoxAt.dgTabL hb0_0, BoxAt.elL hb6_9, Nat.zero_add, ne_el, Int.toNat_zero, g10, if_false, Bool.false_eq_true]
       refine plG_F (by simp (disch := decide) only [slotOf_zero, slotOf_succ, Option.map_some, puts_same]; rfl) (fun g11 => ?_) (fun g11 => ?_)
       ·try simp -implicitDefEqProofs (disch := first | decide | assumption | (simp (disch := decide) only [gvA, eq_self, if_true, if_false, Bool.false_eq_true, g10, g11]; done) | omega) only [go_sem, fa34_4, ia31, BoxAt.dgL hb0_0, BoxAt.dgDifL hb0_0, Nat.zero_add, build_el, g11]
        refine CallA.mono (sDif_ok  X (X.dif i) _  hpG (by omega) (by first | assumption | exact e8_by _ | exact By.z8 | exact hBd _ | exact hBt _ _ | exact tmJ_by (by omega) (tmI_by (by omega) _) _ | exact timesP_by (by omega) | exact dfI_by (by omega) _ | exact plusN_by (by omega) (timesP_by (by omega)) | exact dfI_by (by omega) 8) hBd) ?_
        intro v_ h7_22
        rintro ⟨rfl, e7_22⟩
        replace hb0_0 := BoxAt.ext hb0_0 e7_22
        replace hb6_9 := BoxAt.ext hb6_9 e7_22
        have := Ext.size e7_22
        replace eB := Ext.trans eB e7_22
        replace cL2 := Ext.trans cL2 e7_22
        refine plK_pres (Ext.pres e7_22) ?_
        try simp -implicitDefEqProofs (disch := first | decide | assumption | (simp (disch := decide) only [gvA, eq_self, if_true, if_false, Bool.false_eq_true, g10, g11]; done) | omega) only [go_sem, ne_el, if_false, Bool.false_eq_true]
        refine hK _ _ ?_
        clear hK K
        refine den_stop ?_
        refine ⟨?_, e7_22⟩
        first | (simp (disch := decide) only [go_sem, g10, g11, eq_self, Bool.false_or, Bool.or_false]; done) | simp [HasL, sel, puts_at, g10, g11]
       ·try simp -implicitDefEqProofs (disch := first | decide | assumption | (simp (disch := decide) only [gvA, eq_self, if_true, if_false, Bool.false_eq_true, g10, g11]; done) | omega) only [go_sem, g11, eq_self, if_true]
        refine hK _ _ ?_
        clear hK K
        refine den_stop ?_
        refine ⟨?_, Ext.refl _⟩
        first | (simp (disch := decide) only [go_sem, g10, g11, eq_self, Bool.true_or, Bool.or_true]; done) | simp [HasL, sel, puts_at, g10, g11]
      ·try simp -implicitDefEqProofs (disch := first | decide | assumption | (simp (disch := decide) only [gvA, eq_self, if_true, if_false, Bool.false_eq_true, g10]; done) | omega) only [go_sem, g10, eq_self, if_true]
       refine hK _ _ ?_
       clear hK K
       refine den_stop ?_
       refine ⟨?_, Ext.refl _⟩
       first | (simp (disch := decide) only [go_sem, g10, eq_self, Bool.true_or]; done) | simp [HasL, sel, puts_at, g10]
     intro en12 h13 e14
     replace hb0_0 := BoxAt.ext hb0_0 e14
     replace hb6_9 := BoxAt.ext hb6_9 e14
     have := Ext.size e14
     replace eB := Ext.trans eB e14
     replace cL2 := Ext.trans cL2 e14
     simp (disch := decide) only [go_sem]
     refine den_cond rfl (fun c2 => ?_) (fun c2 => ?_)
     ·try simp only [Bool.not_eq_true', Bool.or_eq_true] at c2
      refine den_seq ?_
      refine den_region TTok ?_
      intro K hK
      simp -implicitDefEqProofs (disch := first | decide | assumption | omega) only [go_sem]
      refine hK _ _ ?_
      clear hK K
      refine den_ret ?_
      simp (disch := decide) only [resP_1, puts_same]
      exact ⟨vbool (dgB_n (fun hh => un_nos hB hfm (by omega) (hh.un i (by omega)) c2)), eB⟩
     ·try simp only [Bool.not_eq_false', Bool.or_eq_false_iff] at c2
      refine den_skip ?_
      refine den_seq ?_
      refine den_region TTok ?_
      intro K hK
      simp -implicitDefEqProofs (disch := first | decide | assumption | omega) only [go_sem]
      refine hK _ _ ?_
      clear hK K
      refine den_block ?_
      refine den_sel [6, 1, 3, 4, 5] ?_
      intro env_15
      simp only [go_sem]
      refine den_loopS (σ := Nat) (fun st_ => [(6, .int .i64 (st_ : Int))]) (fun st_ H => ((st_ : Int) ≤ X.s) ∧ (∀ b : Nat, b < st_ → LbF X i b ∧ ∀ k : Nat, (k : Int) < X.s → AsF X i b k) ∧ (Ext h13 H)) (fun st_ => X.s.toNat - st_) 0 ?_ ?_
      ·exact ⟨by omega, fun b h => by omega, Ext.refl _⟩
      ·rintro j h18 ee17 ⟨hj, hzj, cL16⟩
       replace hb0_0 := BoxAt.ext hb0_0 cL16
       replace hb6_9 := BoxAt.ext hb6_9 cL16
       have := Ext.size cL16
       replace eB := Ext.trans eB cL16
       replace cL2 := Ext.trans cL2 cL16
       simp only [List.cons_append, List.nil_append]
       refine den_seq ?_
       refine den_seq ?_
       refine den_region TTok ?_
       intro K hK
       simp -implicitDefEqProofs (disch := first | decide | assumption | omega) only [go_sem, fa34_1, ld2, BoxAt.dgS hb0_0, Nat.zero_add]
       refine hK _ _ ?_
       clear hK K
       refine den_cond rfl (fun c3 => ?_) (fun c3 => ?_)
       ·try simp only [decide_eq_true_eq] at c3
        refine den_skip ?_
        refine den_seq ?_
        refine den_block ?_
        refine den_seq ?_
        refine den_sel [1, 3, 4, 5, 6] ?_
        intro env_19
        simp only [go_sem]
        refine den_drawTJ (σ := Nat) TTok (fun st_ => [(7, .pointer (some ⟨st_, 0, none⟩))]) (fun st_ H => (BoxAt H st_ (elA (timesP X.p X.tab (X.dif i) (e8 j) X.s.toNat)) 30) ∧ (Fresh h18.size [st_]) ∧ (Ext h18 H)) mixed [9] [(0, true), (1, true), (2, true), (3, true), (4, true), (5, true)] (.fork 6 [] (.fork 7 [(8, false), (9, false)] .fin 8 [(7, false), (9, false)] .fin) 8 [(6, false), (7, false), (9, false)] .fin) (by kernel_rfl) ?_ ?_
        ·intro K hK
         have cJ20 := Ext.refl h18
         simp -implicitDefEqProofs (disch := first | decide | assumption | omega) only [go_sem, fa34_4, ia31, BoxAt.dgL hb0_0, BoxAt.dgDifL hb0_0, Nat.zero_add]
         refine And.intro ?_ ?_
         ·simp -implicitDefEqProofs (disch := first | decide | assumption | omega) only [go_sem]
          refine CallA.mono (sUni_ok  (j : Int) _  (by omega)) ?_
          intro v_ h12_6
          rintro ⟨rfl, e12_6⟩
          replace hb0_0 := BoxAt.ext hb0_0 e12_6
          replace hb6_9 := BoxAt.ext hb6_9 e12_6
          have := Ext.size e12_6
          replace eB := Ext.trans eB e12_6
          replace cL2 := Ext.trans cL2 e12_6
          replace cL16 := Ext.trans cL16 e12_6
          replace cJ20 := Ext.trans cJ20 e12_6
          refine plK_pres (Ext.pres e12_6) ?_
          try simp -implicitDefEqProofs (disch := first | decide | assumption | omega) only [go_sem]
          refine And.intro ?_ ?_
          ·simp -implicitDefEqProofs (disch := first | decide | assumption | omega) only [go_sem]
           refine CallA.mono (sTms_ok  X (X.dif i) (e8 j) _  hpG (by omega) (by first | assumption | exact e8_by _ | exact By.z8 | exact hBd _ | exact hBt _ _ | exact tmJ_by (by omega) (tmI_by (by omega) _) _ | exact timesP_by (by omega) | exact dfI_by (by omega) _ | exact plusN_by (by omega) (timesP_by (by omega)) | exact dfI_by (by omega) 8) (by first | assumption | exact e8_by _ | exact By.z8 | exact hBd _ | exact hBt _ _ | exact tmJ_by (by omega) (tmI_by (by omega) _) _ | exact timesP_by (by omega) | exact dfI_by (by omega) _ | exact plusN_by (by omega) (timesP_by (by omega)) | exact dfI_by (by omega) 8) hBt (by first | assumption | exact e8_lt (by omega) _ | exact z8_lt (by omega) | exact hB7 _ (by omega) | exact hB8 _ _ (by omega) (by omega) | exact tms_lt (by omega) | exact dfs_lt (by omega)) (by first | assumption | exact e8_lt (by omega) _ | exact z8_lt (by omega) | exact hB7 _ (by omega) | exact hB8 _ _ (by omega) (by omega) | exact tms_lt (by omega) | exact dfs_lt (by omega))) ?_
           intro v_ h12_7
           rintro ⟨rfl, e12_7⟩
           replace hb0_0 := BoxAt.ext hb0_0 e12_7
           replace hb6_9 := BoxAt.ext hb6_9 e12_7
           have := Ext.size e12_7
           replace eB := Ext.trans eB e12_7
           replace cL2 := Ext.trans cL2 e12_7
           replace cL16 := Ext.trans cL16 e12_7
           replace cJ20 := Ext.trans cJ20 e12_7
           refine plK_pres (Ext.pres e12_7) ?_
           try simp -implicitDefEqProofs (disch := first | decide | assumption | omega) only [go_sem]
           refine op_alloc (cs := elA z8) (by kernel_rfl) ?_
           intro h12_8 e12_8 hb12_8 z12_8
           replace hb0_0 := BoxAt.ext hb0_0 e12_8
           replace hb6_9 := BoxAt.ext hb6_9 e12_8
           have := Ext.size e12_8
           replace eB := Ext.trans eB e12_8
           replace cL2 := Ext.trans cL2 e12_8
           replace cL16 := Ext.trans cL16 e12_8
           replace cJ20 := Ext.trans cJ20 e12_8
           have hfhb12_8 : Fresh h12_7.size [h12_7.size] := Fresh.one _
           have hlhb12_8 := one_lt (show h12_7.size < h12_8.size by omega)
           try simp (disch := decide) only [outv_some, put_puts]
           refine plK_pres (Ext.pres e12_8) ?_
           try simp -implicitDefEqProofs (disch := first | decide | assumption | omega) only [go_sem]
           refine op_storeB (o := 0) (cs' := elA (timesP X.p X.tab (X.dif i) (e8 j) X.s.toNat)) st30 hb12_8 rfl rfl (elA_sz _) (by rw [elA_sz]; decide) elA_one elA_all ?_
           intro h12_9 hb12_8 c12_9
           replace hb0_0 := BoxAt.chgA hb0_0 c12_9 (apart_lt hlhb0_0 hfhb12_8 (by omega))
           replace hb6_9 := BoxAt.chgA hb6_9 c12_9 (apart_lt hlhb6_9 hfhb12_8 (by omega))
           have := c12_9.size
           replace eB := Ext.then eB c12_9 (ge_of hfhb12_8 (by omega))
           replace cL2 := Ext.then cL2 c12_9 (ge_of hfhb12_8 (by omega))
           replace cL16 := Ext.then cL16 c12_9 (ge_of hfhb12_8 (by omega))
           replace cJ20 := Ext.then cJ20 c12_9 (ge_of hfhb12_8 (by omega))
           try simp (disch := decide) only [outv_none]
           refine plK_last (by decide) ?_
           try simp -implicitDefEqProofs (disch := first | decide | assumption | omega) only [go_sem]
           exact hK h12_7.size _ _ (by simp [HasL, puts_at]) ⟨hb12_8, (hfhb12_8.mono (by omega)), cJ20⟩
          ·simp -implicitDefEqProofs (disch := first | decide | assumption | omega) only [go_sem]
           refine op_alloc (cs := elA z8) (by kernel_rfl) ?_
           intro h12_8 e12_8 hb12_8 z12_8
           replace hb0_0 := BoxAt.ext hb0_0 e12_8
           replace hb6_9 := BoxAt.ext hb6_9 e12_8
           have := Ext.size e12_8
           replace eB := Ext.trans eB e12_8
           replace cL2 := Ext.trans cL2 e12_8
           replace cL16 := Ext.trans cL16 e12_8
           replace cJ20 := Ext.trans cJ20 e12_8
           have hfhb12_8 : Fresh h12_6.size [h12_6.size] := Fresh.one _
           have hlhb12_8 := one_lt (show h12_6.size < h12_8.size by omega)
           try simp (disch := decide) only [outv_some, put_puts]
           refine plK_pres (Ext.pres e12_8) ?_
           try simp -implicitDefEqProofs (disch := first | decide | assumption | omega) only [go_sem]
           refine CallA.mono (sTms_ok  X (X.dif i) (e8 j) _  hpG (by omega) (by first | assumption | exact e8_by _ | exact By.z8 | exact hBd _ | exact hBt _ _ | exact tmJ_by (by omega) (tmI_by (by omega) _) _ | exact timesP_by (by omega) | exact dfI_by (by omega) _ | exact plusN_by (by omega) (timesP_by (by omega)) | exact dfI_by (by omega) 8) (by first | assumption | exact e8_by _ | exact By.z8 | exact hBd _ | exact hBt _ _ | exact tmJ_by (by omega) (tmI_by (by omega) _) _ | exact timesP_by (by omega) | exact dfI_by (by omega) _ | exact plusN_by (by omega) (timesP_by (by omega)) | exact dfI_by (by omega) 8) hBt (by first | assumption | exact e8_lt (by omega) _ | exact z8_lt (by omega) | exact hB7 _ (by omega) | exact hB8 _ _ (by omega) (by omega) | exact tms_lt (by omega) | exact dfs_lt (by omega)) (by first | assumption | exact e8_lt (by omega) _ | exact z8_lt (by omega) | exact hB7 _ (by omega) | exact hB8 _ _ (by omega) (by omega) | exact tms_lt (by omega) | exact dfs_lt (by omega))) ?_
           intro v_ h12_7
           rintro ⟨rfl, e12_7⟩
           replace hb0_0 := BoxAt.ext hb0_0 e12_7
           replace hb6_9 := BoxAt.ext hb6_9 e12_7
           replace hb12_8 := BoxAt.ext hb12_8 e12_7
           have := Ext.size e12_7
           replace eB := Ext.trans eB e12_7
           replace cL2 := Ext.trans cL2 e12_7
           replace cL16 := Ext.trans cL16 e12_7
           replace cJ20 := Ext.trans cJ20 e12_7
           refine plK_pres (Ext.pres e12_7) ?_
           try simp -implicitDefEqProofs (disch := first | decide | assumption | omega) only [go_sem]
           refine op_storeB (o := 0) (cs' := elA (timesP X.p X.tab (X.dif i) (e8 j) X.s.toNat)) st30 hb12_8 rfl rfl (elA_sz _) (by rw [elA_sz]; decide) elA_one elA_all ?_
           intro h12_9 hb12_8 c12_9
           replace hb0_0 := BoxAt.chgA hb0_0 c12_9 (apart_lt hlhb0_0 hfhb12_8 (by omega))
           replace hb6_9 := BoxAt.chgA hb6_9 c12_9 (apart_lt hlhb6_9 hfhb12_8 (by omega))
           have := c12_9.size
           replace eB := Ext.then eB c12_9 (ge_of hfhb12_8 (by omega))
           replace cL2 := Ext.then cL2 c12_9 (ge_of hfhb12_8 (by omega))
           replace cL16 := Ext.then cL16 c12_9 (ge_of hfhb12_8 (by omega))
           replace cJ20 := Ext.then cJ20 c12_9 (ge_of hfhb12_8 (by omega))
           try simp (disch := decide) only [outv_none]
           refine plK_last (by decide) ?_
           try simp -implicitDefEqProofs (disch := first | decide | assumption | omega) only [go_sem]
           exact hK h12_6.size _ _ (by simp [HasL, puts_at]) ⟨hb12_8, (hfhb12_8.mono (by omega)), cJ20⟩
         ·simp -implicitDefEqProofs (disch := first | decide | assumption | omega) only [go_sem]
          refine op_alloc (cs := elA z8) (by kernel_rfl) ?_
          intro h12_8 e12_8 hb12_8 z12_8
          replace hb0_0 := BoxAt.ext hb0_0 e12_8
          replace hb6_9 := BoxAt.ext hb6_9 e12_8
          have := Ext.size e12_8
          replace eB := Ext.trans eB e12_8
          replace cL2 := Ext.trans cL2 e12_8
          replace cL16 := Ext.trans cL16 e12_8
          replace cJ20 := Ext.trans cJ20 e12_8
          have hfhb12_8 : Fresh h18.size [h18.size] := Fresh.one _
          have hlhb12_8 := one_lt (show h18.size < h12_8.size by omega)
          try simp (disch := decide) only [outv_some, put_puts]
          refine plK_pres (Ext.pres e12_8) ?_
          try simp -implicitDefEqProofs (disch := first | decide | assumption | omega) only [go_sem]
          refine CallA.mono (sUni_ok  (j : Int) _  (by omega)) ?_
          intro v_ h12_6
          rintro ⟨rfl, e12_6⟩
          replace hb0_0 := BoxAt.ext hb0_0 e12_6
          replace hb6_9 := BoxAt.ext hb6_9 e12_6
          replace hb12_8 := BoxAt.ext hb12_8 e12_6
          have := Ext.size e12_6
          replace eB := Ext.trans eB e12_6
          replace cL2 := Ext.trans cL2 e12_6
          replace cL16 := Ext.trans cL16 e12_6
          replace cJ20 := Ext.trans cJ20 e12_6
          refine plK_pres (Ext.pres e12_6) ?_
          try simp -implicitDefEqProofs (disch := first | decide | assumption | omega) only [go_sem]
          refine CallA.mono (sTms_ok  X (X.dif i) (e8 j) _  hpG (by omega) (by first | assumption | exact e8_by _ | exact By.z8 | exact hBd _ | exact hBt _ _ | exact tmJ_by (by omega) (tmI_by (by omega) _) _ | exact timesP_by (by omega) | exact dfI_by (by omega) _ | exact plusN_by (by omega) (timesP_by (by omega)) | exact dfI_by (by omega) 8) (by first | assumption | exact e8_by _ | exact By.z8 | exact hBd _ | exact hBt _ _ | exact tmJ_by (by omega) (tmI_by (by omega) _) _ | exact timesP_by (by omega) | exact dfI_by (by omega) _ | exact plusN_by (by omega) (timesP_by (by omega)) | exact dfI_by (by omega) 8) hBt (by first | assumption | exact e8_lt (by omega) _ | exact z8_lt (by omega) | exact hB7 _ (by omega) | exact hB8 _ _ (by omega) (by omega) | exact tms_lt (by omega) | exact dfs_lt (by omega)) (by first | assumption | exact e8_lt (by omega) _ | exact z8_lt (by omega) | exact hB7 _ (by omega) | exact hB8 _ _ (by omega) (by omega) | exact tms_lt (by omega) | exact dfs_lt (by omega))) ?_
          intro v_ h12_7
          rintro ⟨rfl, e12_7⟩
          replace hb0_0 := BoxAt.ext hb0_0 e12_7
          replace hb6_9 := BoxAt.ext hb6_9 e12_7
          replace hb12_8 := BoxAt.ext hb12_8 e12_7
          have := Ext.size e12_7
          replace eB := Ext.trans eB e12_7
          replace cL2 := Ext.trans cL2 e12_7
          replace cL16 := Ext.trans cL16 e12_7
          replace cJ20 := Ext.trans cJ20 e12_7
          refine plK_pres (Ext.pres e12_7) ?_
          try simp -implicitDefEqProofs (disch := first | decide | assumption | omega) only [go_sem]
          refine op_storeB (o := 0) (cs' := elA (timesP X.p X.tab (X.dif i) (e8 j) X.s.toNat)) st30 hb12_8 rfl rfl (elA_sz _) (by rw [elA_sz]; decide) elA_one elA_all ?_
          intro h12_9 hb12_8 c12_9
          replace hb0_0 := BoxAt.chgA hb0_0 c12_9 (apart_lt hlhb0_0 hfhb12_8 (by omega))
          replace hb6_9 := BoxAt.chgA hb6_9 c12_9 (apart_lt hlhb6_9 hfhb12_8 (by omega))
          have := c12_9.size
          replace eB := Ext.then eB c12_9 (ge_of hfhb12_8 (by omega))
          replace cL2 := Ext.then cL2 c12_9 (ge_of hfhb12_8 (by omega))
          replace cL16 := Ext.then cL16 c12_9 (ge_of hfhb12_8 (by omega))
          replace cJ20 := Ext.then cJ20 c12_9 (ge_of hfhb12_8 (by omega))
          try simp (disch := decide) only [outv_none]
          refine plK_last (by decide) ?_
          try simp -implicitDefEqProofs (disch := first | decide | assumption | omega) only [go_sem]
          exact hK h18.size _ _ (by simp [HasL, puts_at]) ⟨hb12_8, (hfhb12_8.mono (by omega)), cJ20⟩
        ·rintro bJhb12_8 hj21 ee23 ⟨hb12_8, hfhb12_8, eJ22⟩
         replace hb0_0 := BoxAt.ext hb0_0 eJ22
         replace hb6_9 := BoxAt.ext hb6_9 eJ22
         have := Ext.size eJ22
         replace eB := Ext.trans eB eJ22
         replace cL2 := Ext.trans cL2 eJ22
         replace cL16 := Ext.trans cL16 eJ22
         have hlhb12_8 := one_lt hb12_8.lt
         simp only [List.cons_append, List.nil_append]
         refine den_seq ?_
         refine den_seq ?_
         have hsg := tmod_in (p := 2) (x := X.deg i) (by decide)
         refine den_draw TTok mixed [] [(0, true), (1, true), (2, true), (3, true), (4, true), (5, true), (6, true), (8, true), (9, true), (10, true), (11, true), (12, true), (13, true), (14, true), (15, true), (16, true), (18, true), (7, false), (17, false), (19, false), (20, true)] (by kernel_rfl) ?_
         intro K hK
         simp -implicitDefEqProofs (disch := first | decide | assumption | omega) only [go_sem, fa34_0, fa34_4, fa34_5, ia32, ia31, ld2, BoxAt.dgL hb0_0, BoxAt.dgP hb0_0, BoxAt.dgDifL hb0_0, BoxAt.dgTabL hb0_0, BoxAt.elL hb6_9, BoxAt.elL hb12_8, Nat.zero_add]
         refine CallA.mono (sDif_ok  X ((X.tab i) j) _  hpG (by omega) (by first | assumption | exact e8_by _ | exact By.z8 | exact hBd _ | exact hBt _ _ | exact tmJ_by (by omega) (tmI_by (by omega) _) _ | exact timesP_by (by omega) | exact dfI_by (by omega) _ | exact plusN_by (by omega) (timesP_by (by omega)) | exact dfI_by (by omega) 8) hBd) ?_
         intro v_ h13_7
         rintro ⟨rfl, e13_7⟩
         replace hb0_0 := BoxAt.ext hb0_0 e13_7
         replace hb6_9 := BoxAt.ext hb6_9 e13_7
         replace hb12_8 := BoxAt.ext hb12_8 e13_7
         have := Ext.size e13_7
         replace eB := Ext.trans eB e13_7
         replace cL2 := Ext.trans cL2 e13_7
         replace cL16 := Ext.trans cL16 e13_7
         refine plK_pres (Ext.pres e13_7) ?_
         try simp -implicitDefEqProofs (disch := first | decide | assumption | omega) only [go_sem]
         refine CallA.mono (sTms_ok  X (e8 i) (X.dif j) _  hpG (by omega) (by first | assumption | exact e8_by _ | exact By.z8 | exact hBd _ | exact hBt _ _ | exact tmJ_by (by omega) (tmI_by (by omega) _) _ | exact timesP_by (by omega) | exact dfI_by (by omega) _ | exact plusN_by (by omega) (timesP_by (by omega)) | exact dfI_by (by omega) 8) (by first | assumption | exact e8_by _ | exact By.z8 | exact hBd _ | exact hBt _ _ | exact tmJ_by (by omega) (tmI_by (by omega) _) _ | exact timesP_by (by omega) | exact dfI_by (by omega) _ | exact plusN_by (by omega) (timesP_by (by omega)) | exact dfI_by (by omega) 8) hBt (by first | assumption | exact e8_lt (by omega) _ | exact z8_lt (by omega) | exact hB7 _ (by omega) | exact hB8 _ _ (by omega) (by omega) | exact tms_lt (by omega) | exact dfs_lt (by omega)) (by first | assumption | exact e8_lt (by omega) _ | exact z8_lt (by omega) | exact hB7 _ (by omega) | exact hB8 _ _ (by omega) (by omega) | exact tms_lt (by omega) | exact dfs_lt (by omega))) ?_
         intro v_ h13_17
         rintro ⟨rfl, e13_17⟩
         replace hb0_0 := BoxAt.ext hb0_0 e13_17
         replace hb6_9 := BoxAt.ext hb6_9 e13_17
         replace hb12_8 := BoxAt.ext hb12_8 e13_17
         have := Ext.size e13_17
         replace eB := Ext.trans eB e13_17
         replace cL2 := Ext.trans cL2 e13_17
         replace cL16 := Ext.trans cL16 e13_17
         refine plK_pres (Ext.pres e13_17) ?_
         try simp -implicitDefEqProofs (disch := first | decide | assumption | omega) only [go_sem]
         refine CallA.mono (sAdd8_ok  X.p (timesP X.p X.tab (X.dif i) (e8 j) X.s.toNat) (timesP X.p X.tab (e8 i) (X.dif j) X.s.toNat) ((1 : Int) - ((2 : Int) * (Int.tmod (X.deg i) (2 : Int)))) _  hpG (by first | assumption | exact e8_by _ | exact By.z8 | exact hBd _ | exact hBt _ _ | exact tmJ_by (by omega) (tmI_by (by omega) _) _ | exact timesP_by (by omega) | exact dfI_by (by omega) _ | exact plusN_by (by omega) (timesP_by (by omega)) | exact dfI_by (by omega) 8) (by first | assumption | exact e8_by _ | exact By.z8 | exact hBd _ | exact hBt _ _ | exact tmJ_by (by omega) (tmI_by (by omega) _) _ | exact timesP_by (by omega) | exact dfI_by (by omega) _ | exact plusN_by (by omega) (timesP_by (by omega)) | exact dfI_by (by omega) 8) (by omega)) ?_
         intro v_ h13_19
         rintro ⟨rfl, e13_19⟩
         replace hb0_0 := BoxAt.ext hb0_0 e13_19
         replace hb6_9 := BoxAt.ext hb6_9 e13_19
         replace hb12_8 := BoxAt.ext hb12_8 e13_19
         have := Ext.size e13_19
         replace eB := Ext.trans eB e13_19
         replace cL2 := Ext.trans cL2 e13_19
         replace cL16 := Ext.trans cL16 e13_19
         refine plK_pres (Ext.pres e13_19) ?_
         try simp -implicitDefEqProofs (disch := first | decide | assumption | omega) only [go_sem, ne_el]
         refine hK _ _ ?_
         clear hK K
         refine den_cond rfl (fun c4 => ?_) (fun c4 => ?_)
         ·try simp only [Bool.not_eq_true'] at c4
          refine den_seq ?_
          refine den_region TTok ?_
          intro K hK
          simp -implicitDefEqProofs (disch := first | decide | assumption | omega) only [go_sem]
          refine hK _ _ ?_
          clear hK K
          refine den_ret ?_
          simp (disch := decide) only [resP_1, puts_same]
          exact ⟨vbool (dgB_n (fun hh => lb_nos hB hfm (by omega) (by omega) (hh.lb i (by omega) j (by omega)) c4)), eB⟩
         ·try simp only [Bool.not_eq_false'] at c4
          refine den_skip ?_
          refine den_seq ?_
          refine den_region TTok ?_
          intro K hK
          simp -implicitDefEqProofs (disch := first | decide | assumption | omega) only [go_sem]
          refine hK _ _ ?_
          clear hK K
          refine den_block ?_
          refine den_sel [8, 1, 3, 4, 5, 6] ?_
          intro env_24
          simp only [go_sem]
          refine den_loopS (σ := Nat) (fun st_ => [(8, .int .i64 (st_ : Int))]) (fun st_ H => ((st_ : Int) ≤ X.s) ∧ (∀ m : Nat, m < st_ → AsF X i j m) ∧ (Ext h13_19 H)) (fun st_ => X.s.toNat - st_) 0 ?_ ?_
          ·exact ⟨by omega, fun b h => by omega, Ext.refl _⟩
          ·rintro k h27 ee26 ⟨hk, hzk, cL25⟩
           replace hb0_0 := BoxAt.ext hb0_0 cL25
           replace hb6_9 := BoxAt.ext hb6_9 cL25
           have := Ext.size cL25
           replace eB := Ext.trans eB cL25
           replace cL2 := Ext.trans cL2 cL25
           replace cL16 := Ext.trans cL16 cL25
           simp only [List.cons_append, List.nil_append]
           refine den_seq ?_
           refine den_seq ?_
           refine den_region TTok ?_
           intro K hK
           simp -implicitDefEqProofs (disch := first | decide | assumption | omega) only [go_sem, fa34_1, ld2, BoxAt.dgS hb0_0, Nat.zero_add]
           refine hK _ _ ?_
           clear hK K
           refine den_cond rfl (fun c5 => ?_) (fun c5 => ?_)
           ·try simp only [decide_eq_true_eq] at c5
            refine den_skip ?_
            refine den_seq ?_
            refine den_block ?_
            refine den_seq ?_
            refine den_draw TTok mixed [] [(0, true), (1, true), (2, true), (3, true), (4, true), (5, true), (6, true), (7, true), (10, true), (11, true), (12, true), (13, true), (14, true), (15, true), (16, true), (17, true), (8, false), (9, false), (18, false), (19, true)] (by kernel_rfl) ?_
            intro K hK
            simp -implicitDefEqProofs (disch := first | decide | assumption | omega) only [go_sem, fa34_5, ia32, ia31, BoxAt.dgL hb0_0, BoxAt.dgTabL hb0_0, BoxAt.elL hb6_9, Nat.zero_add]
            refine CallA.mono (sUni_ok  (k : Int) _  (by omega)) ?_
            intro v_ h18_8
            rintro ⟨rfl, e18_8⟩
            replace hb0_0 := BoxAt.ext hb0_0 e18_8
            replace hb6_9 := BoxAt.ext hb6_9 e18_8
            have := Ext.size e18_8
            replace eB := Ext.trans eB e18_8
            replace cL2 := Ext.trans cL2 e18_8
            replace cL16 := Ext.trans cL16 e18_8
            replace cL25 := Ext.trans cL25 e18_8
            refine plK_pres (Ext.pres e18_8) ?_
            try simp -implicitDefEqProofs (disch := first | decide | assumption | omega) only [go_sem]
            refine CallA.mono (sTms_ok  X ((X.tab i) j) (e8 k) _  hpG (by omega) (by first | assumption | exact e8_by _ | exact By.z8 | exact hBd _ | exact hBt _ _ | exact tmJ_by (by omega) (tmI_by (by omega) _) _ | exact timesP_by (by omega) | exact dfI_by (by omega) _ | exact plusN_by (by omega) (timesP_by (by omega)) | exact dfI_by (by omega) 8) (by first | assumption | exact e8_by _ | exact By.z8 | exact hBd _ | exact hBt _ _ | exact tmJ_by (by omega) (tmI_by (by omega) _) _ | exact timesP_by (by omega) | exact dfI_by (by omega) _ | exact plusN_by (by omega) (timesP_by (by omega)) | exact dfI_by (by omega) 8) hBt (by first | assumption | exact e8_lt (by omega) _ | exact z8_lt (by omega) | exact hB7 _ (by omega) | exact hB8 _ _ (by omega) (by omega) | exact tms_lt (by omega) | exact dfs_lt (by omega)) (by first | assumption | exact e8_lt (by omega) _ | exact z8_lt (by omega) | exact hB7 _ (by omega) | exact hB8 _ _ (by omega) (by omega) | exact tms_lt (by omega) | exact dfs_lt (by omega))) ?_
            intro v_ h18_9
            rintro ⟨rfl, e18_9⟩
            replace hb0_0 := BoxAt.ext hb0_0 e18_9
            replace hb6_9 := BoxAt.ext hb6_9 e18_9
            have := Ext.size e18_9
            replace eB := Ext.trans eB e18_9
            replace cL2 := Ext.trans cL2 e18_9
            replace cL16 := Ext.trans cL16 e18_9
            replace cL25 := Ext.trans cL25 e18_9
            refine plK_pres (Ext.pres e18_9) ?_
            try simp -implicitDefEqProofs (disch := first | decide | assumption | omega) only [go_sem]
            refine CallA.mono (sTms_ok  X (e8 i) ((X.tab j) k) _  hpG (by omega) (by first | assumption | exact e8_by _ | exact By.z8 | exact hBd _ | exact hBt _ _ | exact tmJ_by (by omega) (tmI_by (by omega) _) _ | exact timesP_by (by omega) | exact dfI_by (by omega) _ | exact plusN_by (by omega) (timesP_by (by omega)) | exact dfI_by (by omega) 8) (by first | assumption | exact e8_by _ | exact By.z8 | exact hBd _ | exact hBt _ _ | exact tmJ_by (by omega) (tmI_by (by omega) _) _ | exact timesP_by (by omega) | exact dfI_by (by omega) _ | exact plusN_by (by omega) (timesP_by (by omega)) | exact dfI_by (by omega) 8) hBt (by first | assumption | exact e8_lt (by omega) _ | exact z8_lt (by omega) | exact hB7 _ (by omega) | exact hB8 _ _ (by omega) (by omega) | exact tms_lt (by omega) | exact dfs_lt (by omega)) (by first | assumption | exact e8_lt (by omega) _ | exact z8_lt (by omega) | exact hB7 _ (by omega) | exact hB8 _ _ (by omega) (by omega) | exact tms_lt (by omega) | exact dfs_lt (by omega))) ?_
            intro v_ h18_18
            rintro ⟨rfl, e18_18⟩
            replace hb0_0 := BoxAt.ext hb0_0 e18_18
            replace hb6_9 := BoxAt.ext hb6_9 e18_18
            have := Ext.size e18_18
            replace eB := Ext.trans eB e18_18
            replace cL2 := Ext.trans cL2 e18_18
            replace cL16 := Ext.trans cL16 e18_18
            replace cL25 := Ext.trans cL25 e18_18
            refine plK_pres (Ext.pres e18_18) ?_
            try simp -implicitDefEqProofs (disch := first | decide | assumption | omega) only [go_sem, ne_el]
            refine hK _ _ ?_
            clear hK K
            refine den_cond rfl (fun c6 => ?_) (fun c6 => ?_)
            ·try simp only [Bool.not_eq_true'] at c6
             refine den_seq ?_
             refine den_region TTok ?_
             intro K hK
             simp -implicitDefEqProofs (disch := first | decide | assumption | omega) only [go_sem]
             refine hK _ _ ?_
             clear hK K
             refine den_ret ?_
             simp (disch := decide) only [resP_1, puts_same]
             exact ⟨vbool (dgB_n (fun hh => ac_nos hB hfm (by omega) (by omega) (by omega) (hh.ac i (by omega) j (by omega) k (by omega)) c6)), eB⟩
            ·try simp only [Bool.not_eq_false'] at c6
             refine den_skip ?_
             refine den_blk ?_
             refine den_region TTok ?_
             intro K hK
             simp -implicitDefEqProofs (disch := first | decide | assumption | omega) only [go_sem, wrap_id]
             refine hK _ _ ?_
             clear hK K
             refine den_stop ?_
             exact ⟨k + 1, by simp [HasL, puts_at], ⟨by first | omega | (dsimp only; omega), fun m hm => by
 by_cases hab : m < k
 ·exact hzk m hab
 ·have e : m = k := by omega
  subst e
  exact (ac_sp hB hfm (by omega) (by omega) (by omega)).2 c6, cL25⟩, by first | omega | (dsimp only; omega)⟩
           ·try simp only [decide_eq_false_iff_not] at c5
            refine den_exit ?_
            refine denX_code ?_
            refine denX_stop ?_
            refine denX_hit ?_
            refine den_blk ?_
            refine den_region TTok ?_
            intro K hK
            simp -implicitDefEqProofs (disch := first | decide | assumption | omega) only [go_sem, wrap_id]
            refine hK _ _ ?_
            clear hK K
            refine den_stop ?_
            exact ⟨j + 1, by simp [puts_at], ⟨by first | omega | (dsimp only; omega), fun b hb => by
 by_cases hab : b < j
 ·exact hzj b hab
 ·have e : b = j := by omega
  subst e
  exact ⟨(lb_sp hB hfm (by omega) (by omega)).2 c4, fun k hk => hzk k (by omega)⟩, cL16⟩, by first | omega | (dsimp only; omega)⟩
       ·try simp only [decide_eq_false_iff_not] at c3
        refine den_exit ?_
        refine denX_code ?_
        refine denX_stop ?_
        refine denX_hit ?_
        refine den_blk ?_
        refine den_region TTok ?_
        intro K hK
        simp -implicitDefEqProofs (disch := first | decide | assumption | omega) only [go_sem, wrap_id]
        refine hK _ _ ?_
        clear hK K
        refine den_stop ?_
        exact ⟨i + 1, by simp [puts_at], ⟨by first | omega | (dsimp only; omega), fun a ha => by
 by_cases hai : a < i
 ·exact hz a hai
 ·have e : a = i := by omega
  subst e
  exact ⟨(un_sp hB hfm (by omega)).2 c2, fun b hb => hzj b (by omega)⟩, cL2⟩, by first | omega | (dsimp only; omega)⟩
   ·try simp only [decide_eq_false_iff_not] at c1
    refine den_exit ?_
    refine denX_code ?_
    refine denX_stop ?_
    refine denX_hit ?_
    refine den_seq ?_
    refine den_region TTok ?_
    intro K hK
    simp -implicitDefEqProofs (disch := first | decide | assumption | omega) only [go_sem]
    refine hK _ _ ?_
    clear hK K
    refine den_ret ?_
    simp (disch := decide) only [resP_1, puts_same]
    exact ⟨vbool (dgB_y ⟨fmB_t.1 c0, fun i hi => (hz i (by omega)).1, fun i hi j hj => ((hz i (by omega)).2 j hj).1, fun i hi j hj k hk => ((hz i (by omega)).2 j hj).2 k hk⟩), eB⟩
end Go.Proofs.Ytacajcjibhifmaa

namespace Go.Proofs.Ytacajcjibhifmaa
open Go
def GcF (X : Dg) (i j : Nat) : Prop := eqE (X.tab j i) (plusN X.p z8 (X.tab i j) (1 - (X.deg i * X.deg j).tmod 2 * 2) 8) = true
noncomputable def gcB (X : Dg) : Bool := @decide (∀ i : Nat, (i : Int) < X.s → ∀ j : Nat, (j : Int) < X.s → GcF X i j) (Classical.propDecidable _)
theorem gcB_t {X : Dg} : gcB X = true ↔ ∀ i : Nat, (i : Int) < X.s → ∀ j : Nat, (j : Int) < X.s → GcF X i j := @decide_eq_true_iff _ (Classical.propDecidable _)
theorem gcB_y {X : Dg} (h : ∀ i : Nat, (i : Int) < X.s → ∀ j : Nat, (j : Int) < X.s → GcF X i j) : gcB X = true := gcB_t.2 h
theorem gcB_n {X : Dg} {i j : Nat} (hi : (i : Int) < X.s) (hj : (j : Int) < X.s) (h : ¬ GcF X i j) : gcB X = false := by
 cases e : gcB X
 ·rfl
 ·exact absurd (gcB_t.1 e i hi j hj) h
noncomputable def gcR (X : Dg) : Bool × Int := if dgB X = true then (gcB X, 0) else (false, 1)
theorem gcR_y {X : Dg} (h : dgB X = true) : gcR X = (gcB X, 0) := if_pos h
theorem gcR_n {X : Dg} (h : ¬ dgB X = true) : gcR X = (false, 1) := if_neg h
theorem mul25 {x y : Int} (hx : 0 ≤ x ∧ x ≤ 5) (hy : 0 ≤ y ∧ y ≤ 5) : 0 ≤ x * y ∧ x * y ≤ 25 := by
 have h1 := Int.mul_nonneg hx.1 hy.1
 have h2 := Int.mul_le_mul hx.2 hy.2 hy.1 (show (0 : Int) ≤ 5 by omega)
 omega
theorem lenNE : lenV TT 117 (.slice none 0 0) = some (.int .i64 0) := by kernel_rfl

set_option maxRecDepth 100000 in
set_option maxHeartbeats 4000000 in
theorem iGC_ok (X : Dg) (h : Heap)  (hB : DgB X) : CallA Try.prog 10 #[.agg (dgA X)] h fun v' h' => v' = .tuple #[.bool ((gcR X).1), .int .i64 ((gcR X).2)] ∧ Ext h h' := by
 have hBd := hB.dif
 have hBt := hB.tab
 refine callA_intro TTok (args := [_]) Try.func10 (by kernel_rfl) rfl 47 rfl (by simp) [.tmp 2, .tmp 3] rfl ?_
 simp only [idxs]
 refine den_seq ?_
 refine den_region TTok ?_
 intro K hK
 simp -implicitDefEqProofs (disch := first | decide | assumption | omega) only [go_sem]
 refine op_box (cs := dgA X) rfl ?_
 intro h0_0 e0_0 hb0_0 z0_0
 have := Ext.size e0_0
 have eB := e0_0
 have hfhb0_0 : Fresh h.size [h.size] := Fresh.one _
 have hlhb0_0 := one_lt (show h.size < h0_0.size by omega)
 try simp -implicitDefEqProofs (disch := first | decide | assumption | omega) only [go_sem]
 refine hK _ _ ?_
 clear hK K
 refine den_seq ?_
 refine den_seq ?_
 refine den_region TTok ?_
 intro K hK
 simp -implicitDefEqProofs (disch := first | decide | assumption | omega) only [go_sem, BoxAt.dgL hb0_0]
 refine CallA.mono (iDg_ok  X _  hB) ?_
 intro v_ h1_1
 rintro ⟨rfl, e1_1⟩
 replace hb0_0 := BoxAt.ext hb0_0 e1_1
 have := Ext.size e1_1
 replace eB := Ext.trans eB e1_1
 try simp -implicitDefEqProofs (disch := first | decide | assumption | omega) only [go_sem]
 refine hK _ _ ?_
 clear hK K
 refine den_cond rfl (fun c0 => ?_) (fun c0 => ?_)
 ·try simp only [Bool.not_eq_true'] at c0
  refine den_seq ?_
  refine den_region TTok ?_
  intro K hK
  simp -implicitDefEqProofs (disch := first | decide | assumption | omega) only [go_sem]
  refine hK _ _ ?_
  clear hK K
  refine den_ret ?_
  simp (disch := decide) only [resP_2, puts_same, puts_ne]
  rw [gcR_n (by rw [c0]; decide)]
  exact ⟨by first | rfl | trivial, eB⟩
 ·try simp only [Bool.not_eq_false'] at c0
  have hdg := dgB_t.1 c0
  have hfm := hdg.fm
  have hs8 := hfm.s
  have hpb := isP_bnd hfm.p
  have hpG : 0 < X.p ∧ X.p ≤ 7 := ⟨by omega, by omega⟩
  refine den_skip ?_
  refine den_seq ?_
  refine den_seq ?_
  refine den_region TTok ?_
  intro K hK
  simp -implicitDefEqProofs (disch := first | decide | assumption | omega) only [go_sem, fa34_1, ld2, BoxAt.dgS hb0_0, Nat.zero_add]
  refine hK _ _ ?_
  clear hK K
  refine den_block ?_
  refine den_sel [11, 1, 10] ?_
  intro env_1
  simp only [go_sem]
  refine den_loopS (σ := Nat) (fun st_ => [(11, .int .i64 (st_ : Int))]) (fun st_ H => ((st_ : Int) ≤ X.s) ∧ (∀ a : Nat, a < st_ → ∀ b : Nat, (b : Int) < X.s → GcF X a b) ∧ (Ext h1_1 H)) (fun st_ => X.s.toNat - st_) 0 ?_ ?_
  ·exact ⟨by omega, fun a h => by omega, Ext.refl _⟩
  ·rintro i h4 ee3 ⟨hi, hz, cL2⟩
   replace hb0_0 := BoxAt.ext hb0_0 cL2
   have := Ext.size cL2
   replace eB := Ext.trans eB cL2
   simp only [List.cons_append, List.nil_append]
   refine den_seq ?_
   refine den_region TTok ?_
   intro K hK
   simp -implicitDefEqProofs (disch := first | decide | assumption | omega) only [go_sem]
   refine hK _ _ ?_
   clear hK K
   refine den_seq ?_
   refine den_cond rfl (fun c1 => ?_) (fun c1 => ?_)
   ·try simp only [decide_eq_true_eq] at c1
    refine den_skip ?_
    refine den_seq ?_
    refine den_block ?_
    refine den_seq ?_
    refine den_region TTok ?_
    intro K hK
    simp -implicitDefEqProofs (disch := first | decide | assumption | omega) only [go_sem]
    refine hK _ _ ?_
    clear hK K
    refine den_seq ?_
    refine den_region TTok ?_
    intro K hK
    simp -implicitDefEqProofs (disch := first | decide | assumption | omega) only [go_sem, fa34_1, ld2, BoxAt.dgS hb0_0, Nat.zero_add]
    refine hK _ _ ?_
    clear hK K
    refine den_block ?_
    refine den_sel [16, 1, 4, 10, 11, 15] ?_
    intro env_5
    simp only [go_sem]
    refine den_loopS (σ := Nat) (fun st_ => [(16, .int .i64 (st_ : Int))]) (fun st_ H => ((st_ : Int) ≤ X.s) ∧ (∀ b : Nat, b < st_ → GcF X i b) ∧ (Ext h4 H)) (fun st_ => X.s.toNat - st_) 0 ?_ ?_
    ·exact ⟨by omega, fun b h => by omega, Ext.refl _⟩
    ·rintro j h8 ee7 ⟨hj, hzj, cL6⟩
     replace hb0_0 := BoxAt.ext hb0_0 cL6
     have := Ext.size cL6
     replace eB := Ext.trans eB cL6
     replace cL2 := Ext.trans cL2 cL6
     simp only [List.cons_append, List.nil_append]
     refine den_seq ?_
     refine den_region TTok ?_
     intro K hK
     simp -implicitDefEqProofs (disch := first | decide | assumption | omega) only [go_sem]
     refine hK _ _ ?_
     clear hK K
     refine den_seq ?_
     refine den_cond rfl (fun c2 => ?_) (fun c2 => ?_)
     ·try simp only [decide_eq_true_eq] at c2
      refine den_skip ?_
      refine den_seq ?_
      refine den_block ?_
      refine den_seq ?_
      refine den_region TTok ?_
      intro K hK
      simp -implicitDefEqProofs (disch := first | decide | assumption | omega) only [go_sem]
      refine hK _ _ ?_
      clear hK K
      refine den_seq ?_
      have hdi := (hfm.row i (by omega)).deg
      have hdj := (hfm.row j (by omega)).deg
      have hmul := mul25 hdi hdj
      have hsg := tmod_in (p := 2) (x := X.deg i * X.deg j) (by decide)
      refine den_draw TTok mixed [] [(0, true), (1, true), (2, true), (3, true), (4, true), (5, true), (6, true), (7, true), (8, true), (9, true), (10, true), (11, true), (12, true), (13, true), (14, true), (15, true), (16, true), (17, true), (18, true), (19, true), (20, true), (21, true), (22, true), (23, false), (24, false), (25, true)] (by kernel_rfl) ?_
      intro K hK
      simp -implicitDefEqProofs (disch := first | decide | assumption | omega) only [go_sem, fa34_2, fa34_5, ia32, ia31, ia22, ld2, BoxAt.dgL hb0_0, BoxAt.dgDeg hb0_0, BoxAt.dgTabL hb0_0, wrap_id, Nat.zero_add, build_el]
      refine CallA.mono (iSign_ok  ((X.deg i) * (X.deg j)) _  (by omega)) ?_
      intro v_ h9_23
      rintro ⟨rfl, e9_23⟩
      replace hb0_0 := BoxAt.ext hb0_0 e9_23
      have := Ext.size e9_23
      replace eB := Ext.trans eB e9_23
      replace cL2 := Ext.trans cL2 e9_23
      replace cL6 := Ext.trans cL6 e9_23
      refine plK_pres (Ext.pres e9_23) ?_
      try simp -implicitDefEqProofs (disch := first | decide | assumption | omega) only [go_sem]
      refine CallA.mono (iPls_ok  X z8 ((X.tab i) j) (1 - ((X.deg i) * (X.deg j)).tmod 2 * 2) _  hpG (by first | assumption | exact e8_by _ | exact By.z8 | exact hBd _ | exact hBt _ _ | exact tmJ_by (by omega) (tmI_by (by omega) _) _ | exact timesP_by (by omega) | exact dfI_by (by omega) _ | exact plusN_by (by omega) (timesP_by (by omega)) | exact dfI_by (by omega) 8) (by first | assumption | exact e8_by _ | exact By.z8 | exact hBd _ | exact hBt _ _ | exact tmJ_by (by omega) (tmI_by (by omega) _) _ | exact timesP_by (by omega) | exact dfI_by (by omega) _ | exact plusN_by (by omega) (timesP_by (by omega)) | exact dfI_by (by omega) 8) (by omega)) ?_
      intro v_ h9_24
      rintro ⟨rfl, e9_24⟩
      replace hb0_0 := BoxAt.ext hb0_0 e9_24
      have := Ext.size e9_24
      replace eB := Ext.trans eB e9_24
      replace cL2 := Ext.trans cL2 e9_24
      replace cL6 := Ext.trans cL6 e9_24
      refine plK_pres (Ext.pres e9_24) ?_
      try simp -implicitDefEqProofs (disch := first | decide | assumption | omega) only [go_sem, ne_el]
      refine hK _ _ ?_
      clear hK K
      refine den_cond rfl (fun c3 => ?_) (fun c3 => ?_)
      ·try simp only [Bool.not_eq_true'] at c3
       refine den_seq ?_
       refine den_region TTok ?_
       intro K hK
       simp -implicitDefEqProofs (disch := first | decide | assumption | omega) only [go_sem]
       refine hK _ _ ?_
       clear hK K
       refine den_ret ?_
       simp (disch := decide) only [resP_2, puts_same, puts_ne]
       rw [gcR_y c0, gcB_n (i := i) (j := j) (by omega) (by omega) (fun h => by have h2 := c3; unfold GcF at h; rw [h] at h2; cases h2)]
       exact ⟨by first | rfl | trivial, eB⟩
      ·try simp only [Bool.not_eq_false'] at c3
       refine den_skip ?_
       refine den_blk ?_
       refine den_region TTok ?_
       intro K hK
       simp -implicitDefEqProofs (disch := first | decide | assumption | omega) only [go_sem, wrap_id]
       refine hK _ _ ?_
       clear hK K
       refine den_stop ?_
       exact ⟨j + 1, by simp [HasL, puts_at], ⟨by first | omega | (dsimp only; omega), fun b hb => by
 by_cases hab : b < j
 ·exact hzj b hab
 ·have e : b = j := by omega
  subst e
  exact c3, cL6⟩, by first | omega | (dsimp only; omega)⟩
     ·try simp only [decide_eq_false_iff_not] at c2
      refine den_exit ?_
      refine denX_code ?_
      refine denX_stop ?_
      refine denX_hit ?_
      refine den_blk ?_
      refine den_region TTok ?_
      intro K hK
      simp -implicitDefEqProofs (disch := first | decide | assumption | omega) only [go_sem, wrap_id]
      refine hK _ _ ?_
      clear hK K
      refine den_stop ?_
      exact ⟨i + 1, by simp [puts_at], ⟨by first | omega | (dsimp only; omega), fun a ha => by
 by_cases hai : a < i
 ·exact hz a hai
 ·have e : a = i := by omega
  subst e
  exact fun b hb => hzj b (by omega), cL2⟩, by first | omega | (dsimp only; omega)⟩
   ·try simp only [decide_eq_false_iff_not] at c1
    refine den_exit ?_
    refine denX_code ?_
    refine denX_stop ?_
    refine denX_hit ?_
    refine den_seq ?_
    refine den_region TTok ?_
    intro K hK
    simp -implicitDefEqProofs (disch := first | decide | assumption | omega) only [go_sem]
    refine hK _ _ ?_
    clear hK K
    refine den_ret ?_
    simp (disch := decide) only [resP_2, puts_same, puts_ne]
    rw [gcR_y c0, gcB_y (fun i hi j hj => hz i (by omega) j hj)]
    exact ⟨by first | rfl | trivial, eB⟩

set_option maxRecDepth 100000 in
set_option maxHeartbeats 4000000 in
theorem sGc_ok (X : Dg) (h : Heap)  (hB : DgB X) (hfm : IsFm X) : CallA Try.prog 39 #[.agg (dgA X)] h fun v' h' => v' = .bool (gcB X) ∧ Ext h h' := by
 have hBd := hB.dif
 have hBt := hB.tab
 have hs8 := hfm.s
 have hpb := isP_bnd hfm.p
 have hpG : 0 < X.p ∧ X.p ≤ 7 := ⟨by omega, by omega⟩
 refine callA_intro TTok (args := [_]) Try.func39 (by kernel_rfl) rfl 48 rfl (by simp) [.tmp 2] rfl ?_
 simp only [idxs]
 refine den_seq ?_
 refine den_region TTok ?_
 intro K hK
 simp -implicitDefEqProofs (disch := first | decide | assumption | omega) only [go_sem]
 refine op_box (cs := dgA X) rfl ?_
 intro h0_0 e0_0 hb0_0 z0_0
 have := Ext.size e0_0
 have eB := e0_0
 have hfhb0_0 : Fresh h.size [h.size] := Fresh.one _
 have hlhb0_0 := one_lt (show h.size < h0_0.size by omega)
 try simp -implicitDefEqProofs (disch := first | decide | assumption | omega) only [go_sem]
 refine hK _ _ ?_
 clear hK K
 refine den_seq ?_
 refine den_seq ?_
 refine den_region TTok ?_
 intro K hK
 simp -implicitDefEqProofs (disch := first | decide | assumption | omega) only [go_sem]
 refine hK _ _ ?_
 clear hK K
 refine den_block ?_
 refine den_sel [3, 1] ?_
 intro env_1
 simp only [go_sem]
 refine den_loopS (σ := Nat) (fun st_ => [(3, .int .i64 (st_ : Int))]) (fun st_ H => ((st_ : Int) ≤ X.s) ∧ (∀ a : Nat, a < st_ → ∀ b : Nat, (b : Int) < X.s → GcF X a b) ∧ (Ext h0_0 H)) (fun st_ => X.s.toNat - st_) 0 ?_ ?_
 ·exact ⟨by omega, fun a h => by omega, Ext.refl _⟩
 ·rintro i h4 ee3 ⟨hi, hz, cL2⟩
  replace hb0_0 := BoxAt.ext hb0_0 cL2
  have := Ext.size cL2
  replace eB := Ext.trans eB cL2
  simp only [List.cons_append, List.nil_append]
  refine den_seq ?_
  refine den_seq ?_
  refine den_region TTok ?_
  intro K hK
  simp -implicitDefEqProofs (disch := first | decide | assumption | omega) only [go_sem, fa34_1, ld2, BoxAt.dgS hb0_0, Nat.zero_add]
  refine hK _ _ ?_
  clear hK K
  refine den_cond rfl (fun c0 => ?_) (fun c0 => ?_)
  ·try simp only [decide_eq_true_eq] at c0
   refine den_skip ?_
   refine den_seq ?_
   refine den_block ?_
   refine den_seq ?_
   refine den_region TTok ?_
   intro K hK
   simp -implicitDefEqProofs (disch := first | decide | assumption | omega) only [go_sem]
   refine hK _ _ ?_
   clear hK K
   refine den_block ?_
   refine den_sel [4, 1, 3] ?_
   intro env_5
   simp only [go_sem]
   refine den_loopS (σ := Nat) (fun st_ => [(4, .int .i64 (st_ : Int))]) (fun st_ H => ((st_ : Int) ≤ X.s) ∧ (∀ b : Nat, b < st_ → GcF X i b) ∧ (Ext h4 H)) (fun st_ => X.s.toNat - st_) 0 ?_ ?_
   ·exact ⟨by omega, fun b h => by omega, Ext.refl _⟩
   ·rintro j h8 ee7 ⟨hj, hzj, cL6⟩
    replace hb0_0 := BoxAt.ext hb0_0 cL6
    have := Ext.size cL6
    replace eB := Ext.trans eB cL6
    replace cL2 := Ext.trans cL2 cL6
    simp only [List.cons_append, List.nil_append]
    refine den_seq ?_
    refine den_seq ?_
    refine den_region TTok ?_
    intro K hK
    simp -implicitDefEqProofs (disch := first | decide | assumption | omega) only [go_sem, fa34_1, ld2, BoxAt.dgS hb0_0, Nat.zero_add]
    refine hK _ _ ?_
    clear hK K
    refine den_cond rfl (fun c1 => ?_) (fun c1 => ?_)
    ·try simp only [decide_eq_true_eq] at c1
     refine den_skip ?_
     refine den_seq ?_
     refine den_block ?_
     refine den_seq ?_
     have hdi := (hfm.row i (by omega)).deg
     have hdj := (hfm.row j (by omega)).deg
     have hmul := mul25 hdi hdj
     have hsg := tmod_in (p := 2) (x := X.deg i * X.deg j) (by decide)
     refine den_draw TTok mixed [] [(0, true), (1, true), (2, true), (3, true), (4, true), (5, true), (6, true), (7, true), (8, true), (9, true), (10, true), (11, true), (12, true)] (by kernel_rfl) ?_
     intro K hK
     simp -implicitDefEqProofs (disch := first | decide | assumption | omega) only [go_sem, fa34_2, ia22, ld2, BoxAt.dgDeg hb0_0, wrap_id, Nat.zero_add]
     refine hK _ _ ?_
     clear hK K
     refine den_seq ?_
     have hsg := tmod_in (p := 2) (x := X.deg i * X.deg j) (by decide)
     refine den_draw TTok mixed [] [(0, true), (1, true), (2, true), (3, true), (4, true), (5, true), (6, true), (7, true), (8, true), (9, true), (10, true), (11, true), (12, true), (13, true), (14, true), (15, true), (16, false), (17, true)] (by kernel_rfl) ?_
     intro K hK
     simp -implicitDefEqProofs (disch := first | decide | assumption | omega) only [go_sem, fa34_0, fa34_5, ia32, ia31, ld2, BoxAt.dgP hb0_0, BoxAt.dgTabL hb0_0, Nat.zero_add, build_el]
     refine CallA.mono (sAdd8_ok  X.p z8 ((X.tab i) j) ((1 : Int) - ((2 : Int) * (Int.tmod ((X.deg i) * (X.deg j)) (2 : Int)))) _  hpG (by first | assumption | exact e8_by _ | exact By.z8 | exact hBd _ | exact hBt _ _ | exact tmJ_by (by omega) (tmI_by (by omega) _) _ | exact timesP_by (by omega) | exact dfI_by (by omega) _ | exact plusN_by (by omega) (timesP_by (by omega)) | exact dfI_by (by omega) 8) (by first | assumption | exact e8_by _ | exact By.z8 | exact hBd _ | exact hBt _ _ | exact tmJ_by (by omega) (tmI_by (by omega) _) _ | exact timesP_by (by omega) | exact dfI_by (by omega) _ | exact plusN_by (by omega) (timesP_by (by omega)) | exact dfI_by (by omega) 8) (by omega)) ?_
     intro v_ h8_16
     rintro ⟨rfl, e8_16⟩
     replace hb0_0 := BoxAt.ext hb0_0 e8_16
     have := Ext.size e8_16
     replace eB := Ext.trans eB e8_16
     replace cL2 := Ext.trans cL2 e8_16
     replace cL6 := Ext.trans cL6 e8_16
     refine plK_pres (Ext.pres e8_16) ?_
     try simp -implicitDefEqProofs (disch := first | decide | assumption | omega) only [go_sem, ne_el]
     refine hK _ _ ?_
     clear hK K
     refine den_cond rfl (fun c2 => ?_) (fun c2 => ?_)
     ·try simp only [Bool.not_eq_true'] at c2
      refine den_seq ?_
      refine den_region TTok ?_
      intro K hK
      simp -implicitDefEqProofs (disch := first | decide | assumption | omega) only [go_sem]
      refine hK _ _ ?_
      clear hK K
      refine den_ret ?_
      simp (disch := decide) only [resP_1, puts_same]
      rw [gcB_n (i := i) (j := j) (by omega) (by omega) (fun h => by have h2 := c2; unfold GcF at h; rw [Int.mul_comm _ 2] at h; rw [h] at h2; cases h2)]
      exact ⟨by first | rfl | trivial, eB⟩
     ·try simp only [Bool.not_eq_false'] at c2
      refine den_skip ?_
      refine den_blk ?_
      refine den_region TTok ?_
      intro K hK
      simp -implicitDefEqProofs (disch := first | decide | assumption | omega) only [go_sem, wrap_id]
      refine hK _ _ ?_
      clear hK K
      refine den_stop ?_
      exact ⟨j + 1, by simp [HasL, puts_at], ⟨by first | omega | (dsimp only; omega), fun b hb => by
 by_cases hab : b < j
 ·exact hzj b hab
 ·have e : b = j := by omega
  subst e
  exact (by unfold GcF; rw [Int.mul_comm _ 2]; exact c2), cL6⟩, by first | omega | (dsimp only; omega)⟩
    ·try simp only [decide_eq_false_iff_not] at c1
     refine den_exit ?_
     refine denX_code ?_
     refine denX_stop ?_
     refine denX_hit ?_
     refine den_blk ?_
     refine den_region TTok ?_
     intro K hK
     simp -implicitDefEqProofs (disch := first | decide | assumption | omega) only [go_sem, wrap_id]
     refine hK _ _ ?_
     clear hK K
     refine den_stop ?_
     exact ⟨i + 1, by simp [puts_at], ⟨by first | omega | (dsimp only; omega), fun a ha => by
 by_cases hai : a < i
 ·exact hz a hai
 ·have e : a = i := by omega
  subst e
  exact fun b hb => hzj b (by omega), cL2⟩, by first | omega | (dsimp only; omega)⟩
  ·try simp only [decide_eq_false_iff_not] at c0
   refine den_exit ?_
   refine denX_code ?_
   refine denX_stop ?_
   refine denX_hit ?_
   refine den_seq ?_
   refine den_region TTok ?_
   intro K hK
   simp -implicitDefEqProofs (disch := first | decide | assumption | omega) only [go_sem]
   refine hK _ _ ?_
   clear hK K
   refine den_ret ?_
   simp (disch := decide) only [resP_1, puts_same]
   rw [gcB_y (fun i hi j hj => hz i (by omega) j hj)]
   exact ⟨by first | rfl | trivial, eB⟩

set_option maxRecDepth 100000 in
theorem sCd_ok (X : Dg) (h : Heap) (hB : DgB X) : CallA Try.prog 38 #[.agg (dgA X), .slice none 0 0] h fun v' h' => v' = .int .i64 (if dgB X = true then 0 else 1) ∧ Ext h h' := by
 refine callA_intro TTok (args := [_, _]) Try.func38 (by kernel_rfl) rfl 25 rfl (by simp) [.tmp 4] rfl ?_
 simp only [idxs, Nat.reduceAdd]
 refine den_seq ?_
 refine den_region TTok ?_
 intro K hK
 simp -implicitDefEqProofs (disch := first | decide | assumption | omega) only [go_sem]
 refine op_box (cs := dgA X) rfl ?_
 intro h0_0 e0_0 hb0_0 z0_0
 have := Ext.size e0_0
 have eB := e0_0
 have hfhb0_0 : Fresh h.size [h.size] := Fresh.one _
 have hlhb0_0 := one_lt (show h.size < h0_0.size by omega)
 try simp -implicitDefEqProofs (disch := first | decide | assumption | omega) only [go_sem]
 refine hK _ _ ?_
 clear hK K
 refine den_seq ?_
 refine den_seq ?_
 refine den_region TTok ?_
 intro K hK
 simp -implicitDefEqProofs (disch := first | decide | assumption | omega) only [go_sem, BoxAt.dgL hb0_0]
 refine CallA.mono (sDg_ok  X _  hB) ?_
 intro v_ h1_1
 rintro ⟨rfl, e1_1⟩
 replace hb0_0 := BoxAt.ext hb0_0 e1_1
 have := Ext.size e1_1
 replace eB := Ext.trans eB e1_1
 try simp -implicitDefEqProofs (disch := first | decide | assumption | omega) only [go_sem]
 refine hK _ _ ?_
 clear hK K
 refine den_cond rfl (fun c0 => ?_) (fun c0 => ?_)
 ·try simp only [Bool.not_eq_true'] at c0
  refine den_seq ?_
  refine den_region TTok ?_
  intro K hK
  simp -implicitDefEqProofs (disch := first | decide | assumption | omega) only [go_sem]
  refine hK _ _ ?_
  clear hK K
  refine den_ret ?_
  simp (disch := decide) only [resP_1, puts_same]
  exact ⟨by rw [if_neg (by rw [c0]; decide)], eB⟩
 ·try simp only [Bool.not_eq_false'] at c0
  refine den_skip ?_
  refine den_seq ?_
  refine den_seq ?_
  refine den_region TTok ?_
  intro K hK
  simp -implicitDefEqProofs (disch := first | decide | assumption | omega) only [go_sem]
  refine hK _ _ ?_
  clear hK K
  refine den_block ?_
  refine den_sel [5, 1, 2] ?_
  intro env_1
  simp only [go_sem]
  refine den_loopS (σ := Nat) (fun st_ => [(5, .int .i64 (st_ : Int))]) (fun st_ H => (st_ = 0) ∧ (Ext h1_1 H)) (fun st_ => 0) 0 ?_ ?_
  ·exact ⟨by first | (simp; done) | (dsimp only; omega) | (simp; omega), Ext.refl _⟩
  ·rintro k h4 ee3 ⟨hi0, cL2⟩
   replace hb0_0 := BoxAt.ext hb0_0 cL2
   have := Ext.size cL2
   replace eB := Ext.trans eB cL2
   simp only [List.cons_append, List.nil_append]
   refine den_seq ?_
   refine den_seq ?_
   refine den_region TTok ?_
   intro K hK
   simp -implicitDefEqProofs (disch := first | decide | assumption | omega) only [go_sem, lenNE]
   refine hK _ _ ?_
   clear hK K
   refine den_cond rfl (fun c1 => ?_) (fun c1 => ?_)
   ·try simp only [decide_eq_true_eq] at c1
    exact absurd c1 (by omega)
   ·try simp only [decide_eq_false_iff_not] at c1
    refine den_exit ?_
    refine denX_code ?_
    refine denX_stop ?_
    refine denX_hit ?_
    refine den_seq ?_
    refine den_region TTok ?_
    intro K hK
    simp -implicitDefEqProofs (disch := first | decide | assumption | omega) only [go_sem]
    refine hK _ _ ?_
    clear hK K
    refine den_ret ?_
    simp (disch := decide) only [resP_1, puts_same]
    exact ⟨by rw [if_pos c0], eB⟩

set_option maxRecDepth 100000 in
set_option maxHeartbeats 4000000 in
theorem sGC_ok (X : Dg) (h : Heap)  (hB : DgB X) : CallA Try.prog 8 #[.agg (dgA X)] h fun v' h' => v' = .tuple #[.bool ((gcR X).1), .int .i64 ((gcR X).2)] ∧ Ext h h' := by
 refine callA_intro TTok (args := [_]) Try.func8 (by kernel_rfl) rfl 12 rfl (by simp) [.tmp 2, .tmp 3] rfl ?_
 simp only [idxs]
 refine den_seq ?_
 refine den_region TTok ?_
 intro K hK
 simp -implicitDefEqProofs (disch := first | decide | assumption | omega) only [go_sem]
 refine op_box (cs := dgA X) rfl ?_
 intro h0_0 e0_0 hb0_0 z0_0
 have := Ext.size e0_0
 have eB := e0_0
 have hfhb0_0 : Fresh h.size [h.size] := Fresh.one _
 have hlhb0_0 := one_lt (show h.size < h0_0.size by omega)
 try simp -implicitDefEqProofs (disch := first | decide | assumption | omega) only [go_sem]
 refine hK _ _ ?_
 clear hK K
 refine den_seq ?_
 refine den_seq ?_
 refine den_region TTok ?_
 intro K hK
 simp -implicitDefEqProofs (disch := first | decide | assumption | omega) only [go_sem, BoxAt.dgL hb0_0]
 refine CallA.mono (sCd_ok X _ hB) ?_
 intro v_ h1_1
 rintro ⟨rfl, e1_1⟩
 replace hb0_0 := BoxAt.ext hb0_0 e1_1
 have := Ext.size e1_1
 replace eB := Ext.trans eB e1_1
 refine hK _ _ ?_
 clear hK K
 refine den_seq ?_
 refine den_region TTok ?_
 intro K hK
 simp -implicitDefEqProofs (disch := first | decide | assumption | omega) only [go_sem]
 refine hK _ _ ?_
 clear hK K
 refine den_cond rfl (fun c0 => ?_) (fun c0 => ?_)
 ·try simp only [bne_iff_ne, ne_eq] at c0
  refine den_seq ?_
  refine den_region TTok ?_
  intro K hK
  simp -implicitDefEqProofs (disch := first | decide | assumption | omega) only [go_sem]
  refine hK _ _ ?_
  clear hK K
  refine den_ret ?_
  simp (disch := decide) only [resP_2, puts_same, puts_ne]
  have hq : ¬ dgB X = true := fun hq => by rw [if_pos hq] at c0; exact c0 rfl
  rw [gcR_n hq, if_neg hq]
  exact ⟨by first | rfl | trivial, eB⟩
 ·try simp only [bne_eq_false_iff_eq] at c0
  have hdb : dgB X = true := by
   by_cases hq : dgB X = true
   ·exact hq
   ·rw [if_neg hq] at c0; exact absurd c0 (by decide)
  have hfm := (dgB_t.1 hdb).fm
  refine den_skip ?_
  refine den_seq ?_
  refine den_region TTok ?_
  intro K hK
  simp -implicitDefEqProofs (disch := first | decide | assumption | omega) only [go_sem, BoxAt.dgL hb0_0]
  refine CallA.mono (sGc_ok  X _  hB hfm) ?_
  intro v_ h4_1
  rintro ⟨rfl, e4_1⟩
  replace hb0_0 := BoxAt.ext hb0_0 e4_1
  have := Ext.size e4_1
  replace eB := Ext.trans eB e4_1
  refine hK _ _ ?_
  clear hK K
  refine den_ret ?_
  simp (disch := decide) only [resP_2, puts_same, puts_ne]
  rw [gcR_y hdb]
  exact ⟨by first | rfl | trivial, eB⟩
end Go.Proofs.Ytacajcjibhifmaa

namespace Go.Proofs.Ytacajcjibhifmaa
open Go
def in8A (u : Nat → Int) : Array Value := Array.ofFn (n := 8) fun i => .int .i64 (u i)
def el8A (f : Nat → Nat → Int) : Array Value := Array.ofFn (n := 64) fun i => .int .u8 (f (i / 8) (i % 8))
def el88A (f : Nat → Nat → Nat → Int) : Array Value := Array.ofFn (n := 512) fun i => .int .u8 (f (i / 64) (i / 8 % 8) (i % 8))
def z64 : Nat → Nat → Int := fun _ => z8
def z512 : Nat → Nat → Nat → Int := fun _ => z64
def dgZ : Dg := ⟨0, 0, z8, z8, z64, z512⟩
def updF {α : Type} (f : Nat → α) (i : Nat) (x : α) : Nat → α := fun k => if k = i then x else f k
theorem in8_at {u : Nat → Int} {i : Nat} (h : i < 8) : (in8A u)[i]? = some (.int .i64 (u i)) := by rw [in8A, Array.getElem?_ofFn, dif_pos h]
theorem ofFn_one {n : Nat} {f : Fin n → Value} (h : ∀ i, (f i).oneCell' = true) : ∀ v ∈ (Array.ofFn f).toList, v.oneCell' = true := by
 intro v hv
 rw [Array.mem_toList_iff, Array.mem_ofFn] at hv
 obtain ⟨i, rfl⟩ := hv
 exact h i
theorem splice_at {l vs : List Value} {o m : Nat} (hm : vs.length = m) (hl : o + m ≤ l.length) (q : Nat) : (l.take o ++ vs ++ l.drop (o + m))[q]? = if q < o then l[q]? else if q < o + m then vs[q - o]? else l[q]? := by
 have h1 : (l.take o).length = o := by rw [List.length_take]; omega
 by_cases h : q < o
 ·rw [if_pos h, List.append_assoc, List.getElem?_append_left (by omega), List.getElem?_take, if_pos h]
 ·rw [if_neg h]
  by_cases h2 : q < o + m
  ·rw [if_pos h2, List.append_assoc, List.getElem?_append_right (by omega), h1, List.getElem?_append_left (by omega)]
  ·rw [if_neg h2, List.getElem?_append_right (by rw [List.length_append]; omega), List.getElem?_drop, List.length_append, h1, hm]
   congr 1; omega
/-- What a store leaves, cell by cell. -/
theorem splice_eq {cs vs cs' : Array Value} {o m : Nat} (hm : vs.size = m) (hl : o + m ≤ cs.size) (h : ∀ q : Nat, (if q < o then cs[q]? else if q < o + m then vs[q - o]? else cs[q]?) = cs'[q]?) : (cs.toList.take o ++ vs.toList ++ cs.toList.drop (o + m)).toArray = cs' := by
 refine Array.ext_getElem? fun q => ?_
 rw [List.getElem?_toArray, splice_at (by simpa using hm) (by simpa using hl), ← h q]
 simp only [Array.getElem?_toList]
section
variable {h : Heap} {b : Nat} {cs : Array Value} {t tb : TypeId}
theorem ldArr {n : Nat} (hl : ∀ (h : Heap) (a : Addr), loadV TT h t a = (hcells h a 0 n).map fun cs => .agg cs.toArray) (hb : BoxAt h b cs tb) (f : Nat → Value) (o : Nat) (hf : ∀ q, q < n → cs[o + q]? = some (f q)) : loadV TT h t ⟨b, o, none⟩ = some (.agg (Array.ofFn (n := n) fun q => f q)) := by
 rw [hl, hcells_arr hb f o n 0 (fun q _ h2 => hf q (by omega)), Option.map_some]
 refine congrArg (fun z => some (Value.agg z)) (Array.ext_getElem? fun q => ?_)
 rw [Array.getElem?_ofFn, List.getElem?_toArray, List.getElem?_map]
 by_cases hq : q < n
 ·rw [dif_pos hq, List.getElem?_range' hq, Option.map_some]
  simp
 ·rw [dif_neg hq, List.getElem?_eq_none (by rw [List.length_range']; omega)]; rfl
end
/-! An algebra as an argument. -/
theorem wf_u8 {n : Int} (h : (Lit.int .u8 n).wf = true) : 0 ≤ n ∧ n ≤ 255 := by
 simp [Lit.wf, IntKind.min, IntKind.max, IntKind.signed, IntKind.bits] at h
 omega
section
variable {H : Type} {enc : TypeId × Value → H} {w : World} {base : Nat} {spare : Nat → Bool} {held : Bool} {fuel : Nat} {cs : List Value} {x : DataW H × List MemPlace}
end
end Go.Proofs.Ytacajcjibhifmaa

namespace Go.Proofs.Ytacajcjibhifmaa
open Go
theorem in8A_sz (u : Nat → Int) : (in8A u).size = 8 := Array.size_ofFn
theorem dgA_sz (X : Dg) : (dgA X).size = 594 := Array.size_ofFn
theorem in8A_one {u : Nat → Int} : ∀ v ∈ (in8A u).toList, v.oneCell' = true := ofFn_one fun _ => rfl
theorem dgF_one (X : Dg) (o : Nat) : (dgF X o).oneCell' = true := by
 unfold dgF
 split
 ·rfl
 ·split
  ·rfl
  ·split
   ·rfl
   ·split
    ·rfl
    ·split <;> rfl
theorem dgA_one {X : Dg} : ∀ v ∈ (dgA X).toList, v.oneCell' = true := ofFn_one fun i => dgF_one X i
theorem i64_one {x : Int} : ∀ v ∈ (#[Value.int .i64 x] : Array Value).toList, v.oneCell' = true := by
 intro v hv
 simp only [List.mem_cons, List.not_mem_nil, or_false] at hv
 subst hv; rfl
theorem all_eq {cs vs : Array Value} {n : Nat} (h1 : cs.size = n) (h2 : vs.size = n) : (cs.toList.take 0 ++ vs.toList ++ cs.toList.drop (0 + n)).toArray = vs := by
 rw [List.take_zero, List.nil_append, List.drop_of_length_le (by rw [Array.length_toList]; omega), List.append_nil]
theorem dgA_all {X Y : Dg} : ((dgA X).toList.take 0 ++ (dgA Y).toList ++ (dgA X).toList.drop (0 + 594)).toArray = dgA Y := all_eq (dgA_sz X) (dgA_sz Y)
theorem none_of {cs : Array Value} {n q : Nat} (h : cs.size = n) (hq : ¬ q < n) : cs[q]? = none := Array.getElem?_eq_none (by omega)
/-- Stores by cells: F before, G after. -/
theorem store_eq {cs vs cs' : Array Value} {o m n : Nat} {F G W : Nat → Value} (h1 : cs.size = n) (h2 : cs'.size = n) (hm : vs.size = m) (hl : o + m ≤ n) (f : ∀ q, q < n → cs[q]? = some (F q)) (g : ∀ q, q < n → cs'[q]? = some (G q)) (w : ∀ q, q < m → vs[q]? = some (W q)) (ha : ∀ q, q < n → (q < o ∨ o + m ≤ q) → G q = F q) (hb : ∀ q, q < m → G (o + q) = W q) : (cs.toList.take o ++ vs.toList ++ cs.toList.drop (o + m)).toArray = cs' := by
 refine splice_eq hm (by omega) fun q => ?_
 by_cases hq : q < n
 ·rw [g q hq]
  by_cases c1 : q < o
  ·rw [if_pos c1, f q hq, ha q hq (.inl c1)]
  ·rw [if_neg c1]
   by_cases c2 : q < o + m
   ·rw [if_pos c2, w (q - o) (by omega), ← hb (q - o) (by omega), show o + (q - o) = q by omega]
   ·rw [if_neg c2, f q hq, ha q hq (.inr (by omega))]
 ·rw [if_neg (by omega), if_neg (by omega), none_of h1 hq, none_of h2 hq]
theorem one_at {x : Value} : ∀ q, q < 1 → (#[x] : Array Value)[q]? = some ((fun _ => x) q) := fun q hq => by
 obtain rfl : q = 0 := by omega
 rfl
section
variable {X : Dg}
theorem dg_s {x : Int} : ((dgA X).toList.take 1 ++ (#[Value.int .i64 x] : Array Value).toList ++ (dgA X).toList.drop (1 + 1)).toArray = dgA { X with s := x } :=
 store_eq (dgA_sz _) (dgA_sz _) rfl (by omega) (fun q hq => dgA_at hq) (fun q hq => dgA_at hq) one_at (fun q hq hc => by
  unfold dgF
  by_cases h0 : q = 0 <;> by_cases h1 : q = 1 <;> by_cases h2 : q < 10 <;> by_cases h3 : q < 18 <;> first | (exfalso; omega) | simp [h0, h1, h2, h3]) (fun q hq => by
  obtain rfl : q = 0 := by omega
  rfl)
theorem dg_deg {u : Nat → Int} : ((dgA X).toList.take 2 ++ (in8A u).toList ++ (dgA X).toList.drop (2 + 8)).toArray = dgA { X with deg := u } :=
 store_eq (dgA_sz _) (dgA_sz _) (in8A_sz u) (by omega) (fun q hq => dgA_at hq) (fun q hq => dgA_at hq) (fun q hq => in8_at hq) (fun q hq hc => by
  unfold dgF
  by_cases h0 : q = 0 <;> by_cases h1 : q = 1 <;> by_cases h2 : q < 10 <;> by_cases h3 : q < 18 <;> first | (exfalso; omega) | simp [h0, h1, h2, h3]) (fun q hq => dgF_deg (X := { X with deg := u }) hq)
theorem dg_lev {u : Nat → Int} : ((dgA X).toList.take 10 ++ (in8A u).toList ++ (dgA X).toList.drop (10 + 8)).toArray = dgA { X with lev := u } :=
 store_eq (dgA_sz _) (dgA_sz _) (in8A_sz u) (by omega) (fun q hq => dgA_at hq) (fun q hq => dgA_at hq) (fun q hq => in8_at hq) (fun q hq hc => by
  unfold dgF
  by_cases h0 : q = 0 <;> by_cases h1 : q = 1 <;> by_cases h2 : q < 10 <;> by_cases h3 : q < 18 <;> first | (exfalso; omega) | simp [h0, h1, h2, h3]) (fun q hq => dgF_lev (X := { X with lev := u }) hq)
theorem dgF_diff {o : Nat} (h : 18 ≤ o ∧ o < 82) : dgF X o = .int .u8 (X.dif ((o - 18) / 8) ((o - 18) % 8)) := by
 unfold dgF
 rw [if_neg (by omega), if_neg (by omega), if_neg (by omega), if_neg (by omega), if_pos (by omega)]
theorem dgF_table {o : Nat} (h : 82 ≤ o) : dgF X o = .int .u8 (X.tab ((o - 82) / 64) ((o - 82) / 8 % 8) ((o - 82) % 8)) := by
 unfold dgF
 rw [if_neg (by omega), if_neg (by omega), if_neg (by omega), if_neg (by omega), if_neg (by omega)]
theorem dgF_low {Y : Dg} (hp : Y.p = X.p) (hs : Y.s = X.s) (hd : Y.deg = X.deg) (hl : Y.lev = X.lev) {o : Nat} (h : o < 18) : dgF Y o = dgF X o := by
 unfold dgF
 rw [hp, hs, hd, hl]
 by_cases h0 : o = 0 <;> by_cases h1 : o = 1 <;> by_cases h2 : o < 10 <;> simp [h0, h1, h2, h]
variable {h : Heap} {b : Nat} {t : TypeId} {u : Nat → Int} {f : Nat → Nat → Int} {g : Nat → Nat → Nat → Int}
theorem BoxAt.dgDegL (hb : BoxAt h b (dgA X) t) : loadV TT h 22 ⟨b, 2, none⟩ = some (.agg (in8A X.deg)) := ldArr ld22 hb (fun q => .int .i64 (X.deg q)) 2 (fun q hq => by rw [dgA_at (by omega), dgF_deg hq])
end
end Go.Proofs.Ytacajcjibhifmaa

namespace Go.Proofs.Ytacajcjibhifmaa
open Go
attribute [local irreducible] el8A el88A in8A dgA
end Go.Proofs.Ytacajcjibhifmaa

namespace Go.Proofs.Ytacajcjibhifmaa
open Go
section
variable {h : Heap} {b : Nat} {t : TypeId} {X : Dg} {f : Nat → Nat → Int} {g : Nat → Nat → Nat → Int}
end

attribute [local irreducible] el8A el88A in8A dgA
end Go.Proofs.Ytacajcjibhifmaa

namespace Go.Proofs.Ytacajcjibhifmaa
open Go
/-! Slices of pairs, of a call's own: one block each. -/
structure OQr (h : Heap) (v : Value) (xs : List (Int × Int)) (b c : Nat) (cur : Array Value) : Prop where
 val : v = .slice (some ⟨b, 0, none⟩) xs.length c
 box : BoxAt h b cur 98
 size : cur.size = 2 * c
 max : c ≤ 9223372036854775807
 le : xs.length ≤ c
 el : ∀ j, j < xs.length → cur[2 * j]? = some (.int .i64 (xs.getD j (0, 0)).1) ∧ cur[2 * j + 1]? = some (.int .i64 (xs.getD j (0, 0)).2)
def OQ (h : Heap) (v : Value) (xs : List (Int × Int)) (fp : List Nat) : Prop := ∃ b c cur, fp = [b] ∧ OQr h v xs b c cur
section
variable {h h' : Heap} {v : Value} {xs : List (Int × Int)} {fp : List Nat}
theorem OQ.lt (ho : OQ h v xs fp) : ∀ b ∈ fp, b < h.size := by
 obtain ⟨b, c, cur, rfl, r⟩ := ho
 intro q hq
 rw [List.mem_singleton] at hq
 subst hq; exact r.box.lt
theorem OQ.loc (hl : ∀ b ∈ fp, h'[b]? = h[b]?) (ho : OQ h v xs fp) : OQ h' v xs fp := by
 obtain ⟨b, c, cur, rfl, r⟩ := ho
 refine ⟨b, c, cur, rfl, r.val, ?_, r.size, r.max, r.le, r.el⟩
 unfold BoxAt
 rw [hl b (by simp)]; exact r.box
theorem OQ.ext (ho : OQ h v xs fp) (k : Ext h h') : OQ h' v xs fp := OQ.loc (fun b hb => k.block b (ho.lt b hb)) ho
theorem OQ.chg {fq : List Nat} (ho : OQ h v xs fp) (k : Chg fq h h') (hd : ∀ b ∈ fp, b ∉ fq) : OQ h' v xs fp := OQ.loc (fun b hb => k.block b (ho.lt b hb) (hd b hb)) ho
theorem OQ.one (ho : OQ h v xs fp) : v.oneCell' = true ∧ v.cells = #[v] := by
 obtain ⟨b, c, cur, rfl, r⟩ := ho
 rw [r.val]; exact ⟨rfl, rfl⟩
theorem slQ : SlA TT 96 98 2 := ⟨⟨_, _, T96, rfl, T98, rfl⟩⟩
theorem OQ.len (ho : OQ h v xs fp) : lenV TT 96 v = some (.int .i64 xs.length) := by
 obtain ⟨b, c, cur, rfl, r⟩ := ho
 obtain ⟨i, j, h1, h2, _⟩ := slQ.out
 rw [r.val]
 simp [lenV, h1, h2]
theorem OQ.idx (ho : OQ h v xs fp) (k : IntKind) (i : Int) (h0 : 0 ≤ i) (h1 : i < xs.length) : idxAddrV TT 96 v (.int k i) = some (.pointer (some ((sA v).add (2 * i.toNat)))) := by
 obtain ⟨b, c, cur, rfl, r⟩ := ho
 obtain ⟨q, j, e1, e2, e3, e4⟩ := slQ.out
 rw [r.val]
 simp [idxAddrV, e1, e2, e3, e4, asI, h0, h1, sA, Nat.mul_comm]
theorem OQ.ld (ho : OQ h v xs fp) (j : Nat) (hj : j < xs.length) : loadV TT h 98 ((sA v).add (2 * j)) = some (.agg #[.int .i64 (xs.getD j (0, 0)).1, .int .i64 (xs.getD j (0, 0)).2]) := by
 obtain ⟨b, c, cur, rfl, r⟩ := ho
 obtain ⟨e1, e2⟩ := r.el j hj
 have ha : (sA v).add (2 * j) = ⟨b, 2 * j, none⟩ := by rw [r.val]; simp only [sA]; rw [addr_add, Nat.zero_add]
 rw [ha, ld98]
 simp [hcells, addr_add, r.box.cell, e1, e2]
theorem OQ.nodup (ho : OQ h v xs fp) : fp.Nodup := by
 obtain ⟨b, c, cur, rfl, r⟩ := ho
 simp
theorem build_q (a b : Int) : buildV TT 98 [(0, .int .i64 a), (1, .int .i64 b)] = some (.agg #[.int .i64 a, .int .i64 b]) := by kernel_rfl
theorem bs0_q (h : Heap) : buildSliceV TT h 96 0 [] = some (.slice (some ⟨h.size, 0, none⟩) 0 0, h.push (.cells #[] 98)) := by kernel_rfl
theorem bs1_q (h : Heap) (a b : Int) : buildSliceV TT h 96 1 [(0, .agg #[.int .i64 a, .int .i64 b])] = some (.slice (some ⟨h.size, 0, none⟩) 1 1, h.push (.cells #[.int .i64 a, .int .i64 b] 98)) := by kernel_rfl
theorem OQ.new (h : Heap) (cs : Array Value) (xs : List (Int × Int)) (c : Nat) (hs : cs.size = 2 * c) (hm : c ≤ 9223372036854775807) (hl : xs.length ≤ c) (hel : ∀ j, j < xs.length → cs[2 * j]? = some (.int .i64 (xs.getD j (0, 0)).1) ∧ cs[2 * j + 1]? = some (.int .i64 (xs.getD j (0, 0)).2)) : OQ (h.push (.cells cs 98)) (.slice (some ⟨h.size, 0, none⟩) xs.length c) xs [h.size] :=
 ⟨h.size, c, cs, rfl, rfl, BoxAt.new _ _ _, hs, hm, hl, hel⟩
theorem hset2_box {b o : Nat} {cur : Array Value} {t : TypeId} {x y : Value} (hb : BoxAt h b cur t) (ho : o + 1 < cur.size) (hx : x.oneCell' = true) (hy : y.oneCell' = true) : ∃ h', hputs ⟨b, o, none⟩ h 0 [x, y] = some h' ∧ BoxAt h' b (cur.toList.take o ++ [x, y] ++ cur.toList.drop (o + 2)).toArray t ∧ Chg [b] h h' := by
 rw [hputs_at]
 exact hputs_box [x, y] (o + 0) h cur hb (by simp; omega) (fun v hv => by
  simp only [List.mem_cons, List.not_mem_nil, or_false] at hv
  rcases hv with rfl | rfl
  ·exact hx
  ·exact hy)
theorem put2_at {cur : Array Value} {o : Nat} {x y : Value} (ho : o + 1 < cur.size) (i : Nat) : ((cur.toList.take o ++ [x, y] ++ cur.toList.drop (o + 2)).toArray)[i]? = if i = o then some x else if i = o + 1 then some y else cur[i]? := by
 have hl : (cur.toList.take o).length = o := by rw [List.length_take, Array.length_toList]; omega
 rw [List.getElem?_toArray]
 by_cases h1 : i < o
 ·rw [if_neg (by omega), if_neg (by omega), List.append_assoc, List.getElem?_append_left (by omega), List.getElem?_take_of_lt h1, Array.getElem?_toList]
 ·rw [List.append_assoc, List.getElem?_append_right (by omega), hl]
  by_cases h2 : i = o
  ·subst h2; rw [if_pos rfl, Nat.sub_self]; rfl
  ·rw [if_neg h2]
   by_cases h3 : i = o + 1
   ·subst h3; rw [if_pos rfl, show o + 1 - o = 1 by omega]; rfl
   ·rw [if_neg h3, List.getElem?_append_right (by simp; omega), List.getElem?_drop, Array.getElem?_toList]
    congr 1
    simp only [List.length_cons, List.length_nil]
    omega
theorem put2_size {cur : Array Value} {o : Nat} {x y : Value} (ho : o + 1 < cur.size) : (cur.toList.take o ++ [x, y] ++ cur.toList.drop (o + 2)).toArray.size = cur.size := by
 simp; omega
end
section
variable {P : Program} {n : Nat} {K : Env → Heap → Prop} {env : Env} {h : Heap} {d : Option Tmp} {ty : TypeId} {p : String} {a : Array Edge} {g : Option (Nat × Bool)} {v : Value} {xs : List (Int × Int)} {fp : List Nat}
theorem op_bs0Q (hk : ∀ v' h', OQ h' v' [] [h.size] → Ext h h' → outv n ⟨d, .buildSlice 96 0 #[], ty, p, a, g⟩ K env h' v') : opP P TT n ⟨d, .buildSlice 96 0 #[], ty, p, a, g⟩ K env h := by
 rw [opP_buildSlice]
 have : (#[].map (fun (i, x) => (i, ev env x)) : Array (Nat × Value)).toList = [] := by simp
 rw [this, bs0_q, Bd_some]
 exact hk _ _ (OQ.new h #[] [] 0 rfl (by omega) (by simp) (fun j hj => by simp at hj)) (Ext.push _ _)
theorem op_bs1Q {x : Operand} {q : Int × Int} (hx : ev env x = .agg #[.int .i64 q.1, .int .i64 q.2])
  (hk : outv n ⟨d, .buildSlice 96 1 #[(0, x)], ty, p, a, g⟩ K env (h.push (.cells #[.int .i64 q.1, .int .i64 q.2] 98)) (.slice (some ⟨h.size, 0, none⟩) 1 1)) : opP P TT n ⟨d, .buildSlice 96 1 #[(0, x)], ty, p, a, g⟩ K env h := by
 rw [opP_buildSlice]
 have : (#[(0, x)].map (fun (i, x) => (i, ev env x)) : Array (Nat × Value)).toList = [(0, .agg #[.int .i64 q.1, .int .i64 q.2])] := by simp [hx]
 rw [this, bs1_q h, Bd_some]
 exact hk
theorem getD_app1q {A B : List (Int × Int)} {j : Nat} (hj : j < A.length) : (A ++ B).getD j (0, 0) = A.getD j (0, 0) := by
 rw [List.getD_eq_getElem?_getD, List.getElem?_append_left hj, List.getD_eq_getElem?_getD]
theorem getD_app2q {A : List (Int × Int)} {q : Int × Int} : (A ++ [q]).getD A.length (0, 0) = q := by
 rw [List.getD_eq_getElem?_getD, List.getElem?_append_right (Nat.le_refl _), Nat.sub_self]; rfl
theorem app3_at {A B C : Array Value} {i : Nat} (h : i < A.size + B.size) : (A ++ B ++ C)[i]? = if i < A.size then A[i]? else B[i - A.size]? := by
 rw [Array.getElem?_append_left (by rw [Array.size_append]; exact h)]
 by_cases h1 : i < A.size
 ·rw [if_pos h1, Array.getElem?_append_left h1]
 ·rw [if_neg h1, Array.getElem?_append_right (by omega)]
set_option maxRecDepth 100000 in
theorem op_append1Q {q : Int × Int} {s x : Operand} (ho : OQ h v xs fp) (hlen : xs.length ≤ 1000) (hs : ev env s = v) (hq : ev env x = .slice (some ⟨h.size, 0, none⟩) 1 1)
  (hk : ∀ v' h' fp', OQ h' v' (xs ++ [q]) fp' → fp'.Nodup → (∀ b ∈ fp', b ∈ fp ∨ b ∈ ([] : List Nat) ∨ (h.size ≤ b)) → Chg fp h h' → outv n ⟨d, .call { callee := .builtin .append, args := #[s, x], argTypes := #[96, 96] }, ty, p, a, g⟩ K env h' v') :
  opP P TT n ⟨d, .call { callee := .builtin .append, args := #[s, x], argTypes := #[96, 96] }, ty, p, a, g⟩ K env (h.push (.cells #[.int .i64 q.1, .int .i64 q.2] 98)) := by
 obtain ⟨b, c, cur, rfl, r⟩ := ho
 have hel : elT TT 96 = some (98, ⟨d98, 2, 16, .agg #[.int .i64 0, .int .i64 0]⟩) := by kernel_rfl
 have hni : isIntT TT 96 = some false := by kernel_rfl
 rw [opP_append, hel, Bd_some, hs, hq, r.val, asSl_sl, Bd_some, hni, Bd_some, if_neg (by simp), asSl_sl, Bd_some]
 have hc : sliceCells (h.push (.cells #[.int .i64 q.1, .int .i64 q.2] 98)) 2 1 (.slice (some ⟨h.size, 0, none⟩) 1 1) = some [.int .i64 q.1, .int .i64 q.2] := by
  have hb := BoxAt.new h #[.int .i64 q.1, .int .i64 q.2] 98
  simp only [sliceCells]
  rw [hcells_box hb _ 0 (by simp)]
  simp
 dsimp only
 rw [hc, Bd_some]
 have hbox1 : BoxAt (h.push (.cells #[.int .i64 q.1, .int .i64 q.2] 98)) b cur 98 := r.box.ext (Ext.push _ _)
 have hsz := r.size
 have hle := r.le
 have hbl := r.box.lt
 unfold appendP
 split
 ·rename_i hcp
  have ha : ((⟨b, 0, none⟩ : Addr).add (xs.length * 2)) = ⟨b, xs.length * 2, none⟩ := by rw [addr_add, Nat.zero_add]
  obtain ⟨h', k1, k2, k3⟩ := hset2_box (x := .int .i64 q.1) (y := .int .i64 q.2) (o := xs.length * 2) hbox1 (by omega) rfl rfl
  dsimp only
  rw [ha, k1]
  dsimp only
  refine hk _ _ [b] ⟨b, c, _, rfl, by simp, k2, by rw [put2_size (by omega)]; exact r.size, r.max, by simpa using hcp, fun j hj => ?_⟩ (by simp) (fun z hz => .inl hz) ⟨by have := k3.size; rw [Array.size_push] at this; omega, fun z hz hn => by rw [k3.block z (by rw [Array.size_push]; omega) hn, push_old hz]⟩
  rw [List.length_append, List.length_singleton] at hj
  rw [put2_at (by omega), put2_at (by omega)]
  by_cases hjl : j < xs.length
  ·rw [getD_app1q hjl, if_neg (by omega), if_neg (by omega), if_neg (by omega), if_neg (by omega)]
   exact r.el j hjl
  ·have hje : j = xs.length := by omega
   subst hje
   rw [getD_app2q, if_pos (by omega), if_neg (by omega), if_pos (by omega)]
   exact ⟨rfl, rfl⟩
 ·rename_i hcp
  refine ⟨⟨growslice_fits (by omega) (by show (xs.length + 1) * 16 ≤ _; omega), by have := r.max; omega⟩, (cur.toList.drop 0).take (xs.length * 2), ?_, fun newCap h1 h2 => ?_⟩
  ·dsimp only
   exact hcells_box hbox1 _ 0 (by omega)
  ·have hzs : (Builtin.zeroCells (Value.agg #[.int .i64 0, .int .i64 0]).cells (newCap - (xs.length + 1))).size = 2 * (newCap - (xs.length + 1)) := by simp [Builtin.zeroCells, cells_agg]; omega
   have hol : ((cur.toList.drop 0).take (xs.length * 2)).length = xs.length * 2 := by simp; omega
   have hns := OQ.new (h.push (.cells #[.int .i64 q.1, .int .i64 q.2] 98)) (((cur.toList.drop 0).take (xs.length * 2)).toArray ++ [Value.int .i64 q.1, .int .i64 q.2].toArray ++ Builtin.zeroCells (Value.agg #[.int .i64 0, .int .i64 0]).cells (newCap - (xs.length + 1))) (xs ++ [q]) newCap (by rw [Array.size_append, hzs, Array.size_append, List.size_toArray, hol]; simp; omega) h2 (by simpa using h1) (fun j hj => by
    rw [List.length_append, List.length_singleton] at hj
    rw [app3_at (by rw [List.size_toArray, hol]; simp; omega), app3_at (by rw [List.size_toArray, hol]; simp; omega)]
    by_cases hjl : j < xs.length
    ·rw [getD_app1q hjl, if_pos (by rw [List.size_toArray, hol]; omega), if_pos (by rw [List.size_toArray, hol]; omega)]
     simp only [List.drop_zero, List.getElem?_toArray]
     rw [List.getElem?_take_of_lt (by omega), List.getElem?_take_of_lt (by omega), Array.getElem?_toList, Array.getElem?_toList]
     exact r.el j hjl
    ·have hje : j = xs.length := by omega
     subst hje
     rw [getD_app2q, if_neg (by rw [List.size_toArray, hol]; omega), if_neg (by rw [List.size_toArray, hol]; omega), List.size_toArray, hol, show 2 * xs.length - xs.length * 2 = 0 by omega, show 2 * xs.length + 1 - xs.length * 2 = 1 by omega]
     exact ⟨rfl, rfl⟩)
   rw [List.length_append, List.length_singleton] at hns
   refine hk _ _ _ hns (by simp) (fun z hz => ?_) ⟨by simp; omega, fun z hz _ => by rw [push_old (by rw [Array.size_push]; omega), push_old hz]⟩
   rw [List.mem_singleton, Array.size_push] at hz
   exact .inr (.inr (by omega))
theorem op_storeQ {x y : Operand} {j : Nat} {q : Int × Int} (ho : OQ h v xs fp) (hj : j < xs.length) (hx : ev env x = .pointer (some ((sA v).add (2 * j)))) (hy : ev env y = .agg #[.int .i64 q.1, .int .i64 q.2])
  (hk : ∀ h', OQ h' v (xs.set j q) fp → Chg fp h h' → outv n ⟨d, .store 98 x y, ty, p, a, g⟩ K env h' undef) : opP P TT n ⟨d, .store 98 x y, ty, p, a, g⟩ K env h := by
 obtain ⟨b, c, cur, rfl, r⟩ := ho
 have hsz := r.size
 have hle := r.le
 have ha : (sA v).add (2 * j) = ⟨b, 2 * j, none⟩ := by rw [r.val]; simp only [sA]; rw [addr_add, Nat.zero_add]
 obtain ⟨h', k1, k2, k3⟩ := hset2_box (x := .int .i64 q.1) (y := .int .i64 q.2) (o := 2 * j) r.box (by omega) rfl rfl
 rw [opP_store, hx, hy, asAd_ptr, Bd_some, st98, if_pos (show (Value.agg #[.int .i64 q.1, .int .i64 q.2]).cells.size = 2 from rfl), ha]
 rw [show hputs ⟨b, 2 * j, none⟩ h 0 (Value.agg #[.int .i64 q.1, .int .i64 q.2]).cells.toList = some h' from k1, Bd_some]
 refine hk _ ⟨b, c, _, rfl, by rw [List.length_set]; exact r.val, k2, by rw [put2_size (by omega)]; exact r.size, r.max, by rw [List.length_set]; exact r.le, fun i hi => ?_⟩ k3
 rw [List.length_set] at hi
 rw [put2_at (by omega), put2_at (by omega)]
 by_cases hij : i = j
 ·subst hij
  rw [List.getD_eq_getElem?_getD, List.getElem?_set_self hi, if_pos rfl, if_neg (by omega), if_pos rfl]
  exact ⟨rfl, rfl⟩
 ·rw [List.getD_eq_getElem?_getD, List.getElem?_set_ne (by omega), ← List.getD_eq_getElem?_getD, if_neg (by omega), if_neg (by omega), if_neg (by omega), if_neg (by omega)]
  exact r.el i hi
end
end Go.Proofs.Ytacajcjibhifmaa

namespace Go.Proofs.Ytacajcjibhifmaa
open Go
def prR (i : Nat) (j : Nat) : List (Int × Int) := (List.range j).map fun q : Nat => ((i : Int), (q : Int))
/-- The pairs of i < m, j < n, row by row. -/
def prI (n : Nat) : Nat → List (Int × Int)
 | 0 => []
 | i + 1 => prI n i ++ prR i n
def prL (X Y : Dg) : List (Int × Int) := prI Y.s.toNat X.s.toNat
theorem prR_step (i j : Nat) : prR i j ++ [((i : Int), (j : Int))] = prR i (j + 1) := by
 rw [prR, prR, List.range_succ, List.map_append]; rfl
theorem prR_zero (i : Nat) : prR i 0 = [] := rfl
theorem prI_step (n i : Nat) : prI n i ++ prR i n = prI n (i + 1) := rfl
theorem prR_len (i j : Nat) : (prR i j).length = j := by simp [prR]
theorem prI_len (n : Nat) : ∀ i, (prI n i).length = i * n
 | 0 => by simp [prI]
 | i + 1 => by rw [prI, List.length_append, prI_len n i, prR_len, Nat.add_mul, Nat.one_mul]
theorem prI_mem {n m : Nat} {q : Int × Int} : q ∈ prI n m ↔ 0 ≤ q.1 ∧ q.1 < m ∧ 0 ≤ q.2 ∧ q.2 < n := by
 induction m with
 | zero => simp [prI]; omega
 | succ m ih =>
  rw [prI, List.mem_append, ih, prR, List.mem_map]
  constructor
  ·rintro (h | ⟨j, hj, rfl⟩)
   ·omega
   ·rw [List.mem_range] at hj; exact ⟨by dsimp only; omega, by dsimp only; omega, by dsimp only; omega, by dsimp only; omega⟩
  ·intro h
   by_cases h1 : q.1 < m
   ·exact .inl ⟨h.1, h1, h.2.2⟩
   ·refine .inr ⟨q.2.toNat, by rw [List.mem_range]; omega, ?_⟩
    apply Prod.ext <;> dsimp only <;> omega
/-- The parts of a list at f = a, a + 1, .., one behind the other. -/
def bkf (f : Int × Int → Int) (L : List (Int × Int)) (a : Int) : Nat → List (Int × Int)
 | 0 => []
 | m + 1 => bkf f L a m ++ L.filter fun q => decide (f q = a + (m : Int))
theorem bkf_step (f : Int × Int → Int) (L : List (Int × Int)) (m : Nat) : bkf f L 0 m ++ (L.filter fun q => decide (f q = (m : Int))) = bkf f L 0 (m + 1) := by
 rw [bkf, Int.zero_add]
theorem bkf_add (f : Int × Int → Int) (L : List (Int × Int)) (a : Int) (m : Nat) : ∀ k, bkf f L a (m + k) = bkf f L a m ++ bkf f L (a + m) k
 | 0 => by simp [bkf]
 | k + 1 => by rw [← Nat.add_assoc, bkf, bkf_add f L a m k, bkf, List.append_assoc, show a + ((m + k : Nat) : Int) = a + m + (k : Int) by omega]
theorem bkf_out {f : Int × Int → Int} {L : List (Int × Int)} {x : Int × Int} {a : Int} : ∀ {m : Nat}, (f x < a ∨ a + m ≤ f x) → bkf f (L ++ [x]) a m = bkf f L a m
 | 0, _ => rfl
 | m + 1, h => by
  rw [bkf, bkf, bkf_out (m := m) (by omega), List.filter_append]
  have : ([x].filter fun q => decide (f q = a + (m : Int))) = [] := by simp; omega
  rw [this, List.append_nil]
theorem bkf_in {f : Int × Int → Int} {L : List (Int × Int)} {x : Int × Int} {a : Int} {m : Nat} (h : f x = a + m) : bkf f (L ++ [x]) a (m + 1) = bkf f L a (m + 1) ++ [x] := by
 rw [bkf, bkf, bkf_out (.inr (by omega)), List.filter_append, List.append_assoc]
 have : ([x].filter fun q => decide (f q = a + (m : Int))) = [x] := by simp [h]
 rw [this]
theorem bkf_mem {f : Int × Int → Int} {L : List (Int × Int)} {a : Int} {q : Int × Int} : ∀ {m : Nat}, q ∈ bkf f L a m ↔ q ∈ L ∧ a ≤ f q ∧ f q < a + m
 | 0 => ⟨fun h => (by cases h), fun ⟨_, h1, h2⟩ => by omega⟩
 | m + 1 => by
  rw [bkf, List.mem_append, bkf_mem (m := m), List.mem_filter, decide_eq_true_eq]
  constructor
  ·rintro (⟨h1, h2, h3⟩ | ⟨h1, h2⟩)
   ·exact ⟨h1, h2, by omega⟩
   ·exact ⟨h1, by omega, by omega⟩
  ·rintro ⟨h1, h2, h3⟩
   by_cases h4 : f q < a + m
   ·exact .inl ⟨h1, h2, h4⟩
   ·exact .inr ⟨h1, by omega⟩
theorem bkf_nil (f : Int × Int → Int) (a : Int) : ∀ m, bkf f [] a m = []
 | 0 => rfl
 | m + 1 => by rw [bkf, bkf_nil f a m]; rfl
theorem rev_ind {α : Type} {P : List α → Prop} (h0 : P []) (h1 : ∀ M x, P M → P (M ++ [x])) (L : List α) : P L := by
 have h : ∀ R : List α, P R.reverse := fun R => by
  induction R with
  | nil => exact h0
  | cons x r ih => rw [List.reverse_cons]; exact h1 _ _ ih
 have := h L.reverse
 rwa [List.reverse_reverse] at this
theorem bkf_len {f : Int × Int → Int} {L : List (Int × Int)} (h : ∀ q ∈ L, 0 ≤ f q ∧ f q < 11) : (bkf f L 0 11).length = L.length := by
 induction L using rev_ind with
 | h0 => rw [bkf_nil]
 | h1 M x ih =>
  have hx := h x (by simp)
  have e : 11 = ((f x).toNat + 1) + (10 - (f x).toNat) := by omega
  rw [e, bkf_add, bkf_in (by omega), bkf_out (.inl (by omega)), List.length_append, List.length_append, List.length_append]
  have := ih (fun q hq => h q (by simp [hq]))
  rw [e, bkf_add, List.length_append] at this
  omega
/-- An element on its way to its place. -/
def stI (M : List (Int × Int)) (x : Int × Int) (R : List (Int × Int)) (j : Nat) : List (Int × Int) := M.take j ++ x :: (M.drop j ++ R)
theorem stI_len (M : List (Int × Int)) (x : Int × Int) (R : List (Int × Int)) (j : Nat) : (stI M x R j).length = M.length + 1 + R.length := by
 rw [stI]; simp; omega
theorem stI_full (M : List (Int × Int)) (x : Int × Int) (R : List (Int × Int)) : stI M x R M.length = M ++ x :: R := by simp [stI]
theorem stI_x {M : List (Int × Int)} {x : Int × Int} {R : List (Int × Int)} {j : Nat} (h : j ≤ M.length) : (stI M x R j).getD j (0, 0) = x := by
 have hl : (M.take j).length = j := by rw [List.length_take]; omega
 rw [stI, List.getD_eq_getElem?_getD, List.getElem?_append_right (by omega), hl, Nat.sub_self]; rfl
theorem stI_p {M : List (Int × Int)} {x : Int × Int} {R : List (Int × Int)} {j : Nat} (h : j ≤ M.length) (h0 : 0 < j) : (stI M x R j).getD (j - 1) (0, 0) = M.getD (j - 1) (0, 0) := by
 have hl : (M.take j).length = j := by rw [List.length_take]; omega
 rw [stI, List.getD_eq_getElem?_getD, List.getElem?_append_left (by omega), List.getElem?_take_of_lt (by omega), List.getD_eq_getElem?_getD]
theorem stI_swap {M : List (Int × Int)} {x : Int × Int} {R : List (Int × Int)} {j : Nat} (h : j ≤ M.length) (h0 : 0 < j) : ((stI M x R j).set j (M.getD (j - 1) (0, 0))).set (j - 1) x = stI M x R (j - 1) := by
 have hl : (M.take j).length = j := by rw [List.length_take]; omega
 have hl1 : (M.take (j - 1)).length = j - 1 := by rw [List.length_take]; omega
 have e : M.take j = M.take (j - 1) ++ [M.getD (j - 1) (0, 0)] := by
  obtain ⟨k, rfl⟩ : ∃ k, j = k + 1 := ⟨j - 1, by omega⟩
  rw [Nat.add_sub_cancel, List.take_succ_eq_append_getElem (by omega), List.getD_eq_getElem?_getD, List.getElem?_eq_getElem (by omega)]; rfl
 have e2 : M.drop (j - 1) = M.getD (j - 1) (0, 0) :: M.drop j := by
  obtain ⟨k, rfl⟩ : ∃ k, j = k + 1 := ⟨j - 1, by omega⟩
  rw [Nat.add_sub_cancel, List.drop_eq_getElem_cons (by omega), List.getD_eq_getElem?_getD, List.getElem?_eq_getElem (by omega)]; rfl
 rw [stI, List.set_append_right _ _ (by omega), hl, Nat.sub_self, List.set_cons_zero, e, List.append_assoc, List.set_append_right _ _ (by omega), hl1, Nat.sub_self, stI, e2]
 rfl
/-- Where it comes to rest. -/
theorem stI_end {f : Int × Int → Int} {P R : List (Int × Int)} {x : Int × Int} (hx : 0 ≤ f x ∧ f x < 11) : stI (bkf f P 0 11) x R (bkf f P 0 ((f x).toNat + 1)).length = bkf f (P ++ [x]) 0 11 ++ R := by
 have e : 11 = ((f x).toNat + 1) + (10 - (f x).toNat) := by omega
 have e1 : bkf f P 0 11 = bkf f P 0 ((f x).toNat + 1) ++ bkf f P (0 + ((f x).toNat + 1 : Nat)) (10 - (f x).toNat) := by rw [← bkf_add, ← e]
 have e2 : bkf f (P ++ [x]) 0 11 = bkf f P 0 ((f x).toNat + 1) ++ [x] ++ bkf f P (0 + ((f x).toNat + 1 : Nat)) (10 - (f x).toNat) := by
  rw [e, bkf_add, bkf_in (by omega), bkf_out (.inl (by omega))]
 rw [stI, e1, e2]
 simp
theorem stI_u {f : Int × Int → Int} {P : List (Int × Int)} {x : Int × Int} (hx : 0 ≤ f x ∧ f x < 11) : (bkf f P 0 ((f x).toNat + 1)).length ≤ (bkf f P 0 11).length := by
 have e : 11 = ((f x).toNat + 1) + (10 - (f x).toNat) := by omega
 have e1 : bkf f P 0 11 = bkf f P 0 ((f x).toNat + 1) ++ bkf f P (0 + ((f x).toNat + 1 : Nat)) (10 - (f x).toNat) := by rw [← bkf_add, ← e]
 rw [e1, List.length_append]; omega
theorem stI_gt {f : Int × Int → Int} {P : List (Int × Int)} {x : Int × Int} (hx : 0 ≤ f x ∧ f x < 11) {j : Nat} (hj : j < (bkf f P 0 11).length) : f x < f ((bkf f P 0 11).getD j (0, 0)) ↔ (bkf f P 0 ((f x).toNat + 1)).length ≤ j := by
 have e : 11 = ((f x).toNat + 1) + (10 - (f x).toNat) := by omega
 have e1 : bkf f P 0 11 = bkf f P 0 ((f x).toNat + 1) ++ bkf f P (0 + ((f x).toNat + 1 : Nat)) (10 - (f x).toNat) := by rw [← bkf_add, ← e]
 rw [e1] at hj ⊢
 rw [List.length_append] at hj
 by_cases h : j < (bkf f P 0 ((f x).toNat + 1)).length
 ·have hm : (bkf f P 0 ((f x).toNat + 1))[j] ∈ bkf f P 0 ((f x).toNat + 1) := List.getElem_mem h
  rw [List.getD_eq_getElem?_getD, List.getElem?_append_left h, List.getElem?_eq_getElem h, Option.getD_some]
  have := (bkf_mem.1 hm).2.2
  omega
 ·have h2 : j - (bkf f P 0 ((f x).toNat + 1)).length < (bkf f P (0 + ((f x).toNat + 1 : Nat)) (10 - (f x).toNat)).length := by omega
  have hm : (bkf f P (0 + ((f x).toNat + 1 : Nat)) (10 - (f x).toNat))[j - (bkf f P 0 ((f x).toNat + 1)).length] ∈ bkf f P (0 + ((f x).toNat + 1 : Nat)) (10 - (f x).toNat) := List.getElem_mem h2
  rw [List.getD_eq_getElem?_getD, List.getElem?_append_right (by omega), List.getElem?_eq_getElem h2, Option.getD_some]
  have := (bkf_mem.1 hm).2.1
  omega
/-- The list of pairs, by their degrees. -/
def dgQ (X Y : Dg) (q : Int × Int) : Int := X.deg q.1.toNat + Y.deg q.2.toNat
def srQ (X Y : Dg) : List (Int × Int) := bkf (dgQ X Y) (prL X Y) 0 11
def atQ (X Y : Dg) (k : Nat) : Int × Int := (srQ X Y).getD k (0, 0)
section
variable {X Y : Dg} (hX : IsFm X) (hY : IsFm Y)
include hX hY
theorem prL_at {q : Int × Int} (h : q ∈ prL X Y) : 0 ≤ q.1 ∧ q.1 < X.s ∧ 0 ≤ q.2 ∧ q.2 < Y.s := by
 have hs := hX.s
 have ht := hY.s
 have := prI_mem.1 h
 omega
theorem dgQ_b {q : Int × Int} (h : q ∈ prL X Y) : 0 ≤ dgQ X Y q ∧ dgQ X Y q < 11 := by
 have hs := hX.s
 have ht := hY.s
 have h1 := prL_at hX hY h
 have h2 := (hX.row q.1.toNat (by omega)).deg
 have h3 := (hY.row q.2.toNat (by omega)).deg
 unfold dgQ; omega
theorem srQ_len : ((srQ X Y).length : Int) = X.s * Y.s := by
 have hs := hX.s
 have ht := hY.s
 rw [srQ, bkf_len (fun q hq => dgQ_b hX hY hq), prL, prI_len]
 obtain ⟨a, ha⟩ := Int.eq_ofNat_of_zero_le (show 0 ≤ X.s by omega)
 obtain ⟨b, hb⟩ := Int.eq_ofNat_of_zero_le (show 0 ≤ Y.s by omega)
 rw [ha, hb]
 simp
omit hX hY in
theorem atQ_mem {k : Nat} (h : k < (srQ X Y).length) : atQ X Y k ∈ prL X Y := by
 have hm : (srQ X Y)[k] ∈ srQ X Y := List.getElem_mem h
 rw [atQ, List.getD_eq_getElem?_getD, List.getElem?_eq_getElem h, Option.getD_some]
 exact (bkf_mem.1 hm).1
theorem atQ_b {k : Nat} (h : k < (srQ X Y).length) : 0 ≤ (atQ X Y k).1 ∧ (atQ X Y k).1 < X.s ∧ 0 ≤ (atQ X Y k).2 ∧ (atQ X Y k).2 < Y.s := prL_at hX hY (atQ_mem h)
end
end Go.Proofs.Ytacajcjibhifmaa

namespace Go.Proofs.Ytacajcjibhifmaa
open Go
def encQ (q : Int × Int) : Int := 8 * q.1 + q.2
theorem bkf_le (f : Int × Int → Int) (L : List (Int × Int)) (a : Int) : ∀ m, (bkf f L a m).length ≤ m * L.length
 | 0 => by simp [bkf]
 | m + 1 => by
  have := bkf_le f L a m
  have h := List.length_filter_le (fun q => decide (f q = a + (m : Int))) L
  rw [bkf, List.length_append, Nat.add_mul, Nat.one_mul]; omega
/-- The numbers of the pairs that stand already. -/
def pqP (X Y : Dg) (d i j : Nat) : List Int := (bkf (dgQ X Y) (prL X Y) 0 d ++ (prI Y.s.toNat i ++ prR i j).filter fun q => decide (dgQ X Y q = (d : Int))).map encQ
theorem pqP_len {X Y : Dg} {d i j : Nat} (hX : X.s ≤ 8) (hY : Y.s ≤ 8) (hd : d ≤ 11) (hi : i ≤ 8) (hj : j ≤ 8) : (pqP X Y d i j).length ≤ 900 := by
 have h1 := bkf_le (dgQ X Y) (prL X Y) 0 d
 have h2 := List.length_filter_le (fun q => decide (dgQ X Y q = (d : Int))) (prI Y.s.toNat i ++ prR i j)
 have h3 : (prL X Y).length ≤ 64 := by
  rw [prL, prI_len]
  have := Nat.mul_le_mul (show X.s.toNat ≤ 8 by omega) (show Y.s.toNat ≤ 8 by omega)
  omega
 have h4 := Nat.mul_le_mul hd h3
 have h5 := Nat.mul_le_mul hi (show Y.s.toNat ≤ 8 by omega)
 rw [List.length_append, prI_len, prR_len] at h2
 rw [pqP, List.length_map, List.length_append]
 omega
theorem dgQ_at (X Y : Dg) (i j : Nat) : dgQ X Y ((i : Int), (j : Int)) = X.deg i + Y.deg j := by simp [dgQ]
theorem pqP_yes {X Y : Dg} {d i j : Nat} (h : X.deg i + Y.deg j = (d : Int)) : pqP X Y d i j ++ [8 * (i : Int) + (j : Int)] = pqP X Y d i (j + 1) := by
 rw [pqP, pqP, ← prR_step, ← List.append_assoc (prI Y.s.toNat i), List.filter_append (prI Y.s.toNat i ++ prR i j), ← List.append_assoc, List.map_append (l₂ := List.filter _ [_])]
 have : ([((i : Int), (j : Int))].filter fun q => decide (dgQ X Y q = (d : Int))) = [((i : Int), (j : Int))] := by
  rw [List.filter_cons_of_pos (by rw [decide_eq_true_eq, dgQ_at]; exact h)]; rfl
 rw [this]; rfl
theorem pqP_no {X Y : Dg} {d i j : Nat} (h : ¬ X.deg i + Y.deg j = (d : Int)) : pqP X Y d i j = pqP X Y d i (j + 1) := by
 rw [pqP, pqP, ← prR_step, ← List.append_assoc (prI Y.s.toNat i), List.filter_append (prI Y.s.toNat i ++ prR i j)]
 have : ([((i : Int), (j : Int))].filter fun q => decide (dgQ X Y q = (d : Int))) = [] := by
  rw [List.filter_cons_of_neg (by rw [decide_eq_true_eq, dgQ_at]; exact h)]; rfl
 rw [this, List.append_nil]
theorem pqP_row {X Y : Dg} {d i : Nat} : pqP X Y d i Y.s.toNat = pqP X Y d (i + 1) 0 := by
 rw [pqP, pqP, prI_step, prR_zero, List.append_nil]
theorem pqP_deg {X Y : Dg} {d : Nat} : pqP X Y d X.s.toNat 0 = pqP X Y (d + 1) 0 0 := by
 rw [pqP, pqP, prR_zero, List.append_nil, ← prL, bkf_step]
 show _ = (bkf (dgQ X Y) (prL X Y) 0 (d + 1) ++ []).map encQ
 rw [List.append_nil]
theorem pqP_0 (X Y : Dg) : pqP X Y 0 0 0 = [] := rfl
def EQ (X Y : Dg) : List Int := (srQ X Y).map encQ
theorem pqP_end (X Y : Dg) : pqP X Y 11 0 0 = EQ X Y := by
 show (bkf (dgQ X Y) (prL X Y) 0 11 ++ []).map encQ = _
 rw [List.append_nil]; rfl
theorem kuv_bnd {k x y : Int} (hk : -3 ≤ k ∧ k ≤ 3) (hx : 0 ≤ x ∧ x ≤ 255) (hy : 0 ≤ y ∧ y ≤ 255) : (-765 ≤ k * x ∧ k * x ≤ 765) ∧ -195075 ≤ k * x * y ∧ k * x * y ≤ 195075 := by
 have h1 := Int.mul_le_mul hk.2 hx.2 hx.1 (show (0 : Int) ≤ 3 by omega)
 have h2 := Int.mul_le_mul (show -k ≤ 3 by omega) hx.2 hx.1 (show (0 : Int) ≤ 3 by omega)
 rw [Int.neg_mul] at h2
 have h3 := Int.mul_le_mul (show k * x ≤ 765 by omega) hy.2 hy.1 (show (0 : Int) ≤ 765 by omega)
 have h4 := Int.mul_le_mul (show -(k * x) ≤ 765 by omega) hy.2 hy.1 (show (0 : Int) ≤ 765 by omega)
 rw [Int.neg_mul] at h4
 omega
theorem td8 {x : Int} (h : 0 ≤ x ∧ x ≤ 63) : (0 ≤ x.tdiv 8 ∧ x.tdiv 8 ≤ 7) ∧ 0 ≤ x.tmod 8 ∧ x.tmod 8 ≤ 7 := by
 rw [Int.tdiv_eq_ediv_of_nonneg h.1, Int.tmod_eq_emod_of_nonneg h.1]; omega
/-- The pairs of two elements, with a sign. -/
def pjN (p : Int) (E : List Int) (k : Int) (u v : Nat → Int) (n : Nat) : Nat → Int := fun q => if q < n then (k * u ((E.getD q 0).tdiv 8).toNat * v ((E.getD q 0).tmod 8).toNat) % p else 0
theorem pjN_0 (p : Int) (E : List Int) (k : Int) (u v : Nat → Int) : pjN p E k u v 0 = z8 := by funext q; simp [pjN, z8]
theorem pjN_step (p : Int) (E : List Int) (k : Int) (u v : Nat → Int) (n : Nat) : upd (pjN p E k u v n) n ((k * u ((E.getD n 0).tdiv 8).toNat * v ((E.getD n 0).tmod 8).toNat) % p) = pjN p E k u v (n + 1) := by
 funext q
 unfold upd pjN
 by_cases h : q = n
 ·subst h; rw [if_pos rfl, if_pos (by omega)]
 ·rw [if_neg h]
  by_cases h2 : q < n
  ·rw [if_pos h2, if_pos (by omega)]
  ·rw [if_neg h2, if_neg (by omega)]
theorem pjN_by {p : Int} (hp : 0 < p ∧ p ≤ 7) {E : List Int} {k : Int} {u v : Nat → Int} {n : Nat} : By (pjN p E k u v n) := fun q => by
 unfold pjN
 split
 ·have h1 := Int.emod_nonneg (k * u ((E.getD q 0).tdiv 8).toNat * v ((E.getD q 0).tmod 8).toNat) (show p ≠ 0 by omega)
  have h2 := Int.emod_lt_of_pos (k * u ((E.getD q 0).tdiv 8).toNat * v ((E.getD q 0).tmod 8).toNat) hp.1
  omega
 ·omega

set_option maxRecDepth 100000 in
set_option maxHeartbeats 4000000 in
theorem sPq_ok (X : Dg) (Y : Dg) (h : Heap)  (hfX : IsFm X) (hfY : IsFm Y) : CallA Try.prog 67 #[.agg (dgA X), .agg (dgA Y)] h fun v' h' => ∃ w0 f0, v' = w0 ∧ O1 h' w0 (EQ X Y) f0 ∧ Fresh h.size f0 ∧ Ext h h' := by
 have hsX := hfX.s
 have hsY := hfY.s
 refine callA_intro TTok (args := [_, _]) Try.func67 (by kernel_rfl) rfl 45 rfl (by simp) [.tmp 4] rfl ?_
 simp only [idxs, Nat.reduceAdd]
 refine den_seq ?_
 refine den_region TTok ?_
 intro K hK
 simp -implicitDefEqProofs (disch := first | decide | assumption | omega) only [go_sem]
 refine op_box (cs := dgA X) rfl ?_
 intro h0_0 e0_0 hb0_0 z0_0
 have := Ext.size e0_0
 have eB := e0_0
 have hfhb0_0 : Fresh h.size [h.size] := Fresh.one _
 have hlhb0_0 := one_lt (show h.size < h0_0.size by omega)
 try simp -implicitDefEqProofs (disch := first | decide | assumption | omega) only [go_sem]
 refine op_box (cs := dgA Y) rfl ?_
 intro h0_1 e0_1 hb0_1 z0_1
 replace hb0_0 := BoxAt.ext hb0_0 e0_1
 have := Ext.size e0_1
 replace eB := Ext.trans eB e0_1
 have hfhb0_1 : Fresh h0_0.size [h0_0.size] := Fresh.one _
 have hlhb0_1 := one_lt (show h0_0.size < h0_1.size by omega)
 try simp -implicitDefEqProofs (disch := first | decide | assumption | omega) only [go_sem]
 refine hK _ _ ?_
 clear hK K
 refine den_seq ?_
 refine den_region TTok ?_
 intro K hK
 simp -implicitDefEqProofs (disch := first | decide | assumption | omega) only [go_sem]
 refine op_bs0 sz55 OI ?_
 intro v1_0 h1_0 ho1_0 e1_0
 replace hb0_0 := BoxAt.ext hb0_0 e1_0
 replace hb0_1 := BoxAt.ext hb0_1 e1_0
 have := Ext.size e1_0
 replace eB := Ext.trans eB e1_0
 have hfho1_0 : Fresh h0_1.size [h0_1.size] := Fresh.one _
 have hlho1_0 := OS.lt ho1_0
 try simp -implicitDefEqProofs (disch := first | decide | assumption | omega) only [go_sem]
 refine hK _ _ ?_
 clear hK K
 refine den_seq ?_
 refine den_seq ?_
 refine den_region TTok ?_
 intro K hK
 simp -implicitDefEqProofs (disch := first | decide | assumption | omega) only [go_sem]
 refine hK _ _ ?_
 clear hK K
 refine den_block ?_
 refine den_sel [5, 6, 2, 3] ?_
 intro env_1
 simp only [go_sem]
 refine den_loopS (σ := Nat × Value × List Nat) (fun st_ => [(5, st_.2.1), (6, .int .i64 (st_.1 : Int))]) (fun st_ H => (st_.1 ≤ 11) ∧ (O1 H st_.2.1 (pqP X Y st_.1 0 0) st_.2.2) ∧ (Fresh (h0_1.size) st_.2.2) ∧ (Sub [h0_1.size] h1_0.size st_.2.2) ∧ (Chg [h0_1.size] h1_0 H)) (fun st_ => 11 - st_.1) (0, v1_0, [h0_1.size]) ?_ ?_
 ·exact ⟨by first | (simp; done) | (dsimp only; omega) | (simp; omega), by rw [pqP_0]; exact ho1_0, hfho1_0, Sub.refl, Chg.refl _ _⟩
 ·rintro ⟨d, vhO, fphO⟩ h4 ee3 ⟨hi0, hO, hfhO, sbhO, cL2⟩
  dsimp only at hi0 hO hfhO sbhO cL2
  replace hb0_0 := BoxAt.chgA hb0_0 cL2 (apart_lt hlhb0_0 hfho1_0 (by omega))
  replace hb0_1 := BoxAt.chgA hb0_1 cL2 (apart_lt hlhb0_1 hfho1_0 (by omega))
  have := cL2.size
  replace eB := Ext.then eB cL2 (ge_of hfho1_0 (by omega))
  have hlhO := OS.lt hO
  simp only [List.cons_append, List.nil_append]
  refine den_seq ?_
  refine den_seq ?_
  refine den_region TTok ?_
  intro K hK
  simp -implicitDefEqProofs (disch := first | decide | assumption | omega) only [go_sem]
  refine hK _ _ ?_
  clear hK K
  refine den_cond rfl (fun c0 => ?_) (fun c0 => ?_)
  ·try simp only [decide_eq_true_eq] at c0
   refine den_skip ?_
   refine den_seq ?_
   refine den_block ?_
   refine den_seq ?_
   refine den_region TTok ?_
   intro K hK
   simp -implicitDefEqProofs (disch := first | decide | assumption | omega) only [go_sem]
   refine hK _ _ ?_
   clear hK K
   refine den_block ?_
   refine den_sel [5, 7, 2, 3, 6] ?_
   intro env_5
   simp only [go_sem]
   refine den_loopS (σ := Nat × Value × List Nat) (fun st_ => [(5, st_.2.1), (7, .int .i64 (st_.1 : Int))]) (fun st_ H => ((st_.1 : Int) ≤ X.s) ∧ (O1 H st_.2.1 (pqP X Y d st_.1 0) st_.2.2) ∧ (Fresh (h0_1.size) st_.2.2) ∧ (Sub fphO h4.size st_.2.2) ∧ (Chg fphO h4 H)) (fun st_ => X.s.toNat - st_.1) (0, vhO, fphO) ?_ ?_
   ·exact ⟨by omega, hO, hfhO, Sub.refl, Chg.refl _ _⟩
   ·rintro ⟨i, vhP, fphP⟩ h8 ee7 ⟨hi0, hP, hfhP, sbhP, cL6⟩
    dsimp only at hi0 hP hfhP sbhP cL6
    replace hb0_0 := BoxAt.chgA hb0_0 cL6 (apart_lt hlhb0_0 hfhO (by omega))
    replace hb0_1 := BoxAt.chgA hb0_1 cL6 (apart_lt hlhb0_1 hfhO (by omega))
    have := cL6.size
    replace eB := Ext.then eB cL6 (ge_of hfhO (by omega))
    replace cL2 := Chg.step cL2 cL6 sbhO
    have sb9 : Sub [h0_1.size] h1_0.size fphP := Sub.trans sbhP sbhO (by omega)
    have hlhP := OS.lt hP
    simp only [List.cons_append, List.nil_append]
    refine den_seq ?_
    refine den_seq ?_
    refine den_region TTok ?_
    intro K hK
    simp -implicitDefEqProofs (disch := first | decide | assumption | omega) only [go_sem, fa34_1, ld2, BoxAt.dgS hb0_0, Nat.zero_add]
    refine hK _ _ ?_
    clear hK K
    refine den_cond rfl (fun c1 => ?_) (fun c1 => ?_)
    ·try simp only [decide_eq_true_eq] at c1
     refine den_skip ?_
     refine den_seq ?_
     refine den_block ?_
     refine den_seq ?_
     refine den_region TTok ?_
     intro K hK
     simp -implicitDefEqProofs (disch := first | decide | assumption | omega) only [go_sem]
     refine hK _ _ ?_
     clear hK K
     refine den_block ?_
     refine den_sel [5, 8, 2, 3, 6, 7] ?_
     intro env_10
     simp only [go_sem]
     refine den_loopS (σ := Nat × Value × List Nat) (fun st_ => [(5, st_.2.1), (8, .int .i64 (st_.1 : Int))]) (fun st_ H => ((st_.1 : Int) ≤ Y.s) ∧ (O1 H st_.2.1 (pqP X Y d i st_.1) st_.2.2) ∧ (Fresh (h0_1.size) st_.2.2) ∧ (Sub fphP h8.size st_.2.2) ∧ (Chg fphP h8 H)) (fun st_ => Y.s.toNat - st_.1) (0, vhP, fphP) ?_ ?_
     ·exact ⟨by omega, hP, hfhP, Sub.refl, Chg.refl _ _⟩
     ·rintro ⟨j, vhQ, fphQ⟩ h13 ee12 ⟨hi0, hQ, hfhQ, sbhQ, cL11⟩
      dsimp only at hi0 hQ hfhQ sbhQ cL11
      replace hb0_0 := BoxAt.chgA hb0_0 cL11 (apart_lt hlhb0_0 hfhP (by omega))
      replace hb0_1 := BoxAt.chgA hb0_1 cL11 (apart_lt hlhb0_1 hfhP (by omega))
      have := cL11.size
      replace eB := Ext.then eB cL11 (ge_of hfhP (by omega))
      replace cL2 := Chg.step cL2 cL11 sb9
      replace cL6 := Chg.step cL6 cL11 sbhP
      have sb14 : Sub [h0_1.size] h1_0.size fphQ := Sub.trans sbhQ sb9 (by omega)
      have sb15 : Sub fphO h4.size fphQ := Sub.trans sbhQ sbhP (by omega)
      have hlhQ := OS.lt hQ
      simp only [List.cons_append, List.nil_append]
      have hpl := pqP_len (X := X) (Y := Y) (d := d) (i := i) (j := j) (by omega) (by omega) (by omega) (by omega) (by omega)
      refine den_seq ?_
      refine den_seq ?_
      refine den_region TTok ?_
      intro K hK
      simp -implicitDefEqProofs (disch := first | decide | assumption | omega) only [go_sem, fa34_1, ld2, BoxAt.dgS hb0_1, Nat.zero_add]
      refine hK _ _ ?_
      clear hK K
      refine den_cond rfl (fun c2 => ?_) (fun c2 => ?_)
      ·try simp only [decide_eq_true_eq] at c2
       refine den_skip ?_
       refine den_seq ?_
       refine den_block ?_
       refine den_seq ?_
       have hdX := (hfX.row i (by omega)).deg
       have hdY := (hfY.row j (by omega)).deg
       refine den_draw TTok mixed [] [(0, true), (1, true), (2, true), (3, true), (4, true), (5, true), (6, true), (7, true), (8, true), (9, true), (10, true)] (by kernel_rfl) ?_
       intro K hK
       simp -implicitDefEqProofs (disch := first | decide | assumption | omega) only [go_sem, fa34_2, ia22, ld2, BoxAt.dgDeg hb0_0, BoxAt.dgDeg hb0_1, wrap_id, Nat.zero_add]
       refine hK _ _ ?_
       clear hK K
       refine den_cond rfl (fun c3 => ?_) (fun c3 => ?_)
       ·try simp only [beq_iff_eq] at c3
        refine den_region TTok ?_
        intro K hK
        simp -implicitDefEqProofs (disch := first | decide | assumption | omega) only [go_sem, wrap_id]
        refine op_bs1 sz55 rfl rfl ?_
        try simp -implicitDefEqProofs (disch := first | decide | assumption | omega) only [go_sem]
        refine op_append1 sz55 hQ hfhQ.nodup ⟨rfl, rfl⟩ List.nodup_nil (Apart.nil _) (by first | omega | (simp; omega)) rfl rfl ?_
        intro v12_6 h12_6 fp12_6 ho12_6 hn12_6 hs12_6 c12_6
        have hsz12_6 := c12_6.size
        have hfho12_6 : Fresh h0_1.size fp12_6 := Fresh.appd hfhQ (Fresh.nil h13.size) (by omega) (by omega) hn12_6 hs12_6
        have sb16 : Sub [h0_1.size] h1_0.size fp12_6 := Sub.grow sb14 Sub.nil (by omega) hs12_6
        have sb17 : Sub fphO h4.size fp12_6 := Sub.grow sb15 Sub.nil (by omega) hs12_6
        have sb18 : Sub fphP h8.size fp12_6 := Sub.grow sbhQ Sub.nil (by omega) hs12_6
        replace hb0_0 := BoxAt.chgA hb0_0 c12_6 (apart_lt hlhb0_0 hfhQ (by omega))
        replace hb0_1 := BoxAt.chgA hb0_1 c12_6 (apart_lt hlhb0_1 hfhQ (by omega))
        have := c12_6.size
        replace eB := Ext.then eB c12_6 (ge_of hfhQ (by omega))
        replace cL2 := Chg.step cL2 c12_6 sb14
        replace cL6 := Chg.step cL6 c12_6 sb15
        replace cL11 := Chg.step cL11 c12_6 sbhQ
        have hlho12_6 := OS.lt ho12_6
        try simp -implicitDefEqProofs (disch := first | decide | assumption | omega) only [go_sem]
        refine hK _ _ ?_
        clear hK K
        refine den_blk ?_
        refine den_region TTok ?_
        intro K hK
        simp -implicitDefEqProofs (disch := first | decide | assumption | omega) only [go_sem, wrap_id]
        refine hK _ _ ?_
        clear hK K
        refine den_stop ?_
        first | rw [pqP_yes c3] at ho12_6 | rw [pqP_no c3] at ho12_6
        exact ⟨(j + 1, v12_6, fp12_6), by simp [HasL, puts_at], ⟨by first | omega | (dsimp only; omega), ho12_6, hfho12_6, sb18, cL11⟩, by first | omega | (dsimp only; omega)⟩
       ·try simp only [beq_eq_false_iff_ne, ne_eq] at c3
        refine den_skip ?_
        refine den_blk ?_
        refine den_region TTok ?_
        intro K hK
        simp -implicitDefEqProofs (disch := first | decide | assumption | omega) only [go_sem, wrap_id]
        refine hK _ _ ?_
        clear hK K
        refine den_stop ?_
        first | rw [pqP_yes c3] at hQ | rw [pqP_no c3] at hQ
        exact ⟨(j + 1, vhQ, fphQ), by simp [HasL, puts_at], ⟨by first | omega | (dsimp only; omega), hQ, hfhQ, sbhQ, cL11⟩, by first | omega | (dsimp only; omega)⟩
      ·try simp only [decide_eq_false_iff_not] at c2
       refine den_exit ?_
       refine denX_code ?_
       refine denX_stop ?_
       refine denX_hit ?_
       refine den_blk ?_
       refine den_region TTok ?_
       intro K hK
       simp -implicitDefEqProofs (disch := first | decide | assumption | omega) only [go_sem, wrap_id]
       refine hK _ _ ?_
       clear hK K
       refine den_stop ?_
       rw [show j = Y.s.toNat by omega, pqP_row] at hQ
       exact ⟨(i + 1, vhQ, fphQ), by simp [puts_at], ⟨by first | omega | (dsimp only; omega), hQ, hfhQ, sb15, cL6⟩, by first | omega | (dsimp only; omega)⟩
    ·try simp only [decide_eq_false_iff_not] at c1
     refine den_exit ?_
     refine denX_code ?_
     refine denX_stop ?_
     refine denX_hit ?_
     refine den_blk ?_
     refine den_region TTok ?_
     intro K hK
     simp -implicitDefEqProofs (disch := first | decide | assumption | omega) only [go_sem, wrap_id]
     refine hK _ _ ?_
     clear hK K
     refine den_stop ?_
     rw [show i = X.s.toNat by omega, pqP_deg] at hP
     exact ⟨(d + 1, vhP, fphP), by simp [puts_at], ⟨by first | omega | (dsimp only; omega), hP, hfhP, sb9, cL2⟩, by first | omega | (dsimp only; omega)⟩
  ·try simp only [decide_eq_false_iff_not] at c0
   refine den_exit ?_
   refine denX_code ?_
   refine denX_stop ?_
   refine denX_hit ?_
   refine den_seq ?_
   refine den_region TTok ?_
   intro K hK
   simp -implicitDefEqProofs (disch := first | decide | assumption | omega) only [go_sem]
   refine hK _ _ ?_
   clear hK K
   refine den_ret ?_
   simp (disch := decide) only [resP_1, puts_same]
   rw [show d = 11 by omega, pqP_end] at hO
   exact ⟨_, _, rfl, hO, hfhO.mono (by omega), eB⟩

set_option maxRecDepth 100000 in
set_option maxHeartbeats 4000000 in
theorem sPj_ok (vE : Value) (p : Int) (E : List Int) (u : Nat → Int) (v : Nat → Int) (s : Int) (h : Heap) (rE : R1 h vE E) (hp : 0 < p ∧ p ≤ 7) (hu : By u) (hv : By v) (hk : -3 ≤ s ∧ s ≤ 3) (hE : E.length ≤ 8) (hEb : ∀ j, j < E.length → 0 ≤ E.getD j 0 ∧ E.getD j 0 ≤ 63) : CallA Try.prog 69 #[.int .i64 p, vE, .agg (elA u), .agg (elA v), .int .i64 s] h fun v' h' => v' = .agg (elA (pjN p E s u v E.length)) ∧ Ext h h' := by
 have hleE := RdS.le rE
 refine callA_intro TTok (args := [_, _, _, _, _]) Try.func69 (by kernel_rfl) rfl 45 rfl (by simp) [.cell 10 30] rfl ?_
 simp only [idxs, Nat.reduceAdd]
 refine den_seq ?_
 refine den_region TTok ?_
 intro K hK
 simp -implicitDefEqProofs (disch := first | decide | assumption | omega) only [go_sem]
 refine op_box (cs := elA u) rfl ?_
 intro h0_0 e0_0 hb0_0 z0_0
 have := Ext.size e0_0
 have eB := e0_0
 have hfhb0_0 : Fresh h.size [h.size] := Fresh.one _
 have hlhb0_0 := one_lt (show h.size < h0_0.size by omega)
 try simp -implicitDefEqProofs (disch := first | decide | assumption | omega) only [go_sem]
 refine op_box (cs := elA v) rfl ?_
 intro h0_1 e0_1 hb0_1 z0_1
 replace hb0_0 := BoxAt.ext hb0_0 e0_1
 have := Ext.size e0_1
 replace eB := Ext.trans eB e0_1
 have hfhb0_1 : Fresh h0_0.size [h0_0.size] := Fresh.one _
 have hlhb0_1 := one_lt (show h0_0.size < h0_1.size by omega)
 try simp -implicitDefEqProofs (disch := first | decide | assumption | omega) only [go_sem]
 refine op_alloc (cs := elA z8) (by kernel_rfl) ?_
 intro h0_2 e0_2 hb0_2 z0_2
 replace hb0_0 := BoxAt.ext hb0_0 e0_2
 replace hb0_1 := BoxAt.ext hb0_1 e0_2
 have := Ext.size e0_2
 replace eB := Ext.trans eB e0_2
 have hfhb0_2 : Fresh h0_1.size [h0_1.size] := Fresh.one _
 have hlhb0_2 := one_lt (show h0_1.size < h0_2.size by omega)
 try simp -implicitDefEqProofs (disch := first | decide | assumption | omega) only [go_sem]
 refine hK _ _ ?_
 clear hK K
 refine den_seq ?_
 refine den_region TTok ?_
 intro K hK
 simp -implicitDefEqProofs (disch := first | decide | assumption | omega) only [go_sem, build_el]
 refine op_alloc (cs := elA z8) (by kernel_rfl) ?_
 intro h1_1 e1_1 hb1_1 z1_1
 replace hb0_0 := BoxAt.ext hb0_0 e1_1
 replace hb0_1 := BoxAt.ext hb0_1 e1_1
 replace hb0_2 := BoxAt.ext hb0_2 e1_1
 have := Ext.size e1_1
 replace eB := Ext.trans eB e1_1
 have hfhb1_1 : Fresh h0_2.size [h0_2.size] := Fresh.one _
 have hlhb1_1 := one_lt (show h0_2.size < h1_1.size by omega)
 try simp -implicitDefEqProofs (disch := first | decide | assumption | omega) only [go_sem]
 refine op_storeB (o := 0) (vs := elA z8) (cs' := elA z8) st30 hb1_1 rfl rfl (elA_sz _) (by rw [elA_sz]; decide) elA_one elA_all ?_
 intro h1_2 hb1_1 c1_2
 replace hb0_0 := BoxAt.chgA hb0_0 c1_2 (apart_lt hlhb0_0 hfhb1_1 (by omega))
 replace hb0_1 := BoxAt.chgA hb0_1 c1_2 (apart_lt hlhb0_1 hfhb1_1 (by omega))
 replace hb0_2 := BoxAt.chgA hb0_2 c1_2 (apart_lt hlhb0_2 hfhb1_1 (by omega))
 have := c1_2.size
 replace eB := Ext.then eB c1_2 (ge_of hfhb1_1 (by omega))
 try simp -implicitDefEqProofs (disch := first | decide | assumption | omega) only [go_sem]
 refine hK _ _ ?_
 clear hK K
 refine den_seq ?_
 refine den_seq ?_
 refine den_region TTok ?_
 intro K hK
 simp -implicitDefEqProofs (disch := first | decide | assumption | omega) only [go_sem]
 refine hK _ _ ?_
 clear hK K
 refine den_block ?_
 refine den_sel [12, 0, 1, 4, 7, 8, 10, 11] ?_
 intro env_1
 simp only [go_sem]
 refine den_loopS (σ := Nat) (fun st_ => [(12, .int .i64 (st_ : Int))]) (fun st_ H => (st_ ≤ E.length) ∧ (BoxAt H (h0_2.size) (elA (pjN p E s u v st_)) 30) ∧ (Chg [h0_2.size] h1_2 H)) (fun st_ => E.length - st_) 0 ?_ ?_
 ·exact ⟨by first | (simp; done) | (dsimp only; omega) | (simp; omega), by rw [pjN_0]; exact hb1_1, Chg.refl _ _⟩
 ·rintro k h4 ee3 ⟨hi0, hbx11, cL2⟩
  replace hb0_0 := BoxAt.chgA hb0_0 cL2 (apart_lt hlhb0_0 hfhb1_1 (by omega))
  replace hb0_1 := BoxAt.chgA hb0_1 cL2 (apart_lt hlhb0_1 hfhb1_1 (by omega))
  replace hb0_2 := BoxAt.chgA hb0_2 cL2 (apart_lt hlhb0_2 hfhb1_1 (by omega))
  have := cL2.size
  replace eB := Ext.then eB cL2 (ge_of hfhb1_1 (by omega))
  have hfhbx11 := hfhb1_1
  have hlhbx11 := hlhb1_1
  simp only [List.cons_append, List.nil_append]
  refine den_seq ?_
  refine den_seq ?_
  refine den_region TTok ?_
  intro K hK
  simp -implicitDefEqProofs (disch := first | decide | assumption | omega) only [go_sem, RdS.len rE sl55]
  refine hK _ _ ?_
  clear hK K
  refine den_cond rfl (fun c0 => ?_) (fun c0 => ?_)
  ·try simp only [decide_eq_true_eq] at c0
   refine den_skip ?_
   refine den_seq ?_
   refine den_block ?_
   have hEk := hEb k (by omega)
   have ht8 := td8 hEk
   have huk := hu (Int.tdiv (E.getD k 0) 8).toNat
   have hvk := hv (Int.tmod (E.getD k 0) 8).toNat
   have hkb := kuv_bnd hk huk hvk
   have hm0 := Int.emod_nonneg (s * u (Int.tdiv (E.getD k 0) 8).toNat * v (Int.tmod (E.getD k 0) 8).toNat) (show p ≠ 0 by omega)
   have hm1 := Int.emod_lt_of_pos (s * u (Int.tdiv (E.getD k 0) 8).toNat * v (Int.tmod (E.getD k 0) 8).toNat) hp.1
   refine den_draw TTok mixed [24] [(0, true), (1, true), (2, true), (3, true), (4, true), (5, true), (6, true), (7, true), (8, true), (9, true), (10, true), (11, true), (12, true), (13, true), (14, true), (15, true), (16, true), (17, true), (18, true), (19, true), (20, true), (21, false), (22, true), (23, true), (24, false)] (by kernel_rfl) ?_
   intro K hK
   simp -implicitDefEqProofs (disch := first | decide | assumption | omega) only [go_sem, ia30, ld2, ld5, RdS.idx rE sl55, R1.intB rE (Ext.pres eB), BoxAt.elC hb0_0, BoxAt.elC hb0_1, wrap_id, cv_u8, Nat.zero_add]
   refine CallA.mono (sMod_ok  p ((s * (u ((Int.tdiv ((E).getD k 0) (8 : Int))).toNat)) * (v ((Int.tmod ((E).getD k 0) (8 : Int))).toNat)) _  (by omega) (by omega)) ?_
   intro v_ h5_21
   rintro ⟨rfl, e5_21⟩
   replace hb0_0 := BoxAt.ext hb0_0 e5_21
   replace hb0_1 := BoxAt.ext hb0_1 e5_21
   replace hb0_2 := BoxAt.ext hb0_2 e5_21
   replace hbx11 := BoxAt.ext hbx11 e5_21
   have := Ext.size e5_21
   replace eB := Ext.trans eB e5_21
   replace cL2 := Chg.stepE cL2 e5_21
   refine plK_pres (Ext.pres e5_21) ?_
   try simp -implicitDefEqProofs (disch := first | decide | assumption | omega) only [go_sem, ia30, cv_i64, Nat.zero_add, wrap_u8]
   refine op_storeB (o := k) (vs := #[.int .u8 (((s * (u ((Int.tdiv ((E).getD k 0) (8 : Int))).toNat)) * (v ((Int.tmod ((E).getD k 0) (8 : Int))).toNat)) % p)]) (cs' := elA (upd (pjN p E s u v k) k (((s * (u ((Int.tdiv ((E).getD k 0) (8 : Int))).toNat)) * (v ((Int.tmod ((E).getD k 0) (8 : Int))).toNat)) % p))) st5 hbx11 rfl rfl rfl (by show _ + 1 ≤ 8; omega) u8_one (elA_upd (by omega)) ?_
   intro h5_24 hbx11 c5_24
   replace hb0_0 := BoxAt.chgA hb0_0 c5_24 (apart_lt hlhb0_0 hfhbx11 (by omega))
   replace hb0_1 := BoxAt.chgA hb0_1 c5_24 (apart_lt hlhb0_1 hfhbx11 (by omega))
   replace hb0_2 := BoxAt.chgA hb0_2 c5_24 (apart_lt hlhb0_2 hfhbx11 (by omega))
   have := c5_24.size
   replace eB := Ext.then eB c5_24 (ge_of hfhbx11 (by omega))
   replace cL2 := Chg.step cL2 c5_24 Sub.refl
   try simp (disch := decide) only [outv_none]
   refine plK_last (by decide) ?_
   try simp -implicitDefEqProofs (disch := first | decide | assumption | omega) only [go_sem]
   refine hK _ _ ?_
   clear hK K
   refine den_blk ?_
   refine den_region TTok ?_
   intro K hK
   simp -implicitDefEqProofs (disch := first | decide | assumption | omega) only [go_sem, wrap_id]
   refine hK _ _ ?_
   clear hK K
   refine den_stop ?_
   rw [pjN_step] at hbx11
   exact ⟨k + 1, by simp [HasL, puts_at], ⟨by first | omega | (dsimp only; omega), hbx11, cL2⟩, by first | omega | (dsimp only; omega)⟩
  ·try simp only [decide_eq_false_iff_not] at c0
   refine den_exit ?_
   refine denX_code ?_
   refine denX_stop ?_
   refine denX_hit ?_
   refine den_seq ?_
   refine den_region TTok ?_
   intro K hK
   simp -implicitDefEqProofs (disch := first | decide | assumption | omega) only [go_sem, BoxAt.elL hbx11]
   refine op_storeB (o := 0) (vs := elA (pjN p E s u v k)) (cs' := elA (pjN p E s u v k)) st30 hb0_2 rfl rfl (elA_sz _) (by rw [elA_sz]; decide) elA_one elA_all ?_
   intro h6_1 hb0_2 c6_1
   replace hbx11 := BoxAt.chgA hbx11 c6_1 (apart_gt hfhbx11 hlhb0_2 (by omega))
   have := c6_1.size
   replace eB := Ext.then eB c6_1 (ge_of hfhb0_2 (by omega))
   try simp -implicitDefEqProofs (disch := first | decide | assumption | omega) only [go_sem]
   refine hK _ _ ?_
   clear hK K
   refine den_ret ?_
   simp -implicitDefEqProofs (disch := first | decide | assumption | omega) only [go_sem, BoxAt.elL hb0_2, resP_c1]
   rw [show k = E.length by omega]
   exact ⟨by first | rfl | trivial, eB⟩
end Go.Proofs.Ytacajcjibhifmaa

namespace Go.Proofs.Ytacajcjibhifmaa
open Go
/-- What could be read outside the blocks B still reads the same. -/
def HPb (B : List Nat) (h h' : Heap) : Prop := ∀ a v, a.block ∉ B → hcell h a = some v → hcell h' a = some v
theorem HPb.refl {B : List Nat} (h : Heap) : HPb B h h := fun _ _ _ e => e
theorem HPb.trans {B : List Nat} {a b c : Heap} (h : HPb B a b) (k : HPb B b c) : HPb B a c := fun x v n e => k x v n (h x v n e)
theorem HPres.pb {B : List Nat} {h h' : Heap} (p : HPres h h') : HPb B h h' := fun x v _ e => p x v e
theorem Chg.pb {B fp : List Nat} {h h' : Heap} (c : Chg fp h h') (hs : ∀ b ∈ fp, b ∈ B) : HPb B h h' := fun x v n e => by
 rw [hcell_block (c.block _ (hcell_lt e) fun hm => n (hs _ hm))]; exact e
/-- A load's address lies outside B. -/
def ldA (B : List Nat) : Option Addr → Prop
 | some a => a.block ∉ B
 | none => True
def ldV (B : List Nat) : Value → Prop
 | .slice (some a) _ _ => a.block ∉ B
 | _ => True
def ldOk (B : List Nat) (o : Oper) (env : Env) : Prop := match o.op with
 | .load _ x => ldA B (asAd (ev env x))
 | .convert _ _ x => ldV B (ev env x)
 | _ => True
section
variable {P : Program} {ops : Array Oper} {Q : Exit → Act → World → Prop} {md : Region.Mode} {ds : List Nat} {B : List Nat}
def wpAnyB (B : List Nat) (P : Program) (md : Region.Mode) (ops : Array Oper) (Q : Exit → Act → World → Prop) (ds : List Nat) : Nat → Array Bool → Act → World → Prop
 | 0, listed, a, w => Region.ready md ops listed = [] ∧ Q .normal a w
 | fuel + 1, listed, a, w =>
  (Region.ready md ops listed = [] → Q .normal a w) ∧
  ∀ i ∈ Region.ready md ops listed, wpOp P ops Q i (fun a' w' => (i ∉ ds → HPb B w.heap w'.heap) ∧ wpAnyB B P md ops Q ds fuel (listed.setIfInBounds i true) a' w') a w
theorem wpAny_of_B : ∀ (fuel : Nat) (listed : Array Bool) (a : Act) (w : World), wpAnyB B P md ops Q ds fuel listed a w → wpAny P md ops Q fuel listed a w
 | 0, _, _, _, h => h
 | fuel + 1, _, _, _, h => ⟨h.1, fun i hi => wpOp_mono (fun a' w' h' => wpAny_of_B fuel _ a' w' h'.2) (h.2 i hi)⟩


theorem wpAnyB_first {i : Nat} {oi : Oper} {v : Value} (hi : ops[i]? = some oi) (hsel : ∀ (j : Nat) (o : Oper) cs b, ops[j]? = some o → o.op ≠ .select cs b)
  (hQ : ∀ c a w, Q (.panic c) (a.put oi.dst v) w → Q (.panic c) a w) (n : Nat) :
  ∀ (fuel : Nat) (listed : Array Bool) (a : Act) (w : World),
   (∀ j oj, ops[j]? = some oj → j ≠ i → listed.getD j true = false → (∀ e ∈ oj.after, Region.binds md e = true → e.on ≠ i) → oi.apart ops oj = true) →
   Closed md ops listed → (∀ d ∈ ds, listed.getD d true = false → reachB md ops i n d = true) →
   i ∈ Region.ready md ops listed → YieldsIf P ops (fun w_ => HPb B w.heap w_.heap) oi v a →
   wpAnyB B P md ops Q ds fuel (listed.setIfInBounds i true) (a.put oi.dst v) w → wpAnyB B P md ops Q ds (fuel + 1) listed a w := by
 intro fuel
 induction fuel with
 | zero =>
  intro listed a w _ _ _ hr hy H
  refine ⟨fun h => (by rw [h] at hr; cases hr), fun j hj => ?_⟩
  by_cases hji : j = i
  ·subst hji; exact hy.wpOp hi (HPb.refl _) ⟨fun _ => HPb.refl _, H⟩
  ·have := ready_mono hj hji
   rw [H.1] at this
   cases this
 | succ fuel ih =>
  intro listed a w hfree hc hd hr hy H
  refine ⟨fun h => (by rw [h] at hr; cases hr), fun j hj => ?_⟩
  by_cases hji : j = i
  ·subst hji; exact hy.wpOp hi (HPb.refl _) ⟨fun _ => HPb.refl _, H⟩
  ·have h1 := H.2 j (ready_mono hj hji)
   obtain ⟨hjun, oj, hoj, hall⟩ := mem_ready.1 hj
   have hiun := (mem_ready.1 hr).1
   have hnot : ∀ e ∈ oj.after, Region.binds md e = true → e.on ≠ i := fun e he hb heq => by
    have h1 := hall e he hb
    rw [heq] at h1
    rcases Nat.lt_or_ge i listed.size with h' | h'
    ·simp [h'] at hiun h1; rw [hiun] at h1; cases h1
    ·simp [Array.getElem?_eq_none h'] at h1
   have hjd : j ∉ ds := fun hm => reach_not_ready hc (hd j hm hjun) hiun hj
   have h2 := wpOp_putIf hoj (hfree j oj hoj hji hjun hnot) (fun cs b => hsel i oi cs b hi) (fun cs b => hsel j oj cs b hoj) hQ hy h1
   have hfree' : ∀ k ok, ops[k]? = some ok → k ≠ i → (listed.setIfInBounds j true).getD k true = false →
     (∀ e ∈ ok.after, Region.binds md e = true → e.on ≠ i) → oi.apart ops ok = true := fun k ok hk hki hun hno => by
    refine hfree k ok hk hki ?_ hno
    by_cases hjk : j = k
    ·subst hjk; exact hjun
    ·rw [getD_set_ne true hjk] at hun; exact hun
   have hd' : ∀ d ∈ ds, (listed.setIfInBounds j true).getD d true = false → reachB md ops i n d = true := fun d hm hun => by
    refine hd d hm ?_
    by_cases hjk : j = d
    ·subst hjk; exact hjun
    ·rw [getD_set_ne true hjk] at hun; exact hun
   refine wpOp_mono (fun a' w' h3 => ⟨h3.2.1, ih (listed.setIfInBounds j true) a' w' hfree' (hc.set hj) hd' (ready_mono hr (Ne.symm hji)) (yieldsIf_weaken h3.1 fun w2 hp => HPb.trans (h3.2.1 hjd) hp) ?_⟩) h2
   rw [Array.setIfInBounds_comm _ _ hji]
   exact h3.2.2

/-- The same for what does not read memory at all. -/
theorem wpAnyB_firstF {i : Nat} {oi : Oper} {v : Value} (hi : ops[i]? = some oi) (hsel : ∀ (j : Nat) (o : Oper) cs b, ops[j]? = some o → o.op ≠ .select cs b)
  (hQ : ∀ c a w, Q (.panic c) (a.put oi.dst v) w → Q (.panic c) a w) :
  ∀ (fuel : Nat) (listed : Array Bool) (a : Act) (w : World),
   (∀ j oj, ops[j]? = some oj → j ≠ i → listed.getD j true = false → (∀ e ∈ oj.after, Region.binds md e = true → e.on ≠ i) → oi.apart ops oj = true) →
   i ∈ Region.ready md ops listed → YieldsIf P ops (fun _ => True) oi v a →
   wpAnyB B P md ops Q ds fuel (listed.setIfInBounds i true) (a.put oi.dst v) w → wpAnyB B P md ops Q ds (fuel + 1) listed a w := by
 intro fuel
 induction fuel with
 | zero =>
  intro listed a w _ hr hy H
  refine ⟨fun h => (by rw [h] at hr; cases hr), fun j hj => ?_⟩
  by_cases hji : j = i
  ·subst hji; exact hy.wpOp hi trivial ⟨fun _ => HPb.refl _, H⟩
  ·have := ready_mono hj hji
   rw [H.1] at this
   cases this
 | succ fuel ih =>
  intro listed a w hfree hr hy H
  refine ⟨fun h => (by rw [h] at hr; cases hr), fun j hj => ?_⟩
  by_cases hji : j = i
  ·subst hji; exact hy.wpOp hi trivial ⟨fun _ => HPb.refl _, H⟩
  ·have h1 := H.2 j (ready_mono hj hji)
   obtain ⟨hjun, oj, hoj, hall⟩ := mem_ready.1 hj
   have hiun := (mem_ready.1 hr).1
   have hnot : ∀ e ∈ oj.after, Region.binds md e = true → e.on ≠ i := fun e he hb heq => by
    have h1 := hall e he hb
    rw [heq] at h1
    rcases Nat.lt_or_ge i listed.size with h' | h'
    ·simp [h'] at hiun h1; rw [hiun] at h1; cases h1
    ·simp [Array.getElem?_eq_none h'] at h1
   have h2 := wpOp_putIf hoj (hfree j oj hoj hji hjun hnot) (fun cs b => hsel i oi cs b hi) (fun cs b => hsel j oj cs b hoj) hQ hy h1
   have hfree' : ∀ k ok, ops[k]? = some ok → k ≠ i → (listed.setIfInBounds j true).getD k true = false →
     (∀ e ∈ ok.after, Region.binds md e = true → e.on ≠ i) → oi.apart ops ok = true := fun k ok hk hki hun hno => by
    refine hfree k ok hk hki ?_ hno
    by_cases hjk : j = k
    ·subst hjk; exact hjun
    ·rw [getD_set_ne true hjk] at hun; exact hun
   refine wpOp_mono (fun a' w' h3 => ⟨h3.2.1, ih (listed.setIfInBounds j true) a' w' hfree' (ready_mono hr (Ne.symm hji)) (yieldsIf_weaken h3.1 fun w2 _ => trivial) ?_⟩) h2
   rw [Array.setIfInBounds_comm _ _ hji]
   exact h3.2.2

end
theorem hcells_pb {B : List Nat} {h h' : Heap} (hp : HPb B h h') (a : Addr) (ha : a.block ∉ B) : ∀ (n i : Nat) (cs : List Value), hcells h a i n = some cs → hcells h' a i n = some cs
 | 0, i, cs, e => e
 | n + 1, i, cs, e => by
  simp only [hcells, Option.bind_eq_some_iff, Option.map_eq_some_iff] at e ⊢
  obtain ⟨v, hv, r, hr, rfl⟩ := e
  exact ⟨v, hp _ _ (by unfold Addr.add; split <;> exact ha) hv, r, hcells_pb hp a ha n (i + 1) r hr, rfl⟩
theorem loadV_pb {B : List Nat} {T : Tab} {h h' : Heap} (hp : HPb B h h') {t : TypeId} {a : Addr} (ha : a.block ∉ B) {v : Value} (e : loadV T h t a = some v) : loadV T h' t a = some v := by
 unfold loadV at e ⊢
 obtain ⟨i, hi, e⟩ := Option.bind_eq_some_iff.1 e
 refine Option.bind_eq_some_iff.2 ⟨i, hi, ?_⟩
 split at e
 ·rename_i hg
  rw [if_pos hg]
  obtain ⟨cs, hc, e⟩ := Option.map_eq_some_iff.1 e
  exact Option.map_eq_some_iff.2 ⟨cs, hcells_pb hp a ha _ _ _ hc, e⟩
 ·rename_i hg
  rw [if_neg hg]
  exact hp _ _ ha e
theorem convH_pb {B : List Nat} {T : Tab} {h h' : Heap} (hp : HPb B h h') {s t : TypeId} {v u : Value} (hv : ldV B v) (e : convH T h s t v = some u) : convH T h' s t v = some u := by
 unfold convH at e ⊢
 split at e
 ·rename_i ao m c
  obtain ⟨i, hi, e⟩ := Option.bind_eq_some_iff.1 e
  obtain ⟨j, hj, e⟩ := Option.bind_eq_some_iff.1 e
  refine Option.bind_eq_some_iff.2 ⟨i, hi, Option.bind_eq_some_iff.2 ⟨j, hj, ?_⟩⟩
  split at e
  ·rename_i e' hd1 hd2
   obtain ⟨q, hq, e⟩ := Option.bind_eq_some_iff.1 e
   try rw [hd1, hd2]
   refine Option.bind_eq_some_iff.2 ⟨q, hq, ?_⟩
   split at e
   ·rename_i hd3
    try rw [hd3]
    cases ao with
    | none => exact e
    | some a =>
    obtain ⟨cs, hcs, e⟩ := Option.bind_eq_some_iff.1 e
    exact Option.bind_eq_some_iff.2 ⟨cs, hcells_pb hp a hv _ _ _ hcs, e⟩
   ·cases e
  ·cases e
 ·exact e


def plKb (B : List Nat) (i : Nat) (ds : List Nat) (h : Heap) (K : Env → Heap → Prop) : Env → Heap → Prop := fun env' h' => (ds.contains i = false → HPb B h h') ∧ K env' h'
theorem plKb_same {B : List Nat} {i : Nat} {ds : List Nat} {h : Heap} {K : Env → Heap → Prop} {env : Env} : plKb B i ds h K env h = K env h := by
 simp [plKb, HPb.refl]
theorem plKb_last {B : List Nat} {i : Nat} {ds : List Nat} {h h' : Heap} {K : Env → Heap → Prop} {env : Env} (hd : ds.contains i = true) (hk : K env h') : plKb B i ds h K env h' := ⟨fun e => (by rw [hd] at e; cases e), hk⟩
theorem plKb_pres {B : List Nat} {i : Nat} {ds : List Nat} {h h' : Heap} {K : Env → Heap → Prop} {env : Env} (hp : HPb B h h') (hk : K env h') : plKb B i ds h K env h' := ⟨fun _ => hp, hk⟩
def plansB (B : List Nat) (P : Program) (T : Tab) (n : Nat) (all : Array Oper) (ds : List Nat) : List (Nat × Bool) → (Env → Heap → Prop) → Env → Heap → Prop
 | [], K, env, h => K env h
 | (i, _) :: r, K, env, h => Bd all[i]? fun o => o.guard = none ∧ ldOk B o env ∧ opP P T n o (plKb B i ds h (plansB B P T n all ds r K)) env h

theorem plansB_nil {B : List Nat} {P : Program} {T : Tab} {n : Nat} {all : Array Oper} {ds : List Nat} {K : Env → Heap → Prop} {env : Env} {h : Heap} : plansB B P T n all ds [] K env h = K env h := rfl
def plGb (B : List Nat) (P : Program) (T : Tab) (n : Nat) (all : Array Oper) (ds : List Nat) (i : Nat) (o : Oper) (l : List (Nat × Bool)) (K : Env → Heap → Prop) (env : Env) (h : Heap) : Prop := o.guard = none ∧ ldOk B o env ∧ opP P T n o (plKb B i ds h (plansB B P T n all ds l K)) env h
theorem plansB_cons {B : List Nat} {P : Program} {T : Tab} {n : Nat} {all : Array Oper} {ds : List Nat} {i : Nat} {b : Bool} {l : List (Nat × Bool)} {K : Env → Heap → Prop} {env : Env} {h : Heap} : plansB B P T n all ds ((i, b) :: l) K env h = Bd (opAt all i) fun o => plGb B P T n all ds i o l K env h := rfl
theorem plGb_none {B : List Nat} {P : Program} {T : Tab} {n : Nat} {all : Array Oper} {ds : List Nat} {i : Nat} {d : Option Tmp} {op : Op} {ty : TypeId} {p : String} {a : Array Edge} {l : List (Nat × Bool)} {K : Env → Heap → Prop} {env : Env} {h : Heap} : plGb B P T n all ds i ⟨d, op, ty, p, a, none⟩ l K env h = (ldOk B ⟨d, op, ty, p, a, none⟩ env ∧ opP P T n ⟨d, op, ty, p, a, none⟩ (plKb B i ds h (plansB B P T n all ds l K)) env h) := by
 unfold plGb
 exact propext ⟨fun h => h.2, fun h => ⟨rfl, h⟩⟩
@[congr] theorem plGb_congr {B : List Nat} {P : Program} {T : Tab} {n : Nat} {all : Array Oper} {ds : List Nat} {i : Nat} {o : Oper} {l : List (Nat × Bool)} {K : Env → Heap → Prop} {env : Env} {h h' : Heap} (e : h = h') : plGb B P T n all ds i o l K env h = plGb B P T n all ds i o l K env h' := by rw [e]
@[congr] theorem plansB_congr {B : List Nat} {P : Program} {T : Tab} {n : Nat} {all : Array Oper} {ds : List Nat} {l : List (Nat × Bool)} {K : Env → Heap → Prop} {env : Env} {h h' : Heap} (e : h = h') : plansB B P T n all ds l K env h = plansB B P T n all ds l K env h' := by rw [e]
@[congr] theorem ldOk_congr {B : List Nat} {o : Oper} {env : Env} : ldOk B o env = ldOk B o env := rfl
section
variable {P : Program} {T : Tab} {n : Nat} (hT : TOk P T)
include hT
/-- A quiet operation: its rule gives its value, which any later world gives too. -/
theorem quiet_opB {B : List Nat} {o : Oper} {K : Env → Heap → Prop} {env : Env} {h : Heap} (hq : quietOp o.op = true) (hld : ldOk B o env) (hh : opP P T n o K env h) :
  ∃ v, (∀ w : World, HPb B h w.heap → (execOp (ev env) o).run P w = .ok (.value v) w) ∧ outv n o K env h v := by
 unfold opP at hh
 split at hh
 ·rename_i t x y ho; rw [ho] at hq; cases hq
 ·rename_i c ho
  have hw : ∀ w : World, ∀ a, Agree n a env → True := fun _ _ _ => trivial
  rw [ho] at hq
  obtain ⟨callee, args, argTypes⟩ := c
  dsimp only at hh
  cases callee with
  | value f => cases hq
  | invoke r m => cases hq
  | builtin b =>
   cases b <;> (try (cases hq; done)) <;> dsimp only at hh
   case len =>
    obtain ⟨t, ht, hh⟩ := Bd_iff hh
    obtain ⟨x, hx, hh⟩ := Bd_iff hh
    obtain ⟨v, hv, hh⟩ := Bd_iff hh
    refine ⟨v, fun w _ => ?_, hh⟩
    unfold lenV at hv
    obtain ⟨i, hi, hv⟩ := Option.bind_eq_some_iff.1 hv
    unfold execOp
    simp only [ho, resolve, Sem.run_bind, Sem.run_pure, Result.andThen_ok, invoke, builtin, Builtin.len_, ht, Array.getElem?_map, hx, Option.map_some, run_under hT hi]
    split at hv
    ·rename_i hd he
     simp only [Option.some.injEq] at hv; subst hv
     simp [hd, he, goInt]
    ·rename_i hd he
     simp only [Option.some.injEq] at hv; subst hv
     simp [hd, he, goInt]
    ·rename_i hd
     simp only [Option.some.injEq] at hv; subst hv
     simp [hd, goInt]
    ·cases hv
   case min =>
    split at hh
    ·rename_i x y hx
     obtain ⟨v, hv, hh⟩ := Bd_iff hh
     refine ⟨v, fun w _ => ?_, hh⟩
     have ec : args = #[x, y] := by rw [← hx]
     unfold execOp
     simp only [ho, resolve, Sem.run_bind, Sem.run_pure, Result.andThen_ok, invoke, builtin, Builtin.min_, ec, List.map_toArray, List.map_cons, List.map_nil]
     unfold minV at hv
     split at hv
     ·rename_i e1 e2
      simp only [Option.some.injEq] at hv; subst hv
      simp [e1, e2, Builtin.min2]
     ·cases hv
    ·cases hh
   case max =>
    split at hh
    ·rename_i x y hx
     obtain ⟨v, hv, hh⟩ := Bd_iff hh
     refine ⟨v, fun w _ => ?_, hh⟩
     have ec : args = #[x, y] := by rw [← hx]
     unfold execOp
     simp only [ho, resolve, Sem.run_bind, Sem.run_pure, Result.andThen_ok, invoke, builtin, Builtin.max_, ec, List.map_toArray, List.map_cons, List.map_nil]
     unfold maxV at hv
     split at hv
     ·rename_i e1 e2
      simp only [Option.some.injEq] at hv; subst hv
      simp [e1, e2, Builtin.max2]
     ·cases hv
    ·cases hh
 ·rename_i hns hnc
  ·obtain ⟨r, hr, hz_⟩ := Bd_iff hh
   clear hh
   have hh := hz_
   clear hz_
   obtain ⟨v, h1⟩ := r
   have key : h1 = h ∧ ∀ h2, HPb B h h2 → stepV T o.op env h2 = some (v, h2) := by
    cases hop : o.op <;> rw [hop] at hq hr <;> (try (cases hq; done)) <;> simp only [stepV] at hr ⊢
    case move x => simp only [Option.some.injEq, Prod.mk.injEq] at hr; obtain ⟨rfl, rfl⟩ := hr; exact ⟨rfl, fun _ _ => rfl⟩
    case assign x => simp only [Option.some.injEq, Prod.mk.injEq] at hr; obtain ⟨rfl, rfl⟩ := hr; exact ⟨rfl, fun _ _ => rfl⟩
    case load t x =>
     obtain ⟨a, ha, hr⟩ := Option.bind_eq_some_iff.1 hr
     obtain ⟨u, hu, hr⟩ := Option.map_eq_some_iff.1 hr
     simp only [Prod.mk.injEq] at hr; obtain ⟨rfl, rfl⟩ := hr
     exact ⟨rfl, fun h2 hp => by unfold ldOk at hld; rw [hop] at hld; dsimp only at hld; rw [ha] at hld; simp [ha, loadV_pb hp hld hu]⟩
    case makeFunc fn f c => simp only [Option.some.injEq, Prod.mk.injEq] at hr; obtain ⟨rfl, rfl⟩ := hr; exact ⟨rfl, fun _ _ => rfl⟩
    case convert s d x =>
     obtain ⟨u, hu, hr⟩ := Option.map_eq_some_iff.1 hr
     simp only [Prod.mk.injEq] at hr; obtain ⟨rfl, rfl⟩ := hr
     exact ⟨rfl, fun h2 hp => by unfold ldOk at hld; rw [hop] at hld; dsimp only at hld; rw [convH_pb hp hld hu]; rfl⟩
    case call c => exact (hnc c hop).elim
    all_goals
     obtain ⟨u, hu, hr⟩ := Option.map_eq_some_iff.1 hr
     simp only [Prod.mk.injEq] at hr; obtain ⟨rfl, rfl⟩ := hr
     exact ⟨rfl, fun _ _ => by rw [hu]; rfl⟩
   obtain ⟨rfl, hk⟩ := key
   refine ⟨v, fun w hp => ?_, hh⟩
   have := exec_stepV hT (o := o) w (hk w.heap hp)
   exact this

theorem plan_soundB {B : List Nat} {ops : Array Oper} {ds : List Nat} {Q : Exit → Env → Heap → Prop} {w0 : World} (hsel : Region.noSelect ops = true) (hQ : ∀ c env h, Q (.panic c) env h → False) :
  ∀ (pl : List (Nat × Bool)) (fuel : Nat) (listed : Array Bool) (env : Env) (a : Act) (w : World), pl.length ≤ fuel → planOk .any ops ds listed pl = true → Agree n a env → Fr w0 w →
   plansB B P T n ops ds pl (Q .normal) env w.heap → wpAnyB B P .any ops (KQ n w0 Q) ds fuel listed a w
 | [], fuel, listed, env, a, w, hl, hok, ha, hf, h => by
  have hr : Region.ready .any ops listed = [] := by simpa [planOk] using hok
  cases fuel with
  | zero => exact ⟨hr, env, ha, hf, h⟩
  | succ f => exact ⟨fun _ => ⟨env, ha, hf, h⟩, by rw [hr]; intro i hi; cases hi⟩
 | (i, first) :: r, fuel, listed, env, a, w, hl, hok, ha, hf, h => by
  obtain ⟨fuel, rfl⟩ : ∃ f, fuel = f + 1 := ⟨fuel - 1, by simp at hl; omega⟩
  simp only [plansB] at h
  obtain ⟨o, ho, h⟩ := Bd_iff h
  obtain ⟨hgd, hld, h⟩ := h
  ·skip
   have hpan : ∀ (v : Value) (c : List PanicEntry) (a : Act) (w : World), KQ n w0 Q (.panic c) (a.put o.dst v) w → KQ n w0 Q (.panic c) a w := by
    rintro v c a w ⟨env, _, _, hq⟩
    exact (hQ c env _ hq).elim
   cases first with
   | true =>
    simp only [planOk, Bool.and_eq_true] at hok
    obtain ⟨⟨⟨⟨⟨h1, h2⟩, h3⟩, h4⟩, h5⟩, h6⟩ := hok
    rw [ho] at h5
    dsimp only at h5
    by_cases hfr : freeOp o.op = true
    ·have hyld : ∃ v, YieldsIf P ops (fun _ => True) o v a ∧ outv n o (fun env' h' => plansB B P T n ops ds r (Q .normal) env' h') env w.heap v := by
      obtain ⟨v, hv, hk⟩ := free_opP hT hfr h
      exact ⟨v, .inl ⟨by rw [wanted_guard ha, hgd]; rfl, fun w' _ => by rw [ha.eval]; exact hv w'⟩, hk.1, hk.2.2⟩
     obtain ⟨v, hy, hk⟩ := hyld
     refine wpAnyB_firstF ho (Region.noSelect_spec hsel) (hpan v) fuel listed a w (Region.free_spec ho h1) (by simpa using h2) hy ?_
     exact plan_soundB hsel hQ r fuel (listed.setIfInBounds i true) _ _ w (by simp at hl; omega) h6 (ha.putO (dstB_spec hk.1) v) hf hk.2
    replace h4 : lastB .any ops listed ds i = true := by
     rw [ho] at h4
     simpa [hfr] using h4
    have hyld : ∃ v, YieldsIf P ops (fun w_ => HPb B w.heap w_.heap) o v a ∧ outv n o (fun env' h' => plansB B P T n ops ds r (Q .normal) env' h') env w.heap v := by
     obtain ⟨v, hv, hk⟩ := quiet_opB hT h5 hld h
     exact ⟨v, .inl ⟨by rw [wanted_guard ha, hgd]; rfl, fun w' hp => by rw [ha.eval]; exact hv w' hp⟩, hk.1, hk.2.2⟩
    obtain ⟨v, hy, hk⟩ := hyld
    refine wpAnyB_first ho (Region.noSelect_spec hsel) (hpan v) ops.size fuel listed a w (Region.free_spec ho h1) (closedB_spec h3)
     (fun d hm hun => by have := List.all_eq_true.1 h4 d hm; rw [hun] at this; simpa using this) (by simpa using h2) hy ?_
    exact plan_soundB hsel hQ r fuel (listed.setIfInBounds i true) _ _ w (by simp at hl; omega) h6 (ha.putO (dstB_spec hk.1) v) hf hk.2
   | false =>
    simp only [planOk, Bool.and_eq_true, beq_iff_eq] at hok
    obtain ⟨h1, h6⟩ := hok
    refine ⟨(by rw [h1]; intro h; cases h), ?_⟩
    rw [h1]
    intro j hj
    simp only [List.mem_singleton] at hj
    subst hj
    unfold wpOp
    simp only [ho]
    rw [wanted_guard ha, hgd]
    ·skip
     refine .inl (Oper.wp_mono ?_ (opP_sound hT ha h))
     rintro a' w' ⟨env', ha', hf', hp, hk⟩
     exact ⟨fun hd => hp (by simpa using hd), plan_soundB hsel hQ r fuel (listed.setIfInBounds j true) env' a' w' (by simp at hl; omega) h6 ha' (hf.trans hf') hk⟩

theorem den_drawB {id : Nat} {ops : Array Oper} {Qr : Env → Heap → Prop} {k : List It} {env : Env} {h : Heap} (hm : P.follows .mixedOrders = true) (B : List Nat) (ds : List Nat) (pl : List (Nat × Bool))
  (hok : (Region.noSelect ops && decide (pl.length ≤ ops.size) && planOk .any ops ds (Array.replicate ops.size false) pl) = true)
  (hh : ∀ K : Env → Heap → Prop, (∀ env h, den P n Qr k env h → K env h) → plansB B P T n ops ds pl K env h) : den P n Qr (.code (.region id ops true) :: k) env h := by
 refine den_code ?_
 intro a w ha e
 subst e
 simp only [Bool.and_eq_true, decide_eq_true_eq] at hok
 obtain ⟨⟨h1, h2⟩, h3⟩ := hok
 refine wp_region_any hm (wpAny_of_B (B := B) (ds := ds) _ _ _ _ ?_)
 exact plan_soundB hT h1 (Q := denQ P n Qr k) (w0 := w) (fun c env h hq => hq) pl ops.size _ env a { w with drawn := w.drawn + 1 } h2 h3 ha ⟨rfl, rfl, rfl⟩ (hh _ (fun _ _ h => h))
end
attribute [go_sem] plansB_nil plansB_cons plKb_same
end Go.Proofs.Ytacajcjibhifmaa

namespace Go.Proofs.Ytacajcjibhifmaa
open Go
section
variable {X : Dg}
theorem dg_degI {i : Nat} {x : Int} (h : i < 8) : ((dgA X).toList.take (2 + i) ++ (#[Value.int .i64 x] : Array Value).toList ++ (dgA X).toList.drop (2 + i + 1)).toArray = dgA { X with deg := upd X.deg i x } :=
 store_eq (dgA_sz _) (dgA_sz _) rfl (by omega) (fun q hq => dgA_at hq) (fun q hq => dgA_at hq) one_at (fun q hq hc => by
  by_cases hr : 2 ≤ q ∧ q < 10
  ·obtain ⟨j, rfl⟩ : ∃ j, q = 2 + j := ⟨q - 2, by omega⟩
   rw [dgF_deg (by omega), dgF_deg (by omega)]
   show Value.int .i64 (upd X.deg i x j) = _
   rw [upd, if_neg (by omega)]
  ·unfold dgF
   by_cases h0 : q = 0 <;> by_cases h1 : q = 1 <;> by_cases h2 : q < 10 <;> by_cases h3 : q < 18 <;> first | (exfalso; omega) | simp [h0, h1, h2, h3]) (fun q hq => by
  obtain rfl : q = 0 := by omega
  rw [show 2 + i + 0 = 2 + i from rfl, dgF_deg h]
  show Value.int .i64 (upd X.deg i x i) = _
  rw [upd, if_pos rfl])
theorem dg_levI {i : Nat} {x : Int} (h : i < 8) : ((dgA X).toList.take (10 + i) ++ (#[Value.int .i64 x] : Array Value).toList ++ (dgA X).toList.drop (10 + i + 1)).toArray = dgA { X with lev := upd X.lev i x } :=
 store_eq (dgA_sz _) (dgA_sz _) rfl (by omega) (fun q hq => dgA_at hq) (fun q hq => dgA_at hq) one_at (fun q hq hc => by
  by_cases hr : 10 ≤ q ∧ q < 18
  ·obtain ⟨j, rfl⟩ : ∃ j, q = 10 + j := ⟨q - 10, by omega⟩
   rw [dgF_lev (by omega), dgF_lev (by omega)]
   show Value.int .i64 (upd X.lev i x j) = _
   rw [upd, if_neg (by omega)]
  ·unfold dgF
   by_cases h0 : q = 0 <;> by_cases h1 : q = 1 <;> by_cases h2 : q < 10 <;> by_cases h3 : q < 18 <;> first | (exfalso; omega) | simp [h0, h1, h2, h3]) (fun q hq => by
  obtain rfl : q = 0 := by omega
  rw [show 10 + i + 0 = 10 + i from rfl, dgF_lev h]
  show Value.int .i64 (upd X.lev i x i) = _
  rw [upd, if_pos rfl])
theorem dg_difI {i : Nat} {v : Nat → Int} (h : i < 8) : ((dgA X).toList.take (18 + i * 8) ++ (elA v).toList ++ (dgA X).toList.drop (18 + i * 8 + 8)).toArray = dgA { X with dif := updF X.dif i v } :=
 store_eq (dgA_sz _) (dgA_sz _) (elA_sz v) (by omega) (fun q hq => dgA_at hq) (fun q hq => dgA_at hq) (fun q hq => elA_at hq) (fun q hq hc => by
  by_cases h2 : q < 18
  ·exact dgF_low (X := X) (Y := { X with dif := updF X.dif i v }) rfl rfl rfl rfl h2
  ·by_cases h3 : q < 82
   ·rw [dgF_diff (by omega), dgF_diff (by omega)]
    show Value.int .u8 (updF X.dif i v ((q - 18) / 8) ((q - 18) % 8)) = _
    rw [updF, if_neg (by omega)]
   ·rw [dgF_table (by omega), dgF_table (by omega)]) (fun q hq => by
  rw [dgF_diff (by omega), show 18 + i * 8 + q - 18 = i * 8 + q by omega, show (i * 8 + q) / 8 = i by omega, show (i * 8 + q) % 8 = q by omega]
  show Value.int .u8 (updF X.dif i v i q) = _
  rw [updF, if_pos rfl])
theorem dg_tabI {i j : Nat} {v : Nat → Int} (h : i < 8) (hj : j < 8) : ((dgA X).toList.take (82 + i * 64 + j * 8) ++ (elA v).toList ++ (dgA X).toList.drop (82 + i * 64 + j * 8 + 8)).toArray = dgA { X with tab := updF X.tab i (updF (X.tab i) j v) } :=
 store_eq (dgA_sz _) (dgA_sz _) (elA_sz v) (by omega) (fun q hq => dgA_at hq) (fun q hq => dgA_at hq) (fun q hq => elA_at hq) (fun q hq hc => by
  by_cases h2 : q < 18
  ·exact dgF_low (X := X) (Y := { X with tab := updF X.tab i (updF (X.tab i) j v) }) rfl rfl rfl rfl h2
  ·by_cases h3 : q < 82
   ·rw [dgF_diff (by omega), dgF_diff (by omega)]
   ·rw [dgF_table (by omega), dgF_table (by omega)]
    show Value.int .u8 (updF X.tab i (updF (X.tab i) j v) ((q - 82) / 64) ((q - 82) / 8 % 8) ((q - 82) % 8)) = _
    by_cases h4 : (q - 82) / 64 = i
    ·rw [updF, if_pos h4, updF, if_neg (by omega), h4]
    ·rw [updF, if_neg h4]) (fun q hq => by
  rw [dgF_table (by omega), show 82 + i * 64 + j * 8 + q - 82 = i * 64 + j * 8 + q by omega, show (i * 64 + j * 8 + q) / 64 = i by omega, show (i * 64 + j * 8 + q) / 8 % 8 = j by omega, show (i * 64 + j * 8 + q) % 8 = q by omega]
  show Value.int .u8 (updF X.tab i (updF (X.tab i) j v) i j q) = _
  rw [updF, if_pos rfl, updF, if_pos rfl])
end
def dgN (a b : Int) : Dg := ⟨a, b, z8, z8, z64, z512⟩
theorem build_dgN (a b : Int) : buildV TT 34 [(0, .int .i64 a), (1, .int .i64 b)] = some (.agg (dgA (dgN a b))) := by kernel_rfl
theorem build_dg0 : buildV TT 34 [] = some (.agg (dgA dgZ)) := by kernel_rfl
/-- A pair's place: its two numbers. -/
def iQ (X Y : Dg) (k : Nat) : Nat := (atQ X Y k).1.toNat
def jQ (X Y : Dg) (k : Nat) : Nat := (atQ X Y k).2.toNat
theorem EQ_len (X Y : Dg) : (EQ X Y).length = (srQ X Y).length := by rw [EQ, List.length_map]
theorem EQ_get {X Y : Dg} {k : Nat} (h : k < (EQ X Y).length) : (EQ X Y).getD k 0 = 8 * (atQ X Y k).1 + (atQ X Y k).2 := by
 rw [EQ_len] at h
 rw [EQ, List.getD_eq_getElem?_getD, List.getElem?_map, List.getElem?_eq_getElem h, atQ, List.getD_eq_getElem?_getD, List.getElem?_eq_getElem h]; rfl
section
variable {X Y : Dg} (hX : IsFm X) (hY : IsFm Y)
include hX hY
theorem EQ_n : ((EQ X Y).length : Int) = X.s * Y.s := by rw [EQ_len]; exact srQ_len hX hY
theorem ij_b {k : Nat} (h : k < (EQ X Y).length) : (iQ X Y k : Int) < X.s ∧ (jQ X Y k : Int) < Y.s ∧ iQ X Y k < 8 ∧ jQ X Y k < 8 := by
 have hs := hX.s
 have ht := hY.s
 have := atQ_b hX hY (k := k) (by rw [← EQ_len]; exact h)
 unfold iQ jQ; omega
theorem EQ_b {k : Nat} (h : k < (EQ X Y).length) : 0 ≤ (EQ X Y).getD k 0 ∧ (EQ X Y).getD k 0 ≤ 63 := by
 have hs := hX.s
 have ht := hY.s
 have := atQ_b hX hY (k := k) (by rw [← EQ_len]; exact h)
 rw [EQ_get h]; omega
theorem EQ_i {k : Nat} (h : k < (EQ X Y).length) : Int.tdiv ((EQ X Y).getD k 0) 8 = (iQ X Y k : Int) := by
 have hs := hX.s
 have ht := hY.s
 have := atQ_b hX hY (k := k) (by rw [← EQ_len]; exact h)
 have hb := EQ_b hX hY h
 rw [Int.tdiv_eq_ediv_of_nonneg hb.1, EQ_get h, iQ]; omega
theorem EQ_j {k : Nat} (h : k < (EQ X Y).length) : Int.tmod ((EQ X Y).getD k 0) 8 = (jQ X Y k : Int) := by
 have hs := hX.s
 have ht := hY.s
 have := atQ_b hX hY (k := k) (by rw [← EQ_len]; exact h)
 have hb := EQ_b hX hY h
 rw [Int.tmod_eq_emod_of_nonneg hb.1, EQ_get h, jQ]; omega
end
def sg1Q (X Y : Dg) (k : Nat) : Int := 1 - 2 * Int.tmod (X.deg (iQ X Y k)) 2
def sg2Q (X Y : Dg) (k m : Nat) : Int := 1 - 2 * Int.tmod (Y.deg (jQ X Y k) * X.deg (iQ X Y m)) 2
def dfQ (X Y : Dg) (k : Nat) : Nat → Int := plusN X.p (pjN X.p (EQ X Y) 1 (X.dif (iQ X Y k)) (e8 (jQ X Y k)) (EQ X Y).length) (pjN X.p (EQ X Y) (sg1Q X Y k) (e8 (iQ X Y k)) (Y.dif (jQ X Y k)) (EQ X Y).length) 1 8
def tbQ (X Y : Dg) (k m : Nat) : Nat → Int := pjN X.p (EQ X Y) (sg2Q X Y k m) (X.tab (iQ X Y k) (iQ X Y m)) (Y.tab (jQ X Y k) (jQ X Y m)) (EQ X Y).length
def dgK (X Y : Dg) (k : Nat) : Int := X.deg (iQ X Y k) + Y.deg (jQ X Y k)
def lvK (X Y : Dg) (k : Nat) : Int := X.lev (iQ X Y k) + Y.lev (jQ X Y k)
/-- The product, as far as its first rows are there. -/
def tnR (X Y : Dg) (k : Nat) : Dg := ⟨X.p, X.s * Y.s, fun q => if q < k then dgK X Y q else 0, fun q => if q < k then lvK X Y q else 0, fun q => if q < k then dfQ X Y q else z8, fun q m => if q < k ∧ m < (EQ X Y).length then tbQ X Y q m else z8⟩
def tnC (X Y : Dg) (k m : Nat) : Dg := ⟨X.p, X.s * Y.s, fun q => if q < k + 1 then dgK X Y q else 0, fun q => if q < k + 1 then lvK X Y q else 0, fun q => if q < k + 1 then dfQ X Y q else z8, fun q r => if q < k ∧ r < (EQ X Y).length ∨ q = k ∧ r < m then tbQ X Y q r else z8⟩
theorem tnR_0 (X Y : Dg) : tnR X Y 0 = dgN X.p (X.s * Y.s) := by
 unfold tnR dgN z64 z512 z64 z8
 simp
theorem upd_lt {g : Nat → Int} {k : Nat} : upd (fun q => if q < k then g q else 0) k (g k) = fun q => if q < k + 1 then g q else 0 := by
 funext q
 unfold upd
 by_cases h : q = k
 ·subst h; rw [if_pos rfl, if_pos (by omega)]
 ·rw [if_neg h]
  dsimp only
  by_cases h2 : q < k
  ·rw [if_pos h2, if_pos (by omega)]
  ·rw [if_neg h2, if_neg (by omega)]
theorem updF_lt {g : Nat → Nat → Int} {k : Nat} : updF (fun q => if q < k then g q else z8) k (g k) = fun q => if q < k + 1 then g q else z8 := by
 funext q
 unfold updF
 by_cases h : q = k
 ·subst h; rw [if_pos rfl, if_pos (by omega)]
 ·rw [if_neg h]
  dsimp only
  by_cases h2 : q < k
  ·rw [if_pos h2, if_pos (by omega)]
  ·rw [if_neg h2, if_neg (by omega)]
theorem tnC_0 (X Y : Dg) (k : Nat) : (⟨X.p, X.s * Y.s, upd (tnR X Y k).deg k (dgK X Y k), upd (tnR X Y k).lev k (lvK X Y k), updF (tnR X Y k).dif k (dfQ X Y k), (tnR X Y k).tab⟩ : Dg) = tnC X Y k 0 := by
 unfold tnC
 rw [show (tnR X Y k).deg = (fun q => if q < k then dgK X Y q else 0) from rfl, show (tnR X Y k).lev = (fun q => if q < k then lvK X Y q else 0) from rfl, show (tnR X Y k).dif = (fun q => if q < k then dfQ X Y q else z8) from rfl, upd_lt, upd_lt, updF_lt]
 congr 1
 funext q r
 show (if q < k ∧ r < (EQ X Y).length then tbQ X Y q r else z8) = _
 by_cases h : q < k ∧ r < (EQ X Y).length
 ·rw [if_pos h, if_pos (.inl h)]
 ·rw [if_neg h, if_neg (by omega)]
theorem tnC_step (X Y : Dg) (k m : Nat) : (⟨X.p, X.s * Y.s, (tnC X Y k m).deg, (tnC X Y k m).lev, (tnC X Y k m).dif, updF (tnC X Y k m).tab k (updF ((tnC X Y k m).tab k) m (tbQ X Y k m))⟩ : Dg) = tnC X Y k (m + 1) := by
 unfold tnC
 congr 1
 funext q r
 unfold updF
 by_cases h : q = k
 ·subst h
  rw [if_pos rfl]
  by_cases h2 : r = m
  ·subst h2; rw [if_pos rfl, if_pos (by omega)]
  ·rw [if_neg h2]
   dsimp only
   by_cases h3 : r < m
   ·rw [if_pos (.inr ⟨rfl, h3⟩), if_pos (.inr ⟨rfl, by omega⟩)]
   ·rw [if_neg (by omega), if_neg (by omega)]
 ·rw [if_neg h]
  dsimp only
  by_cases h3 : q < k ∧ r < (EQ X Y).length
  ·rw [if_pos (.inl h3), if_pos (.inl h3)]
  ·rw [if_neg (by omega), if_neg (by omega)]
theorem tnC_end (X Y : Dg) (k : Nat) : tnC X Y k (EQ X Y).length = tnR X Y (k + 1) := by
 unfold tnC tnR
 congr 1
 funext q r
 by_cases h : q < k + 1 ∧ r < (EQ X Y).length
 ·rw [if_pos h, if_pos (by omega)]
 ·rw [if_neg h, if_neg (by omega)]
noncomputable def fitQ (X Y : Dg) : Bool := @decide (∀ k, k < (EQ X Y).length → dgK X Y k ≤ 5 ∧ lvK X Y k ≤ 5) (Classical.propDecidable _)
theorem fitQ_t {X Y : Dg} : fitQ X Y = true ↔ ∀ k, k < (EQ X Y).length → dgK X Y k ≤ 5 ∧ lvK X Y k ≤ 5 := @decide_eq_true_iff _ (Classical.propDecidable _)
/-- What the product is, and the code beside it. -/
noncomputable def tnP (X Y : Dg) : Dg × Int := if dgB X = true ∧ dgB Y = true then (if X.p = Y.p then (if X.s * Y.s ≤ 8 then (if fitQ X Y = true then (tnR X Y (EQ X Y).length, 0) else (dgZ, 3)) else (dgZ, 3)) else (dgZ, 2)) else (dgZ, 1)
theorem tnP_1 {X Y : Dg} (h : ¬ (dgB X = true ∧ dgB Y = true)) : tnP X Y = (dgZ, 1) := if_neg h
theorem tnP_2 {X Y : Dg} (h : dgB X = true ∧ dgB Y = true) (hp : ¬ X.p = Y.p) : tnP X Y = (dgZ, 2) := by rw [tnP, if_pos h, if_neg hp]
theorem tnP_3 {X Y : Dg} (h : dgB X = true ∧ dgB Y = true) (hp : X.p = Y.p) (hs : ¬ X.s * Y.s ≤ 8) : tnP X Y = (dgZ, 3) := by rw [tnP, if_pos h, if_pos hp, if_neg hs]
theorem tnP_4 {X Y : Dg} (h : dgB X = true ∧ dgB Y = true) (hp : X.p = Y.p) (hs : X.s * Y.s ≤ 8) {k : Nat} (hk : k < (EQ X Y).length) (hc : 5 < dgK X Y k ∨ 5 < lvK X Y k) : tnP X Y = (dgZ, 3) := by
 rw [tnP, if_pos h, if_pos hp, if_pos hs, if_neg]
 intro hf
 have := fitQ_t.1 hf k hk
 omega
theorem tnP_0 {X Y : Dg} (h : dgB X = true ∧ dgB Y = true) (hp : X.p = Y.p) (hs : X.s * Y.s ≤ 8) (hf : ∀ k, k < (EQ X Y).length → dgK X Y k ≤ 5 ∧ lvK X Y k ≤ 5) : tnP X Y = (tnR X Y (EQ X Y).length, 0) := by
 rw [tnP, if_pos h, if_pos hp, if_pos hs, if_pos (fitQ_t.2 hf)]
theorem tm2 (x : Int) : -1 ≤ Int.tmod x 2 ∧ Int.tmod x 2 ≤ 1 := by
 have h1 := Int.tmod_lt_of_pos x (show (0 : Int) < 2 by decide)
 have h2 := Int.lt_tmod_of_pos x (show (0 : Int) < 2 by decide)
 omega
theorem mulQ64 {x y : Int} (hx : 1 ≤ x ∧ x ≤ 8) (hy : 1 ≤ y ∧ y ≤ 8) : 0 ≤ x * y ∧ x * y ≤ 64 := by
 have h1 := Int.mul_nonneg (show 0 ≤ x by omega) (show 0 ≤ y by omega)
 have h2 := Int.mul_le_mul hx.2 hy.2 (by omega) (show (0 : Int) ≤ 8 by omega)
 omega
end Go.Proofs.Ytacajcjibhifmaa
