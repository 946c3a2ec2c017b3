/-
  What the statement FnExactFilteredOf uses of the walks, part 3.
  Conditions: each theorem's own.
-/
import Derived.Test.YtacajcjibhifmaaG16
import Derived.Test.YtacajcjibhifmaaG17
import Derived.Test.YtacajcjibhifmaaG14
import Derived.Test.YtacajcjibhifmaaG13
import Derived.Test.YtacajcjibhifmaaG15
import Derived.Test.YtacajcjibhifmaaG18
import Derived.Test.YtacajcjibhifmaaG19
import Derived.Test.YtacajcjibhifmaaZFilteredOf1
import Derived.Test.YtacajcjibhifmaaZFilteredOf2
set_option linter.unusedVariables false
set_option linter.unusedSimpArgs false
namespace Go.Proofs.Ytacajcjibhifmaa
open Go
theorem sg_bnd {d : Int} : -1 ≤ 1 - d.tmod 2 * 2 ∧ 1 - d.tmod 2 * 2 ≤ 3 := by
 have h1 := Int.tmod_lt_of_pos d (show (0 : Int) < 2 by decide)
 have h2 := Int.lt_tmod_of_pos d (show (0 : Int) < 2 by decide)
 omega
def UnF (X : Dg) (i : Nat) : Prop := eqE (timesP X.p X.tab (e8 0) (e8 i) 8) (e8 i) = true ∧ eqE (timesP X.p X.tab (e8 i) (e8 0) 8) (e8 i) = true ∧ eqE (dfI X.p X.dif (X.dif i) 8) z8 = true
def LbF (X : Dg) (i j : Nat) : Prop := eqE (dfI X.p X.dif (X.tab i j) 8) (plusN X.p (timesP X.p X.tab (X.dif i) (e8 j) 8) (timesP X.p X.tab (e8 i) (X.dif j) 8) (1 - (X.deg i).tmod 2 * 2) 8) = true
def AsF (X : Dg) (i j k : Nat) : Prop := eqE (timesP X.p X.tab (X.tab i j) (e8 k) 8) (timesP X.p X.tab (e8 i) (X.tab j k) 8) = true
structure IsDg (X : Dg) : Prop where
 fm : IsFm X
 un : ∀ i : Nat, (i : Int) < X.s → UnF X i
 lb : ∀ i : Nat, (i : Int) < X.s → ∀ j : Nat, (j : Int) < X.s → LbF X i j
 ac : ∀ i : Nat, (i : Int) < X.s → ∀ j : Nat, (j : Int) < X.s → ∀ k : Nat, (k : Int) < X.s → AsF X i j k
noncomputable def dgB (X : Dg) : Bool := @decide (IsDg X) (Classical.propDecidable _)
theorem dgB_t {X : Dg} : dgB X = true ↔ IsDg X := @decide_eq_true_iff _ (Classical.propDecidable _)
theorem dgB_y {X : Dg} (h : IsDg X) : true = dgB X := (dgB_t.2 h).symm
theorem dgB_n {X : Dg} (h : ¬ IsDg X) : false = dgB X := by
 cases e : dgB X
 ·rfl
 ·exact absurd (dgB_t.1 e) h
theorem un_no {X : Dg} {i : Nat} (h : UnF X i) (c : (eqE (timesP X.p X.tab (e8 0) (e8 i) 8) (e8 i) = false ∨ eqE (timesP X.p X.tab (e8 i) (e8 0) 8) (e8 i) = false) ∨ eqE (dfI X.p X.dif (X.dif i) 8) z8 = false) : False := by
 rcases c with (c | c) | c
 ·rw [h.1] at c; cases c
 ·rw [h.2.1] at c; cases c
 ·rw [h.2.2] at c; cases c

set_option maxRecDepth 100000 in
set_option maxHeartbeats 4000000 in
theorem iDg_ok (X : Dg) (h : Heap)  (hB : DgB X) : CallA Try.prog 15 #[.agg (dgA X)] h fun v' h' => v' = .bool (dgB X) ∧ Ext h h' := by
 have hBd := hB.dif
 have hBt := hB.tab
 refine callA_intro TTok (args := [_]) Try.func15 (by kernel_rfl) rfl 116 rfl (by simp) [.tmp 2] rfl ?_
 simp only [idxs, Nat.reduceAdd]
 refine den_seq ?_
 refine den_region TTok ?_
 intro K hK
 simp -implicitDefEqProofs (disch := first | decide | assumption | omega) only [go_sem, wrap_id, cv_u8, cv_i64, Nat.zero_add, wrap_u8, eq_el, ne_el, build_el, Int.toNat_zero]
 refine op_box (cs := dgA X) rfl ?_
 intro h0_0 e0_0 hb0_0 z0_0
 have := Ext.size e0_0
 have eB := e0_0
 have hfhb0_0 : Fresh h.size [h.size] := Fresh.one _
 have hlhb0_0 := one_lt (show h.size < h0_0.size by omega)
 try simp -implicitDefEqProofs (disch := first | decide | assumption | omega) only [go_sem, wrap_id, cv_u8, cv_i64, Nat.zero_add, wrap_u8, eq_el, ne_el, build_el, Int.toNat_zero]
 refine hK _ _ ?_
 clear hK K
 refine den_seq ?_
 refine den_seq ?_
 refine den_region TTok ?_
 intro K hK
 simp -implicitDefEqProofs (disch := first | decide | assumption | omega) only [go_sem, BoxAt.dgL hb0_0, BoxAt.dgP hb0_0, BoxAt.dgS hb0_0, BoxAt.dgDeg hb0_0, BoxAt.dgLev hb0_0, BoxAt.dgDeg0 hb0_0, BoxAt.dgLev0 hb0_0, BoxAt.dgDifL hb0_0, BoxAt.dgTabL hb0_0, BoxAt.dgTabL0 hb0_0, BoxAt.dgTabL1 hb0_0, BoxAt.dgTabL1' hb0_0, BoxAt.dgDifB hb0_0, BoxAt.dgTabB hb0_0, wrap_id, cv_u8, cv_i64, Nat.zero_add, wrap_u8, eq_el, ne_el, build_el, Int.toNat_zero]
 try simp -implicitDefEqProofs (disch := first | decide | assumption | omega) only [go_sem, wrap_id, cv_u8, cv_i64, Nat.zero_add, wrap_u8, eq_el, ne_el, build_el, Int.toNat_zero]
 refine CallA.mono (iFm_ok  X _  hB) ?_
 intro v_ h1_1
 rintro ⟨rfl, e1_1⟩
 replace hb0_0 := BoxAt.ext hb0_0 e1_1
 have := Ext.size e1_1
 replace eB := Ext.trans eB e1_1
 try simp -implicitDefEqProofs (disch := first | decide | assumption | omega) only [go_sem, wrap_id, cv_u8, cv_i64, Nat.zero_add, wrap_u8, eq_el, ne_el, build_el, Int.toNat_zero]
 refine hK _ _ ?_
 clear hK K
 refine den_cond rfl (fun c0 => ?_) (fun c0 => ?_)
 ·try simp only [decide_eq_true_eq, decide_eq_false_iff_not, beq_iff_eq, beq_eq_false_iff_ne, bne_iff_ne, ne_eq, Bool.not_eq_true', Bool.not_eq_false', Bool.and_eq_true, Bool.or_eq_true, bne_eq_false_iff_eq, Bool.or_eq_false_iff, Bool.and_eq_false_iff, in3_iff, in3_f] at c0
  refine den_seq ?_
  refine den_region TTok ?_
  intro K hK
  simp -implicitDefEqProofs (disch := first | decide | assumption | omega) only [go_sem, wrap_id, cv_u8, cv_i64, Nat.zero_add, wrap_u8, eq_el, ne_el, build_el, Int.toNat_zero]
  refine hK _ _ ?_
  clear hK K
  refine den_ret ?_
  simp (disch := decide) only [resP_1, puts_same, puts_ne]
  exact ⟨vbool (dgB_n (fun hh => by rw [fmB_t.2 hh.fm] at c0; cases c0)), eB⟩
 ·try simp only [decide_eq_true_eq, decide_eq_false_iff_not, beq_iff_eq, beq_eq_false_iff_ne, bne_iff_ne, ne_eq, Bool.not_eq_true', Bool.not_eq_false', Bool.and_eq_true, Bool.or_eq_true, bne_eq_false_iff_eq, Bool.or_eq_false_iff, Bool.and_eq_false_iff, in3_iff, in3_f] at c0
  have hfm := fmB_t.1 c0
  have hs8 := hfm.s
  have hpb := isP_bnd hfm.p
  have hpG : 0 < X.p ∧ X.p ≤ 7 := ⟨by omega, by omega⟩
  refine den_skip ?_
  refine den_seq ?_
  refine den_seq ?_
  refine den_region TTok ?_
  intro K hK
  simp -implicitDefEqProofs (disch := first | decide | assumption | omega) only [go_sem, fa34_1, ld2, BoxAt.dgL hb0_0, BoxAt.dgP hb0_0, BoxAt.dgS hb0_0, BoxAt.dgDeg hb0_0, BoxAt.dgLev hb0_0, BoxAt.dgDeg0 hb0_0, BoxAt.dgLev0 hb0_0, BoxAt.dgDifL hb0_0, BoxAt.dgTabL hb0_0, BoxAt.dgTabL0 hb0_0, BoxAt.dgTabL1 hb0_0, BoxAt.dgTabL1' hb0_0, BoxAt.dgDifB hb0_0, BoxAt.dgTabB hb0_0, wrap_id, cv_u8, cv_i64, Nat.zero_add, wrap_u8, eq_el, ne_el, build_el, Int.toNat_zero]
  refine hK _ _ ?_
  clear hK K
  refine den_block ?_
  refine den_sel [15, 1, 14] ?_
  intro env_1
  simp only [go_sem]
  refine den_loopS (σ := Nat) (fun st_ => [(15, .int .i64 (st_ : Int))]) (fun st_ H => ((st_ : Int) ≤ X.s) ∧ (∀ a : Nat, a < st_ → UnF X a ∧ ∀ b : Nat, (b : Int) < X.s → LbF X a b ∧ ∀ k : Nat, (k : Int) < X.s → AsF X a b k) ∧ (Ext h1_1 H)) (fun st_ => X.s.toNat - st_) 0 ?_ ?_
  ·exact ⟨by omega, fun a h => by omega, Ext.refl _⟩
  ·rintro i h4 ee3 ⟨hi, hz, cL2⟩
   replace hb0_0 := BoxAt.ext hb0_0 cL2
   have := Ext.size cL2
   replace eB := Ext.trans eB cL2
   simp only [List.cons_append, List.nil_append]
   refine den_seq ?_
   refine den_region TTok ?_
   intro K hK
   simp -implicitDefEqProofs (disch := first | decide | assumption | omega) only [go_sem, wrap_id, cv_u8, cv_i64, Nat.zero_add, wrap_u8, eq_el, ne_el, build_el, Int.toNat_zero]
   refine hK _ _ ?_
   clear hK K
   refine den_seq ?_
   refine den_cond rfl (fun c1 => ?_) (fun c1 => ?_)
   ·try simp only [decide_eq_true_eq, decide_eq_false_iff_not, beq_iff_eq, beq_eq_false_iff_ne, bne_iff_ne, ne_eq, Bool.not_eq_true', Bool.not_eq_false', Bool.and_eq_true, Bool.or_eq_true, bne_eq_false_iff_eq, Bool.or_eq_false_iff, Bool.and_eq_false_iff, in3_iff, in3_f] at c1
    refine den_skip ?_
    refine den_seq ?_
    refine den_block ?_
    refine den_seq ?_
    refine den_region TTok ?_
    intro K hK
    simp -implicitDefEqProofs (disch := first | decide | assumption | omega) only [go_sem, wrap_id, cv_u8, cv_i64, Nat.zero_add, wrap_u8, eq_el, ne_el, build_el, Int.toNat_zero]
    refine hK _ _ ?_
    clear hK K
    refine den_seq ?_
    refine den_region TTok ?_
    intro K hK
    simp -implicitDefEqProofs (disch := first | decide | assumption | omega) only [go_sem, BoxAt.dgL hb0_0, BoxAt.dgP hb0_0, BoxAt.dgS hb0_0, BoxAt.dgDeg hb0_0, BoxAt.dgLev hb0_0, BoxAt.dgDeg0 hb0_0, BoxAt.dgLev0 hb0_0, BoxAt.dgDifL hb0_0, BoxAt.dgTabL hb0_0, BoxAt.dgTabL0 hb0_0, BoxAt.dgTabL1 hb0_0, BoxAt.dgTabL1' hb0_0, BoxAt.dgDifB hb0_0, BoxAt.dgTabB hb0_0, wrap_id, cv_u8, cv_i64, Nat.zero_add, wrap_u8, eq_el, ne_el, build_el, Int.toNat_zero]
    try simp -implicitDefEqProofs (disch := first | decide | assumption | omega) only [go_sem, wrap_id, cv_u8, cv_i64, Nat.zero_add, wrap_u8, eq_el, ne_el, build_el, Int.toNat_zero]
    refine CallA.mono (iBas_ok  X (i : Int) _  (by omega)) ?_
    intro v_ h6_2
    rintro ⟨rfl, e6_2⟩
    replace hb0_0 := BoxAt.ext hb0_0 e6_2
    have := Ext.size e6_2
    replace eB := Ext.trans eB e6_2
    replace cL2 := Ext.trans cL2 e6_2
    try simp -implicitDefEqProofs (disch := first | decide | assumption | omega) only [go_sem, wrap_id, cv_u8, cv_i64, Nat.zero_add, wrap_u8, eq_el, ne_el, build_el, Int.toNat_zero]
    refine op_alloc (cs := elA z8) (by kernel_rfl) ?_
    intro h6_3 e6_3 hb6_3 z6_3
    replace hb0_0 := BoxAt.ext hb0_0 e6_3
    have := Ext.size e6_3
    replace eB := Ext.trans eB e6_3
    replace cL2 := Ext.trans cL2 e6_3
    have hfhb6_3 : Fresh h6_2.size [h6_2.size] := Fresh.one _
    have hlhb6_3 := one_lt (show h6_2.size < h6_3.size by omega)
    try simp -implicitDefEqProofs (disch := first | decide | assumption | omega) only [go_sem, wrap_id, cv_u8, cv_i64, Nat.zero_add, wrap_u8, eq_el, ne_el, build_el, Int.toNat_zero]
    refine op_storeB (o := 0) (cs' := elA (e8 i)) st30 hb6_3 rfl rfl (elA_sz _) (by rw [elA_sz]; decide) elA_one elA_all ?_
    intro h6_4 hb6_3 c6_4
    replace hb0_0 := BoxAt.chgA hb0_0 c6_4 (apart_lt hlhb0_0 hfhb6_3 (by omega))
    have := c6_4.size
    replace eB := Ext.then eB c6_4 (ge_of hfhb6_3 (by omega))
    replace cL2 := Ext.then cL2 c6_4 (ge_of hfhb6_3 (by omega))
    try simp -implicitDefEqProofs (disch := first | decide | assumption | omega) only [go_sem, wrap_id, cv_u8, cv_i64, Nat.zero_add, wrap_u8, eq_el, ne_el, build_el, Int.toNat_zero]
    refine hK _ _ ?_
    clear hK K
    refine den_seq ?_
    refine den_seq ?_
    refine den_merge [(46, .bool ((((!(eqE (timesP X.p X.tab (e8 0) (e8 i) 8) (e8 i))) || (!(eqE (timesP X.p X.tab (e8 i) (e8 0) 8) (e8 i)))) || (!(eqE (dfI X.p X.dif (X.dif i) 8) z8)))))] [1, 3, 4, 14, 15] (fun H => Ext h6_4 H) ?_ ?_
     -- a way
    ·refine den_draw TTok mixed [] [(0, true), (1, true), (3, true), (5, true), (2, false), (4, false), (6, true), (7, true), (8, true), (9, true), (10, true), (13, true), (11, false), (12, false), (14, true), (15, true), (16, true), (17, true), (18, true), (19, true), (20, true), (21, true), (23, true), (22, false), (24, true), (25, true)] (by kernel_rfl) ?_
     intro K hK
     simp -implicitDefEqProofs (disch := first | decide | assumption | (simp (disch := decide) only [slotOf_zero, slotOf_succ, Option.map_some, puts_same, puts_ne, gv_bool, gv_undef, tt, tf, ft, ff, eq_self, if_true, if_false, Bool.false_eq_true, Bool.not_true, Bool.not_false]; done) | omega) only [go_sem, BoxAt.dgL hb0_0, BoxAt.dgP hb0_0, BoxAt.dgS hb0_0, BoxAt.dgDeg hb0_0, BoxAt.dgLev hb0_0, BoxAt.dgDeg0 hb0_0, BoxAt.dgLev0 hb0_0, BoxAt.dgDifL hb0_0, BoxAt.dgTabL hb0_0, BoxAt.dgTabL0 hb0_0, BoxAt.dgTabL1 hb0_0, BoxAt.dgTabL1' hb0_0, BoxAt.dgDifB hb0_0, BoxAt.dgTabB hb0_0, BoxAt.elC hb6_3, BoxAt.elL hb6_3, wrap_id, cv_u8, cv_i64, Nat.zero_add, wrap_u8, eq_el, ne_el, build_el, Int.toNat_zero]
     try simp -implicitDefEqProofs (disch := first | decide | assumption | omega) only [go_sem, wrap_id, cv_u8, cv_i64, Nat.zero_add, wrap_u8, eq_el, ne_el, build_el, Int.toNat_zero]
     refine CallA.mono (iBas_ok  X (0 : Int) _  (by omega)) ?_
     intro v_ h7_2
     rintro ⟨rfl, e7_2⟩
     replace hb0_0 := BoxAt.ext hb0_0 e7_2
     replace hb6_3 := BoxAt.ext hb6_3 e7_2
     have := Ext.size e7_2
     replace eB := Ext.trans eB e7_2
     replace cL2 := Ext.trans cL2 e7_2
     try simp (disch := decide) only [outv_some, outv_none, put_puts]
     refine plK_pres (Ext.pres e7_2) ?_
     try simp -implicitDefEqProofs (disch := first | decide | assumption | (simp (disch := decide) only [slotOf_zero, slotOf_succ, Option.map_some, puts_same, puts_ne, gv_bool, gv_undef, tt, tf, ft, ff, eq_self, if_true, if_false, Bool.false_eq_true, Bool.not_true, Bool.not_false]; done) | omega) only [go_sem, wrap_id, cv_u8, cv_i64, Nat.zero_add, wrap_u8, eq_el, ne_el, build_el, Int.toNat_zero]
     try simp -implicitDefEqProofs (disch := first | decide | assumption | omega) only [go_sem, wrap_id, cv_u8, cv_i64, Nat.zero_add, wrap_u8, eq_el, ne_el, build_el, Int.toNat_zero]
     refine CallA.mono (iTms_ok  X (e8 0) (e8 i) _  hpG (by first | assumption | exact e8_by _ | exact By.z8 | exact hBd _ | exact hBt _ _ | exact tmJ_by (by omega) (tmI_by (by omega) _) _ | exact timesP_by (by omega) | exact dfI_by (by omega) _ | exact plusN_by (by omega) (timesP_by (by omega)) | exact dfI_by (by omega) 8) (by first | assumption | exact e8_by _ | exact By.z8 | exact hBd _ | exact hBt _ _ | exact tmJ_by (by omega) (tmI_by (by omega) _) _ | exact timesP_by (by omega) | exact dfI_by (by omega) _ | exact plusN_by (by omega) (timesP_by (by omega)) | exact dfI_by (by omega) 8) hBt) ?_
     intro v_ h7_4
     rintro ⟨rfl, e7_4⟩
     replace hb0_0 := BoxAt.ext hb0_0 e7_4
     replace hb6_3 := BoxAt.ext hb6_3 e7_4
     have := Ext.size e7_4
     replace eB := Ext.trans eB e7_4
     replace cL2 := Ext.trans cL2 e7_4
     try simp (disch := decide) only [outv_some, outv_none, put_puts]
     refine plK_pres (Ext.pres e7_4) ?_
     try simp -implicitDefEqProofs (disch := first | decide | assumption | (simp (disch := decide) only [slotOf_zero, slotOf_succ, Option.map_some, puts_same, puts_ne, gv_bool, gv_undef, tt, tf, ft, ff, eq_self, if_true, if_false, Bool.false_eq_true, Bool.not_true, Bool.not_false]; done) | omega) only [go_sem, wrap_id, cv_u8, cv_i64, Nat.zero_add, wrap_u8, eq_el, ne_el, build_el, Int.toNat_zero]
     refine plG_F (by simp (disch := decide) only [slotOf_zero, slotOf_succ, Option.map_some, puts_same, puts_ne, gv_bool, gv_undef, tt, tf, ft, ff, eq_self, if_true, if_false, Bool.false_eq_true, Bool.not_true, Bool.not_false]; rfl) (fun g5 => ?_) (fun g5 => ?_)
     ·try simp -implicitDefEqProofs (disch := first | decide | assumption | (simp (disch := decide) only [slotOf_zero, slotOf_succ, Option.map_some, puts_same, puts_ne, gv_bool, gv_undef, tt, tf, ft, ff, eq_self, if_true, if_false, Bool.false_eq_true, Bool.not_true, Bool.not_false, g5]; done) | omega) only [go_sem, BoxAt.dgL hb0_0, BoxAt.dgP hb0_0, BoxAt.dgS hb0_0, BoxAt.dgDeg hb0_0, BoxAt.dgLev hb0_0, BoxAt.dgDeg0 hb0_0, BoxAt.dgLev0 hb0_0, BoxAt.dgDifL hb0_0, BoxAt.dgTabL hb0_0, BoxAt.dgTabL0 hb0_0, BoxAt.dgTabL1 hb0_0, BoxAt.dgTabL1' hb0_0, BoxAt.dgDifB hb0_0, BoxAt.dgTabB hb0_0, BoxAt.elC hb6_3, BoxAt.elL hb6_3, wrap_id, cv_u8, cv_i64, Nat.zero_add, wrap_u8, eq_el, ne_el, build_el, Int.toNat_zero, g5, eq_self, if_true, if_false, Bool.false_eq_true]
      try simp -implicitDefEqProofs (disch := first | decide | assumption | omega) only [go_sem, wrap_id, cv_u8, cv_i64, Nat.zero_add, wrap_u8, eq_el, ne_el, build_el, Int.toNat_zero]
      refine CallA.mono (iBas_ok  X (0 : Int) _  (by omega)) ?_
      intro v_ h7_11
      rintro ⟨rfl, e7_11⟩
      replace hb0_0 := BoxAt.ext hb0_0 e7_11
      replace hb6_3 := BoxAt.ext hb6_3 e7_11
      have := Ext.size e7_11
      replace eB := Ext.trans eB e7_11
      replace cL2 := Ext.trans cL2 e7_11
      try simp (disch := decide) only [outv_some, outv_none, put_puts]
      refine plK_pres (Ext.pres e7_11) ?_
      try simp -implicitDefEqProofs (disch := first | decide | assumption | (simp (disch := decide) only [slotOf_zero, slotOf_succ, Option.map_some, puts_same, puts_ne, gv_bool, gv_undef, tt, tf, ft, ff, eq_self, if_true, if_false, Bool.false_eq_true, Bool.not_true, Bool.not_false, g5]; done) | omega) only [go_sem, wrap_id, cv_u8, cv_i64, Nat.zero_add, wrap_u8, eq_el, ne_el, build_el, Int.toNat_zero, g5, eq_self, if_true, if_false, Bool.false_eq_true]
      try simp -implicitDefEqProofs (disch := first | decide | assumption | omega) only [go_sem, wrap_id, cv_u8, cv_i64, Nat.zero_add, wrap_u8, eq_el, ne_el, build_el, Int.toNat_zero]
      refine CallA.mono (iTms_ok  X (e8 i) (e8 0) _  hpG (by first | assumption | exact e8_by _ | exact By.z8 | exact hBd _ | exact hBt _ _ | exact tmJ_by (by omega) (tmI_by (by omega) _) _ | exact timesP_by (by omega) | exact dfI_by (by omega) _ | exact plusN_by (by omega) (timesP_by (by omega)) | exact dfI_by (by omega) 8) (by first | assumption | exact e8_by _ | exact By.z8 | exact hBd _ | exact hBt _ _ | exact tmJ_by (by omega) (tmI_by (by omega) _) _ | exact timesP_by (by omega) | exact dfI_by (by omega) _ | exact plusN_by (by omega) (timesP_by (by omega)) | exact dfI_by (by omega) 8) hBt) ?_
      intro v_ h7_12
      rintro ⟨rfl, e7_12⟩
      replace hb0_0 := BoxAt.ext hb0_0 e7_12
      replace hb6_3 := BoxAt.ext hb6_3 e7_12
      have := Ext.size e7_12
      replace eB := Ext.trans eB e7_12
      replace cL2 := Ext.trans cL2 e7_12
      try simp (disch := decide) only [outv_some, outv_none, put_puts]
      refine plK_pres (Ext.pres e7_12) ?_
      try simp -implicitDefEqProofs (disch := first | decide | assumption | (simp (disch := decide) only [slotOf_zero, slotOf_succ, Option.map_some, puts_same, puts_ne, gv_bool, gv_undef, tt, tf, ft, ff, eq_self, if_true, if_false, Bool.false_eq_true, Bool.not_true, Bool.not_false, g5]; done) | omega) only [go_sem, wrap_id, cv_u8, cv_i64, Nat.zero_add, wrap_u8, eq_el, ne_el, build_el, Int.toNat_zero, g5, eq_self, if_true, if_false, Bool.false_eq_true]
      refine plG_F (by simp (disch := decide) only [slotOf_zero, slotOf_succ, Option.map_some, puts_same, puts_ne, gv_bool, gv_undef, tt, tf, ft, ff, eq_self, if_true, if_false, Bool.false_eq_true, Bool.not_true, Bool.not_false, g5]; rfl) (fun g6 => ?_) (fun g6 => ?_)
      ·try simp -implicitDefEqProofs (disch := first | decide | assumption | (simp (disch := decide) only [slotOf_zero, slotOf_succ, Option.map_some, puts_same, puts_ne, gv_bool, gv_undef, tt, tf, ft, ff, eq_self, if_true, if_false, Bool.false_eq_true, Bool.not_true, Bool.not_false, g5, g6]; done) | omega) only [go_sem, Int.toNat_zero, fa34_4, ia31, BoxAt.dgL hb0_0, BoxAt.dgP hb0_0, BoxAt.dgS hb0_0, BoxAt.dgDeg hb0_0, BoxAt.dgLev hb0_0, BoxAt.dgDeg0 hb0_0, BoxAt.dgLev0 hb0_0, BoxAt.dgDifL hb0_0, BoxAt.dgTabL hb0_0, BoxAt.dgTabL0 hb0_0, BoxAt.dgTabL1 hb0_0, BoxAt.dgTabL1' hb0_0, BoxAt.dgDifB hb0_0, BoxAt.dgTabB hb0_0, wrap_id, cv_u8, cv_i64, Nat.zero_add, wrap_u8, eq_el, ne_el, build_el, Int.toNat_zero, g5, g6, eq_self, if_true, if_false, Bool.false_eq_true]
       try simp -implicitDefEqProofs (disch := first | decide | assumption | omega) only [go_sem, wrap_id, cv_u8, cv_i64, Nat.zero_add, wrap_u8, eq_el, ne_el, build_el, Int.toNat_zero]
       refine CallA.mono (iDif_ok  X (X.dif i) _  hpG (by first | assumption | exact e8_by _ | exact By.z8 | exact hBd _ | exact hBt _ _ | exact tmJ_by (by omega) (tmI_by (by omega) _) _ | exact timesP_by (by omega) | exact dfI_by (by omega) _ | exact plusN_by (by omega) (timesP_by (by omega)) | exact dfI_by (by omega) 8) hBd) ?_
       intro v_ h7_22
       rintro ⟨rfl, e7_22⟩
       replace hb0_0 := BoxAt.ext hb0_0 e7_22
       replace hb6_3 := BoxAt.ext hb6_3 e7_22
       have := Ext.size e7_22
       replace eB := Ext.trans eB e7_22
       replace cL2 := Ext.trans cL2 e7_22
       try simp (disch := decide) only [outv_some, outv_none, put_puts]
       refine plK_pres (Ext.pres e7_22) ?_
       try simp -implicitDefEqProofs (disch := first | decide | assumption | (simp (disch := decide) only [slotOf_zero, slotOf_succ, Option.map_some, puts_same, puts_ne, gv_bool, gv_undef, tt, tf, ft, ff, eq_self, if_true, if_false, Bool.false_eq_true, Bool.not_true, Bool.not_false, g5, g6]; done) | omega) only [go_sem, wrap_id, cv_u8, cv_i64, Nat.zero_add, wrap_u8, eq_el, ne_el, build_el, Int.toNat_zero, g5, g6, eq_self, if_true, if_false, Bool.false_eq_true]
       refine hK _ _ ?_
       clear hK K
       refine den_stop ?_
       refine ⟨?_, (Ext.trans (Ext.trans (Ext.trans (Ext.trans e7_2 e7_4) e7_11) e7_12) e7_22)⟩
       first | (simp (disch := decide) only [go_sem, g5, g6, eq_self, Bool.true_and, Bool.and_true, Bool.false_and, Bool.and_false, Bool.true_or, Bool.or_true, Bool.false_or, Bool.or_false, if_true, if_false, Bool.false_eq_true]; done) | simp [HasL, sel, puts_at, g5, g6]
      ·try simp -implicitDefEqProofs (disch := first | decide | assumption | (simp (disch := decide) only [slotOf_zero, slotOf_succ, Option.map_some, puts_same, puts_ne, gv_bool, gv_undef, tt, tf, ft, ff, eq_self, if_true, if_false, Bool.false_eq_true, Bool.not_true, Bool.not_false, g5, g6]; done) | omega) only [go_sem, wrap_id, cv_u8, cv_i64, Nat.zero_add, wrap_u8, eq_el, ne_el, build_el, Int.toNat_zero, g5, g6, eq_self, if_true, if_false, Bool.false_eq_true]
       refine hK _ _ ?_
       clear hK K
       refine den_stop ?_
       refine ⟨?_, (Ext.trans (Ext.trans (Ext.trans e7_2 e7_4) e7_11) e7_12)⟩
       first | (simp (disch := decide) only [go_sem, g5, g6, eq_self, Bool.true_and, Bool.and_true, Bool.false_and, Bool.and_false, Bool.true_or, Bool.or_true, Bool.false_or, Bool.or_false, if_true, if_false, Bool.false_eq_true]; done) | simp [HasL, sel, puts_at, g5, g6]
     ·try simp -implicitDefEqProofs (disch := first | decide | assumption | (simp (disch := decide) only [slotOf_zero, slotOf_succ, Option.map_some, puts_same, puts_ne, gv_bool, gv_undef, tt, tf, ft, ff, eq_self, if_true, if_false, Bool.false_eq_true, Bool.not_true, Bool.not_false, g5]; done) | omega) only [go_sem, wrap_id, cv_u8, cv_i64, Nat.zero_add, wrap_u8, eq_el, ne_el, build_el, Int.toNat_zero, g5, eq_self, if_true, if_false, Bool.false_eq_true]
      try simp -implicitDefEqProofs (disch := first | decide | assumption | (simp (disch := decide) only [slotOf_zero, slotOf_succ, Option.map_some, puts_same, puts_ne, gv_bool, gv_undef, tt, tf, ft, ff, eq_self, if_true, if_false, Bool.false_eq_true, Bool.not_true, Bool.not_false, g5]; done) | omega) only [go_sem, wrap_id, cv_u8, cv_i64, Nat.zero_add, wrap_u8, eq_el, ne_el, build_el, Int.toNat_zero, g5, eq_self, if_true, if_false, Bool.false_eq_true]
      refine hK _ _ ?_
      clear hK K
      refine den_stop ?_
      refine ⟨?_, (Ext.trans e7_2 e7_4)⟩
      first | (simp (disch := decide) only [go_sem, g5, eq_self, Bool.true_and, Bool.and_true, Bool.false_and, Bool.and_false, Bool.true_or, Bool.or_true, Bool.false_or, Bool.or_false, if_true, if_false, Bool.false_eq_true]; done) | simp [HasL, sel, puts_at, g5]
    intro en7 h8 e9
    replace hb0_0 := BoxAt.ext hb0_0 e9
    replace hb6_3 := BoxAt.ext hb6_3 e9
    have := Ext.size e9
    replace eB := Ext.trans eB e9
    replace cL2 := Ext.trans cL2 e9
    simp (disch := decide) only [go_sem]
    refine den_cond rfl (fun c2 => ?_) (fun c2 => ?_)
    ·try simp only [decide_eq_true_eq, decide_eq_false_iff_not, beq_iff_eq, beq_eq_false_iff_ne, bne_iff_ne, ne_eq, Bool.not_eq_true', Bool.not_eq_false', Bool.and_eq_true, Bool.or_eq_true, bne_eq_false_iff_eq, Bool.or_eq_false_iff, Bool.and_eq_false_iff, in3_iff, in3_f] at c2
     refine den_seq ?_
     refine den_region TTok ?_
     intro K hK
     simp -implicitDefEqProofs (disch := first | decide | assumption | omega) only [go_sem, wrap_id, cv_u8, cv_i64, Nat.zero_add, wrap_u8, eq_el, ne_el, build_el, Int.toNat_zero]
     refine hK _ _ ?_
     clear hK K
     refine den_ret ?_
     simp (disch := decide) only [resP_1, puts_same, puts_ne]
     exact ⟨vbool (dgB_n (fun hh => un_no (hh.un i (by omega)) c2)), eB⟩
    ·try simp only [decide_eq_true_eq, decide_eq_false_iff_not, beq_iff_eq, beq_eq_false_iff_ne, bne_iff_ne, ne_eq, Bool.not_eq_true', Bool.not_eq_false', Bool.and_eq_true, Bool.or_eq_true, bne_eq_false_iff_eq, Bool.or_eq_false_iff, Bool.and_eq_false_iff, in3_iff, in3_f] at c2
     refine den_skip ?_
     refine den_seq ?_
     refine den_region TTok ?_
     intro K hK
     simp -implicitDefEqProofs (disch := first | decide | assumption | omega) only [go_sem, fa34_1, ld2, BoxAt.dgL hb0_0, BoxAt.dgP hb0_0, BoxAt.dgS hb0_0, BoxAt.dgDeg hb0_0, BoxAt.dgLev hb0_0, BoxAt.dgDeg0 hb0_0, BoxAt.dgLev0 hb0_0, BoxAt.dgDifL hb0_0, BoxAt.dgTabL hb0_0, BoxAt.dgTabL0 hb0_0, BoxAt.dgTabL1 hb0_0, BoxAt.dgTabL1' hb0_0, BoxAt.dgDifB hb0_0, BoxAt.dgTabB hb0_0, wrap_id, cv_u8, cv_i64, Nat.zero_add, wrap_u8, eq_el, ne_el, build_el, Int.toNat_zero]
     refine hK _ _ ?_
     clear hK K
     refine den_block ?_
     refine den_sel [49, 1, 3, 4, 14, 15, 48] ?_
     intro env_10
     simp only [go_sem]
     refine den_loopS (σ := Nat) (fun st_ => [(49, .int .i64 (st_ : Int))]) (fun st_ H => ((st_ : Int) ≤ X.s) ∧ (∀ b : Nat, b < st_ → LbF X i b ∧ ∀ k : Nat, (k : Int) < X.s → AsF X i b k) ∧ (Ext h8 H)) (fun st_ => X.s.toNat - st_) 0 ?_ ?_
     ·exact ⟨by omega, fun b h => by omega, Ext.refl _⟩
     ·rintro j h13 ee12 ⟨hj, hzj, cL11⟩
      replace hb0_0 := BoxAt.ext hb0_0 cL11
      replace hb6_3 := BoxAt.ext hb6_3 cL11
      have := Ext.size cL11
      replace eB := Ext.trans eB cL11
      replace cL2 := Ext.trans cL2 cL11
      simp only [List.cons_append, List.nil_append]
      refine den_seq ?_
      refine den_region TTok ?_
      intro K hK
      simp -implicitDefEqProofs (disch := first | decide | assumption | omega) only [go_sem, wrap_id, cv_u8, cv_i64, Nat.zero_add, wrap_u8, eq_el, ne_el, build_el, Int.toNat_zero]
      refine hK _ _ ?_
      clear hK K
      refine den_seq ?_
      refine den_cond rfl (fun c3 => ?_) (fun c3 => ?_)
      ·try simp only [decide_eq_true_eq, decide_eq_false_iff_not, beq_iff_eq, beq_eq_false_iff_ne, bne_iff_ne, ne_eq, Bool.not_eq_true', Bool.not_eq_false', Bool.and_eq_true, Bool.or_eq_true, bne_eq_false_iff_eq, Bool.or_eq_false_iff, Bool.and_eq_false_iff, in3_iff, in3_f] at c3
       refine den_skip ?_
       refine den_seq ?_
       refine den_block ?_
       refine den_seq ?_
       refine den_region TTok ?_
       intro K hK
       simp -implicitDefEqProofs (disch := first | decide | assumption | omega) only [go_sem, wrap_id, cv_u8, cv_i64, Nat.zero_add, wrap_u8, eq_el, ne_el, build_el, Int.toNat_zero]
       refine hK _ _ ?_
       clear hK K
       refine den_seq ?_
       refine den_region TTok ?_
       intro K hK
       simp -implicitDefEqProofs (disch := first | decide | assumption | omega) only [go_sem, BoxAt.dgL hb0_0, BoxAt.dgP hb0_0, BoxAt.dgS hb0_0, BoxAt.dgDeg hb0_0, BoxAt.dgLev hb0_0, BoxAt.dgDeg0 hb0_0, BoxAt.dgLev0 hb0_0, BoxAt.dgDifL hb0_0, BoxAt.dgTabL hb0_0, BoxAt.dgTabL0 hb0_0, BoxAt.dgTabL1 hb0_0, BoxAt.dgTabL1' hb0_0, BoxAt.dgDifB hb0_0, BoxAt.dgTabB hb0_0, wrap_id, cv_u8, cv_i64, Nat.zero_add, wrap_u8, eq_el, ne_el, build_el, Int.toNat_zero]
       try simp -implicitDefEqProofs (disch := first | decide | assumption | omega) only [go_sem, wrap_id, cv_u8, cv_i64, Nat.zero_add, wrap_u8, eq_el, ne_el, build_el, Int.toNat_zero]
       refine CallA.mono (iBas_ok  X (j : Int) _  (by omega)) ?_
       intro v_ h12_2
       rintro ⟨rfl, e12_2⟩
       replace hb0_0 := BoxAt.ext hb0_0 e12_2
       replace hb6_3 := BoxAt.ext hb6_3 e12_2
       have := Ext.size e12_2
       replace eB := Ext.trans eB e12_2
       replace cL2 := Ext.trans cL2 e12_2
       replace cL11 := Ext.trans cL11 e12_2
       try simp -implicitDefEqProofs (disch := first | decide | assumption | omega) only [go_sem, wrap_id, cv_u8, cv_i64, Nat.zero_add, wrap_u8, eq_el, ne_el, build_el, Int.toNat_zero]
       refine op_alloc (cs := elA z8) (by kernel_rfl) ?_
       intro h12_3 e12_3 hb12_3 z12_3
       replace hb0_0 := BoxAt.ext hb0_0 e12_3
       replace hb6_3 := BoxAt.ext hb6_3 e12_3
       have := Ext.size e12_3
       replace eB := Ext.trans eB e12_3
       replace cL2 := Ext.trans cL2 e12_3
       replace cL11 := Ext.trans cL11 e12_3
       have hfhb12_3 : Fresh h12_2.size [h12_2.size] := Fresh.one _
       have hlhb12_3 := one_lt (show h12_2.size < h12_3.size by omega)
       try simp -implicitDefEqProofs (disch := first | decide | assumption | omega) only [go_sem, wrap_id, cv_u8, cv_i64, Nat.zero_add, wrap_u8, eq_el, ne_el, build_el, Int.toNat_zero]
       refine op_storeB (o := 0) (cs' := elA (e8 j)) st30 hb12_3 rfl rfl (elA_sz _) (by rw [elA_sz]; decide) elA_one elA_all ?_
       intro h12_4 hb12_3 c12_4
       replace hb0_0 := BoxAt.chgA hb0_0 c12_4 (apart_lt hlhb0_0 hfhb12_3 (by omega))
       replace hb6_3 := BoxAt.chgA hb6_3 c12_4 (apart_lt hlhb6_3 hfhb12_3 (by omega))
       have := c12_4.size
       replace eB := Ext.then eB c12_4 (ge_of hfhb12_3 (by omega))
       replace cL2 := Ext.then cL2 c12_4 (ge_of hfhb12_3 (by omega))
       replace cL11 := Ext.then cL11 c12_4 (ge_of hfhb12_3 (by omega))
       try simp -implicitDefEqProofs (disch := first | decide | assumption | omega) only [go_sem, wrap_id, cv_u8, cv_i64, Nat.zero_add, wrap_u8, eq_el, ne_el, build_el, Int.toNat_zero]
       refine hK _ _ ?_
       clear hK K
       refine den_seq ?_
       refine den_sel [1, 3, 4, 5, 6, 14, 15, 48, 49] ?_
       intro env_14
       simp only [go_sem]
       refine den_drawTJ (σ := Nat) TTok (fun st_ => [(7, .pointer (some ⟨st_, 0, none⟩))]) (fun st_ H => (BoxAt H st_ (elA (dfI X.p X.dif ((X.tab i) j) 8)) 30) ∧ (Fresh h12_4.size [st_]) ∧ (Ext h12_4 H)) mixed [9] [(0, true), (1, true), (2, true), (3, true), (4, true), (5, true), (6, true)] (.fork 7 [(8, false), (9, false)] .fin 8 [(7, false), (9, false)] .fin) (by kernel_rfl) ?_ ?_
       ·intro K hK
        have cJ15 := Ext.refl h12_4
        simp -implicitDefEqProofs (disch := first | decide | assumption | omega) only [go_sem, Int.toNat_zero, fa34_5, ia32, ia31, BoxAt.dgL hb0_0, BoxAt.dgP hb0_0, BoxAt.dgS hb0_0, BoxAt.dgDeg hb0_0, BoxAt.dgLev hb0_0, BoxAt.dgDeg0 hb0_0, BoxAt.dgLev0 hb0_0, BoxAt.dgDifL hb0_0, BoxAt.dgTabL hb0_0, BoxAt.dgTabL0 hb0_0, BoxAt.dgTabL1 hb0_0, BoxAt.dgTabL1' hb0_0, BoxAt.dgDifB hb0_0, BoxAt.dgTabB hb0_0, wrap_id, cv_u8, cv_i64, Nat.zero_add, wrap_u8, eq_el, ne_el, build_el, Int.toNat_zero]
        refine And.intro ?_ ?_
        ·simp -implicitDefEqProofs (disch := first | decide | assumption | omega) only [go_sem, wrap_id, cv_u8, cv_i64, Nat.zero_add, wrap_u8, eq_el, ne_el, build_el, Int.toNat_zero]
         try simp -implicitDefEqProofs (disch := first | decide | assumption | omega) only [go_sem, wrap_id, cv_u8, cv_i64, Nat.zero_add, wrap_u8, eq_el, ne_el, build_el, Int.toNat_zero]
         refine CallA.mono (iDif_ok  X ((X.tab i) j) _  hpG (by first | assumption | exact e8_by _ | exact By.z8 | exact hBd _ | exact hBt _ _ | exact tmJ_by (by omega) (tmI_by (by omega) _) _ | exact timesP_by (by omega) | exact dfI_by (by omega) _ | exact plusN_by (by omega) (timesP_by (by omega)) | exact dfI_by (by omega) 8) hBd) ?_
         intro v_ h13_7
         rintro ⟨rfl, e13_7⟩
         replace hb0_0 := BoxAt.ext hb0_0 e13_7
         replace hb6_3 := BoxAt.ext hb6_3 e13_7
         replace hb12_3 := BoxAt.ext hb12_3 e13_7
         have := Ext.size e13_7
         replace eB := Ext.trans eB e13_7
         replace cL2 := Ext.trans cL2 e13_7
         replace cL11 := Ext.trans cL11 e13_7
         replace cJ15 := Ext.trans cJ15 e13_7
         try simp (disch := decide) only [outv_some, outv_none, put_puts]
         refine plK_pres (Ext.pres e13_7) ?_
         try simp -implicitDefEqProofs (disch := first | decide | assumption | omega) only [go_sem, wrap_id, cv_u8, cv_i64, Nat.zero_add, wrap_u8, eq_el, ne_el, build_el, Int.toNat_zero]
         refine op_alloc (cs := elA z8) (by kernel_rfl) ?_
         intro h13_8 e13_8 hb13_8 z13_8
         replace hb0_0 := BoxAt.ext hb0_0 e13_8
         replace hb6_3 := BoxAt.ext hb6_3 e13_8
         replace hb12_3 := BoxAt.ext hb12_3 e13_8
         have := Ext.size e13_8
         replace eB := Ext.trans eB e13_8
         replace cL2 := Ext.trans cL2 e13_8
         replace cL11 := Ext.trans cL11 e13_8
         replace cJ15 := Ext.trans cJ15 e13_8
         have hfhb13_8 : Fresh h13_7.size [h13_7.size] := Fresh.one _
         have hlhb13_8 := one_lt (show h13_7.size < h13_8.size by omega)
         try simp (disch := decide) only [outv_some, outv_none, put_puts]
         refine plK_pres (Ext.pres e13_8) ?_
         try simp -implicitDefEqProofs (disch := first | decide | assumption | omega) only [go_sem, wrap_id, cv_u8, cv_i64, Nat.zero_add, wrap_u8, eq_el, ne_el, build_el, Int.toNat_zero]
         refine op_storeB (o := 0) (cs' := elA (dfI X.p X.dif ((X.tab i) j) 8)) st30 hb13_8 rfl rfl (elA_sz _) (by rw [elA_sz]; decide) elA_one elA_all ?_
         intro h13_9 hb13_8 c13_9
         replace hb0_0 := BoxAt.chgA hb0_0 c13_9 (apart_lt hlhb0_0 hfhb13_8 (by omega))
         replace hb6_3 := BoxAt.chgA hb6_3 c13_9 (apart_lt hlhb6_3 hfhb13_8 (by omega))
         replace hb12_3 := BoxAt.chgA hb12_3 c13_9 (apart_lt hlhb12_3 hfhb13_8 (by omega))
         have := c13_9.size
         replace eB := Ext.then eB c13_9 (ge_of hfhb13_8 (by omega))
         replace cL2 := Ext.then cL2 c13_9 (ge_of hfhb13_8 (by omega))
         replace cL11 := Ext.then cL11 c13_9 (ge_of hfhb13_8 (by omega))
         replace cJ15 := Ext.then cJ15 c13_9 (ge_of hfhb13_8 (by omega))
         try simp (disch := decide) only [outv_some, outv_none, put_puts]
         refine plK_last (by decide) ?_
         try simp -implicitDefEqProofs (disch := first | decide | assumption | omega) only [go_sem, wrap_id, cv_u8, cv_i64, Nat.zero_add, wrap_u8, eq_el, ne_el, build_el, Int.toNat_zero]
         exact hK h13_7.size _ _ (by simp [HasL, puts_at]) ⟨hb13_8, (hfhb13_8.mono (by omega)), cJ15⟩
        ·simp -implicitDefEqProofs (disch := first | decide | assumption | omega) only [go_sem, wrap_id, cv_u8, cv_i64, Nat.zero_add, wrap_u8, eq_el, ne_el, build_el, Int.toNat_zero]
         refine op_alloc (cs := elA z8) (by kernel_rfl) ?_
         intro h13_8 e13_8 hb13_8 z13_8
         replace hb0_0 := BoxAt.ext hb0_0 e13_8
         replace hb6_3 := BoxAt.ext hb6_3 e13_8
         replace hb12_3 := BoxAt.ext hb12_3 e13_8
         have := Ext.size e13_8
         replace eB := Ext.trans eB e13_8
         replace cL2 := Ext.trans cL2 e13_8
         replace cL11 := Ext.trans cL11 e13_8
         replace cJ15 := Ext.trans cJ15 e13_8
         have hfhb13_8 : Fresh h12_4.size [h12_4.size] := Fresh.one _
         have hlhb13_8 := one_lt (show h12_4.size < h13_8.size by omega)
         try simp (disch := decide) only [outv_some, outv_none, put_puts]
         refine plK_pres (Ext.pres e13_8) ?_
         try simp -implicitDefEqProofs (disch := first | decide | assumption | omega) only [go_sem, wrap_id, cv_u8, cv_i64, Nat.zero_add, wrap_u8, eq_el, ne_el, build_el, Int.toNat_zero]
         try simp -implicitDefEqProofs (disch := first | decide | assumption | omega) only [go_sem, wrap_id, cv_u8, cv_i64, Nat.zero_add, wrap_u8, eq_el, ne_el, build_el, Int.toNat_zero]
         refine CallA.mono (iDif_ok  X ((X.tab i) j) _  hpG (by first | assumption | exact e8_by _ | exact By.z8 | exact hBd _ | exact hBt _ _ | exact tmJ_by (by omega) (tmI_by (by omega) _) _ | exact timesP_by (by omega) | exact dfI_by (by omega) _ | exact plusN_by (by omega) (timesP_by (by omega)) | exact dfI_by (by omega) 8) hBd) ?_
         intro v_ h13_7
         rintro ⟨rfl, e13_7⟩
         replace hb0_0 := BoxAt.ext hb0_0 e13_7
         replace hb6_3 := BoxAt.ext hb6_3 e13_7
         replace hb12_3 := BoxAt.ext hb12_3 e13_7
         replace hb13_8 := BoxAt.ext hb13_8 e13_7
         have := Ext.size e13_7
         replace eB := Ext.trans eB e13_7
         replace cL2 := Ext.trans cL2 e13_7
         replace cL11 := Ext.trans cL11 e13_7
         replace cJ15 := Ext.trans cJ15 e13_7
         try simp (disch := decide) only [outv_some, outv_none, put_puts]
         refine plK_pres (Ext.pres e13_7) ?_
         try simp -implicitDefEqProofs (disch := first | decide | assumption | omega) only [go_sem, wrap_id, cv_u8, cv_i64, Nat.zero_add, wrap_u8, eq_el, ne_el, build_el, Int.toNat_zero]
         refine op_storeB (o := 0) (cs' := elA (dfI X.p X.dif ((X.tab i) j) 8)) st30 hb13_8 rfl rfl (elA_sz _) (by rw [elA_sz]; decide) elA_one elA_all ?_
         intro h13_9 hb13_8 c13_9
         replace hb0_0 := BoxAt.chgA hb0_0 c13_9 (apart_lt hlhb0_0 hfhb13_8 (by omega))
         replace hb6_3 := BoxAt.chgA hb6_3 c13_9 (apart_lt hlhb6_3 hfhb13_8 (by omega))
         replace hb12_3 := BoxAt.chgA hb12_3 c13_9 (apart_lt hlhb12_3 hfhb13_8 (by omega))
         have := c13_9.size
         replace eB := Ext.then eB c13_9 (ge_of hfhb13_8 (by omega))
         replace cL2 := Ext.then cL2 c13_9 (ge_of hfhb13_8 (by omega))
         replace cL11 := Ext.then cL11 c13_9 (ge_of hfhb13_8 (by omega))
         replace cJ15 := Ext.then cJ15 c13_9 (ge_of hfhb13_8 (by omega))
         try simp (disch := decide) only [outv_some, outv_none, put_puts]
         refine plK_last (by decide) ?_
         try simp -implicitDefEqProofs (disch := first | decide | assumption | omega) only [go_sem, wrap_id, cv_u8, cv_i64, Nat.zero_add, wrap_u8, eq_el, ne_el, build_el, Int.toNat_zero]
         exact hK h12_4.size _ _ (by simp [HasL, puts_at]) ⟨hb13_8, (hfhb13_8.mono (by omega)), cJ15⟩
       ·rintro bJhb13_8 hj16 ee18 ⟨hb13_8, hfhb13_8, eJ17⟩
        replace hb0_0 := BoxAt.ext hb0_0 eJ17
        replace hb6_3 := BoxAt.ext hb6_3 eJ17
        replace hb12_3 := BoxAt.ext hb12_3 eJ17
        have := Ext.size eJ17
        replace eB := Ext.trans eB eJ17
        replace cL2 := Ext.trans cL2 eJ17
        replace cL11 := Ext.trans cL11 eJ17
        have hlhb13_8 := one_lt hb13_8.lt
        simp only [List.cons_append, List.nil_append]
        refine den_seq ?_
        have hdr := (hfm.row i (by omega)).deg
        have hsg := sg_bnd (d := X.deg i)
        refine den_sel [1, 3, 4, 5, 6, 7, 14, 15, 48, 49] ?_
        intro env_19
        simp only [go_sem]
        refine den_drawTJ (σ := Nat) TTok (fun st_ => [(8, .pointer (some ⟨st_, 0, none⟩))]) (fun st_ H => (BoxAt H st_ (elA (plusN X.p (timesP X.p X.tab (X.dif i) (e8 j) 8) (timesP X.p X.tab (e8 i) (X.dif j) 8) (1 - (X.deg i).tmod 2 * 2) 8)) 30) ∧ (Fresh hj16.size [st_]) ∧ (Ext hj16 H)) mixed [22] [(0, true), (1, true), (2, true), (3, true), (4, true), (5, true), (6, true), (8, true), (9, true), (10, true), (11, true), (12, true), (13, true), (15, true), (16, true), (17, true), (18, true)] (.fork 7 [] (.fork 14 [] (.fork 19 [] (.fork 20 [(21, false), (22, false)] .fin 21 [(20, false), (22, false)] .fin) 21 [(19, false), (20, false), (22, false)] .fin) 21 [(14, false), (19, false), (20, false), (22, false)] .fin) 21 [(7, false), (14, false), (19, false), (20, false), (22, false)] .fin) (by kernel_rfl) ?_ ?_
        ·intro K hK
         have cJ20 := Ext.refl hj16
         simp -implicitDefEqProofs (disch := first | decide | assumption | omega) only [go_sem, Int.toNat_zero, fa34_2, fa34_4, ia31, ia22, ld2, BoxAt.dgL hb0_0, BoxAt.dgP hb0_0, BoxAt.dgS hb0_0, BoxAt.dgDeg hb0_0, BoxAt.dgLev hb0_0, BoxAt.dgDeg0 hb0_0, BoxAt.dgLev0 hb0_0, BoxAt.dgDifL hb0_0, BoxAt.dgTabL hb0_0, BoxAt.dgTabL0 hb0_0, BoxAt.dgTabL1 hb0_0, BoxAt.dgTabL1' hb0_0, BoxAt.dgDifB hb0_0, BoxAt.dgTabB hb0_0, BoxAt.elC hb6_3, BoxAt.elL hb6_3, BoxAt.elC hb12_3, BoxAt.elL hb12_3, wrap_id, cv_u8, cv_i64, Nat.zero_add, wrap_u8, eq_el, ne_el, build_el, Int.toNat_zero]
         refine And.intro ?_ ?_
         ·simp -implicitDefEqProofs (disch := first | decide | assumption | omega) only [go_sem, wrap_id, cv_u8, cv_i64, Nat.zero_add, wrap_u8, eq_el, ne_el, build_el, Int.toNat_zero]
          try simp -implicitDefEqProofs (disch := first | decide | assumption | omega) only [go_sem, wrap_id, cv_u8, cv_i64, Nat.zero_add, wrap_u8, eq_el, ne_el, build_el, Int.toNat_zero]
          refine CallA.mono (iTms_ok  X (X.dif i) (e8 j) _  hpG (by first | assumption | exact e8_by _ | exact By.z8 | exact hBd _ | exact hBt _ _ | exact tmJ_by (by omega) (tmI_by (by omega) _) _ | exact timesP_by (by omega) | exact dfI_by (by omega) _ | exact plusN_by (by omega) (timesP_by (by omega)) | exact dfI_by (by omega) 8) (by first | assumption | exact e8_by _ | exact By.z8 | exact hBd _ | exact hBt _ _ | exact tmJ_by (by omega) (tmI_by (by omega) _) _ | exact timesP_by (by omega) | exact dfI_by (by omega) _ | exact plusN_by (by omega) (timesP_by (by omega)) | exact dfI_by (by omega) 8) hBt) ?_
          intro v_ h14_7
          rintro ⟨rfl, e14_7⟩
          replace hb0_0 := BoxAt.ext hb0_0 e14_7
          replace hb6_3 := BoxAt.ext hb6_3 e14_7
          replace hb12_3 := BoxAt.ext hb12_3 e14_7
          replace hb13_8 := BoxAt.ext hb13_8 e14_7
          have := Ext.size e14_7
          replace eB := Ext.trans eB e14_7
          replace cL2 := Ext.trans cL2 e14_7
          replace cL11 := Ext.trans cL11 e14_7
          replace cJ20 := Ext.trans cJ20 e14_7
          try simp (disch := decide) only [outv_some, outv_none, put_puts]
          refine plK_pres (Ext.pres e14_7) ?_
          try simp -implicitDefEqProofs (disch := first | decide | assumption | omega) only [go_sem, wrap_id, cv_u8, cv_i64, Nat.zero_add, wrap_u8, eq_el, ne_el, build_el, Int.toNat_zero]
          refine And.intro ?_ ?_
          ·simp -implicitDefEqProofs (disch := first | decide | assumption | omega) only [go_sem, wrap_id, cv_u8, cv_i64, Nat.zero_add, wrap_u8, eq_el, ne_el, build_el, Int.toNat_zero]
           try simp -implicitDefEqProofs (disch := first | decide | assumption | omega) only [go_sem, wrap_id, cv_u8, cv_i64, Nat.zero_add, wrap_u8, eq_el, ne_el, build_el, Int.toNat_zero]
           refine CallA.mono (iTms_ok  X (e8 i) (X.dif j) _  hpG (by first | assumption | exact e8_by _ | exact By.z8 | exact hBd _ | exact hBt _ _ | exact tmJ_by (by omega) (tmI_by (by omega) _) _ | exact timesP_by (by omega) | exact dfI_by (by omega) _ | exact plusN_by (by omega) (timesP_by (by omega)) | exact dfI_by (by omega) 8) (by first | assumption | exact e8_by _ | exact By.z8 | exact hBd _ | exact hBt _ _ | exact tmJ_by (by omega) (tmI_by (by omega) _) _ | exact timesP_by (by omega) | exact dfI_by (by omega) _ | exact plusN_by (by omega) (timesP_by (by omega)) | exact dfI_by (by omega) 8) hBt) ?_
           intro v_ h14_14
           rintro ⟨rfl, e14_14⟩
           replace hb0_0 := BoxAt.ext hb0_0 e14_14
           replace hb6_3 := BoxAt.ext hb6_3 e14_14
           replace hb12_3 := BoxAt.ext hb12_3 e14_14
           replace hb13_8 := BoxAt.ext hb13_8 e14_14
           have := Ext.size e14_14
           replace eB := Ext.trans eB e14_14
           replace cL2 := Ext.trans cL2 e14_14
           replace cL11 := Ext.trans cL11 e14_14
           replace cJ20 := Ext.trans cJ20 e14_14
           try simp (disch := decide) only [outv_some, outv_none, put_puts]
           refine plK_pres (Ext.pres e14_14) ?_
           try simp -implicitDefEqProofs (disch := first | decide | assumption | omega) only [go_sem, wrap_id, cv_u8, cv_i64, Nat.zero_add, wrap_u8, eq_el, ne_el, build_el, Int.toNat_zero]
           refine And.intro ?_ ?_
           ·simp -implicitDefEqProofs (disch := first | decide | assumption | omega) only [go_sem, wrap_id, cv_u8, cv_i64, Nat.zero_add, wrap_u8, eq_el, ne_el, build_el, Int.toNat_zero]
            try simp -implicitDefEqProofs (disch := first | decide | assumption | omega) only [go_sem, wrap_id, cv_u8, cv_i64, Nat.zero_add, wrap_u8, eq_el, ne_el, build_el, Int.toNat_zero]
            refine CallA.mono (iSign_ok  (X.deg i) _  (by omega)) ?_
            intro v_ h14_19
            rintro ⟨rfl, e14_19⟩
            replace hb0_0 := BoxAt.ext hb0_0 e14_19
            replace hb6_3 := BoxAt.ext hb6_3 e14_19
            replace hb12_3 := BoxAt.ext hb12_3 e14_19
            replace hb13_8 := BoxAt.ext hb13_8 e14_19
            have := Ext.size e14_19
            replace eB := Ext.trans eB e14_19
            replace cL2 := Ext.trans cL2 e14_19
            replace cL11 := Ext.trans cL11 e14_19
            replace cJ20 := Ext.trans cJ20 e14_19
            try simp (disch := decide) only [outv_some, outv_none, put_puts]
            refine plK_pres (Ext.pres e14_19) ?_
            try simp -implicitDefEqProofs (disch := first | decide | assumption | omega) only [go_sem, wrap_id, cv_u8, cv_i64, Nat.zero_add, wrap_u8, eq_el, ne_el, build_el, Int.toNat_zero]
            refine And.intro ?_ ?_
            ·simp -implicitDefEqProofs (disch := first | decide | assumption | omega) only [go_sem, wrap_id, cv_u8, cv_i64, Nat.zero_add, wrap_u8, eq_el, ne_el, build_el, Int.toNat_zero]
             try simp -implicitDefEqProofs (disch := first | decide | assumption | omega) only [go_sem, wrap_id, cv_u8, cv_i64, Nat.zero_add, wrap_u8, eq_el, ne_el, build_el, Int.toNat_zero]
             refine CallA.mono (iPls_ok  X (timesP X.p X.tab (X.dif i) (e8 j) 8) (timesP X.p X.tab (e8 i) (X.dif j) 8) (1 - (X.deg i).tmod 2 * 2) _  hpG (by first | assumption | exact e8_by _ | exact By.z8 | exact hBd _ | exact hBt _ _ | exact tmJ_by (by omega) (tmI_by (by omega) _) _ | exact timesP_by (by omega) | exact dfI_by (by omega) _ | exact plusN_by (by omega) (timesP_by (by omega)) | exact dfI_by (by omega) 8) (by first | assumption | exact e8_by _ | exact By.z8 | exact hBd _ | exact hBt _ _ | exact tmJ_by (by omega) (tmI_by (by omega) _) _ | exact timesP_by (by omega) | exact dfI_by (by omega) _ | exact plusN_by (by omega) (timesP_by (by omega)) | exact dfI_by (by omega) 8) (by omega)) ?_
             intro v_ h14_20
             rintro ⟨rfl, e14_20⟩
             replace hb0_0 := BoxAt.ext hb0_0 e14_20
             replace hb6_3 := BoxAt.ext hb6_3 e14_20
             replace hb12_3 := BoxAt.ext hb12_3 e14_20
             replace hb13_8 := BoxAt.ext hb13_8 e14_20
             have := Ext.size e14_20
             replace eB := Ext.trans eB e14_20
             replace cL2 := Ext.trans cL2 e14_20
             replace cL11 := Ext.trans cL11 e14_20
             replace cJ20 := Ext.trans cJ20 e14_20
             try simp (disch := decide) only [outv_some, outv_none, put_puts]
             refine plK_pres (Ext.pres e14_20) ?_
             try simp -implicitDefEqProofs (disch := first | decide | assumption | omega) only [go_sem, wrap_id, cv_u8, cv_i64, Nat.zero_add, wrap_u8, eq_el, ne_el, build_el, Int.toNat_zero]
             refine op_alloc (cs := elA z8) (by kernel_rfl) ?_
             intro h14_21 e14_21 hb14_21 z14_21
             replace hb0_0 := BoxAt.ext hb0_0 e14_21
             replace hb6_3 := BoxAt.ext hb6_3 e14_21
             replace hb12_3 := BoxAt.ext hb12_3 e14_21
             replace hb13_8 := BoxAt.ext hb13_8 e14_21
             have := Ext.size e14_21
             replace eB := Ext.trans eB e14_21
             replace cL2 := Ext.trans cL2 e14_21
             replace cL11 := Ext.trans cL11 e14_21
             replace cJ20 := Ext.trans cJ20 e14_21
             have hfhb14_21 : Fresh h14_20.size [h14_20.size] := Fresh.one _
             have hlhb14_21 := one_lt (show h14_20.size < h14_21.size by omega)
             try simp (disch := decide) only [outv_some, outv_none, put_puts]
             refine plK_pres (Ext.pres e14_21) ?_
             try simp -implicitDefEqProofs (disch := first | decide | assumption | omega) only [go_sem, wrap_id, cv_u8, cv_i64, Nat.zero_add, wrap_u8, eq_el, ne_el, build_el, Int.toNat_zero]
             refine op_storeB (o := 0) (cs' := elA (plusN X.p (timesP X.p X.tab (X.dif i) (e8 j) 8) (timesP X.p X.tab (e8 i) (X.dif j) 8) (1 - (X.deg i).tmod 2 * 2) 8)) st30 hb14_21 rfl rfl (elA_sz _) (by rw [elA_sz]; decide) elA_one elA_all ?_
             intro h14_22 hb14_21 c14_22
             replace hb0_0 := BoxAt.chgA hb0_0 c14_22 (apart_lt hlhb0_0 hfhb14_21 (by omega))
             replace hb6_3 := BoxAt.chgA hb6_3 c14_22 (apart_lt hlhb6_3 hfhb14_21 (by omega))
             replace hb12_3 := BoxAt.chgA hb12_3 c14_22 (apart_lt hlhb12_3 hfhb14_21 (by omega))
             replace hb13_8 := BoxAt.chgA hb13_8 c14_22 (apart_lt hlhb13_8 hfhb14_21 (by omega))
             have := c14_22.size
             replace eB := Ext.then eB c14_22 (ge_of hfhb14_21 (by omega))
             replace cL2 := Ext.then cL2 c14_22 (ge_of hfhb14_21 (by omega))
             replace cL11 := Ext.then cL11 c14_22 (ge_of hfhb14_21 (by omega))
             replace cJ20 := Ext.then cJ20 c14_22 (ge_of hfhb14_21 (by omega))
             try simp (disch := decide) only [outv_some, outv_none, put_puts]
             refine plK_last (by decide) ?_
             try simp -implicitDefEqProofs (disch := first | decide | assumption | omega) only [go_sem, wrap_id, cv_u8, cv_i64, Nat.zero_add, wrap_u8, eq_el, ne_el, build_el, Int.toNat_zero]
             exact hK h14_20.size _ _ (by simp [HasL, puts_at]) ⟨hb14_21, (hfhb14_21.mono (by omega)), cJ20⟩
            ·simp -implicitDefEqProofs (disch := first | decide | assumption | omega) only [go_sem, wrap_id, cv_u8, cv_i64, Nat.zero_add, wrap_u8, eq_el, ne_el, build_el, Int.toNat_zero]
             refine op_alloc (cs := elA z8) (by kernel_rfl) ?_
             intro h14_21 e14_21 hb14_21 z14_21
             replace hb0_0 := BoxAt.ext hb0_0 e14_21
             replace hb6_3 := BoxAt.ext hb6_3 e14_21
             replace hb12_3 := BoxAt.ext hb12_3 e14_21
             replace hb13_8 := BoxAt.ext hb13_8 e14_21
             have := Ext.size e14_21
             replace eB := Ext.trans eB e14_21
             replace cL2 := Ext.trans cL2 e14_21
             replace cL11 := Ext.trans cL11 e14_21
             replace cJ20 := Ext.trans cJ20 e14_21
             have hfhb14_21 : Fresh h14_19.size [h14_19.size] := Fresh.one _
             have hlhb14_21 := one_lt (show h14_19.size < h14_21.size by omega)
             try simp (disch := decide) only [outv_some, outv_none, put_puts]
             refine plK_pres (Ext.pres e14_21) ?_
             try simp -implicitDefEqProofs (disch := first | decide | assumption | omega) only [go_sem, wrap_id, cv_u8, cv_i64, Nat.zero_add, wrap_u8, eq_el, ne_el, build_el, Int.toNat_zero]
             try simp -implicitDefEqProofs (disch := first | decide | assumption | omega) only [go_sem, wrap_id, cv_u8, cv_i64, Nat.zero_add, wrap_u8, eq_el, ne_el, build_el, Int.toNat_zero]
             refine CallA.mono (iPls_ok  X (timesP X.p X.tab (X.dif i) (e8 j) 8) (timesP X.p X.tab (e8 i) (X.dif j) 8) (1 - (X.deg i).tmod 2 * 2) _  hpG (by first | assumption | exact e8_by _ | exact By.z8 | exact hBd _ | exact hBt _ _ | exact tmJ_by (by omega) (tmI_by (by omega) _) _ | exact timesP_by (by omega) | exact dfI_by (by omega) _ | exact plusN_by (by omega) (timesP_by (by omega)) | exact dfI_by (by omega) 8) (by first | assumption | exact e8_by _ | exact By.z8 | exact hBd _ | exact hBt _ _ | exact tmJ_by (by omega) (tmI_by (by omega) _) _ | exact timesP_by (by omega) | exact dfI_by (by omega) _ | exact plusN_by (by omega) (timesP_by (by omega)) | exact dfI_by (by omega) 8) (by omega)) ?_
             intro v_ h14_20
             rintro ⟨rfl, e14_20⟩
             replace hb0_0 := BoxAt.ext hb0_0 e14_20
             replace hb6_3 := BoxAt.ext hb6_3 e14_20
             replace hb12_3 := BoxAt.ext hb12_3 e14_20
             replace hb13_8 := BoxAt.ext hb13_8 e14_20
             replace hb14_21 := BoxAt.ext hb14_21 e14_20
             have := Ext.size e14_20
             replace eB := Ext.trans eB e14_20
             replace cL2 := Ext.trans cL2 e14_20
             replace cL11 := Ext.trans cL11 e14_20
             replace cJ20 := Ext.trans cJ20 e14_20
             try simp (disch := decide) only [outv_some, outv_none, put_puts]
             refine plK_pres (Ext.pres e14_20) ?_
             try simp -implicitDefEqProofs (disch := first | decide | assumption | omega) only [go_sem, wrap_id, cv_u8, cv_i64, Nat.zero_add, wrap_u8, eq_el, ne_el, build_el, Int.toNat_zero]
             refine op_storeB (o := 0) (cs' := elA (plusN X.p (timesP X.p X.tab (X.dif i) (e8 j) 8) (timesP X.p X.tab (e8 i) (X.dif j) 8) (1 - (X.deg i).tmod 2 * 2) 8)) st30 hb14_21 rfl rfl (elA_sz _) (by rw [elA_sz]; decide) elA_one elA_all ?_
             intro h14_22 hb14_21 c14_22
             replace hb0_0 := BoxAt.chgA hb0_0 c14_22 (apart_lt hlhb0_0 hfhb14_21 (by omega))
             replace hb6_3 := BoxAt.chgA hb6_3 c14_22 (apart_lt hlhb6_3 hfhb14_21 (by omega))
             replace hb12_3 := BoxAt.chgA hb12_3 c14_22 (apart_lt hlhb12_3 hfhb14_21 (by omega))
             replace hb13_8 := BoxAt.chgA hb13_8 c14_22 (apart_lt hlhb13_8 hfhb14_21 (by omega))
             have := c14_22.size
             replace eB := Ext.then eB c14_22 (ge_of hfhb14_21 (by omega))
             replace cL2 := Ext.then cL2 c14_22 (ge_of hfhb14_21 (by omega))
             replace cL11 := Ext.then cL11 c14_22 (ge_of hfhb14_21 (by omega))
             replace cJ20 := Ext.then cJ20 c14_22 (ge_of hfhb14_21 (by omega))
             try simp (disch := decide) only [outv_some, outv_none, put_puts]
             refine plK_last (by decide) ?_
             try simp -implicitDefEqProofs (disch := first | decide | assumption | omega) only [go_sem, wrap_id, cv_u8, cv_i64, Nat.zero_add, wrap_u8, eq_el, ne_el, build_el, Int.toNat_zero]
             exact hK h14_19.size _ _ (by simp [HasL, puts_at]) ⟨hb14_21, (hfhb14_21.mono (by omega)), cJ20⟩
           ·simp -implicitDefEqProofs (disch := first | decide | assumption | omega) only [go_sem, wrap_id, cv_u8, cv_i64, Nat.zero_add, wrap_u8, eq_el, ne_el, build_el, Int.toNat_zero]
            refine op_alloc (cs := elA z8) (by kernel_rfl) ?_
            intro h14_21 e14_21 hb14_21 z14_21
            replace hb0_0 := BoxAt.ext hb0_0 e14_21
            replace hb6_3 := BoxAt.ext hb6_3 e14_21
            replace hb12_3 := BoxAt.ext hb12_3 e14_21
            replace hb13_8 := BoxAt.ext hb13_8 e14_21
            have := Ext.size e14_21
            replace eB := Ext.trans eB e14_21
            replace cL2 := Ext.trans cL2 e14_21
            replace cL11 := Ext.trans cL11 e14_21
            replace cJ20 := Ext.trans cJ20 e14_21
            have hfhb14_21 : Fresh h14_14.size [h14_14.size] := Fresh.one _
            have hlhb14_21 := one_lt (show h14_14.size < h14_21.size by omega)
            try simp (disch := decide) only [outv_some, outv_none, put_puts]
            refine plK_pres (Ext.pres e14_21) ?_
            try simp -implicitDefEqProofs (disch := first | decide | assumption | omega) only [go_sem, wrap_id, cv_u8, cv_i64, Nat.zero_add, wrap_u8, eq_el, ne_el, build_el, Int.toNat_zero]
            try simp -implicitDefEqProofs (disch := first | decide | assumption | omega) only [go_sem, wrap_id, cv_u8, cv_i64, Nat.zero_add, wrap_u8, eq_el, ne_el, build_el, Int.toNat_zero]
            refine CallA.mono (iSign_ok  (X.deg i) _  (by omega)) ?_
            intro v_ h14_19
            rintro ⟨rfl, e14_19⟩
            replace hb0_0 := BoxAt.ext hb0_0 e14_19
            replace hb6_3 := BoxAt.ext hb6_3 e14_19
            replace hb12_3 := BoxAt.ext hb12_3 e14_19
            replace hb13_8 := BoxAt.ext hb13_8 e14_19
            replace hb14_21 := BoxAt.ext hb14_21 e14_19
            have := Ext.size e14_19
            replace eB := Ext.trans eB e14_19
            replace cL2 := Ext.trans cL2 e14_19
            replace cL11 := Ext.trans cL11 e14_19
            replace cJ20 := Ext.trans cJ20 e14_19
            try simp (disch := decide) only [outv_some, outv_none, put_puts]
            refine plK_pres (Ext.pres e14_19) ?_
            try simp -implicitDefEqProofs (disch := first | decide | assumption | omega) only [go_sem, wrap_id, cv_u8, cv_i64, Nat.zero_add, wrap_u8, eq_el, ne_el, build_el, Int.toNat_zero]
            try simp -implicitDefEqProofs (disch := first | decide | assumption | omega) only [go_sem, wrap_id, cv_u8, cv_i64, Nat.zero_add, wrap_u8, eq_el, ne_el, build_el, Int.toNat_zero]
            refine CallA.mono (iPls_ok  X (timesP X.p X.tab (X.dif i) (e8 j) 8) (timesP X.p X.tab (e8 i) (X.dif j) 8) (1 - (X.deg i).tmod 2 * 2) _  hpG (by first | assumption | exact e8_by _ | exact By.z8 | exact hBd _ | exact hBt _ _ | exact tmJ_by (by omega) (tmI_by (by omega) _) _ | exact timesP_by (by omega) | exact dfI_by (by omega) _ | exact plusN_by (by omega) (timesP_by (by omega)) | exact dfI_by (by omega) 8) (by first | assumption | exact e8_by _ | exact By.z8 | exact hBd _ | exact hBt _ _ | exact tmJ_by (by omega) (tmI_by (by omega) _) _ | exact timesP_by (by omega) | exact dfI_by (by omega) _ | exact plusN_by (by omega) (timesP_by (by omega)) | exact dfI_by (by omega) 8) (by omega)) ?_
            intro v_ h14_20
            rintro ⟨rfl, e14_20⟩
            replace hb0_0 := BoxAt.ext hb0_0 e14_20
            replace hb6_3 := BoxAt.ext hb6_3 e14_20
            replace hb12_3 := BoxAt.ext hb12_3 e14_20
            replace hb13_8 := BoxAt.ext hb13_8 e14_20
            replace hb14_21 := BoxAt.ext hb14_21 e14_20
            have := Ext.size e14_20
            replace eB := Ext.trans eB e14_20
            replace cL2 := Ext.trans cL2 e14_20
            replace cL11 := Ext.trans cL11 e14_20
            replace cJ20 := Ext.trans cJ20 e14_20
            try simp (disch := decide) only [outv_some, outv_none, put_puts]
            refine plK_pres (Ext.pres e14_20) ?_
            try simp -implicitDefEqProofs (disch := first | decide | assumption | omega) only [go_sem, wrap_id, cv_u8, cv_i64, Nat.zero_add, wrap_u8, eq_el, ne_el, build_el, Int.toNat_zero]
            refine op_storeB (o := 0) (cs' := elA (plusN X.p (timesP X.p X.tab (X.dif i) (e8 j) 8) (timesP X.p X.tab (e8 i) (X.dif j) 8) (1 - (X.deg i).tmod 2 * 2) 8)) st30 hb14_21 rfl rfl (elA_sz _) (by rw [elA_sz]; decide) elA_one elA_all ?_
            intro h14_22 hb14_21 c14_22
            replace hb0_0 := BoxAt.chgA hb0_0 c14_22 (apart_lt hlhb0_0 hfhb14_21 (by omega))
            replace hb6_3 := BoxAt.chgA hb6_3 c14_22 (apart_lt hlhb6_3 hfhb14_21 (by omega))
            replace hb12_3 := BoxAt.chgA hb12_3 c14_22 (apart_lt hlhb12_3 hfhb14_21 (by omega))
            replace hb13_8 := BoxAt.chgA hb13_8 c14_22 (apart_lt hlhb13_8 hfhb14_21 (by omega))
            have := c14_22.size
            replace eB := Ext.then eB c14_22 (ge_of hfhb14_21 (by omega))
            replace cL2 := Ext.then cL2 c14_22 (ge_of hfhb14_21 (by omega))
            replace cL11 := Ext.then cL11 c14_22 (ge_of hfhb14_21 (by omega))
            replace cJ20 := Ext.then cJ20 c14_22 (ge_of hfhb14_21 (by omega))
            try simp (disch := decide) only [outv_some, outv_none, put_puts]
            refine plK_last (by decide) ?_
            try simp -implicitDefEqProofs (disch := first | decide | assumption | omega) only [go_sem, wrap_id, cv_u8, cv_i64, Nat.zero_add, wrap_u8, eq_el, ne_el, build_el, Int.toNat_zero]
            exact hK h14_14.size _ _ (by simp [HasL, puts_at]) ⟨hb14_21, (hfhb14_21.mono (by omega)), cJ20⟩
          ·simp -implicitDefEqProofs (disch := first | decide | assumption | omega) only [go_sem, wrap_id, cv_u8, cv_i64, Nat.zero_add, wrap_u8, eq_el, ne_el, build_el, Int.toNat_zero]
           refine op_alloc (cs := elA z8) (by kernel_rfl) ?_
           intro h14_21 e14_21 hb14_21 z14_21
           replace hb0_0 := BoxAt.ext hb0_0 e14_21
           replace hb6_3 := BoxAt.ext hb6_3 e14_21
           replace hb12_3 := BoxAt.ext hb12_3 e14_21
           replace hb13_8 := BoxAt.ext hb13_8 e14_21
           have := Ext.size e14_21
           replace eB := Ext.trans eB e14_21
           replace cL2 := Ext.trans cL2 e14_21
           replace cL11 := Ext.trans cL11 e14_21
           replace cJ20 := Ext.trans cJ20 e14_21
           have hfhb14_21 : Fresh h14_7.size [h14_7.size] := Fresh.one _
           have hlhb14_21 := one_lt (show h14_7.size < h14_21.size by omega)
           try simp (disch := decide) only [outv_some, outv_none, put_puts]
           refine plK_pres (Ext.pres e14_21) ?_
           try simp -implicitDefEqProofs (disch := first | decide | assumption | omega) only [go_sem, wrap_id, cv_u8, cv_i64, Nat.zero_add, wrap_u8, eq_el, ne_el, build_el, Int.toNat_zero]
           try simp -implicitDefEqProofs (disch := first | decide | assumption | omega) only [go_sem, wrap_id, cv_u8, cv_i64, Nat.zero_add, wrap_u8, eq_el, ne_el, build_el, Int.toNat_zero]
           refine CallA.mono (iTms_ok  X (e8 i) (X.dif j) _  hpG (by first | assumption | exact e8_by _ | exact By.z8 | exact hBd _ | exact hBt _ _ | exact tmJ_by (by omega) (tmI_by (by omega) _) _ | exact timesP_by (by omega) | exact dfI_by (by omega) _ | exact plusN_by (by omega) (timesP_by (by omega)) | exact dfI_by (by omega) 8) (by first | assumption | exact e8_by _ | exact By.z8 | exact hBd _ | exact hBt _ _ | exact tmJ_by (by omega) (tmI_by (by omega) _) _ | exact timesP_by (by omega) | exact dfI_by (by omega) _ | exact plusN_by (by omega) (timesP_by (by omega)) | exact dfI_by (by omega) 8) hBt) ?_
           intro v_ h14_14
           rintro ⟨rfl, e14_14⟩
           replace hb0_0 := BoxAt.ext hb0_0 e14_14
           replace hb6_3 := BoxAt.ext hb6_3 e14_14
           replace hb12_3 := BoxAt.ext hb12_3 e14_14
           replace hb13_8 := BoxAt.ext hb13_8 e14_14
           replace hb14_21 := BoxAt.ext hb14_21 e14_14
           have := Ext.size e14_14
           replace eB := Ext.trans eB e14_14
           replace cL2 := Ext.trans cL2 e14_14
           replace cL11 := Ext.trans cL11 e14_14
           replace cJ20 := Ext.trans cJ20 e14_14
           try simp (disch := decide) only [outv_some, outv_none, put_puts]
           refine plK_pres (Ext.pres e14_14) ?_
           try simp -implicitDefEqProofs (disch := first | decide | assumption | omega) only [go_sem, wrap_id, cv_u8, cv_i64, Nat.zero_add, wrap_u8, eq_el, ne_el, build_el, Int.toNat_zero]
           try simp -implicitDefEqProofs (disch := first | decide | assumption | omega) only [go_sem, wrap_id, cv_u8, cv_i64, Nat.zero_add, wrap_u8, eq_el, ne_el, build_el, Int.toNat_zero]
           refine CallA.mono (iSign_ok  (X.deg i) _  (by omega)) ?_
           intro v_ h14_19
           rintro ⟨rfl, e14_19⟩
           replace hb0_0 := BoxAt.ext hb0_0 e14_19
           replace hb6_3 := BoxAt.ext hb6_3 e14_19
           replace hb12_3 := BoxAt.ext hb12_3 e14_19
           replace hb13_8 := BoxAt.ext hb13_8 e14_19
           replace hb14_21 := BoxAt.ext hb14_21 e14_19
           have := Ext.size e14_19
           replace eB := Ext.trans eB e14_19
           replace cL2 := Ext.trans cL2 e14_19
           replace cL11 := Ext.trans cL11 e14_19
           replace cJ20 := Ext.trans cJ20 e14_19
           try simp (disch := decide) only [outv_some, outv_none, put_puts]
           refine plK_pres (Ext.pres e14_19) ?_
           try simp -implicitDefEqProofs (disch := first | decide | assumption | omega) only [go_sem, wrap_id, cv_u8, cv_i64, Nat.zero_add, wrap_u8, eq_el, ne_el, build_el, Int.toNat_zero]
           try simp -implicitDefEqProofs (disch := first | decide | assumption | omega) only [go_sem, wrap_id, cv_u8, cv_i64, Nat.zero_add, wrap_u8, eq_el, ne_el, build_el, Int.toNat_zero]
           refine CallA.mono (iPls_ok  X (timesP X.p X.tab (X.dif i) (e8 j) 8) (timesP X.p X.tab (e8 i) (X.dif j) 8) (1 - (X.deg i).tmod 2 * 2) _  hpG (by first | assumption | exact e8_by _ | exact By.z8 | exact hBd _ | exact hBt _ _ | exact tmJ_by (by omega) (tmI_by (by omega) _) _ | exact timesP_by (by omega) | exact dfI_by (by omega) _ | exact plusN_by (by omega) (timesP_by (by omega)) | exact dfI_by (by omega) 8) (by first | assumption | exact e8_by _ | exact By.z8 | exact hBd _ | exact hBt _ _ | exact tmJ_by (by omega) (tmI_by (by omega) _) _ | exact timesP_by (by omega) | exact dfI_by (by omega) _ | exact plusN_by (by omega) (timesP_by (by omega)) | exact dfI_by (by omega) 8) (by omega)) ?_
           intro v_ h14_20
           rintro ⟨rfl, e14_20⟩
           replace hb0_0 := BoxAt.ext hb0_0 e14_20
           replace hb6_3 := BoxAt.ext hb6_3 e14_20
           replace hb12_3 := BoxAt.ext hb12_3 e14_20
           replace hb13_8 := BoxAt.ext hb13_8 e14_20
           replace hb14_21 := BoxAt.ext hb14_21 e14_20
           have := Ext.size e14_20
           replace eB := Ext.trans eB e14_20
           replace cL2 := Ext.trans cL2 e14_20
           replace cL11 := Ext.trans cL11 e14_20
           replace cJ20 := Ext.trans cJ20 e14_20
           try simp (disch := decide) only [outv_some, outv_none, put_puts]
           refine plK_pres (Ext.pres e14_20) ?_
           try simp -implicitDefEqProofs (disch := first | decide | assumption | omega) only [go_sem, wrap_id, cv_u8, cv_i64, Nat.zero_add, wrap_u8, eq_el, ne_el, build_el, Int.toNat_zero]
           refine op_storeB (o := 0) (cs' := elA (plusN X.p (timesP X.p X.tab (X.dif i) (e8 j) 8) (timesP X.p X.tab (e8 i) (X.dif j) 8) (1 - (X.deg i).tmod 2 * 2) 8)) st30 hb14_21 rfl rfl (elA_sz _) (by rw [elA_sz]; decide) elA_one elA_all ?_
           intro h14_22 hb14_21 c14_22
           replace hb0_0 := BoxAt.chgA hb0_0 c14_22 (apart_lt hlhb0_0 hfhb14_21 (by omega))
           replace hb6_3 := BoxAt.chgA hb6_3 c14_22 (apart_lt hlhb6_3 hfhb14_21 (by omega))
           replace hb12_3 := BoxAt.chgA hb12_3 c14_22 (apart_lt hlhb12_3 hfhb14_21 (by omega))
           replace hb13_8 := BoxAt.chgA hb13_8 c14_22 (apart_lt hlhb13_8 hfhb14_21 (by omega))
           have := c14_22.size
           replace eB := Ext.then eB c14_22 (ge_of hfhb14_21 (by omega))
           replace cL2 := Ext.then cL2 c14_22 (ge_of hfhb14_21 (by omega))
           replace cL11 := Ext.then cL11 c14_22 (ge_of hfhb14_21 (by omega))
           replace cJ20 := Ext.then cJ20 c14_22 (ge_of hfhb14_21 (by omega))
           try simp (disch := decide) only [outv_some, outv_none, put_puts]
           refine plK_last (by decide) ?_
           try simp -implicitDefEqProofs (disch := first | decide | assumption | omega) only [go_sem, wrap_id, cv_u8, cv_i64, Nat.zero_add, wrap_u8, eq_el, ne_el, build_el, Int.toNat_zero]
           exact hK h14_7.size _ _ (by simp [HasL, puts_at]) ⟨hb14_21, (hfhb14_21.mono (by omega)), cJ20⟩
         ·simp -implicitDefEqProofs (disch := first | decide | assumption | omega) only [go_sem, wrap_id, cv_u8, cv_i64, Nat.zero_add, wrap_u8, eq_el, ne_el, build_el, Int.toNat_zero]
          refine op_alloc (cs := elA z8) (by kernel_rfl) ?_
          intro h14_21 e14_21 hb14_21 z14_21
          replace hb0_0 := BoxAt.ext hb0_0 e14_21
          replace hb6_3 := BoxAt.ext hb6_3 e14_21
          replace hb12_3 := BoxAt.ext hb12_3 e14_21
          replace hb13_8 := BoxAt.ext hb13_8 e14_21
          have := Ext.size e14_21
          replace eB := Ext.trans eB e14_21
          replace cL2 := Ext.trans cL2 e14_21
          replace cL11 := Ext.trans cL11 e14_21
          replace cJ20 := Ext.trans cJ20 e14_21
          have hfhb14_21 : Fresh hj16.size [hj16.size] := Fresh.one _
          have hlhb14_21 := one_lt (show hj16.size < h14_21.size by omega)
          try simp (disch := decide) only [outv_some, outv_none, put_puts]
          refine plK_pres (Ext.pres e14_21) ?_
          try simp -implicitDefEqProofs (disch := first | decide | assumption | omega) only [go_sem, wrap_id, cv_u8, cv_i64, Nat.zero_add, wrap_u8, eq_el, ne_el, build_el, Int.toNat_zero]
          try simp -implicitDefEqProofs (disch := first | decide | assumption | omega) only [go_sem, wrap_id, cv_u8, cv_i64, Nat.zero_add, wrap_u8, eq_el, ne_el, build_el, Int.toNat_zero]
          refine CallA.mono (iTms_ok  X (X.dif i) (e8 j) _  hpG (by first | assumption | exact e8_by _ | exact By.z8 | exact hBd _ | exact hBt _ _ | exact tmJ_by (by omega) (tmI_by (by omega) _) _ | exact timesP_by (by omega) | exact dfI_by (by omega) _ | exact plusN_by (by omega) (timesP_by (by omega)) | exact dfI_by (by omega) 8) (by first | assumption | exact e8_by _ | exact By.z8 | exact hBd _ | exact hBt _ _ | exact tmJ_by (by omega) (tmI_by (by omega) _) _ | exact timesP_by (by omega) | exact dfI_by (by omega) _ | exact plusN_by (by omega) (timesP_by (by omega)) | exact dfI_by (by omega) 8) hBt) ?_
          intro v_ h14_7
          rintro ⟨rfl, e14_7⟩
          replace hb0_0 := BoxAt.ext hb0_0 e14_7
          replace hb6_3 := BoxAt.ext hb6_3 e14_7
          replace hb12_3 := BoxAt.ext hb12_3 e14_7
          replace hb13_8 := BoxAt.ext hb13_8 e14_7
          replace hb14_21 := BoxAt.ext hb14_21 e14_7
          have := Ext.size e14_7
          replace eB := Ext.trans eB e14_7
          replace cL2 := Ext.trans cL2 e14_7
          replace cL11 := Ext.trans cL11 e14_7
          replace cJ20 := Ext.trans cJ20 e14_7
          try simp (disch := decide) only [outv_some, outv_none, put_puts]
          refine plK_pres (Ext.pres e14_7) ?_
          try simp -implicitDefEqProofs (disch := first | decide | assumption | omega) only [go_sem, wrap_id, cv_u8, cv_i64, Nat.zero_add, wrap_u8, eq_el, ne_el, build_el, Int.toNat_zero]
          try simp -implicitDefEqProofs (disch := first | decide | assumption | omega) only [go_sem, wrap_id, cv_u8, cv_i64, Nat.zero_add, wrap_u8, eq_el, ne_el, build_el, Int.toNat_zero]
          refine CallA.mono (iTms_ok  X (e8 i) (X.dif j) _  hpG (by first | assumption | exact e8_by _ | exact By.z8 | exact hBd _ | exact hBt _ _ | exact tmJ_by (by omega) (tmI_by (by omega) _) _ | exact timesP_by (by omega) | exact dfI_by (by omega) _ | exact plusN_by (by omega) (timesP_by (by omega)) | exact dfI_by (by omega) 8) (by first | assumption | exact e8_by _ | exact By.z8 | exact hBd _ | exact hBt _ _ | exact tmJ_by (by omega) (tmI_by (by omega) _) _ | exact timesP_by (by omega) | exact dfI_by (by omega) _ | exact plusN_by (by omega) (timesP_by (by omega)) | exact dfI_by (by omega) 8) hBt) ?_
          intro v_ h14_14
          rintro ⟨rfl, e14_14⟩
          replace hb0_0 := BoxAt.ext hb0_0 e14_14
          replace hb6_3 := BoxAt.ext hb6_3 e14_14
          replace hb12_3 := BoxAt.ext hb12_3 e14_14
          replace hb13_8 := BoxAt.ext hb13_8 e14_14
          replace hb14_21 := BoxAt.ext hb14_21 e14_14
          have := Ext.size e14_14
          replace eB := Ext.trans eB e14_14
          replace cL2 := Ext.trans cL2 e14_14
          replace cL11 := Ext.trans cL11 e14_14
          replace cJ20 := Ext.trans cJ20 e14_14
          try simp (disch := decide) only [outv_some, outv_none, put_puts]
          refine plK_pres (Ext.pres e14_14) ?_
          try simp -implicitDefEqProofs (disch := first | decide | assumption | omega) only [go_sem, wrap_id, cv_u8, cv_i64, Nat.zero_add, wrap_u8, eq_el, ne_el, build_el, Int.toNat_zero]
          try simp -implicitDefEqProofs (disch := first | decide | assumption | omega) only [go_sem, wrap_id, cv_u8, cv_i64, Nat.zero_add, wrap_u8, eq_el, ne_el, build_el, Int.toNat_zero]
          refine CallA.mono (iSign_ok  (X.deg i) _  (by omega)) ?_
          intro v_ h14_19
          rintro ⟨rfl, e14_19⟩
          replace hb0_0 := BoxAt.ext hb0_0 e14_19
          replace hb6_3 := BoxAt.ext hb6_3 e14_19
          replace hb12_3 := BoxAt.ext hb12_3 e14_19
          replace hb13_8 := BoxAt.ext hb13_8 e14_19
          replace hb14_21 := BoxAt.ext hb14_21 e14_19
          have := Ext.size e14_19
          replace eB := Ext.trans eB e14_19
          replace cL2 := Ext.trans cL2 e14_19
          replace cL11 := Ext.trans cL11 e14_19
          replace cJ20 := Ext.trans cJ20 e14_19
          try simp (disch := decide) only [outv_some, outv_none, put_puts]
          refine plK_pres (Ext.pres e14_19) ?_
          try simp -implicitDefEqProofs (disch := first | decide | assumption | omega) only [go_sem, wrap_id, cv_u8, cv_i64, Nat.zero_add, wrap_u8, eq_el, ne_el, build_el, Int.toNat_zero]
          try simp -implicitDefEqProofs (disch := first | decide | assumption | omega) only [go_sem, wrap_id, cv_u8, cv_i64, Nat.zero_add, wrap_u8, eq_el, ne_el, build_el, Int.toNat_zero]
          refine CallA.mono (iPls_ok  X (timesP X.p X.tab (X.dif i) (e8 j) 8) (timesP X.p X.tab (e8 i) (X.dif j) 8) (1 - (X.deg i).tmod 2 * 2) _  hpG (by first | assumption | exact e8_by _ | exact By.z8 | exact hBd _ | exact hBt _ _ | exact tmJ_by (by omega) (tmI_by (by omega) _) _ | exact timesP_by (by omega) | exact dfI_by (by omega) _ | exact plusN_by (by omega) (timesP_by (by omega)) | exact dfI_by (by omega) 8) (by first | assumption | exact e8_by _ | exact By.z8 | exact hBd _ | exact hBt _ _ | exact tmJ_by (by omega) (tmI_by (by omega) _) _ | exact timesP_by (by omega) | exact dfI_by (by omega) _ | exact plusN_by (by omega) (timesP_by (by omega)) | exact dfI_by (by omega) 8) (by omega)) ?_
          intro v_ h14_20
          rintro ⟨rfl, e14_20⟩
          replace hb0_0 := BoxAt.ext hb0_0 e14_20
          replace hb6_3 := BoxAt.ext hb6_3 e14_20
          replace hb12_3 := BoxAt.ext hb12_3 e14_20
          replace hb13_8 := BoxAt.ext hb13_8 e14_20
          replace hb14_21 := BoxAt.ext hb14_21 e14_20
          have := Ext.size e14_20
          replace eB := Ext.trans eB e14_20
          replace cL2 := Ext.trans cL2 e14_20
          replace cL11 := Ext.trans cL11 e14_20
          replace cJ20 := Ext.trans cJ20 e14_20
          try simp (disch := decide) only [outv_some, outv_none, put_puts]
          refine plK_pres (Ext.pres e14_20) ?_
          try simp -implicitDefEqProofs (disch := first | decide | assumption | omega) only [go_sem, wrap_id, cv_u8, cv_i64, Nat.zero_add, wrap_u8, eq_el, ne_el, build_el, Int.toNat_zero]
          refine op_storeB (o := 0) (cs' := elA (plusN X.p (timesP X.p X.tab (X.dif i) (e8 j) 8) (timesP X.p X.tab (e8 i) (X.dif j) 8) (1 - (X.deg i).tmod 2 * 2) 8)) st30 hb14_21 rfl rfl (elA_sz _) (by rw [elA_sz]; decide) elA_one elA_all ?_
          intro h14_22 hb14_21 c14_22
          replace hb0_0 := BoxAt.chgA hb0_0 c14_22 (apart_lt hlhb0_0 hfhb14_21 (by omega))
          replace hb6_3 := BoxAt.chgA hb6_3 c14_22 (apart_lt hlhb6_3 hfhb14_21 (by omega))
          replace hb12_3 := BoxAt.chgA hb12_3 c14_22 (apart_lt hlhb12_3 hfhb14_21 (by omega))
          replace hb13_8 := BoxAt.chgA hb13_8 c14_22 (apart_lt hlhb13_8 hfhb14_21 (by omega))
          have := c14_22.size
          replace eB := Ext.then eB c14_22 (ge_of hfhb14_21 (by omega))
          replace cL2 := Ext.then cL2 c14_22 (ge_of hfhb14_21 (by omega))
          replace cL11 := Ext.then cL11 c14_22 (ge_of hfhb14_21 (by omega))
          replace cJ20 := Ext.then cJ20 c14_22 (ge_of hfhb14_21 (by omega))
          try simp (disch := decide) only [outv_some, outv_none, put_puts]
          refine plK_last (by decide) ?_
          try simp -implicitDefEqProofs (disch := first | decide | assumption | omega) only [go_sem, wrap_id, cv_u8, cv_i64, Nat.zero_add, wrap_u8, eq_el, ne_el, build_el, Int.toNat_zero]
          exact hK hj16.size _ _ (by simp [HasL, puts_at]) ⟨hb14_21, (hfhb14_21.mono (by omega)), cJ20⟩
        ·rintro bJhb14_21 hj21 ee23 ⟨hb14_21, hfhb14_21, eJ22⟩
         replace hb0_0 := BoxAt.ext hb0_0 eJ22
         replace hb6_3 := BoxAt.ext hb6_3 eJ22
         replace hb12_3 := BoxAt.ext hb12_3 eJ22
         replace hb13_8 := BoxAt.ext hb13_8 eJ22
         have := Ext.size eJ22
         replace eB := Ext.trans eB eJ22
         replace cL2 := Ext.trans cL2 eJ22
         replace cL11 := Ext.trans cL11 eJ22
         have hlhb14_21 := one_lt hb14_21.lt
         simp only [List.cons_append, List.nil_append]
         refine den_seq ?_
         refine den_seq ?_
         refine den_region TTok ?_
         intro K hK
         simp -implicitDefEqProofs (disch := first | decide | assumption | omega) only [go_sem, BoxAt.elC hb13_8, BoxAt.elL hb13_8, BoxAt.elC hb14_21, BoxAt.elL hb14_21, wrap_id, cv_u8, cv_i64, Nat.zero_add, wrap_u8, eq_el, ne_el, build_el, Int.toNat_zero]
         refine hK _ _ ?_
         clear hK K
         refine den_cond rfl (fun c4 => ?_) (fun c4 => ?_)
         ·try simp only [decide_eq_true_eq, decide_eq_false_iff_not, beq_iff_eq, beq_eq_false_iff_ne, bne_iff_ne, ne_eq, Bool.not_eq_true', Bool.not_eq_false', Bool.and_eq_true, Bool.or_eq_true, bne_eq_false_iff_eq, Bool.or_eq_false_iff, Bool.and_eq_false_iff, in3_iff, in3_f] at c4
          refine den_seq ?_
          refine den_region TTok ?_
          intro K hK
          simp -implicitDefEqProofs (disch := first | decide | assumption | omega) only [go_sem, wrap_id, cv_u8, cv_i64, Nat.zero_add, wrap_u8, eq_el, ne_el, build_el, Int.toNat_zero]
          refine hK _ _ ?_
          clear hK K
          refine den_ret ?_
          simp (disch := decide) only [resP_1, puts_same, puts_ne]
          exact ⟨vbool (dgB_n (fun hh => by have h1 := hh.lb i (by omega) j (by omega); unfold LbF at h1; rw [h1] at c4; cases c4)), eB⟩
         ·try simp only [decide_eq_true_eq, decide_eq_false_iff_not, beq_iff_eq, beq_eq_false_iff_ne, bne_iff_ne, ne_eq, Bool.not_eq_true', Bool.not_eq_false', Bool.and_eq_true, Bool.or_eq_true, bne_eq_false_iff_eq, Bool.or_eq_false_iff, Bool.and_eq_false_iff, in3_iff, in3_f] at c4
          refine den_skip ?_
          refine den_seq ?_
          refine den_region TTok ?_
          intro K hK
          simp -implicitDefEqProofs (disch := first | decide | assumption | omega) only [go_sem, fa34_1, ld2, BoxAt.dgL hb0_0, BoxAt.dgP hb0_0, BoxAt.dgS hb0_0, BoxAt.dgDeg hb0_0, BoxAt.dgLev hb0_0, BoxAt.dgDeg0 hb0_0, BoxAt.dgLev0 hb0_0, BoxAt.dgDifL hb0_0, BoxAt.dgTabL hb0_0, BoxAt.dgTabL0 hb0_0, BoxAt.dgTabL1 hb0_0, BoxAt.dgTabL1' hb0_0, BoxAt.dgDifB hb0_0, BoxAt.dgTabB hb0_0, wrap_id, cv_u8, cv_i64, Nat.zero_add, wrap_u8, eq_el, ne_el, build_el, Int.toNat_zero]
          refine hK _ _ ?_
          clear hK K
          refine den_block ?_
          refine den_sel [89, 1, 3, 4, 5, 14, 15, 48, 49, 88] ?_
          intro env_24
          simp only [go_sem]
          refine den_loopS (σ := Nat) (fun st_ => [(89, .int .i64 (st_ : Int))]) (fun st_ H => ((st_ : Int) ≤ X.s) ∧ (∀ m : Nat, m < st_ → AsF X i j m) ∧ (Ext hj21 H)) (fun st_ => X.s.toNat - st_) 0 ?_ ?_
          ·exact ⟨by omega, fun b h => by omega, Ext.refl _⟩
          ·rintro k h27 ee26 ⟨hk, hzk, cL25⟩
           replace hb0_0 := BoxAt.ext hb0_0 cL25
           replace hb6_3 := BoxAt.ext hb6_3 cL25
           have := Ext.size cL25
           replace eB := Ext.trans eB cL25
           replace cL2 := Ext.trans cL2 cL25
           replace cL11 := Ext.trans cL11 cL25
           simp only [List.cons_append, List.nil_append]
           refine den_seq ?_
           refine den_region TTok ?_
           intro K hK
           simp -implicitDefEqProofs (disch := first | decide | assumption | omega) only [go_sem, wrap_id, cv_u8, cv_i64, Nat.zero_add, wrap_u8, eq_el, ne_el, build_el, Int.toNat_zero]
           refine hK _ _ ?_
           clear hK K
           refine den_seq ?_
           refine den_cond rfl (fun c5 => ?_) (fun c5 => ?_)
           ·try simp only [decide_eq_true_eq, decide_eq_false_iff_not, beq_iff_eq, beq_eq_false_iff_ne, bne_iff_ne, ne_eq, Bool.not_eq_true', Bool.not_eq_false', Bool.and_eq_true, Bool.or_eq_true, bne_eq_false_iff_eq, Bool.or_eq_false_iff, Bool.and_eq_false_iff, in3_iff, in3_f] at c5
            refine den_skip ?_
            refine den_seq ?_
            refine den_block ?_
            refine den_seq ?_
            refine den_region TTok ?_
            intro K hK
            simp -implicitDefEqProofs (disch := first | decide | assumption | omega) only [go_sem, wrap_id, cv_u8, cv_i64, Nat.zero_add, wrap_u8, eq_el, ne_el, build_el, Int.toNat_zero]
            refine hK _ _ ?_
            clear hK K
            refine den_seq ?_
            refine den_draw TTok mixed [] [(0, true), (1, true), (2, true), (3, true), (4, true), (5, true), (6, true), (7, true), (8, true), (11, true), (12, true), (13, true), (14, true), (15, true), (16, true), (17, true), (18, true), (9, false), (10, false), (19, false), (20, true)] (by kernel_rfl) ?_
            intro K hK
            simp -implicitDefEqProofs (disch := first | decide | assumption | omega) only [go_sem, Int.toNat_zero, fa34_5, ia32, ia31, BoxAt.dgL hb0_0, BoxAt.dgP hb0_0, BoxAt.dgS hb0_0, BoxAt.dgDeg hb0_0, BoxAt.dgLev hb0_0, BoxAt.dgDeg0 hb0_0, BoxAt.dgLev0 hb0_0, BoxAt.dgDifL hb0_0, BoxAt.dgTabL hb0_0, BoxAt.dgTabL0 hb0_0, BoxAt.dgTabL1 hb0_0, BoxAt.dgTabL1' hb0_0, BoxAt.dgDifB hb0_0, BoxAt.dgTabB hb0_0, BoxAt.elC hb6_3, BoxAt.elL hb6_3, wrap_id, cv_u8, cv_i64, Nat.zero_add, wrap_u8, eq_el, ne_el, build_el, Int.toNat_zero]
            try simp -implicitDefEqProofs (disch := first | decide | assumption | omega) only [go_sem, wrap_id, cv_u8, cv_i64, Nat.zero_add, wrap_u8, eq_el, ne_el, build_el, Int.toNat_zero]
            refine CallA.mono (iBas_ok  X (k : Int) _  (by omega)) ?_
            intro v_ h20_9
            rintro ⟨rfl, e20_9⟩
            replace hb0_0 := BoxAt.ext hb0_0 e20_9
            replace hb6_3 := BoxAt.ext hb6_3 e20_9
            have := Ext.size e20_9
            replace eB := Ext.trans eB e20_9
            replace cL2 := Ext.trans cL2 e20_9
            replace cL11 := Ext.trans cL11 e20_9
            replace cL25 := Ext.trans cL25 e20_9
            try simp (disch := decide) only [outv_some, outv_none, put_puts]
            refine plK_pres (Ext.pres e20_9) ?_
            try simp -implicitDefEqProofs (disch := first | decide | assumption | omega) only [go_sem, wrap_id, cv_u8, cv_i64, Nat.zero_add, wrap_u8, eq_el, ne_el, build_el, Int.toNat_zero]
            try simp -implicitDefEqProofs (disch := first | decide | assumption | omega) only [go_sem, wrap_id, cv_u8, cv_i64, Nat.zero_add, wrap_u8, eq_el, ne_el, build_el, Int.toNat_zero]
            refine CallA.mono (iTms_ok  X ((X.tab i) j) (e8 k) _  hpG (by first | assumption | exact e8_by _ | exact By.z8 | exact hBd _ | exact hBt _ _ | exact tmJ_by (by omega) (tmI_by (by omega) _) _ | exact timesP_by (by omega) | exact dfI_by (by omega) _ | exact plusN_by (by omega) (timesP_by (by omega)) | exact dfI_by (by omega) 8) (by first | assumption | exact e8_by _ | exact By.z8 | exact hBd _ | exact hBt _ _ | exact tmJ_by (by omega) (tmI_by (by omega) _) _ | exact timesP_by (by omega) | exact dfI_by (by omega) _ | exact plusN_by (by omega) (timesP_by (by omega)) | exact dfI_by (by omega) 8) hBt) ?_
            intro v_ h20_10
            rintro ⟨rfl, e20_10⟩
            replace hb0_0 := BoxAt.ext hb0_0 e20_10
            replace hb6_3 := BoxAt.ext hb6_3 e20_10
            have := Ext.size e20_10
            replace eB := Ext.trans eB e20_10
            replace cL2 := Ext.trans cL2 e20_10
            replace cL11 := Ext.trans cL11 e20_10
            replace cL25 := Ext.trans cL25 e20_10
            try simp (disch := decide) only [outv_some, outv_none, put_puts]
            refine plK_pres (Ext.pres e20_10) ?_
            try simp -implicitDefEqProofs (disch := first | decide | assumption | omega) only [go_sem, wrap_id, cv_u8, cv_i64, Nat.zero_add, wrap_u8, eq_el, ne_el, build_el, Int.toNat_zero]
            try simp -implicitDefEqProofs (disch := first | decide | assumption | omega) only [go_sem, wrap_id, cv_u8, cv_i64, Nat.zero_add, wrap_u8, eq_el, ne_el, build_el, Int.toNat_zero]
            refine CallA.mono (iTms_ok  X (e8 i) ((X.tab j) k) _  hpG (by first | assumption | exact e8_by _ | exact By.z8 | exact hBd _ | exact hBt _ _ | exact tmJ_by (by omega) (tmI_by (by omega) _) _ | exact timesP_by (by omega) | exact dfI_by (by omega) _ | exact plusN_by (by omega) (timesP_by (by omega)) | exact dfI_by (by omega) 8) (by first | assumption | exact e8_by _ | exact By.z8 | exact hBd _ | exact hBt _ _ | exact tmJ_by (by omega) (tmI_by (by omega) _) _ | exact timesP_by (by omega) | exact dfI_by (by omega) _ | exact plusN_by (by omega) (timesP_by (by omega)) | exact dfI_by (by omega) 8) hBt) ?_
            intro v_ h20_19
            rintro ⟨rfl, e20_19⟩
            replace hb0_0 := BoxAt.ext hb0_0 e20_19
            replace hb6_3 := BoxAt.ext hb6_3 e20_19
            have := Ext.size e20_19
            replace eB := Ext.trans eB e20_19
            replace cL2 := Ext.trans cL2 e20_19
            replace cL11 := Ext.trans cL11 e20_19
            replace cL25 := Ext.trans cL25 e20_19
            try simp (disch := decide) only [outv_some, outv_none, put_puts]
            refine plK_pres (Ext.pres e20_19) ?_
            try simp -implicitDefEqProofs (disch := first | decide | assumption | omega) only [go_sem, wrap_id, cv_u8, cv_i64, Nat.zero_add, wrap_u8, eq_el, ne_el, build_el, Int.toNat_zero]
            refine hK _ _ ?_
            clear hK K
            refine den_cond rfl (fun c6 => ?_) (fun c6 => ?_)
            ·try simp only [decide_eq_true_eq, decide_eq_false_iff_not, beq_iff_eq, beq_eq_false_iff_ne, bne_iff_ne, ne_eq, Bool.not_eq_true', Bool.not_eq_false', Bool.and_eq_true, Bool.or_eq_true, bne_eq_false_iff_eq, Bool.or_eq_false_iff, Bool.and_eq_false_iff, in3_iff, in3_f] at c6
             refine den_seq ?_
             refine den_region TTok ?_
             intro K hK
             simp -implicitDefEqProofs (disch := first | decide | assumption | omega) only [go_sem, wrap_id, cv_u8, cv_i64, Nat.zero_add, wrap_u8, eq_el, ne_el, build_el, Int.toNat_zero]
             refine hK _ _ ?_
             clear hK K
             refine den_ret ?_
             simp (disch := decide) only [resP_1, puts_same, puts_ne]
             exact ⟨vbool (dgB_n (fun hh => by have h1 := hh.ac i (by omega) j (by omega) k (by omega); have h2 := c6; unfold AsF at h1; rw [h1] at h2; cases h2)), eB⟩
            ·try simp only [decide_eq_true_eq, decide_eq_false_iff_not, beq_iff_eq, beq_eq_false_iff_ne, bne_iff_ne, ne_eq, Bool.not_eq_true', Bool.not_eq_false', Bool.and_eq_true, Bool.or_eq_true, bne_eq_false_iff_eq, Bool.or_eq_false_iff, Bool.and_eq_false_iff, in3_iff, in3_f] at c6
             refine den_skip ?_
             refine den_blk ?_
             refine den_region TTok ?_
             intro K hK
             simp -implicitDefEqProofs (disch := first | decide | assumption | omega) only [go_sem, wrap_id, cv_u8, cv_i64, Nat.zero_add, wrap_u8, eq_el, ne_el, build_el, Int.toNat_zero]
             refine hK _ _ ?_
             clear hK K
             refine den_stop ?_
             exact ⟨k + 1, by simp [HasL, puts_at], ⟨by first | omega | (dsimp only; omega), fun m hm => by
 by_cases hab : m < k
 ·exact hzk m hab
 ·have e : m = k := by omega
  subst e
  exact c6, cL25⟩, by first | omega | (dsimp only; omega)⟩
           ·try simp only [decide_eq_true_eq, decide_eq_false_iff_not, beq_iff_eq, beq_eq_false_iff_ne, bne_iff_ne, ne_eq, Bool.not_eq_true', Bool.not_eq_false', Bool.and_eq_true, Bool.or_eq_true, bne_eq_false_iff_eq, Bool.or_eq_false_iff, Bool.and_eq_false_iff, in3_iff, in3_f] at c5
            refine den_exit ?_
            refine denX_code ?_
            refine denX_stop ?_
            refine denX_hit ?_
            refine den_blk ?_
            refine den_region TTok ?_
            intro K hK
            simp -implicitDefEqProofs (disch := first | decide | assumption | omega) only [go_sem, wrap_id, cv_u8, cv_i64, Nat.zero_add, wrap_u8, eq_el, ne_el, build_el, Int.toNat_zero]
            refine hK _ _ ?_
            clear hK K
            refine den_stop ?_
            exact ⟨j + 1, by simp [HasL, puts_at], ⟨by first | omega | (dsimp only; omega), fun b hb => by
 by_cases hab : b < j
 ·exact hzj b hab
 ·have e : b = j := by omega
  subst e
  exact ⟨c4, fun k hk => hzk k (by omega)⟩, cL11⟩, by first | omega | (dsimp only; omega)⟩
      ·try simp only [decide_eq_true_eq, decide_eq_false_iff_not, beq_iff_eq, beq_eq_false_iff_ne, bne_iff_ne, ne_eq, Bool.not_eq_true', Bool.not_eq_false', Bool.and_eq_true, Bool.or_eq_true, bne_eq_false_iff_eq, Bool.or_eq_false_iff, Bool.and_eq_false_iff, in3_iff, in3_f] at c3
       refine den_exit ?_
       refine denX_code ?_
       refine denX_stop ?_
       refine denX_hit ?_
       refine den_blk ?_
       refine den_region TTok ?_
       intro K hK
       simp -implicitDefEqProofs (disch := first | decide | assumption | omega) only [go_sem, wrap_id, cv_u8, cv_i64, Nat.zero_add, wrap_u8, eq_el, ne_el, build_el, Int.toNat_zero]
       refine hK _ _ ?_
       clear hK K
       refine den_stop ?_
       exact ⟨i + 1, by simp [HasL, puts_at], ⟨by first | omega | (dsimp only; omega), fun a ha => by
 by_cases hai : a < i
 ·exact hz a hai
 ·have e : a = i := by omega
  subst e
  exact ⟨⟨c2.1.1, c2.1.2, c2.2⟩, fun b hb => hzj b (by omega)⟩, cL2⟩, by first | omega | (dsimp only; omega)⟩
   ·try simp only [decide_eq_true_eq, decide_eq_false_iff_not, beq_iff_eq, beq_eq_false_iff_ne, bne_iff_ne, ne_eq, Bool.not_eq_true', Bool.not_eq_false', Bool.and_eq_true, Bool.or_eq_true, bne_eq_false_iff_eq, Bool.or_eq_false_iff, Bool.and_eq_false_iff, in3_iff, in3_f] at c1
    refine den_exit ?_
    refine denX_code ?_
    refine denX_stop ?_
    refine denX_hit ?_
    refine den_seq ?_
    refine den_region TTok ?_
    intro K hK
    simp -implicitDefEqProofs (disch := first | decide | assumption | omega) only [go_sem, wrap_id, cv_u8, cv_i64, Nat.zero_add, wrap_u8, eq_el, ne_el, build_el, Int.toNat_zero]
    refine hK _ _ ?_
    clear hK K
    refine den_ret ?_
    simp (disch := decide) only [resP_1, puts_same, puts_ne]
    exact ⟨vbool (dgB_y ⟨fmB_t.1 c0, fun i hi => (hz i (by omega)).1, fun i hi j hj => ((hz i (by omega)).2 j hj).1, fun i hi j hj k hk => ((hz i (by omega)).2 j hj).2 k hk⟩), eB⟩
end Go.Proofs.Ytacajcjibhifmaa

namespace Go.Proofs.Ytacajcjibhifmaa
open Go
theorem e8_lt {p : Int} (h : 2 ≤ p) (i : Nat) : ∀ k, k < 8 → e8 i k < p := fun k _ => by unfold e8 upd z8; split <;> omega
theorem e8_el {p s : Int} {i : Nat} (h : 2 ≤ p) (hi : (i : Int) < s) : isEl p s (e8 i) := fun k hk => ⟨e8_lt h i k hk, fun hs => by unfold e8 upd z8; rw [if_neg (by omega)]⟩
section
variable {p : Int} {tab : Nat → Nat → Nat → Int} {u v : Nat → Int}
theorem tmJ_cut {i : Nat} {o : Nat → Int} {m : Nat} : ∀ n, (∀ j, m ≤ j → j < m + n → v j = 0) → tmJ p tab u v i o (m + n) = tmJ p tab u v i o m
 | 0, _ => rfl
 | n + 1, h => by
  rw [← Nat.add_assoc, tmJ, if_neg (fun k => k.2 (h (m + n) (by omega) (by omega))), tmJ_cut n (fun j h1 h2 => h j h1 (by omega))]
theorem tmJ_zero {i : Nat} {o : Nat → Int} (h : u i = 0) : ∀ n, tmJ p tab u v i o n = o
 | 0 => rfl
 | n + 1 => by rw [tmJ, if_neg (fun k => k.1 h), tmJ_zero h n]
theorem tmI_cutJ {m n : Nat} (h : ∀ j, m ≤ j → j < m + n → v j = 0) : ∀ i, tmI p tab u v (m + n) i = tmI p tab u v m i
 | 0 => rfl
 | i + 1 => by rw [tmI, tmI, tmJ_cut n h, tmI_cutJ h i]
theorem tmI_cutI {q m : Nat} : ∀ n, (∀ j, m ≤ j → j < m + n → u j = 0) → tmI p tab u v q (m + n) = tmI p tab u v q m
 | 0, _ => rfl
 | n + 1, h => by rw [← Nat.add_assoc, tmI, tmJ_zero (h (m + n) (by omega) (by omega)), tmI_cutI n (fun j h1 h2 => h j h1 (by omega))]
theorem times_s {s : Int} (hs : 0 ≤ s ∧ s ≤ 8) (hu : isEl p s u) (hv : isEl p s v) : timesP p tab u v 8 = timesP p tab u v s.toNat := by
 unfold timesP
 obtain ⟨n, hn⟩ : ∃ n, 8 = s.toNat + n := ⟨8 - s.toNat, by omega⟩
 have h1 := tmI_cutJ (p := p) (tab := tab) (u := u) (v := v) (m := s.toNat) (n := n) (fun j h1 h2 => (hv j (by omega)).2 (by omega)) 8
 have h2 := tmI_cutI (p := p) (tab := tab) (u := u) (v := v) (q := s.toNat) (m := s.toNat) n (fun j h1 h2 => (hu j (by omega)).2 (by omega))
 rw [← hn] at h1 h2
 rw [h1, h2]
theorem plusN_nil {o w : Nat → Int} (h : ∀ k, k < 8 → 0 ≤ o k ∧ o k < p) : plusN p o w 0 8 = o := by
 funext k
 unfold plusN
 split
 ·rename_i hk
  rw [Int.zero_mul, Int.add_zero, Int.emod_eq_of_lt (h k hk).1 (h k hk).2]
 ·rfl
theorem plusN_red {o w : Nat → Int} {c : Int} (hp : 0 < p) : ∀ k, k < 8 → 0 ≤ plusN p o w c 8 k ∧ plusN p o w c 8 k < p := fun k hk => by
 unfold plusN
 rw [if_pos hk]
 exact ⟨Int.emod_nonneg _ (by omega), Int.emod_lt_of_pos _ hp⟩
theorem dfI_red {dif : Nat → Nat → Int} (hp : 0 < p) : ∀ i, ∀ k, k < 8 → 0 ≤ dfI p dif u i k ∧ dfI p dif u i k < p
 | 0, k, _ => ⟨Int.le_refl _, hp⟩
 | i + 1, k, hk => plusN_red hp k hk
theorem dfI_cut {dif : Nat → Nat → Int} {m : Nat} (hp : 0 < p) : ∀ n, (∀ j, m ≤ j → j < m + n → u j = 0) → dfI p dif u (m + n) = dfI p dif u m
 | 0, _ => rfl
 | n + 1, h => by rw [← Nat.add_assoc, dfI, h (m + n) (by omega) (by omega), plusN_nil (dfI_red hp _), dfI_cut hp n (fun j h1 h2 => h j h1 (by omega))]
theorem df_s {dif : Nat → Nat → Int} {s : Int} (hp : 0 < p) (hs : 0 ≤ s ∧ s ≤ 8) (hu : isEl p s u) : dfI p dif u 8 = dfI p dif u s.toNat := by
 obtain ⟨n, hn⟩ : ∃ n, 8 = s.toNat + n := ⟨8 - s.toNat, by omega⟩
 have h2 := dfI_cut (p := p) (dif := dif) (u := u) (m := s.toNat) hp n (fun j h1 h2 => (hu j (by omega)).2 (by omega))
 rw [← hn] at h2
 exact h2
theorem tmJ_e8 {a b i : Nat} {o : Nat → Int} : ∀ n, tmJ p tab (e8 a) (e8 b) i o n = if i = a ∧ b < n then plusN p o (tab a b) (1 * 1) 8 else o
 | 0 => by rw [if_neg (by omega)]; rfl
 | n + 1 => by
  rw [tmJ, tmJ_e8 n]
  by_cases hi : i = a
  ·subst hi
   by_cases hb : n = b
   ·subst hb
    rw [if_pos ⟨by simp [e8, upd], by simp [e8, upd]⟩, if_neg (by omega), if_pos (by omega)]
    simp [e8, upd]
   ·rw [if_neg (fun k => k.2 (by simp [e8, upd, z8, hb]))]
    by_cases h2 : b < n
    ·rw [if_pos ⟨rfl, h2⟩, if_pos ⟨rfl, by omega⟩]
    ·rw [if_neg (by omega), if_neg (by omega)]
  ·rw [if_neg (fun k => k.1 (by simp [e8, upd, z8, hi])), if_neg (fun k => hi k.1), if_neg (fun k => hi k.1)]
theorem tmI_e8 {a b m : Nat} (hb : b < m) : ∀ n, tmI p tab (e8 a) (e8 b) m n = if a < n then plusN p z8 (tab a b) (1 * 1) 8 else z8
 | 0 => rfl
 | n + 1 => by
  rw [tmI, tmJ_e8, tmI_e8 hb n]
  by_cases h : n = a
  ·subst h
   rw [if_pos ⟨rfl, hb⟩, if_neg (by omega), if_pos (by omega)]
  ·rw [if_neg (fun k => h k.1)]
   by_cases h2 : a < n
   ·rw [if_pos h2, if_pos (by omega)]
   ·rw [if_neg h2, if_neg (by omega)]
theorem times_e8 {a b : Nat} (ha : a < 8) (hb : b < 8) (hw : ∀ k, k < 8 → 0 ≤ tab a b k ∧ tab a b k < p) {w : Nat → Int} : eqE (timesP p tab (e8 a) (e8 b) 8) w = eqE (tab a b) w := by
 rw [timesP, tmI_e8 hb, if_pos ha, Bool.eq_iff_iff, eqE_iff, eqE_iff]
 have e : ∀ k, k < 8 → plusN p z8 (tab a b) (1 * 1) 8 k = tab a b k := fun k hk => by
  unfold plusN
  rw [if_pos hk]
  show (0 + 1 * 1 * tab a b k) % p = _
  rw [Int.zero_add, Int.one_mul, Int.one_mul, Int.emod_eq_of_lt (hw k hk).1 (hw k hk).2]
 exact ⟨fun h k hk => by rw [← e k hk]; exact h k hk, fun h k hk => by rw [e k hk]; exact h k hk⟩
end
section
variable {X : Dg} (hB : DgB X) (hf : IsFm X)
include hB hf
theorem un_sp {i : Nat} (hi : (i : Int) < X.s) : UnF X i ↔ (eqE (X.tab 0 i) (e8 i) = true ∧ eqE (X.tab i 0) (e8 i) = true) ∧ eqE (dfI X.p X.dif (X.dif i) X.s.toNat) z8 = true := by
 have hs := hf.s
 have hp := isP_bnd hf.p
 unfold UnF
 rw [times_e8 (a := 0) (b := i) (by omega) (by omega) (fun k hk => ⟨(hB.tab 0 i k).1, ((hf.cell 0 (by omega) i (by omega)).el k hk).1⟩), times_e8 (a := i) (b := 0) (by omega) (by omega) (fun k hk => ⟨(hB.tab i 0 k).1, ((hf.cell i (by omega) 0 (by omega)).el k hk).1⟩), df_s hp.1 (by omega) (hf.row i (by omega)).el, and_assoc]
theorem lb_sp {i j : Nat} (hi : (i : Int) < X.s) (hj : (j : Int) < X.s) : LbF X i j ↔ eqE (dfI X.p X.dif (X.tab i j) X.s.toNat) (plusN X.p (timesP X.p X.tab (X.dif i) (e8 j) X.s.toNat) (timesP X.p X.tab (e8 i) (X.dif j) X.s.toNat) (1 - 2 * (X.deg i).tmod 2) 8) = true := by
 have _ := hB
 have hs := hf.s
 have hp := isP_two hf.p
 unfold LbF
 rw [df_s (by omega) (by omega) (hf.cell i (by omega) j (by omega)).el, times_s (by omega) (hf.row i (by omega)).el (e8_el hp.1 hj), times_s (by omega) (e8_el hp.1 hi) (hf.row j (by omega)).el, Int.mul_comm 2]
theorem ac_sp {i j k : Nat} (hi : (i : Int) < X.s) (hj : (j : Int) < X.s) (hk : (k : Int) < X.s) : AsF X i j k ↔ eqE (timesP X.p X.tab (X.tab i j) (e8 k) X.s.toNat) (timesP X.p X.tab (e8 i) (X.tab j k) X.s.toNat) = true := by
 have _ := hB
 have hs := hf.s
 have hp := isP_two hf.p
 unfold AsF
 rw [times_s (by omega) (hf.cell i (by omega) j (by omega)).el (e8_el hp.1 hk), times_s (by omega) (e8_el hp.1 hi) (hf.cell j (by omega) k (by omega)).el]
theorem un_nos {i : Nat} (hi : (i : Int) < X.s) (h : UnF X i) (c : (eqE (X.tab 0 i) (e8 i) = false ∨ eqE (X.tab i 0) (e8 i) = false) ∨ eqE (dfI X.p X.dif (X.dif i) X.s.toNat) z8 = false) : False := by
 obtain ⟨⟨h1, h2⟩, h3⟩ := (un_sp hB hf hi).1 h
 rcases c with (c | c) | c
 ·rw [h1] at c; cases c
 ·rw [h2] at c; cases c
 ·rw [h3] at c; cases c
theorem lb_nos {i j : Nat} (hi : (i : Int) < X.s) (hj : (j : Int) < X.s) (h : LbF X i j) (c : eqE (dfI X.p X.dif (X.tab i j) X.s.toNat) (plusN X.p (timesP X.p X.tab (X.dif i) (e8 j) X.s.toNat) (timesP X.p X.tab (e8 i) (X.dif j) X.s.toNat) (1 - 2 * (X.deg i).tmod 2) 8) = false) : False := by
 rw [(lb_sp hB hf hi hj).1 h] at c; cases c
theorem ac_nos {i j k : Nat} (hi : (i : Int) < X.s) (hj : (j : Int) < X.s) (hk : (k : Int) < X.s) (h : AsF X i j k) (c : eqE (timesP X.p X.tab (X.tab i j) (e8 k) X.s.toNat) (timesP X.p X.tab (e8 i) (X.tab j k) X.s.toNat) = false) : False := by
 rw [(ac_sp hB hf hi hj hk).1 h] at c; cases c
end

set_option maxRecDepth 100000 in
set_option maxHeartbeats 4000000 in
theorem sDg_ok (X : Dg) (h : Heap)  (hB : DgB X) : CallA Try.prog 54 #[.agg (dgA X)] h fun v' h' => v' = .bool (dgB X) ∧ Ext h h' := by
 have hBd := hB.dif
 have hBt := hB.tab
 refine callA_intro TTok (args := [_]) Try.func54 (by kernel_rfl) rfl 114 rfl (by simp) [.tmp 2] rfl ?_
 simp only [idxs, Nat.reduceAdd]
 refine den_seq ?_
 refine den_region TTok ?_
 intro K hK
 simp -implicitDefEqProofs (disch := first | decide | assumption | omega) only [go_sem, wrap_id, cv_u8, cv_i64, Nat.zero_add, wrap_u8, eq_el, ne_el, build_el, Int.toNat_zero]
 refine op_box (cs := dgA X) rfl ?_
 intro h0_0 e0_0 hb0_0 z0_0
 have := Ext.size e0_0
 have eB := e0_0
 have hfhb0_0 : Fresh h.size [h.size] := Fresh.one _
 have hlhb0_0 := one_lt (show h.size < h0_0.size by omega)
 try simp -implicitDefEqProofs (disch := first | decide | assumption | omega) only [go_sem, wrap_id, cv_u8, cv_i64, Nat.zero_add, wrap_u8, eq_el, ne_el, build_el, Int.toNat_zero]
 refine hK _ _ ?_
 clear hK K
 refine den_seq ?_
 refine den_seq ?_
 refine den_region TTok ?_
 intro K hK
 simp -implicitDefEqProofs (disch := first | decide | assumption | omega) only [go_sem, BoxAt.dgL hb0_0, BoxAt.dgP hb0_0, BoxAt.dgS hb0_0, BoxAt.dgDeg hb0_0, BoxAt.dgLev hb0_0, BoxAt.dgDeg0 hb0_0, BoxAt.dgLev0 hb0_0, BoxAt.dgDifL hb0_0, BoxAt.dgTabL hb0_0, BoxAt.dgTabL0 hb0_0, BoxAt.dgTabL1 hb0_0, BoxAt.dgTabL1' hb0_0, BoxAt.dgDifB hb0_0, BoxAt.dgTabB hb0_0, wrap_id, cv_u8, cv_i64, Nat.zero_add, wrap_u8, eq_el, ne_el, build_el, Int.toNat_zero]
 try simp -implicitDefEqProofs (disch := first | decide | assumption | omega) only [go_sem, wrap_id, cv_u8, cv_i64, Nat.zero_add, wrap_u8, eq_el, ne_el, build_el, Int.toNat_zero]
 refine CallA.mono (sFm_ok  X _  hB) ?_
 intro v_ h1_1
 rintro ⟨rfl, e1_1⟩
 replace hb0_0 := BoxAt.ext hb0_0 e1_1
 have := Ext.size e1_1
 replace eB := Ext.trans eB e1_1
 try simp -implicitDefEqProofs (disch := first | decide | assumption | omega) only [go_sem, wrap_id, cv_u8, cv_i64, Nat.zero_add, wrap_u8, eq_el, ne_el, build_el, Int.toNat_zero]
 refine hK _ _ ?_
 clear hK K
 refine den_cond rfl (fun c0 => ?_) (fun c0 => ?_)
 ·try simp only [decide_eq_true_eq, decide_eq_false_iff_not, beq_iff_eq, beq_eq_false_iff_ne, bne_iff_ne, ne_eq, Bool.not_eq_true', Bool.not_eq_false', Bool.and_eq_true, Bool.or_eq_true, bne_eq_false_iff_eq, Bool.or_eq_false_iff, Bool.and_eq_false_iff, in3_iff, in3_f] at c0
  refine den_seq ?_
  refine den_region TTok ?_
  intro K hK
  simp -implicitDefEqProofs (disch := first | decide | assumption | omega) only [go_sem, wrap_id, cv_u8, cv_i64, Nat.zero_add, wrap_u8, eq_el, ne_el, build_el, Int.toNat_zero]
  refine hK _ _ ?_
  clear hK K
  refine den_ret ?_
  simp (disch := decide) only [resP_1, puts_same, puts_ne]
  exact ⟨vbool (dgB_n (fun hh => by rw [fmB_t.2 hh.fm] at c0; cases c0)), eB⟩
 ·try simp only [decide_eq_true_eq, decide_eq_false_iff_not, beq_iff_eq, beq_eq_false_iff_ne, bne_iff_ne, ne_eq, Bool.not_eq_true', Bool.not_eq_false', Bool.and_eq_true, Bool.or_eq_true, bne_eq_false_iff_eq, Bool.or_eq_false_iff, Bool.and_eq_false_iff, in3_iff, in3_f] at c0
  have hfm := fmB_t.1 c0
  have hs8 := hfm.s
  have hpb := isP_bnd hfm.p
  have hpG : 0 < X.p ∧ X.p ≤ 7 := ⟨by omega, by omega⟩
  have hp2 := (isP_two hfm.p).1
  have hB7 : ∀ i, i < 8 → ∀ k, k < 8 → X.dif i k < X.p := fun i hi k hk => ((hfm.row i hi).el k hk).1
  have hB8 : ∀ i j, i < 8 → j < 8 → ∀ k, k < 8 → X.tab i j k < X.p := fun i j hi hj k hk => ((hfm.cell i hi j hj).el k hk).1
  refine den_skip ?_
  refine den_seq ?_
  refine den_seq ?_
  refine den_region TTok ?_
  intro K hK
  simp -implicitDefEqProofs (disch := first | decide | assumption | omega) only [go_sem, wrap_id, cv_u8, cv_i64, Nat.zero_add, wrap_u8, eq_el, ne_el, build_el, Int.toNat_zero]
  refine hK _ _ ?_
  clear hK K
  refine den_block ?_
  refine den_sel [3, 1] ?_
  intro env_1
  simp only [go_sem]
  refine den_loopS (σ := Nat) (fun st_ => [(3, .int .i64 (st_ : Int))]) (fun st_ H => ((st_ : Int) ≤ X.s) ∧ (∀ a : Nat, a < st_ → UnF X a ∧ ∀ b : Nat, (b : Int) < X.s → LbF X a b ∧ ∀ k : Nat, (k : Int) < X.s → AsF X a b k) ∧ (Ext h1_1 H)) (fun st_ => X.s.toNat - st_) 0 ?_ ?_
  ·exact ⟨by omega, fun a h => by omega, Ext.refl _⟩
  ·rintro i h4 ee3 ⟨hi, hz, cL2⟩
   replace hb0_0 := BoxAt.ext hb0_0 cL2
   have := Ext.size cL2
   replace eB := Ext.trans eB cL2
   simp only [List.cons_append, List.nil_append]
   refine den_seq ?_
   refine den_seq ?_
   refine den_region TTok ?_
   intro K hK
   simp -implicitDefEqProofs (disch := first | decide | assumption | omega) only [go_sem, fa34_1, ld2, BoxAt.dgL hb0_0, BoxAt.dgP hb0_0, BoxAt.dgS hb0_0, BoxAt.dgDeg hb0_0, BoxAt.dgLev hb0_0, BoxAt.dgDeg0 hb0_0, BoxAt.dgLev0 hb0_0, BoxAt.dgDifL hb0_0, BoxAt.dgTabL hb0_0, BoxAt.dgTabL0 hb0_0, BoxAt.dgTabL1 hb0_0, BoxAt.dgTabL1' hb0_0, BoxAt.dgDifB hb0_0, BoxAt.dgTabB hb0_0, wrap_id, cv_u8, cv_i64, Nat.zero_add, wrap_u8, eq_el, ne_el, build_el, Int.toNat_zero]
   refine hK _ _ ?_
   clear hK K
   refine den_cond rfl (fun c1 => ?_) (fun c1 => ?_)
   ·try simp only [decide_eq_true_eq, decide_eq_false_iff_not, beq_iff_eq, beq_eq_false_iff_ne, bne_iff_ne, ne_eq, Bool.not_eq_true', Bool.not_eq_false', Bool.and_eq_true, Bool.or_eq_true, bne_eq_false_iff_eq, Bool.or_eq_false_iff, Bool.and_eq_false_iff, in3_iff, in3_f] at c1
    refine den_skip ?_
    refine den_seq ?_
    refine den_block ?_
    refine den_seq ?_
    have hdr := (hfm.row i (by omega)).deg
    have hsg := tmod_in (p := 2) (x := X.deg i) (by decide)
    refine den_sel [1, 3] ?_
    intro env_5
    simp only [go_sem]
    refine den_drawTJ (σ := Nat) TTok (fun st_ => [(4, .pointer (some ⟨st_, 0, none⟩)), (5, .int .i64 (((1 : Int) - ((2 : Int) * (Int.tmod (X.deg i) (2 : Int))))))]) (fun st_ H => (BoxAt H st_ (elA (e8 i)) 30) ∧ (Fresh h4.size [st_]) ∧ (Ext h4 H)) mixed [10] [(0, true), (2, true), (3, true), (4, true)] (.fork3 1 [] (.fork 5 [(6, true), (7, true), (8, true), (9, false), (10, false), (11, true)] .fin 9 [] (.fork 5 [(6, true), (7, true), (8, true), (10, false), (11, true)] .fin 10 [(5, true), (6, true), (7, true), (8, true), (11, true)] .fin)) 5 [(6, true), (7, true), (8, true)] (.fork 1 [(9, false), (10, false), (11, true)] .fin 9 [(1, false), (10, false), (11, true)] .fin) 9 [] (.fork 1 [] (.fork 5 [(6, true), (7, true), (8, true), (10, false), (11, true)] .fin 10 [(5, true), (6, true), (7, true), (8, true), (11, true)] .fin) 5 [(6, true), (7, true), (8, true), (1, false), (10, false), (11, true)] .fin)) (by kernel_rfl) ?_ ?_
    ·intro K hK
     have cJ6 := Ext.refl h4
     simp -implicitDefEqProofs (disch := first | decide | assumption | omega) only [go_sem, Int.toNat_zero, fa34_2, ia22, BoxAt.dgL hb0_0, BoxAt.dgP hb0_0, BoxAt.dgS hb0_0, BoxAt.dgDeg hb0_0, BoxAt.dgLev hb0_0, BoxAt.dgDeg0 hb0_0, BoxAt.dgLev0 hb0_0, BoxAt.dgDifL hb0_0, BoxAt.dgTabL hb0_0, BoxAt.dgTabL0 hb0_0, BoxAt.dgTabL1 hb0_0, BoxAt.dgTabL1' hb0_0, BoxAt.dgDifB hb0_0, BoxAt.dgTabB hb0_0, wrap_id, cv_u8, cv_i64, Nat.zero_add, wrap_u8, eq_el, ne_el, build_el, Int.toNat_zero]
     refine And.intro ?_ (And.intro ?_ ?_)
     ·simp -implicitDefEqProofs (disch := first | decide | assumption | omega) only [go_sem, wrap_id, cv_u8, cv_i64, Nat.zero_add, wrap_u8, eq_el, ne_el, build_el, Int.toNat_zero]
      try simp -implicitDefEqProofs (disch := first | decide | assumption | omega) only [go_sem, wrap_id, cv_u8, cv_i64, Nat.zero_add, wrap_u8, eq_el, ne_el, build_el, Int.toNat_zero]
      refine CallA.mono (sUni_ok  (i : Int) _  (by omega)) ?_
      intro v_ h6_1
      rintro ⟨rfl, e6_1⟩
      replace hb0_0 := BoxAt.ext hb0_0 e6_1
      have := Ext.size e6_1
      replace eB := Ext.trans eB e6_1
      replace cL2 := Ext.trans cL2 e6_1
      replace cJ6 := Ext.trans cJ6 e6_1
      try simp (disch := decide) only [outv_some, outv_none, put_puts]
      refine plK_pres (Ext.pres e6_1) ?_
      try simp -implicitDefEqProofs (disch := first | decide | assumption | omega) only [go_sem, wrap_id, cv_u8, cv_i64, Nat.zero_add, wrap_u8, eq_el, ne_el, build_el, Int.toNat_zero]
      refine And.intro ?_ ?_
      ·simp -implicitDefEqProofs (disch := first | decide | assumption | omega) only [go_sem, ld2, BoxAt.dgL hb0_0, BoxAt.dgP hb0_0, BoxAt.dgS hb0_0, BoxAt.dgDeg hb0_0, BoxAt.dgLev hb0_0, BoxAt.dgDeg0 hb0_0, BoxAt.dgLev0 hb0_0, BoxAt.dgDifL hb0_0, BoxAt.dgTabL hb0_0, BoxAt.dgTabL0 hb0_0, BoxAt.dgTabL1 hb0_0, BoxAt.dgTabL1' hb0_0, BoxAt.dgDifB hb0_0, BoxAt.dgTabB hb0_0, wrap_id, cv_u8, cv_i64, Nat.zero_add, wrap_u8, eq_el, ne_el, build_el, Int.toNat_zero]
       refine op_alloc (cs := elA z8) (by kernel_rfl) ?_
       intro h6_9 e6_9 hb6_9 z6_9
       replace hb0_0 := BoxAt.ext hb0_0 e6_9
       have := Ext.size e6_9
       replace eB := Ext.trans eB e6_9
       replace cL2 := Ext.trans cL2 e6_9
       replace cJ6 := Ext.trans cJ6 e6_9
       have hfhb6_9 : Fresh h6_1.size [h6_1.size] := Fresh.one _
       have hlhb6_9 := one_lt (show h6_1.size < h6_9.size by omega)
       try simp (disch := decide) only [outv_some, outv_none, put_puts]
       refine plK_pres (Ext.pres e6_9) ?_
       try simp -implicitDefEqProofs (disch := first | decide | assumption | omega) only [go_sem, wrap_id, cv_u8, cv_i64, Nat.zero_add, wrap_u8, eq_el, ne_el, build_el, Int.toNat_zero]
       refine op_storeB (o := 0) (cs' := elA (e8 i)) st30 hb6_9 rfl rfl (elA_sz _) (by rw [elA_sz]; decide) elA_one elA_all ?_
       intro h6_10 hb6_9 c6_10
       replace hb0_0 := BoxAt.chgA hb0_0 c6_10 (apart_lt hlhb0_0 hfhb6_9 (by omega))
       have := c6_10.size
       replace eB := Ext.then eB c6_10 (ge_of hfhb6_9 (by omega))
       replace cL2 := Ext.then cL2 c6_10 (ge_of hfhb6_9 (by omega))
       replace cJ6 := Ext.then cJ6 c6_10 (ge_of hfhb6_9 (by omega))
       try simp (disch := decide) only [outv_some, outv_none, put_puts]
       refine plK_last (by decide) ?_
       try simp -implicitDefEqProofs (disch := first | decide | assumption | omega) only [go_sem, wrap_id, cv_u8, cv_i64, Nat.zero_add, wrap_u8, eq_el, ne_el, build_el, Int.toNat_zero]
       exact hK h6_1.size _ _ (by simp [HasL, puts_at]) ⟨hb6_9, (hfhb6_9.mono (by omega)), cJ6⟩
      ·simp -implicitDefEqProofs (disch := first | decide | assumption | omega) only [go_sem, wrap_id, cv_u8, cv_i64, Nat.zero_add, wrap_u8, eq_el, ne_el, build_el, Int.toNat_zero]
       refine op_alloc (cs := elA z8) (by kernel_rfl) ?_
       intro h6_9 e6_9 hb6_9 z6_9
       replace hb0_0 := BoxAt.ext hb0_0 e6_9
       have := Ext.size e6_9
       replace eB := Ext.trans eB e6_9
       replace cL2 := Ext.trans cL2 e6_9
       replace cJ6 := Ext.trans cJ6 e6_9
       have hfhb6_9 : Fresh h6_1.size [h6_1.size] := Fresh.one _
       have hlhb6_9 := one_lt (show h6_1.size < h6_9.size by omega)
       try simp (disch := decide) only [outv_some, outv_none, put_puts]
       refine plK_pres (Ext.pres e6_9) ?_
       try simp -implicitDefEqProofs (disch := first | decide | assumption | omega) only [go_sem, wrap_id, cv_u8, cv_i64, Nat.zero_add, wrap_u8, eq_el, ne_el, build_el, Int.toNat_zero]
       refine And.intro ?_ ?_
       ·simp -implicitDefEqProofs (disch := first | decide | assumption | omega) only [go_sem, ld2, BoxAt.dgL hb0_0, BoxAt.dgP hb0_0, BoxAt.dgS hb0_0, BoxAt.dgDeg hb0_0, BoxAt.dgLev hb0_0, BoxAt.dgDeg0 hb0_0, BoxAt.dgLev0 hb0_0, BoxAt.dgDifL hb0_0, BoxAt.dgTabL hb0_0, BoxAt.dgTabL0 hb0_0, BoxAt.dgTabL1 hb0_0, BoxAt.dgTabL1' hb0_0, BoxAt.dgDifB hb0_0, BoxAt.dgTabB hb0_0, wrap_id, cv_u8, cv_i64, Nat.zero_add, wrap_u8, eq_el, ne_el, build_el, Int.toNat_zero]
        refine op_storeB (o := 0) (cs' := elA (e8 i)) st30 hb6_9 rfl rfl (elA_sz _) (by rw [elA_sz]; decide) elA_one elA_all ?_
        intro h6_10 hb6_9 c6_10
        replace hb0_0 := BoxAt.chgA hb0_0 c6_10 (apart_lt hlhb0_0 hfhb6_9 (by omega))
        have := c6_10.size
        replace eB := Ext.then eB c6_10 (ge_of hfhb6_9 (by omega))
        replace cL2 := Ext.then cL2 c6_10 (ge_of hfhb6_9 (by omega))
        replace cJ6 := Ext.then cJ6 c6_10 (ge_of hfhb6_9 (by omega))
        try simp (disch := decide) only [outv_some, outv_none, put_puts]
        refine plK_last (by decide) ?_
        try simp -implicitDefEqProofs (disch := first | decide | assumption | omega) only [go_sem, wrap_id, cv_u8, cv_i64, Nat.zero_add, wrap_u8, eq_el, ne_el, build_el, Int.toNat_zero]
        exact hK h6_1.size _ _ (by simp [HasL, puts_at]) ⟨hb6_9, (hfhb6_9.mono (by omega)), cJ6⟩
       ·simp -implicitDefEqProofs (disch := first | decide | assumption | omega) only [go_sem, wrap_id, cv_u8, cv_i64, Nat.zero_add, wrap_u8, eq_el, ne_el, build_el, Int.toNat_zero]
        refine op_storeB (o := 0) (cs' := elA (e8 i)) st30 hb6_9 rfl rfl (elA_sz _) (by rw [elA_sz]; decide) elA_one elA_all ?_
        intro h6_10 hb6_9 c6_10
        replace hb0_0 := BoxAt.chgA hb0_0 c6_10 (apart_lt hlhb0_0 hfhb6_9 (by omega))
        have := c6_10.size
        replace eB := Ext.then eB c6_10 (ge_of hfhb6_9 (by omega))
        replace cL2 := Ext.then cL2 c6_10 (ge_of hfhb6_9 (by omega))
        replace cJ6 := Ext.then cJ6 c6_10 (ge_of hfhb6_9 (by omega))
        try simp (disch := decide) only [outv_some, outv_none, put_puts]
        refine plK_last (by decide) ?_
        try simp -implicitDefEqProofs (disch := first | decide | assumption | omega) only [go_sem, ld2, BoxAt.dgL hb0_0, BoxAt.dgP hb0_0, BoxAt.dgS hb0_0, BoxAt.dgDeg hb0_0, BoxAt.dgLev hb0_0, BoxAt.dgDeg0 hb0_0, BoxAt.dgLev0 hb0_0, BoxAt.dgDifL hb0_0, BoxAt.dgTabL hb0_0, BoxAt.dgTabL0 hb0_0, BoxAt.dgTabL1 hb0_0, BoxAt.dgTabL1' hb0_0, BoxAt.dgDifB hb0_0, BoxAt.dgTabB hb0_0, wrap_id, cv_u8, cv_i64, Nat.zero_add, wrap_u8, eq_el, ne_el, build_el, Int.toNat_zero]
        exact hK h6_1.size _ _ (by simp [HasL, puts_at]) ⟨hb6_9, (hfhb6_9.mono (by omega)), cJ6⟩
     ·simp -implicitDefEqProofs (disch := first | decide | assumption | omega) only [go_sem, ld2, BoxAt.dgL hb0_0, BoxAt.dgP hb0_0, BoxAt.dgS hb0_0, BoxAt.dgDeg hb0_0, BoxAt.dgLev hb0_0, BoxAt.dgDeg0 hb0_0, BoxAt.dgLev0 hb0_0, BoxAt.dgDifL hb0_0, BoxAt.dgTabL hb0_0, BoxAt.dgTabL0 hb0_0, BoxAt.dgTabL1 hb0_0, BoxAt.dgTabL1' hb0_0, BoxAt.dgDifB hb0_0, BoxAt.dgTabB hb0_0, wrap_id, cv_u8, cv_i64, Nat.zero_add, wrap_u8, eq_el, ne_el, build_el, Int.toNat_zero]
      refine And.intro ?_ ?_
      ·simp -implicitDefEqProofs (disch := first | decide | assumption | omega) only [go_sem, wrap_id, cv_u8, cv_i64, Nat.zero_add, wrap_u8, eq_el, ne_el, build_el, Int.toNat_zero]
       try simp -implicitDefEqProofs (disch := first | decide | assumption | omega) only [go_sem, wrap_id, cv_u8, cv_i64, Nat.zero_add, wrap_u8, eq_el, ne_el, build_el, Int.toNat_zero]
       refine CallA.mono (sUni_ok  (i : Int) _  (by omega)) ?_
       intro v_ h6_1
       rintro ⟨rfl, e6_1⟩
       replace hb0_0 := BoxAt.ext hb0_0 e6_1
       have := Ext.size e6_1
       replace eB := Ext.trans eB e6_1
       replace cL2 := Ext.trans cL2 e6_1
       replace cJ6 := Ext.trans cJ6 e6_1
       try simp (disch := decide) only [outv_some, outv_none, put_puts]
       refine plK_pres (Ext.pres e6_1) ?_
       try simp -implicitDefEqProofs (disch := first | decide | assumption | omega) only [go_sem, wrap_id, cv_u8, cv_i64, Nat.zero_add, wrap_u8, eq_el, ne_el, build_el, Int.toNat_zero]
       refine op_alloc (cs := elA z8) (by kernel_rfl) ?_
       intro h6_9 e6_9 hb6_9 z6_9
       replace hb0_0 := BoxAt.ext hb0_0 e6_9
       have := Ext.size e6_9
       replace eB := Ext.trans eB e6_9
       replace cL2 := Ext.trans cL2 e6_9
       replace cJ6 := Ext.trans cJ6 e6_9
       have hfhb6_9 : Fresh h6_1.size [h6_1.size] := Fresh.one _
       have hlhb6_9 := one_lt (show h6_1.size < h6_9.size by omega)
       try simp (disch := decide) only [outv_some, outv_none, put_puts]
       refine plK_pres (Ext.pres e6_9) ?_
       try simp -implicitDefEqProofs (disch := first | decide | assumption | omega) only [go_sem, wrap_id, cv_u8, cv_i64, Nat.zero_add, wrap_u8, eq_el, ne_el, build_el, Int.toNat_zero]
       refine op_storeB (o := 0) (cs' := elA (e8 i)) st30 hb6_9 rfl rfl (elA_sz _) (by rw [elA_sz]; decide) elA_one elA_all ?_
       intro h6_10 hb6_9 c6_10
       replace hb0_0 := BoxAt.chgA hb0_0 c6_10 (apart_lt hlhb0_0 hfhb6_9 (by omega))
       have := c6_10.size
       replace eB := Ext.then eB c6_10 (ge_of hfhb6_9 (by omega))
       replace cL2 := Ext.then cL2 c6_10 (ge_of hfhb6_9 (by omega))
       replace cJ6 := Ext.then cJ6 c6_10 (ge_of hfhb6_9 (by omega))
       try simp (disch := decide) only [outv_some, outv_none, put_puts]
       refine plK_last (by decide) ?_
       try simp -implicitDefEqProofs (disch := first | decide | assumption | omega) only [go_sem, wrap_id, cv_u8, cv_i64, Nat.zero_add, wrap_u8, eq_el, ne_el, build_el, Int.toNat_zero]
       exact hK h6_1.size _ _ (by simp [HasL, puts_at]) ⟨hb6_9, (hfhb6_9.mono (by omega)), cJ6⟩
      ·simp -implicitDefEqProofs (disch := first | decide | assumption | omega) only [go_sem, wrap_id, cv_u8, cv_i64, Nat.zero_add, wrap_u8, eq_el, ne_el, build_el, Int.toNat_zero]
       refine op_alloc (cs := elA z8) (by kernel_rfl) ?_
       intro h6_9 e6_9 hb6_9 z6_9
       replace hb0_0 := BoxAt.ext hb0_0 e6_9
       have := Ext.size e6_9
       replace eB := Ext.trans eB e6_9
       replace cL2 := Ext.trans cL2 e6_9
       replace cJ6 := Ext.trans cJ6 e6_9
       have hfhb6_9 : Fresh h4.size [h4.size] := Fresh.one _
       have hlhb6_9 := one_lt (show h4.size < h6_9.size by omega)
       try simp (disch := decide) only [outv_some, outv_none, put_puts]
       refine plK_pres (Ext.pres e6_9) ?_
       try simp -implicitDefEqProofs (disch := first | decide | assumption | omega) only [go_sem, wrap_id, cv_u8, cv_i64, Nat.zero_add, wrap_u8, eq_el, ne_el, build_el, Int.toNat_zero]
       try simp -implicitDefEqProofs (disch := first | decide | assumption | omega) only [go_sem, wrap_id, cv_u8, cv_i64, Nat.zero_add, wrap_u8, eq_el, ne_el, build_el, Int.toNat_zero]
       refine CallA.mono (sUni_ok  (i : Int) _  (by omega)) ?_
       intro v_ h6_1
       rintro ⟨rfl, e6_1⟩
       replace hb0_0 := BoxAt.ext hb0_0 e6_1
       replace hb6_9 := BoxAt.ext hb6_9 e6_1
       have := Ext.size e6_1
       replace eB := Ext.trans eB e6_1
       replace cL2 := Ext.trans cL2 e6_1
       replace cJ6 := Ext.trans cJ6 e6_1
       try simp (disch := decide) only [outv_some, outv_none, put_puts]
       refine plK_pres (Ext.pres e6_1) ?_
       try simp -implicitDefEqProofs (disch := first | decide | assumption | omega) only [go_sem, wrap_id, cv_u8, cv_i64, Nat.zero_add, wrap_u8, eq_el, ne_el, build_el, Int.toNat_zero]
       refine op_storeB (o := 0) (cs' := elA (e8 i)) st30 hb6_9 rfl rfl (elA_sz _) (by rw [elA_sz]; decide) elA_one elA_all ?_
       intro h6_10 hb6_9 c6_10
       replace hb0_0 := BoxAt.chgA hb0_0 c6_10 (apart_lt hlhb0_0 hfhb6_9 (by omega))
       have := c6_10.size
       replace eB := Ext.then eB c6_10 (ge_of hfhb6_9 (by omega))
       replace cL2 := Ext.then cL2 c6_10 (ge_of hfhb6_9 (by omega))
       replace cJ6 := Ext.then cJ6 c6_10 (ge_of hfhb6_9 (by omega))
       try simp (disch := decide) only [outv_some, outv_none, put_puts]
       refine plK_last (by decide) ?_
       try simp -implicitDefEqProofs (disch := first | decide | assumption | omega) only [go_sem, wrap_id, cv_u8, cv_i64, Nat.zero_add, wrap_u8, eq_el, ne_el, build_el, Int.toNat_zero]
       exact hK h4.size _ _ (by simp [HasL, puts_at]) ⟨hb6_9, (hfhb6_9.mono (by omega)), cJ6⟩
     ·simp -implicitDefEqProofs (disch := first | decide | assumption | omega) only [go_sem, wrap_id, cv_u8, cv_i64, Nat.zero_add, wrap_u8, eq_el, ne_el, build_el, Int.toNat_zero]
      refine op_alloc (cs := elA z8) (by kernel_rfl) ?_
      intro h6_9 e6_9 hb6_9 z6_9
      replace hb0_0 := BoxAt.ext hb0_0 e6_9
      have := Ext.size e6_9
      replace eB := Ext.trans eB e6_9
      replace cL2 := Ext.trans cL2 e6_9
      replace cJ6 := Ext.trans cJ6 e6_9
      have hfhb6_9 : Fresh h4.size [h4.size] := Fresh.one _
      have hlhb6_9 := one_lt (show h4.size < h6_9.size by omega)
      try simp (disch := decide) only [outv_some, outv_none, put_puts]
      refine plK_pres (Ext.pres e6_9) ?_
      try simp -implicitDefEqProofs (disch := first | decide | assumption | omega) only [go_sem, wrap_id, cv_u8, cv_i64, Nat.zero_add, wrap_u8, eq_el, ne_el, build_el, Int.toNat_zero]
      refine And.intro ?_ ?_
      ·simp -implicitDefEqProofs (disch := first | decide | assumption | omega) only [go_sem, wrap_id, cv_u8, cv_i64, Nat.zero_add, wrap_u8, eq_el, ne_el, build_el, Int.toNat_zero]
       try simp -implicitDefEqProofs (disch := first | decide | assumption | omega) only [go_sem, wrap_id, cv_u8, cv_i64, Nat.zero_add, wrap_u8, eq_el, ne_el, build_el, Int.toNat_zero]
       refine CallA.mono (sUni_ok  (i : Int) _  (by omega)) ?_
       intro v_ h6_1
       rintro ⟨rfl, e6_1⟩
       replace hb0_0 := BoxAt.ext hb0_0 e6_1
       replace hb6_9 := BoxAt.ext hb6_9 e6_1
       have := Ext.size e6_1
       replace eB := Ext.trans eB e6_1
       replace cL2 := Ext.trans cL2 e6_1
       replace cJ6 := Ext.trans cJ6 e6_1
       try simp (disch := decide) only [outv_some, outv_none, put_puts]
       refine plK_pres (Ext.pres e6_1) ?_
       try simp -implicitDefEqProofs (disch := first | decide | assumption | omega) only [go_sem, wrap_id, cv_u8, cv_i64, Nat.zero_add, wrap_u8, eq_el, ne_el, build_el, Int.toNat_zero]
       refine And.intro ?_ ?_
       ·simp -implicitDefEqProofs (disch := first | decide | assumption | omega) only [go_sem, ld2, BoxAt.dgL hb0_0, BoxAt.dgP hb0_0, BoxAt.dgS hb0_0, BoxAt.dgDeg hb0_0, BoxAt.dgLev hb0_0, BoxAt.dgDeg0 hb0_0, BoxAt.dgLev0 hb0_0, BoxAt.dgDifL hb0_0, BoxAt.dgTabL hb0_0, BoxAt.dgTabL0 hb0_0, BoxAt.dgTabL1 hb0_0, BoxAt.dgTabL1' hb0_0, BoxAt.dgDifB hb0_0, BoxAt.dgTabB hb0_0, wrap_id, cv_u8, cv_i64, Nat.zero_add, wrap_u8, eq_el, ne_el, build_el, Int.toNat_zero]
        refine op_storeB (o := 0) (cs' := elA (e8 i)) st30 hb6_9 rfl rfl (elA_sz _) (by rw [elA_sz]; decide) elA_one elA_all ?_
        intro h6_10 hb6_9 c6_10
        replace hb0_0 := BoxAt.chgA hb0_0 c6_10 (apart_lt hlhb0_0 hfhb6_9 (by omega))
        have := c6_10.size
        replace eB := Ext.then eB c6_10 (ge_of hfhb6_9 (by omega))
        replace cL2 := Ext.then cL2 c6_10 (ge_of hfhb6_9 (by omega))
        replace cJ6 := Ext.then cJ6 c6_10 (ge_of hfhb6_9 (by omega))
        try simp (disch := decide) only [outv_some, outv_none, put_puts]
        refine plK_last (by decide) ?_
        try simp -implicitDefEqProofs (disch := first | decide | assumption | omega) only [go_sem, wrap_id, cv_u8, cv_i64, Nat.zero_add, wrap_u8, eq_el, ne_el, build_el, Int.toNat_zero]
        exact hK h4.size _ _ (by simp [HasL, puts_at]) ⟨hb6_9, (hfhb6_9.mono (by omega)), cJ6⟩
       ·simp -implicitDefEqProofs (disch := first | decide | assumption | omega) only [go_sem, wrap_id, cv_u8, cv_i64, Nat.zero_add, wrap_u8, eq_el, ne_el, build_el, Int.toNat_zero]
        refine op_storeB (o := 0) (cs' := elA (e8 i)) st30 hb6_9 rfl rfl (elA_sz _) (by rw [elA_sz]; decide) elA_one elA_all ?_
        intro h6_10 hb6_9 c6_10
        replace hb0_0 := BoxAt.chgA hb0_0 c6_10 (apart_lt hlhb0_0 hfhb6_9 (by omega))
        have := c6_10.size
        replace eB := Ext.then eB c6_10 (ge_of hfhb6_9 (by omega))
        replace cL2 := Ext.then cL2 c6_10 (ge_of hfhb6_9 (by omega))
        replace cJ6 := Ext.then cJ6 c6_10 (ge_of hfhb6_9 (by omega))
        try simp (disch := decide) only [outv_some, outv_none, put_puts]
        refine plK_last (by decide) ?_
        try simp -implicitDefEqProofs (disch := first | decide | assumption | omega) only [go_sem, ld2, BoxAt.dgL hb0_0, BoxAt.dgP hb0_0, BoxAt.dgS hb0_0, BoxAt.dgDeg hb0_0, BoxAt.dgLev hb0_0, BoxAt.dgDeg0 hb0_0, BoxAt.dgLev0 hb0_0, BoxAt.dgDifL hb0_0, BoxAt.dgTabL hb0_0, BoxAt.dgTabL0 hb0_0, BoxAt.dgTabL1 hb0_0, BoxAt.dgTabL1' hb0_0, BoxAt.dgDifB hb0_0, BoxAt.dgTabB hb0_0, wrap_id, cv_u8, cv_i64, Nat.zero_add, wrap_u8, eq_el, ne_el, build_el, Int.toNat_zero]
        exact hK h4.size _ _ (by simp [HasL, puts_at]) ⟨hb6_9, (hfhb6_9.mono (by omega)), cJ6⟩
      ·simp -implicitDefEqProofs (disch := first | decide | assumption | omega) only [go_sem, ld2, BoxAt.dgL hb0_0, BoxAt.dgP hb0_0, BoxAt.dgS hb0_0, BoxAt.dgDeg hb0_0, BoxAt.dgLev hb0_0, BoxAt.dgDeg0 hb0_0, BoxAt.dgLev0 hb0_0, BoxAt.dgDifL hb0_0, BoxAt.dgTabL hb0_0, BoxAt.dgTabL0 hb0_0, BoxAt.dgTabL1 hb0_0, BoxAt.dgTabL1' hb0_0, BoxAt.dgDifB hb0_0, BoxAt.dgTabB hb0_0, wrap_id, cv_u8, cv_i64, Nat.zero_add, wrap_u8, eq_el, ne_el, build_el, Int.toNat_zero]
       try simp -implicitDefEqProofs (disch := first | decide | assumption | omega) only [go_sem, wrap_id, cv_u8, cv_i64, Nat.zero_add, wrap_u8, eq_el, ne_el, build_el, Int.toNat_zero]
       refine CallA.mono (sUni_ok  (i : Int) _  (by omega)) ?_
       intro v_ h6_1
       rintro ⟨rfl, e6_1⟩
       replace hb0_0 := BoxAt.ext hb0_0 e6_1
       replace hb6_9 := BoxAt.ext hb6_9 e6_1
       have := Ext.size e6_1
       replace eB := Ext.trans eB e6_1
       replace cL2 := Ext.trans cL2 e6_1
       replace cJ6 := Ext.trans cJ6 e6_1
       try simp (disch := decide) only [outv_some, outv_none, put_puts]
       refine plK_pres (Ext.pres e6_1) ?_
       try simp -implicitDefEqProofs (disch := first | decide | assumption | omega) only [go_sem, wrap_id, cv_u8, cv_i64, Nat.zero_add, wrap_u8, eq_el, ne_el, build_el, Int.toNat_zero]
       refine op_storeB (o := 0) (cs' := elA (e8 i)) st30 hb6_9 rfl rfl (elA_sz _) (by rw [elA_sz]; decide) elA_one elA_all ?_
       intro h6_10 hb6_9 c6_10
       replace hb0_0 := BoxAt.chgA hb0_0 c6_10 (apart_lt hlhb0_0 hfhb6_9 (by omega))
       have := c6_10.size
       replace eB := Ext.then eB c6_10 (ge_of hfhb6_9 (by omega))
       replace cL2 := Ext.then cL2 c6_10 (ge_of hfhb6_9 (by omega))
       replace cJ6 := Ext.then cJ6 c6_10 (ge_of hfhb6_9 (by omega))
       try simp (disch := decide) only [outv_some, outv_none, put_puts]
       refine plK_last (by decide) ?_
       try simp -implicitDefEqProofs (disch := first | decide | assumption | omega) only [go_sem, wrap_id, cv_u8, cv_i64, Nat.zero_add, wrap_u8, eq_el, ne_el, build_el, Int.toNat_zero]
       exact hK h4.size _ _ (by simp [HasL, puts_at]) ⟨hb6_9, (hfhb6_9.mono (by omega)), cJ6⟩
    ·rintro bJhb6_9 hj7 ee9 ⟨hb6_9, hfhb6_9, eJ8⟩
     replace hb0_0 := BoxAt.ext hb0_0 eJ8
     have := Ext.size eJ8
     replace eB := Ext.trans eB eJ8
     replace cL2 := Ext.trans cL2 eJ8
     have hlhb6_9 := one_lt hb6_9.lt
     simp only [List.cons_append, List.nil_append]
     refine den_seq ?_
     refine den_seq ?_
     refine den_merge [(52, .bool ((((!(eqE ((X.tab 0) i) (e8 i))) || (!(eqE ((X.tab i) 0) (e8 i)))) || (!(eqE (dfI X.p X.dif (X.dif i) X.s.toNat) z8)))))] [1, 3, 4, 5] (fun H => Ext hj7 H) ?_ ?_
      -- a way
     ·refine den_draw TTok mixed [] [(0, true), (1, true), (2, true), (3, true), (4, true), (5, true), (6, true), (7, true), (8, true), (9, true), (10, true), (11, true), (12, true), (13, true), (14, true), (15, true), (16, true), (17, true), (18, true), (19, true), (20, true), (21, true), (23, true), (22, false), (24, true), (25, true)] (by kernel_rfl) ?_
      intro K hK
      simp -implicitDefEqProofs (disch := first | decide | assumption | (simp (disch := decide) only [slotOf_zero, slotOf_succ, Option.map_some, puts_same, puts_ne, gv_bool, gv_undef, tt, tf, ft, ff, eq_self, if_true, if_false, Bool.false_eq_true, Bool.not_true, Bool.not_false]; done) | omega) only [go_sem, Int.toNat_zero, fa34_5, ia32, ia31, BoxAt.dgL hb0_0, BoxAt.dgP hb0_0, BoxAt.dgS hb0_0, BoxAt.dgDeg hb0_0, BoxAt.dgLev hb0_0, BoxAt.dgDeg0 hb0_0, BoxAt.dgLev0 hb0_0, BoxAt.dgDifL hb0_0, BoxAt.dgTabL hb0_0, BoxAt.dgTabL0 hb0_0, BoxAt.dgTabL1 hb0_0, BoxAt.dgTabL1' hb0_0, BoxAt.dgDifB hb0_0, BoxAt.dgTabB hb0_0, BoxAt.elC hb6_9, BoxAt.elL hb6_9, wrap_id, cv_u8, cv_i64, Nat.zero_add, wrap_u8, eq_el, ne_el, build_el, Int.toNat_zero]
      refine plG_F (by simp (disch := decide) only [slotOf_zero, slotOf_succ, Option.map_some, puts_same, puts_ne, gv_bool, gv_undef, tt, tf, ft, ff, eq_self, if_true, if_false, Bool.false_eq_true, Bool.not_true, Bool.not_false]; rfl) (fun g10 => ?_) (fun g10 => ?_)
      ·try simp -implicitDefEqProofs (disch := first | decide | assumption | (simp (disch := decide) only [slotOf_zero, slotOf_succ, Option.map_some, puts_same, puts_ne, gv_bool, gv_undef, tt, tf, ft, ff, eq_self, if_true, if_false, Bool.false_eq_true, Bool.not_true, Bool.not_false, g10]; done) | omega) only [go_sem, Int.toNat_zero, fa34_5, ia32, ia31, BoxAt.dgL hb0_0, BoxAt.dgP hb0_0, BoxAt.dgS hb0_0, BoxAt.dgDeg hb0_0, BoxAt.dgLev hb0_0, BoxAt.dgDeg0 hb0_0, BoxAt.dgLev0 hb0_0, BoxAt.dgDifL hb0_0, BoxAt.dgTabL hb0_0, BoxAt.dgTabL0 hb0_0, BoxAt.dgTabL1 hb0_0, BoxAt.dgTabL1' hb0_0, BoxAt.dgDifB hb0_0, BoxAt.dgTabB hb0_0, BoxAt.elC hb6_9, BoxAt.elL hb6_9, wrap_id, cv_u8, cv_i64, Nat.zero_add, wrap_u8, eq_el, ne_el, build_el, Int.toNat_zero, g10, eq_self, if_true, if_false, Bool.false_eq_true]
       refine plG_F (by simp (disch := decide) only [slotOf_zero, slotOf_succ, Option.map_some, puts_same, puts_ne, gv_bool, gv_undef, tt, tf, ft, ff, eq_self, if_true, if_false, Bool.false_eq_true, Bool.not_true, Bool.not_false, g10]; rfl) (fun g11 => ?_) (fun g11 => ?_)
       ·try simp -implicitDefEqProofs (disch := first | decide | assumption | (simp (disch := decide) only [slotOf_zero, slotOf_succ, Option.map_some, puts_same, puts_ne, gv_bool, gv_undef, tt, tf, ft, ff, eq_self, if_true, if_false, Bool.false_eq_true, Bool.not_true, Bool.not_false, g10, g11]; done) | omega) only [go_sem, Int.toNat_zero, fa34_4, ia31, BoxAt.dgL hb0_0, BoxAt.dgP hb0_0, BoxAt.dgS hb0_0, BoxAt.dgDeg hb0_0, BoxAt.dgLev hb0_0, BoxAt.dgDeg0 hb0_0, BoxAt.dgLev0 hb0_0, BoxAt.dgDifL hb0_0, BoxAt.dgTabL hb0_0, BoxAt.dgTabL0 hb0_0, BoxAt.dgTabL1 hb0_0, BoxAt.dgTabL1' hb0_0, BoxAt.dgDifB hb0_0, BoxAt.dgTabB hb0_0, wrap_id, cv_u8, cv_i64, Nat.zero_add, wrap_u8, eq_el, ne_el, build_el, Int.toNat_zero, g10, g11, eq_self, if_true, if_false, Bool.false_eq_true]
        try simp -implicitDefEqProofs (disch := first | decide | assumption | omega) only [go_sem, wrap_id, cv_u8, cv_i64, Nat.zero_add, wrap_u8, eq_el, ne_el, build_el, Int.toNat_zero]
        refine CallA.mono (sDif_ok  X (X.dif i) _  hpG (by omega) (by first | assumption | exact e8_by _ | exact By.z8 | exact hBd _ | exact hBt _ _ | exact tmJ_by (by omega) (tmI_by (by omega) _) _ | exact timesP_by (by omega) | exact dfI_by (by omega) _ | exact plusN_by (by omega) (timesP_by (by omega)) | exact dfI_by (by omega) 8) hBd) ?_
        intro v_ h7_22
        rintro ⟨rfl, e7_22⟩
        replace hb0_0 := BoxAt.ext hb0_0 e7_22
        replace hb6_9 := BoxAt.ext hb6_9 e7_22
        have := Ext.size e7_22
        replace eB := Ext.trans eB e7_22
        replace cL2 := Ext.trans cL2 e7_22
        try simp (disch := decide) only [outv_some, outv_none, put_puts]
        refine plK_pres (Ext.pres e7_22) ?_
        try simp -implicitDefEqProofs (disch := first | decide | assumption | (simp (disch := decide) only [slotOf_zero, slotOf_succ, Option.map_some, puts_same, puts_ne, gv_bool, gv_undef, tt, tf, ft, ff, eq_self, if_true, if_false, Bool.false_eq_true, Bool.not_true, Bool.not_false, g10, g11]; done) | omega) only [go_sem, wrap_id, cv_u8, cv_i64, Nat.zero_add, wrap_u8, eq_el, ne_el, build_el, Int.toNat_zero, g10, g11, eq_self, if_true, if_false, Bool.false_eq_true]
        refine hK _ _ ?_
        clear hK K
        refine den_stop ?_
        refine ⟨?_, e7_22⟩
        first | (simp (disch := decide) only [go_sem, g10, g11, eq_self, Bool.true_and, Bool.and_true, Bool.false_and, Bool.and_false, Bool.true_or, Bool.or_true, Bool.false_or, Bool.or_false, if_true, if_false, Bool.false_eq_true]; done) | simp [HasL, sel, puts_at, g10, g11]
       ·try simp -implicitDefEqProofs (disch := first | decide | assumption | (simp (disch := decide) only [slotOf_zero, slotOf_succ, Option.map_some, puts_same, puts_ne, gv_bool, gv_undef, tt, tf, ft, ff, eq_self, if_true, if_false, Bool.false_eq_true, Bool.not_true, Bool.not_false, g10, g11]; done) | omega) only [go_sem, wrap_id, cv_u8, cv_i64, Nat.zero_add, wrap_u8, eq_el, ne_el, build_el, Int.toNat_zero, g10, g11, eq_self, if_true, if_false, Bool.false_eq_true]
        refine hK _ _ ?_
        clear hK K
        refine den_stop ?_
        refine ⟨?_, Ext.refl _⟩
        first | (simp (disch := decide) only [go_sem, g10, g11, eq_self, Bool.true_and, Bool.and_true, Bool.false_and, Bool.and_false, Bool.true_or, Bool.or_true, Bool.false_or, Bool.or_false, if_true, if_false, Bool.false_eq_true]; done) | simp [HasL, sel, puts_at, g10, g11]
      ·try simp -implicitDefEqProofs (disch := first | decide | assumption | (simp (disch := decide) only [slotOf_zero, slotOf_succ, Option.map_some, puts_same, puts_ne, gv_bool, gv_undef, tt, tf, ft, ff, eq_self, if_true, if_false, Bool.false_eq_true, Bool.not_true, Bool.not_false, g10]; done) | omega) only [go_sem, wrap_id, cv_u8, cv_i64, Nat.zero_add, wrap_u8, eq_el, ne_el, build_el, Int.toNat_zero, g10, eq_self, if_true, if_false, Bool.false_eq_true]
       try simp -implicitDefEqProofs (disch := first | decide | assumption | (simp (disch := decide) only [slotOf_zero, slotOf_succ, Option.map_some, puts_same, puts_ne, gv_bool, gv_undef, tt, tf, ft, ff, eq_self, if_true, if_false, Bool.false_eq_true, Bool.not_true, Bool.not_false, g10]; done) | omega) only [go_sem, wrap_id, cv_u8, cv_i64, Nat.zero_add, wrap_u8, eq_el, ne_el, build_el, Int.toNat_zero, g10, eq_self, if_true, if_false, Bool.false_eq_true]
       refine hK _ _ ?_
       clear hK K
       refine den_stop ?_
       refine ⟨?_, Ext.refl _⟩
       first | (simp (disch := decide) only [go_sem, g10, eq_self, Bool.true_and, Bool.and_true, Bool.false_and, Bool.and_false, Bool.true_or, Bool.or_true, Bool.false_or, Bool.or_false, if_true, if_false, Bool.false_eq_true]; done) | simp [HasL, sel, puts_at, g10]
     intro en12 h13 e14
     replace hb0_0 := BoxAt.ext hb0_0 e14
     replace hb6_9 := BoxAt.ext hb6_9 e14
     have := Ext.size e14
     replace eB := Ext.trans eB e14
     replace cL2 := Ext.trans cL2 e14
     simp (disch := decide) only [go_sem]
     refine den_cond rfl (fun c2 => ?_) (fun c2 => ?_)
     ·try simp only [decide_eq_true_eq, decide_eq_false_iff_not, beq_iff_eq, beq_eq_false_iff_ne, bne_iff_ne, ne_eq, Bool.not_eq_true', Bool.not_eq_false', Bool.and_eq_true, Bool.or_eq_true, bne_eq_false_iff_eq, Bool.or_eq_false_iff, Bool.and_eq_false_iff, in3_iff, in3_f] at c2
      refine den_seq ?_
      refine den_region TTok ?_
      intro K hK
      simp -implicitDefEqProofs (disch := first | decide | assumption | omega) only [go_sem, wrap_id, cv_u8, cv_i64, Nat.zero_add, wrap_u8, eq_el, ne_el, build_el, Int.toNat_zero]
      refine hK _ _ ?_
      clear hK K
      refine den_ret ?_
      simp (disch := decide) only [resP_1, puts_same, puts_ne]
      exact ⟨vbool (dgB_n (fun hh => un_nos hB hfm (by omega) (hh.un i (by omega)) c2)), eB⟩
     ·try simp only [decide_eq_true_eq, decide_eq_false_iff_not, beq_iff_eq, beq_eq_false_iff_ne, bne_iff_ne, ne_eq, Bool.not_eq_true', Bool.not_eq_false', Bool.and_eq_true, Bool.or_eq_true, bne_eq_false_iff_eq, Bool.or_eq_false_iff, Bool.and_eq_false_iff, in3_iff, in3_f] at c2
      refine den_skip ?_
      refine den_seq ?_
      refine den_region TTok ?_
      intro K hK
      simp -implicitDefEqProofs (disch := first | decide | assumption | omega) only [go_sem, wrap_id, cv_u8, cv_i64, Nat.zero_add, wrap_u8, eq_el, ne_el, build_el, Int.toNat_zero]
      refine hK _ _ ?_
      clear hK K
      refine den_block ?_
      refine den_sel [6, 1, 3, 4, 5] ?_
      intro env_15
      simp only [go_sem]
      refine den_loopS (σ := Nat) (fun st_ => [(6, .int .i64 (st_ : Int))]) (fun st_ H => ((st_ : Int) ≤ X.s) ∧ (∀ b : Nat, b < st_ → LbF X i b ∧ ∀ k : Nat, (k : Int) < X.s → AsF X i b k) ∧ (Ext h13 H)) (fun st_ => X.s.toNat - st_) 0 ?_ ?_
      ·exact ⟨by omega, fun b h => by omega, Ext.refl _⟩
      ·rintro j h18 ee17 ⟨hj, hzj, cL16⟩
       replace hb0_0 := BoxAt.ext hb0_0 cL16
       replace hb6_9 := BoxAt.ext hb6_9 cL16
       have := Ext.size cL16
       replace eB := Ext.trans eB cL16
       replace cL2 := Ext.trans cL2 cL16
       simp only [List.cons_append, List.nil_append]
       refine den_seq ?_
       refine den_seq ?_
       refine den_region TTok ?_
       intro K hK
       simp -implicitDefEqProofs (disch := first | decide | assumption | omega) only [go_sem, fa34_1, ld2, BoxAt.dgL hb0_0, BoxAt.dgP hb0_0, BoxAt.dgS hb0_0, BoxAt.dgDeg hb0_0, BoxAt.dgLev hb0_0, BoxAt.dgDeg0 hb0_0, BoxAt.dgLev0 hb0_0, BoxAt.dgDifL hb0_0, BoxAt.dgTabL hb0_0, BoxAt.dgTabL0 hb0_0, BoxAt.dgTabL1 hb0_0, BoxAt.dgTabL1' hb0_0, BoxAt.dgDifB hb0_0, BoxAt.dgTabB hb0_0, wrap_id, cv_u8, cv_i64, Nat.zero_add, wrap_u8, eq_el, ne_el, build_el, Int.toNat_zero]
       refine hK _ _ ?_
       clear hK K
       refine den_cond rfl (fun c3 => ?_) (fun c3 => ?_)
       ·try simp only [decide_eq_true_eq, decide_eq_false_iff_not, beq_iff_eq, beq_eq_false_iff_ne, bne_iff_ne, ne_eq, Bool.not_eq_true', Bool.not_eq_false', Bool.and_eq_true, Bool.or_eq_true, bne_eq_false_iff_eq, Bool.or_eq_false_iff, Bool.and_eq_false_iff, in3_iff, in3_f] at c3
        refine den_skip ?_
        refine den_seq ?_
        refine den_block ?_
        refine den_seq ?_
        refine den_sel [1, 3, 4, 5, 6] ?_
        intro env_19
        simp only [go_sem]
        refine den_drawTJ (σ := Nat) TTok (fun st_ => [(7, .pointer (some ⟨st_, 0, none⟩))]) (fun st_ H => (BoxAt H st_ (elA (timesP X.p X.tab (X.dif i) (e8 j) X.s.toNat)) 30) ∧ (Fresh h18.size [st_]) ∧ (Ext h18 H)) mixed [9] [(0, true), (1, true), (2, true), (3, true), (4, true), (5, true)] (.fork 6 [] (.fork 7 [(8, false), (9, false)] .fin 8 [(7, false), (9, false)] .fin) 8 [(6, false), (7, false), (9, false)] .fin) (by kernel_rfl) ?_ ?_
        ·intro K hK
         have cJ20 := Ext.refl h18
         simp -implicitDefEqProofs (disch := first | decide | assumption | omega) only [go_sem, Int.toNat_zero, fa34_4, ia31, BoxAt.dgL hb0_0, BoxAt.dgP hb0_0, BoxAt.dgS hb0_0, BoxAt.dgDeg hb0_0, BoxAt.dgLev hb0_0, BoxAt.dgDeg0 hb0_0, BoxAt.dgLev0 hb0_0, BoxAt.dgDifL hb0_0, BoxAt.dgTabL hb0_0, BoxAt.dgTabL0 hb0_0, BoxAt.dgTabL1 hb0_0, BoxAt.dgTabL1' hb0_0, BoxAt.dgDifB hb0_0, BoxAt.dgTabB hb0_0, wrap_id, cv_u8, cv_i64, Nat.zero_add, wrap_u8, eq_el, ne_el, build_el, Int.toNat_zero]
         refine And.intro ?_ ?_
         ·simp -implicitDefEqProofs (disch := first | decide | assumption | omega) only [go_sem, wrap_id, cv_u8, cv_i64, Nat.zero_add, wrap_u8, eq_el, ne_el, build_el, Int.toNat_zero]
          try simp -implicitDefEqProofs (disch := first | decide | assumption | omega) only [go_sem, wrap_id, cv_u8, cv_i64, Nat.zero_add, wrap_u8, eq_el, ne_el, build_el, Int.toNat_zero]
          refine CallA.mono (sUni_ok  (j : Int) _  (by omega)) ?_
          intro v_ h12_6
          rintro ⟨rfl, e12_6⟩
          replace hb0_0 := BoxAt.ext hb0_0 e12_6
          replace hb6_9 := BoxAt.ext hb6_9 e12_6
          have := Ext.size e12_6
          replace eB := Ext.trans eB e12_6
          replace cL2 := Ext.trans cL2 e12_6
          replace cL16 := Ext.trans cL16 e12_6
          replace cJ20 := Ext.trans cJ20 e12_6
          try simp (disch := decide) only [outv_some, outv_none, put_puts]
          refine plK_pres (Ext.pres e12_6) ?_
          try simp -implicitDefEqProofs (disch := first | decide | assumption | omega) only [go_sem, wrap_id, cv_u8, cv_i64, Nat.zero_add, wrap_u8, eq_el, ne_el, build_el, Int.toNat_zero]
          refine And.intro ?_ ?_
          ·simp -implicitDefEqProofs (disch := first | decide | assumption | omega) only [go_sem, wrap_id, cv_u8, cv_i64, Nat.zero_add, wrap_u8, eq_el, ne_el, build_el, Int.toNat_zero]
           try simp -implicitDefEqProofs (disch := first | decide | assumption | omega) only [go_sem, wrap_id, cv_u8, cv_i64, Nat.zero_add, wrap_u8, eq_el, ne_el, build_el, Int.toNat_zero]
           refine CallA.mono (sTms_ok  X (X.dif i) (e8 j) _  hpG (by omega) (by first | assumption | exact e8_by _ | exact By.z8 | exact hBd _ | exact hBt _ _ | exact tmJ_by (by omega) (tmI_by (by omega) _) _ | exact timesP_by (by omega) | exact dfI_by (by omega) _ | exact plusN_by (by omega) (timesP_by (by omega)) | exact dfI_by (by omega) 8) (by first | assumption | exact e8_by _ | exact By.z8 | exact hBd _ | exact hBt _ _ | exact tmJ_by (by omega) (tmI_by (by omega) _) _ | exact timesP_by (by omega) | exact dfI_by (by omega) _ | exact plusN_by (by omega) (timesP_by (by omega)) | exact dfI_by (by omega) 8) hBt (by first | assumption | exact e8_lt (by omega) _ | exact z8_lt (by omega) | exact hB7 _ (by omega) | exact hB8 _ _ (by omega) (by omega) | exact tms_lt (by omega) | exact dfs_lt (by omega)) (by first | assumption | exact e8_lt (by omega) _ | exact z8_lt (by omega) | exact hB7 _ (by omega) | exact hB8 _ _ (by omega) (by omega) | exact tms_lt (by omega) | exact dfs_lt (by omega))) ?_
           intro v_ h12_7
           rintro ⟨rfl, e12_7⟩
           replace hb0_0 := BoxAt.ext hb0_0 e12_7
           replace hb6_9 := BoxAt.ext hb6_9 e12_7
           have := Ext.size e12_7
           replace eB := Ext.trans eB e12_7
           replace cL2 := Ext.trans cL2 e12_7
           replace cL16 := Ext.trans cL16 e12_7
           replace cJ20 := Ext.trans cJ20 e12_7
           try simp (disch := decide) only [outv_some, outv_none, put_puts]
           refine plK_pres (Ext.pres e12_7) ?_
           try simp -implicitDefEqProofs (disch := first | decide | assumption | omega) only [go_sem, wrap_id, cv_u8, cv_i64, Nat.zero_add, wrap_u8, eq_el, ne_el, build_el, Int.toNat_zero]
           refine op_alloc (cs := elA z8) (by kernel_rfl) ?_
           intro h12_8 e12_8 hb12_8 z12_8
           replace hb0_0 := BoxAt.ext hb0_0 e12_8
           replace hb6_9 := BoxAt.ext hb6_9 e12_8
           have := Ext.size e12_8
           replace eB := Ext.trans eB e12_8
           replace cL2 := Ext.trans cL2 e12_8
           replace cL16 := Ext.trans cL16 e12_8
           replace cJ20 := Ext.trans cJ20 e12_8
           have hfhb12_8 : Fresh h12_7.size [h12_7.size] := Fresh.one _
           have hlhb12_8 := one_lt (show h12_7.size < h12_8.size by omega)
           try simp (disch := decide) only [outv_some, outv_none, put_puts]
           refine plK_pres (Ext.pres e12_8) ?_
           try simp -implicitDefEqProofs (disch := first | decide | assumption | omega) only [go_sem, wrap_id, cv_u8, cv_i64, Nat.zero_add, wrap_u8, eq_el, ne_el, build_el, Int.toNat_zero]
           refine op_storeB (o := 0) (cs' := elA (timesP X.p X.tab (X.dif i) (e8 j) X.s.toNat)) st30 hb12_8 rfl rfl (elA_sz _) (by rw [elA_sz]; decide) elA_one elA_all ?_
           intro h12_9 hb12_8 c12_9
           replace hb0_0 := BoxAt.chgA hb0_0 c12_9 (apart_lt hlhb0_0 hfhb12_8 (by omega))
           replace hb6_9 := BoxAt.chgA hb6_9 c12_9 (apart_lt hlhb6_9 hfhb12_8 (by omega))
           have := c12_9.size
           replace eB := Ext.then eB c12_9 (ge_of hfhb12_8 (by omega))
           replace cL2 := Ext.then cL2 c12_9 (ge_of hfhb12_8 (by omega))
           replace cL16 := Ext.then cL16 c12_9 (ge_of hfhb12_8 (by omega))
           replace cJ20 := Ext.then cJ20 c12_9 (ge_of hfhb12_8 (by omega))
           try simp (disch := decide) only [outv_some, outv_none, put_puts]
           refine plK_last (by decide) ?_
           try simp -implicitDefEqProofs (disch := first | decide | assumption | omega) only [go_sem, wrap_id, cv_u8, cv_i64, Nat.zero_add, wrap_u8, eq_el, ne_el, build_el, Int.toNat_zero]
           exact hK h12_7.size _ _ (by simp [HasL, puts_at]) ⟨hb12_8, (hfhb12_8.mono (by omega)), cJ20⟩
          ·simp -implicitDefEqProofs (disch := first | decide | assumption | omega) only [go_sem, wrap_id, cv_u8, cv_i64, Nat.zero_add, wrap_u8, eq_el, ne_el, build_el, Int.toNat_zero]
           refine op_alloc (cs := elA z8) (by kernel_rfl) ?_
           intro h12_8 e12_8 hb12_8 z12_8
           replace hb0_0 := BoxAt.ext hb0_0 e12_8
           replace hb6_9 := BoxAt.ext hb6_9 e12_8
           have := Ext.size e12_8
           replace eB := Ext.trans eB e12_8
           replace cL2 := Ext.trans cL2 e12_8
           replace cL16 := Ext.trans cL16 e12_8
           replace cJ20 := Ext.trans cJ20 e12_8
           have hfhb12_8 : Fresh h12_6.size [h12_6.size] := Fresh.one _
           have hlhb12_8 := one_lt (show h12_6.size < h12_8.size by omega)
           try simp (disch := decide) only [outv_some, outv_none, put_puts]
           refine plK_pres (Ext.pres e12_8) ?_
           try simp -implicitDefEqProofs (disch := first | decide | assumption | omega) only [go_sem, wrap_id, cv_u8, cv_i64, Nat.zero_add, wrap_u8, eq_el, ne_el, build_el, Int.toNat_zero]
           try simp -implicitDefEqProofs (disch := first | decide | assumption | omega) only [go_sem, wrap_id, cv_u8, cv_i64, Nat.zero_add, wrap_u8, eq_el, ne_el, build_el, Int.toNat_zero]
           refine CallA.mono (sTms_ok  X (X.dif i) (e8 j) _  hpG (by omega) (by first | assumption | exact e8_by _ | exact By.z8 | exact hBd _ | exact hBt _ _ | exact tmJ_by (by omega) (tmI_by (by omega) _) _ | exact timesP_by (by omega) | exact dfI_by (by omega) _ | exact plusN_by (by omega) (timesP_by (by omega)) | exact dfI_by (by omega) 8) (by first | assumption | exact e8_by _ | exact By.z8 | exact hBd _ | exact hBt _ _ | exact tmJ_by (by omega) (tmI_by (by omega) _) _ | exact timesP_by (by omega) | exact dfI_by (by omega) _ | exact plusN_by (by omega) (timesP_by (by omega)) | exact dfI_by (by omega) 8) hBt (by first | assumption | exact e8_lt (by omega) _ | exact z8_lt (by omega) | exact hB7 _ (by omega) | exact hB8 _ _ (by omega) (by omega) | exact tms_lt (by omega) | exact dfs_lt (by omega)) (by first | assumption | exact e8_lt (by omega) _ | exact z8_lt (by omega) | exact hB7 _ (by omega) | exact hB8 _ _ (by omega) (by omega) | exact tms_lt (by omega) | exact dfs_lt (by omega))) ?_
           intro v_ h12_7
           rintro ⟨rfl, e12_7⟩
           replace hb0_0 := BoxAt.ext hb0_0 e12_7
           replace hb6_9 := BoxAt.ext hb6_9 e12_7
           replace hb12_8 := BoxAt.ext hb12_8 e12_7
           have := Ext.size e12_7
           replace eB := Ext.trans eB e12_7
           replace cL2 := Ext.trans cL2 e12_7
           replace cL16 := Ext.trans cL16 e12_7
           replace cJ20 := Ext.trans cJ20 e12_7
           try simp (disch := decide) only [outv_some, outv_none, put_puts]
           refine plK_pres (Ext.pres e12_7) ?_
           try simp -implicitDefEqProofs (disch := first | decide | assumption | omega) only [go_sem, wrap_id, cv_u8, cv_i64, Nat.zero_add, wrap_u8, eq_el, ne_el, build_el, Int.toNat_zero]
           refine op_storeB (o := 0) (cs' := elA (timesP X.p X.tab (X.dif i) (e8 j) X.s.toNat)) st30 hb12_8 rfl rfl (elA_sz _) (by rw [elA_sz]; decide) elA_one elA_all ?_
           intro h12_9 hb12_8 c12_9
           replace hb0_0 := BoxAt.chgA hb0_0 c12_9 (apart_lt hlhb0_0 hfhb12_8 (by omega))
           replace hb6_9 := BoxAt.chgA hb6_9 c12_9 (apart_lt hlhb6_9 hfhb12_8 (by omega))
           have := c12_9.size
           replace eB := Ext.then eB c12_9 (ge_of hfhb12_8 (by omega))
           replace cL2 := Ext.then cL2 c12_9 (ge_of hfhb12_8 (by omega))
           replace cL16 := Ext.then cL16 c12_9 (ge_of hfhb12_8 (by omega))
           replace cJ20 := Ext.then cJ20 c12_9 (ge_of hfhb12_8 (by omega))
           try simp (disch := decide) only [outv_some, outv_none, put_puts]
           refine plK_last (by decide) ?_
           try simp -implicitDefEqProofs (disch := first | decide | assumption | omega) only [go_sem, wrap_id, cv_u8, cv_i64, Nat.zero_add, wrap_u8, eq_el, ne_el, build_el, Int.toNat_zero]
           exact hK h12_6.size _ _ (by simp [HasL, puts_at]) ⟨hb12_8, (hfhb12_8.mono (by omega)), cJ20⟩
         ·simp -implicitDefEqProofs (disch := first | decide | assumption | omega) only [go_sem, wrap_id, cv_u8, cv_i64, Nat.zero_add, wrap_u8, eq_el, ne_el, build_el, Int.toNat_zero]
          refine op_alloc (cs := elA z8) (by kernel_rfl) ?_
          intro h12_8 e12_8 hb12_8 z12_8
          replace hb0_0 := BoxAt.ext hb0_0 e12_8
          replace hb6_9 := BoxAt.ext hb6_9 e12_8
          have := Ext.size e12_8
          replace eB := Ext.trans eB e12_8
          replace cL2 := Ext.trans cL2 e12_8
          replace cL16 := Ext.trans cL16 e12_8
          replace cJ20 := Ext.trans cJ20 e12_8
          have hfhb12_8 : Fresh h18.size [h18.size] := Fresh.one _
          have hlhb12_8 := one_lt (show h18.size < h12_8.size by omega)
          try simp (disch := decide) only [outv_some, outv_none, put_puts]
          refine plK_pres (Ext.pres e12_8) ?_
          try simp -implicitDefEqProofs (disch := first | decide | assumption | omega) only [go_sem, wrap_id, cv_u8, cv_i64, Nat.zero_add, wrap_u8, eq_el, ne_el, build_el, Int.toNat_zero]
          try simp -implicitDefEqProofs (disch := first | decide | assumption | omega) only [go_sem, wrap_id, cv_u8, cv_i64, Nat.zero_add, wrap_u8, eq_el, ne_el, build_el, Int.toNat_zero]
          refine CallA.mono (sUni_ok  (j : Int) _  (by omega)) ?_
          intro v_ h12_6
          rintro ⟨rfl, e12_6⟩
          replace hb0_0 := BoxAt.ext hb0_0 e12_6
          replace hb6_9 := BoxAt.ext hb6_9 e12_6
          replace hb12_8 := BoxAt.ext hb12_8 e12_6
          have := Ext.size e12_6
          replace eB := Ext.trans eB e12_6
          replace cL2 := Ext.trans cL2 e12_6
          replace cL16 := Ext.trans cL16 e12_6
          replace cJ20 := Ext.trans cJ20 e12_6
          try simp (disch := decide) only [outv_some, outv_none, put_puts]
          refine plK_pres (Ext.pres e12_6) ?_
          try simp -implicitDefEqProofs (disch := first | decide | assumption | omega) only [go_sem, wrap_id, cv_u8, cv_i64, Nat.zero_add, wrap_u8, eq_el, ne_el, build_el, Int.toNat_zero]
          try simp -implicitDefEqProofs (disch := first | decide | assumption | omega) only [go_sem, wrap_id, cv_u8, cv_i64, Nat.zero_add, wrap_u8, eq_el, ne_el, build_el, Int.toNat_zero]
          refine CallA.mono (sTms_ok  X (X.dif i) (e8 j) _  hpG (by omega) (by first | assumption | exact e8_by _ | exact By.z8 | exact hBd _ | exact hBt _ _ | exact tmJ_by (by omega) (tmI_by (by omega) _) _ | exact timesP_by (by omega) | exact dfI_by (by omega) _ | exact plusN_by (by omega) (timesP_by (by omega)) | exact dfI_by (by omega) 8) (by first | assumption | exact e8_by _ | exact By.z8 | exact hBd _ | exact hBt _ _ | exact tmJ_by (by omega) (tmI_by (by omega) _) _ | exact timesP_by (by omega) | exact dfI_by (by omega) _ | exact plusN_by (by omega) (timesP_by (by omega)) | exact dfI_by (by omega) 8) hBt (by first | assumption | exact e8_lt (by omega) _ | exact z8_lt (by omega) | exact hB7 _ (by omega) | exact hB8 _ _ (by omega) (by omega) | exact tms_lt (by omega) | exact dfs_lt (by omega)) (by first | assumption | exact e8_lt (by omega) _ | exact z8_lt (by omega) | exact hB7 _ (by omega) | exact hB8 _ _ (by omega) (by omega) | exact tms_lt (by omega) | exact dfs_lt (by omega))) ?_
          intro v_ h12_7
          rintro ⟨rfl, e12_7⟩
          replace hb0_0 := BoxAt.ext hb0_0 e12_7
          replace hb6_9 := BoxAt.ext hb6_9 e12_7
          replace hb12_8 := BoxAt.ext hb12_8 e12_7
          have := Ext.size e12_7
          replace eB := Ext.trans eB e12_7
          replace cL2 := Ext.trans cL2 e12_7
          replace cL16 := Ext.trans cL16 e12_7
          replace cJ20 := Ext.trans cJ20 e12_7
          try simp (disch := decide) only [outv_some, outv_none, put_puts]
          refine plK_pres (Ext.pres e12_7) ?_
          try simp -implicitDefEqProofs (disch := first | decide | assumption | omega) only [go_sem, wrap_id, cv_u8, cv_i64, Nat.zero_add, wrap_u8, eq_el, ne_el, build_el, Int.toNat_zero]
          refine op_storeB (o := 0) (cs' := elA (timesP X.p X.tab (X.dif i) (e8 j) X.s.toNat)) st30 hb12_8 rfl rfl (elA_sz _) (by rw [elA_sz]; decide) elA_one elA_all ?_
          intro h12_9 hb12_8 c12_9
          replace hb0_0 := BoxAt.chgA hb0_0 c12_9 (apart_lt hlhb0_0 hfhb12_8 (by omega))
          replace hb6_9 := BoxAt.chgA hb6_9 c12_9 (apart_lt hlhb6_9 hfhb12_8 (by omega))
          have := c12_9.size
          replace eB := Ext.then eB c12_9 (ge_of hfhb12_8 (by omega))
          replace cL2 := Ext.then cL2 c12_9 (ge_of hfhb12_8 (by omega))
          replace cL16 := Ext.then cL16 c12_9 (ge_of hfhb12_8 (by omega))
          replace cJ20 := Ext.then cJ20 c12_9 (ge_of hfhb12_8 (by omega))
          try simp (disch := decide) only [outv_some, outv_none, put_puts]
          refine plK_last (by decide) ?_
          try simp -implicitDefEqProofs (disch := first | decide | assumption | omega) only [go_sem, wrap_id, cv_u8, cv_i64, Nat.zero_add, wrap_u8, eq_el, ne_el, build_el, Int.toNat_zero]
          exact hK h18.size _ _ (by simp [HasL, puts_at]) ⟨hb12_8, (hfhb12_8.mono (by omega)), cJ20⟩
        ·rintro bJhb12_8 hj21 ee23 ⟨hb12_8, hfhb12_8, eJ22⟩
         replace hb0_0 := BoxAt.ext hb0_0 eJ22
         replace hb6_9 := BoxAt.ext hb6_9 eJ22
         have := Ext.size eJ22
         replace eB := Ext.trans eB eJ22
         replace cL2 := Ext.trans cL2 eJ22
         replace cL16 := Ext.trans cL16 eJ22
         have hlhb12_8 := one_lt hb12_8.lt
         simp only [List.cons_append, List.nil_append]
         refine den_seq ?_
         refine den_seq ?_
         have hsg := tmod_in (p := 2) (x := X.deg i) (by decide)
         refine den_draw TTok mixed [] [(0, true), (1, true), (2, true), (3, true), (4, true), (5, true), (6, true), (8, true), (9, true), (10, true), (11, true), (12, true), (13, true), (14, true), (15, true), (16, true), (18, true), (7, false), (17, false), (19, false), (20, true)] (by kernel_rfl) ?_
         intro K hK
         simp -implicitDefEqProofs (disch := first | decide | assumption | omega) only [go_sem, Int.toNat_zero, fa34_0, fa34_4, fa34_5, ia32, ia31, ld2, BoxAt.dgL hb0_0, BoxAt.dgP hb0_0, BoxAt.dgS hb0_0, BoxAt.dgDeg hb0_0, BoxAt.dgLev hb0_0, BoxAt.dgDeg0 hb0_0, BoxAt.dgLev0 hb0_0, BoxAt.dgDifL hb0_0, BoxAt.dgTabL hb0_0, BoxAt.dgTabL0 hb0_0, BoxAt.dgTabL1 hb0_0, BoxAt.dgTabL1' hb0_0, BoxAt.dgDifB hb0_0, BoxAt.dgTabB hb0_0, BoxAt.elC hb6_9, BoxAt.elL hb6_9, BoxAt.elC hb12_8, BoxAt.elL hb12_8, wrap_id, cv_u8, cv_i64, Nat.zero_add, wrap_u8, eq_el, ne_el, build_el, Int.toNat_zero]
         try simp -implicitDefEqProofs (disch := first | decide | assumption | omega) only [go_sem, wrap_id, cv_u8, cv_i64, Nat.zero_add, wrap_u8, eq_el, ne_el, build_el, Int.toNat_zero]
         refine CallA.mono (sDif_ok  X ((X.tab i) j) _  hpG (by omega) (by first | assumption | exact e8_by _ | exact By.z8 | exact hBd _ | exact hBt _ _ | exact tmJ_by (by omega) (tmI_by (by omega) _) _ | exact timesP_by (by omega) | exact dfI_by (by omega) _ | exact plusN_by (by omega) (timesP_by (by omega)) | exact dfI_by (by omega) 8) hBd) ?_
         intro v_ h13_7
         rintro ⟨rfl, e13_7⟩
         replace hb0_0 := BoxAt.ext hb0_0 e13_7
         replace hb6_9 := BoxAt.ext hb6_9 e13_7
         replace hb12_8 := BoxAt.ext hb12_8 e13_7
         have := Ext.size e13_7
         replace eB := Ext.trans eB e13_7
         replace cL2 := Ext.trans cL2 e13_7
         replace cL16 := Ext.trans cL16 e13_7
         try simp (disch := decide) only [outv_some, outv_none, put_puts]
         refine plK_pres (Ext.pres e13_7) ?_
         try simp -implicitDefEqProofs (disch := first | decide | assumption | omega) only [go_sem, wrap_id, cv_u8, cv_i64, Nat.zero_add, wrap_u8, eq_el, ne_el, build_el, Int.toNat_zero]
         try simp -implicitDefEqProofs (disch := first | decide | assumption | omega) only [go_sem, wrap_id, cv_u8, cv_i64, Nat.zero_add, wrap_u8, eq_el, ne_el, build_el, Int.toNat_zero]
         refine CallA.mono (sTms_ok  X (e8 i) (X.dif j) _  hpG (by omega) (by first | assumption | exact e8_by _ | exact By.z8 | exact hBd _ | exact hBt _ _ | exact tmJ_by (by omega) (tmI_by (by omega) _) _ | exact timesP_by (by omega) | exact dfI_by (by omega) _ | exact plusN_by (by omega) (timesP_by (by omega)) | exact dfI_by (by omega) 8) (by first | assumption | exact e8_by _ | exact By.z8 | exact hBd _ | exact hBt _ _ | exact tmJ_by (by omega) (tmI_by (by omega) _) _ | exact timesP_by (by omega) | exact dfI_by (by omega) _ | exact plusN_by (by omega) (timesP_by (by omega)) | exact dfI_by (by omega) 8) hBt (by first | assumption | exact e8_lt (by omega) _ | exact z8_lt (by omega) | exact hB7 _ (by omega) | exact hB8 _ _ (by omega) (by omega) | exact tms_lt (by omega) | exact dfs_lt (by omega)) (by first | assumption | exact e8_lt (by omega) _ | exact z8_lt (by omega) | exact hB7 _ (by omega) | exact hB8 _ _ (by omega) (by omega) | exact tms_lt (by omega) | exact dfs_lt (by omega))) ?_
         intro v_ h13_17
         rintro ⟨rfl, e13_17⟩
         replace hb0_0 := BoxAt.ext hb0_0 e13_17
         replace hb6_9 := BoxAt.ext hb6_9 e13_17
         replace hb12_8 := BoxAt.ext hb12_8 e13_17
         have := Ext.size e13_17
         replace eB := Ext.trans eB e13_17
         replace cL2 := Ext.trans cL2 e13_17
         replace cL16 := Ext.trans cL16 e13_17
         try simp (disch := decide) only [outv_some, outv_none, put_puts]
         refine plK_pres (Ext.pres e13_17) ?_
         try simp -implicitDefEqProofs (disch := first | decide | assumption | omega) only [go_sem, wrap_id, cv_u8, cv_i64, Nat.zero_add, wrap_u8, eq_el, ne_el, build_el, Int.toNat_zero]
         try simp -implicitDefEqProofs (disch := first | decide | assumption | omega) only [go_sem, wrap_id, cv_u8, cv_i64, Nat.zero_add, wrap_u8, eq_el, ne_el, build_el, Int.toNat_zero]
         refine CallA.mono (sAdd8_ok  X.p (timesP X.p X.tab (X.dif i) (e8 j) X.s.toNat) (timesP X.p X.tab (e8 i) (X.dif j) X.s.toNat) ((1 : Int) - ((2 : Int) * (Int.tmod (X.deg i) (2 : Int)))) _  hpG (by first | assumption | exact e8_by _ | exact By.z8 | exact hBd _ | exact hBt _ _ | exact tmJ_by (by omega) (tmI_by (by omega) _) _ | exact timesP_by (by omega) | exact dfI_by (by omega) _ | exact plusN_by (by omega) (timesP_by (by omega)) | exact dfI_by (by omega) 8) (by first | assumption | exact e8_by _ | exact By.z8 | exact hBd _ | exact hBt _ _ | exact tmJ_by (by omega) (tmI_by (by omega) _) _ | exact timesP_by (by omega) | exact dfI_by (by omega) _ | exact plusN_by (by omega) (timesP_by (by omega)) | exact dfI_by (by omega) 8) (by omega)) ?_
         intro v_ h13_19
         rintro ⟨rfl, e13_19⟩
         replace hb0_0 := BoxAt.ext hb0_0 e13_19
         replace hb6_9 := BoxAt.ext hb6_9 e13_19
         replace hb12_8 := BoxAt.ext hb12_8 e13_19
         have := Ext.size e13_19
         replace eB := Ext.trans eB e13_19
         replace cL2 := Ext.trans cL2 e13_19
         replace cL16 := Ext.trans cL16 e13_19
         try simp (disch := decide) only [outv_some, outv_none, put_puts]
         refine plK_pres (Ext.pres e13_19) ?_
         try simp -implicitDefEqProofs (disch := first | decide | assumption | omega) only [go_sem, wrap_id, cv_u8, cv_i64, Nat.zero_add, wrap_u8, eq_el, ne_el, build_el, Int.toNat_zero]
         refine hK _ _ ?_
         clear hK K
         refine den_cond rfl (fun c4 => ?_) (fun c4 => ?_)
         ·try simp only [decide_eq_true_eq, decide_eq_false_iff_not, beq_iff_eq, beq_eq_false_iff_ne, bne_iff_ne, ne_eq, Bool.not_eq_true', Bool.not_eq_false', Bool.and_eq_true, Bool.or_eq_true, bne_eq_false_iff_eq, Bool.or_eq_false_iff, Bool.and_eq_false_iff, in3_iff, in3_f] at c4
          refine den_seq ?_
          refine den_region TTok ?_
          intro K hK
          simp -implicitDefEqProofs (disch := first | decide | assumption | omega) only [go_sem, wrap_id, cv_u8, cv_i64, Nat.zero_add, wrap_u8, eq_el, ne_el, build_el, Int.toNat_zero]
          refine hK _ _ ?_
          clear hK K
          refine den_ret ?_
          simp (disch := decide) only [resP_1, puts_same, puts_ne]
          exact ⟨vbool (dgB_n (fun hh => lb_nos hB hfm (by omega) (by omega) (hh.lb i (by omega) j (by omega)) c4)), eB⟩
         ·try simp only [decide_eq_true_eq, decide_eq_false_iff_not, beq_iff_eq, beq_eq_false_iff_ne, bne_iff_ne, ne_eq, Bool.not_eq_true', Bool.not_eq_false', Bool.and_eq_true, Bool.or_eq_true, bne_eq_false_iff_eq, Bool.or_eq_false_iff, Bool.and_eq_false_iff, in3_iff, in3_f] at c4
          refine den_skip ?_
          refine den_seq ?_
          refine den_region TTok ?_
          intro K hK
          simp -implicitDefEqProofs (disch := first | decide | assumption | omega) only [go_sem, wrap_id, cv_u8, cv_i64, Nat.zero_add, wrap_u8, eq_el, ne_el, build_el, Int.toNat_zero]
          refine hK _ _ ?_
          clear hK K
          refine den_block ?_
          refine den_sel [8, 1, 3, 4, 5, 6] ?_
          intro env_24
          simp only [go_sem]
          refine den_loopS (σ := Nat) (fun st_ => [(8, .int .i64 (st_ : Int))]) (fun st_ H => ((st_ : Int) ≤ X.s) ∧ (∀ m : Nat, m < st_ → AsF X i j m) ∧ (Ext h13_19 H)) (fun st_ => X.s.toNat - st_) 0 ?_ ?_
          ·exact ⟨by omega, fun b h => by omega, Ext.refl _⟩
          ·rintro k h27 ee26 ⟨hk, hzk, cL25⟩
           replace hb0_0 := BoxAt.ext hb0_0 cL25
           replace hb6_9 := BoxAt.ext hb6_9 cL25
           have := Ext.size cL25
           replace eB := Ext.trans eB cL25
           replace cL2 := Ext.trans cL2 cL25
           replace cL16 := Ext.trans cL16 cL25
           simp only [List.cons_append, List.nil_append]
           refine den_seq ?_
           refine den_seq ?_
           refine den_region TTok ?_
           intro K hK
           simp -implicitDefEqProofs (disch := first | decide | assumption | omega) only [go_sem, fa34_1, ld2, BoxAt.dgL hb0_0, BoxAt.dgP hb0_0, BoxAt.dgS hb0_0, BoxAt.dgDeg hb0_0, BoxAt.dgLev hb0_0, BoxAt.dgDeg0 hb0_0, BoxAt.dgLev0 hb0_0, BoxAt.dgDifL hb0_0, BoxAt.dgTabL hb0_0, BoxAt.dgTabL0 hb0_0, BoxAt.dgTabL1 hb0_0, BoxAt.dgTabL1' hb0_0, BoxAt.dgDifB hb0_0, BoxAt.dgTabB hb0_0, wrap_id, cv_u8, cv_i64, Nat.zero_add, wrap_u8, eq_el, ne_el, build_el, Int.toNat_zero]
           refine hK _ _ ?_
           clear hK K
           refine den_cond rfl (fun c5 => ?_) (fun c5 => ?_)
           ·try simp only [decide_eq_true_eq, decide_eq_false_iff_not, beq_iff_eq, beq_eq_false_iff_ne, bne_iff_ne, ne_eq, Bool.not_eq_true', Bool.not_eq_false', Bool.and_eq_true, Bool.or_eq_true, bne_eq_false_iff_eq, Bool.or_eq_false_iff, Bool.and_eq_false_iff, in3_iff, in3_f] at c5
            refine den_skip ?_
            refine den_seq ?_
            refine den_block ?_
            refine den_seq ?_
            refine den_draw TTok mixed [] [(0, true), (1, true), (2, true), (3, true), (4, true), (5, true), (6, true), (7, true), (10, true), (11, true), (12, true), (13, true), (14, true), (15, true), (16, true), (17, true), (8, false), (9, false), (18, false), (19, true)] (by kernel_rfl) ?_
            intro K hK
            simp -implicitDefEqProofs (disch := first | decide | assumption | omega) only [go_sem, Int.toNat_zero, fa34_5, ia32, ia31, BoxAt.dgL hb0_0, BoxAt.dgP hb0_0, BoxAt.dgS hb0_0, BoxAt.dgDeg hb0_0, BoxAt.dgLev hb0_0, BoxAt.dgDeg0 hb0_0, BoxAt.dgLev0 hb0_0, BoxAt.dgDifL hb0_0, BoxAt.dgTabL hb0_0, BoxAt.dgTabL0 hb0_0, BoxAt.dgTabL1 hb0_0, BoxAt.dgTabL1' hb0_0, BoxAt.dgDifB hb0_0, BoxAt.dgTabB hb0_0, BoxAt.elC hb6_9, BoxAt.elL hb6_9, wrap_id, cv_u8, cv_i64, Nat.zero_add, wrap_u8, eq_el, ne_el, build_el, Int.toNat_zero]
            try simp -implicitDefEqProofs (disch := first | decide | assumption | omega) only [go_sem, wrap_id, cv_u8, cv_i64, Nat.zero_add, wrap_u8, eq_el, ne_el, build_el, Int.toNat_zero]
            refine CallA.mono (sUni_ok  (k : Int) _  (by omega)) ?_
            intro v_ h18_8
            rintro ⟨rfl, e18_8⟩
            replace hb0_0 := BoxAt.ext hb0_0 e18_8
            replace hb6_9 := BoxAt.ext hb6_9 e18_8
            have := Ext.size e18_8
            replace eB := Ext.trans eB e18_8
            replace cL2 := Ext.trans cL2 e18_8
            replace cL16 := Ext.trans cL16 e18_8
            replace cL25 := Ext.trans cL25 e18_8
            try simp (disch := decide) only [outv_some, outv_none, put_puts]
            refine plK_pres (Ext.pres e18_8) ?_
            try simp -implicitDefEqProofs (disch := first | decide | assumption | omega) only [go_sem, wrap_id, cv_u8, cv_i64, Nat.zero_add, wrap_u8, eq_el, ne_el, build_el, Int.toNat_zero]
            try simp -implicitDefEqProofs (disch := first | decide | assumption | omega) only [go_sem, wrap_id, cv_u8, cv_i64, Nat.zero_add, wrap_u8, eq_el, ne_el, build_el, Int.toNat_zero]
            refine CallA.mono (sTms_ok  X ((X.tab i) j) (e8 k) _  hpG (by omega) (by first | assumption | exact e8_by _ | exact By.z8 | exact hBd _ | exact hBt _ _ | exact tmJ_by (by omega) (tmI_by (by omega) _) _ | exact timesP_by (by omega) | exact dfI_by (by omega) _ | exact plusN_by (by omega) (timesP_by (by omega)) | exact dfI_by (by omega) 8) (by first | assumption | exact e8_by _ | exact By.z8 | exact hBd _ | exact hBt _ _ | exact tmJ_by (by omega) (tmI_by (by omega) _) _ | exact timesP_by (by omega) | exact dfI_by (by omega) _ | exact plusN_by (by omega) (timesP_by (by omega)) | exact dfI_by (by omega) 8) hBt (by first | assumption | exact e8_lt (by omega) _ | exact z8_lt (by omega) | exact hB7 _ (by omega) | exact hB8 _ _ (by omega) (by omega) | exact tms_lt (by omega) | exact dfs_lt (by omega)) (by first | assumption | exact e8_lt (by omega) _ | exact z8_lt (by omega) | exact hB7 _ (by omega) | exact hB8 _ _ (by omega) (by omega) | exact tms_lt (by omega) | exact dfs_lt (by omega))) ?_
            intro v_ h18_9
            rintro ⟨rfl, e18_9⟩
            replace hb0_0 := BoxAt.ext hb0_0 e18_9
            replace hb6_9 := BoxAt.ext hb6_9 e18_9
            have := Ext.size e18_9
            replace eB := Ext.trans eB e18_9
            replace cL2 := Ext.trans cL2 e18_9
            replace cL16 := Ext.trans cL16 e18_9
            replace cL25 := Ext.trans cL25 e18_9
            try simp (disch := decide) only [outv_some, outv_none, put_puts]
            refine plK_pres (Ext.pres e18_9) ?_
            try simp -implicitDefEqProofs (disch := first | decide | assumption | omega) only [go_sem, wrap_id, cv_u8, cv_i64, Nat.zero_add, wrap_u8, eq_el, ne_el, build_el, Int.toNat_zero]
            try simp -implicitDefEqProofs (disch := first | decide | assumption | omega) only [go_sem, wrap_id, cv_u8, cv_i64, Nat.zero_add, wrap_u8, eq_el, ne_el, build_el, Int.toNat_zero]
            refine CallA.mono (sTms_ok  X (e8 i) ((X.tab j) k) _  hpG (by omega) (by first | assumption | exact e8_by _ | exact By.z8 | exact hBd _ | exact hBt _ _ | exact tmJ_by (by omega) (tmI_by (by omega) _) _ | exact timesP_by (by omega) | exact dfI_by (by omega) _ | exact plusN_by (by omega) (timesP_by (by omega)) | exact dfI_by (by omega) 8) (by first | assumption | exact e8_by _ | exact By.z8 | exact hBd _ | exact hBt _ _ | exact tmJ_by (by omega) (tmI_by (by omega) _) _ | exact timesP_by (by omega) | exact dfI_by (by omega) _ | exact plusN_by (by omega) (timesP_by (by omega)) | exact dfI_by (by omega) 8) hBt (by first | assumption | exact e8_lt (by omega) _ | exact z8_lt (by omega) | exact hB7 _ (by omega) | exact hB8 _ _ (by omega) (by omega) | exact tms_lt (by omega) | exact dfs_lt (by omega)) (by first | assumption | exact e8_lt (by omega) _ | exact z8_lt (by omega) | exact hB7 _ (by omega) | exact hB8 _ _ (by omega) (by omega) | exact tms_lt (by omega) | exact dfs_lt (by omega))) ?_
            intro v_ h18_18
            rintro ⟨rfl, e18_18⟩
            replace hb0_0 := BoxAt.ext hb0_0 e18_18
            replace hb6_9 := BoxAt.ext hb6_9 e18_18
            have := Ext.size e18_18
            replace eB := Ext.trans eB e18_18
            replace cL2 := Ext.trans cL2 e18_18
            replace cL16 := Ext.trans cL16 e18_18
            replace cL25 := Ext.trans cL25 e18_18
            try simp (disch := decide) only [outv_some, outv_none, put_puts]
            refine plK_pres (Ext.pres e18_18) ?_
            try simp -implicitDefEqProofs (disch := first | decide | assumption | omega) only [go_sem, wrap_id, cv_u8, cv_i64, Nat.zero_add, wrap_u8, eq_el, ne_el, build_el, Int.toNat_zero]
            refine hK _ _ ?_
            clear hK K
            refine den_cond rfl (fun c6 => ?_) (fun c6 => ?_)
            ·try simp only [decide_eq_true_eq, decide_eq_false_iff_not, beq_iff_eq, beq_eq_false_iff_ne, bne_iff_ne, ne_eq, Bool.not_eq_true', Bool.not_eq_false', Bool.and_eq_true, Bool.or_eq_true, bne_eq_false_iff_eq, Bool.or_eq_false_iff, Bool.and_eq_false_iff, in3_iff, in3_f] at c6
             refine den_seq ?_
             refine den_region TTok ?_
             intro K hK
             simp -implicitDefEqProofs (disch := first | decide | assumption | omega) only [go_sem, wrap_id, cv_u8, cv_i64, Nat.zero_add, wrap_u8, eq_el, ne_el, build_el, Int.toNat_zero]
             refine hK _ _ ?_
             clear hK K
             refine den_ret ?_
             simp (disch := decide) only [resP_1, puts_same, puts_ne]
             exact ⟨vbool (dgB_n (fun hh => ac_nos hB hfm (by omega) (by omega) (by omega) (hh.ac i (by omega) j (by omega) k (by omega)) c6)), eB⟩
            ·try simp only [decide_eq_true_eq, decide_eq_false_iff_not, beq_iff_eq, beq_eq_false_iff_ne, bne_iff_ne, ne_eq, Bool.not_eq_true', Bool.not_eq_false', Bool.and_eq_true, Bool.or_eq_true, bne_eq_false_iff_eq, Bool.or_eq_false_iff, Bool.and_eq_false_iff, in3_iff, in3_f] at c6
             refine den_skip ?_
             refine den_blk ?_
             refine den_region TTok ?_
             intro K hK
             simp -implicitDefEqProofs (disch := first | decide | assumption | omega) only [go_sem, wrap_id, cv_u8, cv_i64, Nat.zero_add, wrap_u8, eq_el, ne_el, build_el, Int.toNat_zero]
             refine hK _ _ ?_
             clear hK K
             refine den_stop ?_
             exact ⟨k + 1, by simp [HasL, puts_at], ⟨by first | omega | (dsimp only; omega), fun m hm => by
 by_cases hab : m < k
 ·exact hzk m hab
 ·have e : m = k := by omega
  subst e
  exact (ac_sp hB hfm (by omega) (by omega) (by omega)).2 c6, cL25⟩, by first | omega | (dsimp only; omega)⟩
           ·try simp only [decide_eq_true_eq, decide_eq_false_iff_not, beq_iff_eq, beq_eq_false_iff_ne, bne_iff_ne, ne_eq, Bool.not_eq_true', Bool.not_eq_false', Bool.and_eq_true, Bool.or_eq_true, bne_eq_false_iff_eq, Bool.or_eq_false_iff, Bool.and_eq_false_iff, in3_iff, in3_f] at c5
            refine den_exit ?_
            refine denX_code ?_
            refine denX_stop ?_
            refine denX_hit ?_
            refine den_blk ?_
            refine den_region TTok ?_
            intro K hK
            simp -implicitDefEqProofs (disch := first | decide | assumption | omega) only [go_sem, wrap_id, cv_u8, cv_i64, Nat.zero_add, wrap_u8, eq_el, ne_el, build_el, Int.toNat_zero]
            refine hK _ _ ?_
            clear hK K
            refine den_stop ?_
            exact ⟨j + 1, by simp [HasL, puts_at], ⟨by first | omega | (dsimp only; omega), fun b hb => by
 by_cases hab : b < j
 ·exact hzj b hab
 ·have e : b = j := by omega
  subst e
  exact ⟨(lb_sp hB hfm (by omega) (by omega)).2 c4, fun k hk => hzk k (by omega)⟩, cL16⟩, by first | omega | (dsimp only; omega)⟩
       ·try simp only [decide_eq_true_eq, decide_eq_false_iff_not, beq_iff_eq, beq_eq_false_iff_ne, bne_iff_ne, ne_eq, Bool.not_eq_true', Bool.not_eq_false', Bool.and_eq_true, Bool.or_eq_true, bne_eq_false_iff_eq, Bool.or_eq_false_iff, Bool.and_eq_false_iff, in3_iff, in3_f] at c3
        refine den_exit ?_
        refine denX_code ?_
        refine denX_stop ?_
        refine denX_hit ?_
        refine den_blk ?_
        refine den_region TTok ?_
        intro K hK
        simp -implicitDefEqProofs (disch := first | decide | assumption | omega) only [go_sem, wrap_id, cv_u8, cv_i64, Nat.zero_add, wrap_u8, eq_el, ne_el, build_el, Int.toNat_zero]
        refine hK _ _ ?_
        clear hK K
        refine den_stop ?_
        exact ⟨i + 1, by simp [HasL, puts_at], ⟨by first | omega | (dsimp only; omega), fun a ha => by
 by_cases hai : a < i
 ·exact hz a hai
 ·have e : a = i := by omega
  subst e
  exact ⟨(un_sp hB hfm (by omega)).2 c2, fun b hb => hzj b (by omega)⟩, cL2⟩, by first | omega | (dsimp only; omega)⟩
   ·try simp only [decide_eq_true_eq, decide_eq_false_iff_not, beq_iff_eq, beq_eq_false_iff_ne, bne_iff_ne, ne_eq, Bool.not_eq_true', Bool.not_eq_false', Bool.and_eq_true, Bool.or_eq_true, bne_eq_false_iff_eq, Bool.or_eq_false_iff, Bool.and_eq_false_iff, in3_iff, in3_f] at c1
    refine den_exit ?_
    refine denX_code ?_
    refine denX_stop ?_
    refine denX_hit ?_
    refine den_seq ?_
    refine den_region TTok ?_
    intro K hK
    simp -implicitDefEqProofs (disch := first | decide | assumption | omega) only [go_sem, wrap_id, cv_u8, cv_i64, Nat.zero_add, wrap_u8, eq_el, ne_el, build_el, Int.toNat_zero]
    refine hK _ _ ?_
    clear hK K
    refine den_ret ?_
    simp (disch := decide) only [resP_1, puts_same, puts_ne]
    exact ⟨vbool (dgB_y ⟨fmB_t.1 c0, fun i hi => (hz i (by omega)).1, fun i hi j hj => ((hz i (by omega)).2 j hj).1, fun i hi j hj k hk => ((hz i (by omega)).2 j hj).2 k hk⟩), eB⟩
end Go.Proofs.Ytacajcjibhifmaa

namespace Go.Proofs.Ytacajcjibhifmaa
open Go
theorem lenNE : lenV TT 117 (.slice none 0 0) = some (.int .i64 0) := by kernel_rfl

set_option maxRecDepth 100000 in
theorem sCd_ok (X : Dg) (h : Heap) (hB : DgB X) : CallA Try.prog 38 #[.agg (dgA X), .slice none 0 0] h fun v' h' => v' = .int .i64 (if dgB X = true then 0 else 1) ∧ Ext h h' := by
 refine callA_intro TTok (args := [_, _]) Try.func38 (by kernel_rfl) rfl 25 rfl (by simp) [.tmp 4] rfl ?_
 simp only [idxs, Nat.reduceAdd]
 refine den_seq ?_
 refine den_region TTok ?_
 intro K hK
 simp -implicitDefEqProofs (disch := first | decide | assumption | omega) only [go_sem, wrap_id, lenNE, cv_u8, cv_i64, Nat.zero_add, wrap_u8, eq_el, ne_el, build_el, Int.toNat_zero]
 refine op_box (cs := dgA X) rfl ?_
 intro h0_0 e0_0 hb0_0 z0_0
 have := Ext.size e0_0
 have eB := e0_0
 have hfhb0_0 : Fresh h.size [h.size] := Fresh.one _
 have hlhb0_0 := one_lt (show h.size < h0_0.size by omega)
 try simp -implicitDefEqProofs (disch := first | decide | assumption | omega) only [go_sem, wrap_id, lenNE, cv_u8, cv_i64, Nat.zero_add, wrap_u8, eq_el, ne_el, build_el, Int.toNat_zero]
 refine hK _ _ ?_
 clear hK K
 refine den_seq ?_
 refine den_seq ?_
 refine den_region TTok ?_
 intro K hK
 simp -implicitDefEqProofs (disch := first | decide | assumption | omega) only [go_sem, BoxAt.dgL hb0_0, BoxAt.dgP hb0_0, BoxAt.dgS hb0_0, BoxAt.dgDeg hb0_0, BoxAt.dgLev hb0_0, BoxAt.dgDeg0 hb0_0, BoxAt.dgLev0 hb0_0, BoxAt.dgDifL hb0_0, BoxAt.dgTabL hb0_0, BoxAt.dgTabL0 hb0_0, BoxAt.dgTabL1 hb0_0, BoxAt.dgTabL1' hb0_0, BoxAt.dgDifB hb0_0, BoxAt.dgTabB hb0_0, wrap_id, lenNE, cv_u8, cv_i64, Nat.zero_add, wrap_u8, eq_el, ne_el, build_el, Int.toNat_zero]
 try simp -implicitDefEqProofs (disch := first | decide | assumption | omega) only [go_sem, wrap_id, lenNE, cv_u8, cv_i64, Nat.zero_add, wrap_u8, eq_el, ne_el, build_el, Int.toNat_zero]
 refine CallA.mono (sDg_ok  X _  hB) ?_
 intro v_ h1_1
 rintro ⟨rfl, e1_1⟩
 replace hb0_0 := BoxAt.ext hb0_0 e1_1
 have := Ext.size e1_1
 replace eB := Ext.trans eB e1_1
 try simp -implicitDefEqProofs (disch := first | decide | assumption | omega) only [go_sem, wrap_id, lenNE, cv_u8, cv_i64, Nat.zero_add, wrap_u8, eq_el, ne_el, build_el, Int.toNat_zero]
 refine hK _ _ ?_
 clear hK K
 refine den_cond rfl (fun c0 => ?_) (fun c0 => ?_)
 ·try simp only [decide_eq_true_eq, decide_eq_false_iff_not, beq_iff_eq, beq_eq_false_iff_ne, bne_iff_ne, ne_eq, Bool.not_eq_true', Bool.not_eq_false', Bool.and_eq_true, Bool.or_eq_true, bne_eq_false_iff_eq, Bool.not_eq_true, Bool.not_eq_false] at c0
  refine den_seq ?_
  refine den_region TTok ?_
  intro K hK
  simp -implicitDefEqProofs (disch := first | decide | assumption | omega) only [go_sem, wrap_id, lenNE, cv_u8, cv_i64, Nat.zero_add, wrap_u8, eq_el, ne_el, build_el, Int.toNat_zero]
  refine hK _ _ ?_
  clear hK K
  refine den_ret ?_
  simp (disch := decide) only [resP_1, puts_same, puts_ne]
  exact ⟨by rw [if_neg (by rw [c0]; decide)], eB⟩
 ·try simp only [decide_eq_true_eq, decide_eq_false_iff_not, beq_iff_eq, beq_eq_false_iff_ne, bne_iff_ne, ne_eq, Bool.not_eq_true', Bool.not_eq_false', Bool.and_eq_true, Bool.or_eq_true, bne_eq_false_iff_eq, Bool.not_eq_true, Bool.not_eq_false] at c0
  refine den_skip ?_
  refine den_seq ?_
  refine den_seq ?_
  refine den_region TTok ?_
  intro K hK
  simp -implicitDefEqProofs (disch := first | decide | assumption | omega) only [go_sem, wrap_id, lenNE, cv_u8, cv_i64, Nat.zero_add, wrap_u8, eq_el, ne_el, build_el, Int.toNat_zero]
  refine hK _ _ ?_
  clear hK K
  refine den_block ?_
  refine den_sel [5, 1, 2] ?_
  intro env_1
  simp only [go_sem]
  refine den_loopS (σ := Nat) (fun st_ => [(5, .int .i64 (st_ : Int))]) (fun st_ H => (st_ = 0) ∧ (Ext h1_1 H)) (fun st_ => 0) 0 ?_ ?_
  ·exact ⟨by first | (simp; done) | (dsimp only; omega) | (simp; omega), Ext.refl _⟩
  ·rintro k h4 ee3 ⟨hi0, cL2⟩
   replace hb0_0 := BoxAt.ext hb0_0 cL2
   have := Ext.size cL2
   replace eB := Ext.trans eB cL2
   simp only [List.cons_append, List.nil_append]
   refine den_seq ?_
   refine den_seq ?_
   refine den_region TTok ?_
   intro K hK
   simp -implicitDefEqProofs (disch := first | decide | assumption | omega) only [go_sem, wrap_id, lenNE, cv_u8, cv_i64, Nat.zero_add, wrap_u8, eq_el, ne_el, build_el, Int.toNat_zero]
   refine hK _ _ ?_
   clear hK K
   refine den_cond rfl (fun c1 => ?_) (fun c1 => ?_)
   ·try simp only [decide_eq_true_eq, decide_eq_false_iff_not, beq_iff_eq, beq_eq_false_iff_ne, bne_iff_ne, ne_eq, Bool.not_eq_true', Bool.not_eq_false', Bool.and_eq_true, Bool.or_eq_true, bne_eq_false_iff_eq, Bool.not_eq_true, Bool.not_eq_false] at c1
    exact absurd c1 (by omega)
   ·try simp only [decide_eq_true_eq, decide_eq_false_iff_not, beq_iff_eq, beq_eq_false_iff_ne, bne_iff_ne, ne_eq, Bool.not_eq_true', Bool.not_eq_false', Bool.and_eq_true, Bool.or_eq_true, bne_eq_false_iff_eq, Bool.not_eq_true, Bool.not_eq_false] at c1
    refine den_exit ?_
    refine denX_code ?_
    refine denX_stop ?_
    refine denX_hit ?_
    refine den_seq ?_
    refine den_region TTok ?_
    intro K hK
    simp -implicitDefEqProofs (disch := first | decide | assumption | omega) only [go_sem, wrap_id, lenNE, cv_u8, cv_i64, Nat.zero_add, wrap_u8, eq_el, ne_el, build_el, Int.toNat_zero]
    refine hK _ _ ?_
    clear hK K
    refine den_ret ?_
    simp (disch := decide) only [resP_1, puts_same, puts_ne]
    exact ⟨by rw [if_pos c0], eB⟩
end Go.Proofs.Ytacajcjibhifmaa

namespace Go.Proofs.Ytacajcjibhifmaa
open Go
def lvP (X : Fl) (n i : Int) : Int := (X.lv.getD n.toNat default).getD i.toNat 0
def goodP (X : Fl) (k i j : Nat) (v : Int) : Bool := (v == 0) || decide (lvP X (k : Int) (j : Int) ≤ lvP X ((k : Int) + 1) (i : Int))
def upJ (X : Fl) (k i : Nat) (row : List Int) (m : Nat) : Bool := (List.range m).all fun j => goodP X k i j (row.getD j 0)
def upI (X : Fl) (k : Nat) (R : List (List Int)) (m : Nat) : Bool := (List.range m).all fun i => upJ X k i (R.getD i default) (R.getD i default).length
def upK (X : Fl) (M : List (List (List Int))) (m : Nat) : Bool := (List.range m).all fun k => upI X k (M.getD k default) (M.getD k default).length
structure IsF (X : Fl) : Prop where
 c : IsC X.c
 ln : X.lv.length = X.c.dims.length
 rl : ∀ n, n < X.lv.length → ((X.lv.getD n default).length : Int) = X.c.dims.getD n 0
 rr : ∀ n, n < X.lv.length → (X.lv.getD n default).all (fun q => in3 q 0 5) = true
 up : upK X X.c.maps X.c.maps.length = true
end Go.Proofs.Ytacajcjibhifmaa

namespace Go.Proofs.Ytacajcjibhifmaa
open Go
section
variable {α : Type} {e : TypeId} {E : Heap → Value → α → List Nat → Prop} {h : Heap} {v : Value} {xs : List α} {fp : List Nat}
theorem Row.rowV {b c : Nat} {cur : Array Value} {fps : List (List Nat)} (r : Row e E h v xs b c cur fps) {j : Nat} {u : Value} (hu : cur[j]? = some u) : Go.Proofs.Ytacajcjibhifmaa.rowV h v j = u := by
 unfold Go.Proofs.Ytacajcjibhifmaa.rowV
 rw [r.val]
 simp only [sA]
 rw [addr_add, r.box.cell, Nat.zero_add, hu]; rfl
/-- Two elements: the one changed in place, the other stays. -/
theorem OS.two [Own E] [Inhabited α] (ho : OS e E h v xs fp) (hn : fp.Nodup) {i d : Nat} (hi : i < xs.length) (hd : d < xs.length) (hne : i ≠ d) : ∃ f, E h (rowV h v i) (xs.getD i default) f ∧ f.Nodup ∧ (∀ b ∈ f, b ∈ fp) ∧ (∀ h' x', Chg f h h' → E h' (rowV h v i) x' f → OS e E h' v (xs.set i x') fp) ∧ ∀ h', Chg f h h' → ∃ g, E h' (rowV h v d) (xs.getD d default) g := by
 have hel := OS.elem ho hn i hi
 rcases ho with ⟨_, rfl, _⟩ | ⟨b, c, cur, fps, rfl, r⟩
 ·simp at hi
 ·obtain ⟨u, f, h1, h2, h4⟩ := r.el i hi
  obtain ⟨u', f', k1, k2, k4⟩ := r.el d hd
  obtain ⟨hb, hfl⟩ := List.nodup_cons.1 hn
  have hfn := List.pairwise_flatten.1 hfl
  have hfm : f ∈ fps := List.mem_of_getElem? h2
  have hxi : xs.getD i default = xs[i] := by rw [List.getD_eq_getElem?_getD, List.getElem?_eq_getElem hi]; rfl
  have hxd : xs.getD d default = xs[d] := by rw [List.getD_eq_getElem?_getD, List.getElem?_eq_getElem hd]; rfl
  have hjl : i < fps.length := (List.getElem?_eq_some_iff.1 h2).1
  have hil : d < fps.length := (List.getElem?_eq_some_iff.1 k2).1
  have e1 : fps[i] = f := (List.getElem?_eq_some_iff.1 h2).2
  have e2 : fps[d] = f' := (List.getElem?_eq_some_iff.1 k2).2
  have hp := List.pairwise_iff_getElem.1 hfn.2
  have hdis : ∀ q ∈ f', q ∉ f := fun q hq hqf => by
   rcases Nat.lt_or_gt_of_ne hne with hlt | hgt
   ·have := hp i d hjl hil hlt
    rw [e1, e2] at this
    exact this _ hqf _ hq rfl
   ·have := hp d i hil hjl hgt
    rw [e1, e2] at this
    exact this _ hq _ hqf rfl
  have hsub : ∀ q ∈ f, q ∈ b :: fps.flatten := fun q hq => List.mem_cons_of_mem _ (List.mem_flatten.2 ⟨f, hfm, hq⟩)
  refine ⟨f, by rw [r.rowV h1, hxi]; exact h4, hfn.1 f hfm, hsub, fun h' x' hc hE => ?_, fun h' hc => ⟨f', ?_⟩⟩
  ·rw [r.rowV h1] at hE
   refine .inr ⟨b, c, cur, fps, rfl, ⟨by rw [List.length_set]; exact r.val, ?_, r.size, r.max, by rw [List.length_set]; exact r.le, by rw [List.length_set]; exact r.len, fun q hq => ?_⟩⟩
   ·have := hc.block b r.box.lt (fun hq => hb (List.mem_flatten.2 ⟨f, hfm, hq⟩))
    unfold BoxAt
    rw [this]; exact r.box
   ·rw [List.length_set] at hq
    by_cases hij : i = q
    ·subst hij
     exact ⟨u, f, h1, h2, by simpa using hE⟩
    ·obtain ⟨u2, f2, l1, l2, l4⟩ := r.el q hq
     refine ⟨u2, f2, l1, l2, ?_⟩
     rw [List.getElem_set_ne hij]
     refine Own.loc (fun z hz => hc.block z (Own.lt l4 z hz) fun hzf => ?_) l4
     have hql : q < fps.length := (List.getElem?_eq_some_iff.1 l2).1
     have e3 : fps[q] = f2 := (List.getElem?_eq_some_iff.1 l2).2
     rcases Nat.lt_or_gt_of_ne hij with hlt | hgt
     ·have := hp i q hjl hql hlt
      rw [e1, e3] at this
      exact this _ hzf _ hz rfl
     ·have := hp q i hql hjl hgt
      rw [e1, e3] at this
      exact this _ hz _ hzf rfl
  ·rw [r.rowV k1, hxd]
   exact Own.loc (fun z hz => hc.block z (Own.lt k4 z hz) (hdis z hz)) k4
end
section
variable {P : Program} {T : Tab} {n : Nat} {K : Env → Heap → Prop} {env : Env} {h : Heap} {d : Option Tmp} {ty : TypeId} {p : String} {a : Array Edge} {g : Option (Nat × Bool)} {t e : TypeId}
end
end Go.Proofs.Ytacajcjibhifmaa

namespace Go.Proofs.Ytacajcjibhifmaa
open Go
/-- A row that is one's own, or one that lies elsewhere and is told by its value alone. -/
def EB (h : Heap) (u : Value) (x : List Int × Option Value) (fp : List Nat) : Prop := (x.2 = none ∧ O1 h u x.1 fp) ∨ (x.2 = some u ∧ (u.oneCell' = true ∧ u.cells = #[u]) ∧ fp = [])
instance : Own EB := ⟨fun hl h => h.elim (fun a => .inl ⟨a.1, Own.loc hl a.2⟩) .inr, (fun h b hb => by
 rcases h with h | h
 ·exact Own.lt h.2 b hb
 ·rw [h.2.2] at hb; cases hb), (fun h => by
 rcases h with h | h
 ·exact Own.one h.2
 ·exact h.2.1)⟩
theorem EB.own {h : Heap} {u : Value} {x : List Int} {fp : List Nat} (ho : O1 h u x fp) : EB h u (x, none) fp := .inl ⟨rfl, ho⟩
abbrev O2B : Heap → Value → List (List Int × Option Value) → List Nat → Prop := OS 55 EB
theorem OB.nil {h : Heap} {v : Value} {fp : List Nat} (ho : O2 h v [] fp) : O2B h v [] fp := by
 rcases ho with ⟨h1, _, h3⟩ | ⟨b, c, cur, fps, rfl, r⟩
 ·exact .inl ⟨h1, rfl, h3⟩
 ·exact .inr ⟨b, c, cur, fps, rfl, ⟨r.val, r.box, r.size, r.max, r.le, r.len, fun j hj => by simp at hj⟩⟩
section
variable {p : Int} {L : List (List Int)} {own : List Int} {at_ pos : Nat} {vo : Value}
end
end Go.Proofs.Ytacajcjibhifmaa

namespace Go.Proofs.Ytacajcjibhifmaa
open Go
/-- A row that lies in other blocks, and reads the same wherever these are as they were. -/
def ESt (h0 : Heap) (fE : List Nat) (_ : Heap) (u : Value) (x : List Int) (fp : List Nat) : Prop := fp = [] ∧ (u.oneCell' = true ∧ u.cells = #[u]) ∧ ∀ h' : Heap, (∀ b ∈ fE, h'[b]? = h0[b]?) → R1 h' u x
instance {h0 : Heap} {fE : List Nat} : Own (ESt h0 fE) := ⟨fun _ h => h, (fun h b hb => by rw [h.1] at hb; cases hb), (fun h => h.2.1)⟩
abbrev O2S (h0 : Heap) (fE : List Nat) : Heap → Value → List (List Int) → List Nat → Prop := OS 55 (ESt h0 fE)
theorem O2S.nil {h0 : Heap} {fE : List Nat} {h : Heap} {v : Value} {fp : List Nat} (ho : O2 h v [] fp) : O2S h0 fE h v [] fp := by
 rcases ho with ⟨h1, _, h3⟩ | ⟨b, c, cur, fps, rfl, r⟩
 ·exact .inl ⟨h1, rfl, h3⟩
 ·exact .inr ⟨b, c, cur, fps, rfl, ⟨r.val, r.box, r.size, r.max, r.le, r.len, fun j hj => by simp at hj⟩⟩
theorem O2S.rd {h0 : Heap} {fE : List Nat} {h : Heap} {v : Value} {xs : List (List Int)} {fp : List Nat} (ho : O2S h0 fE h v xs fp) (hag : ∀ b ∈ fE, h[b]? = h0[b]?) : R2 h v xs := by
 rcases ho with ⟨rfl, rfl, _⟩ | ⟨b, c, cur, fps, _, r⟩
 ·exact ⟨none, 0, rfl, .inr rfl, by simp, by omega, fun j hj => by simp at hj⟩
 ·refine ⟨some ⟨b, 0, none⟩, c, r.val, .inl rfl, r.le, r.max, fun j hj => ?_⟩
  obtain ⟨u, f, h1, _, h4⟩ := r.el j hj
  refine ⟨u, ?_, h4.2.2 h hag⟩
  rw [r.val]
  simp only [sA]
  rw [addr_add, r.box.cell, Nat.zero_add, h1]
end Go.Proofs.Ytacajcjibhifmaa

namespace Go.Proofs.Ytacajcjibhifmaa
open Go
theorem map_takeL {α β : Type} {f : α → β} {xs : List α} {k : Nat} {d : α} (h : k < xs.length) : (xs.take k).map f ++ [f (xs.getD k d)] = (xs.take (k + 1)).map f := by
 rw [List.take_succ_eq_append_getElem h, List.map_append, List.getD_eq_getElem?_getD, List.getElem?_eq_getElem h]; rfl
theorem map_takeE {α β : Type} {f : α → β} {xs : List α} {k : Nat} (h : ¬ k < xs.length) : (xs.take k).map f = xs.map f := by rw [List.take_of_length_le (by omega)]
end Go.Proofs.Ytacajcjibhifmaa

namespace Go.Proofs.Ytacajcjibhifmaa
open Go
structure PvOk (X Y : Cx) (i : Int) (u : List Int) (j : Int) (v : List Int) : Prop where
 cX : IsC X
 cY : IsC Y
 p : 0 < X.p ∧ X.p ≤ 7
 ci : 0 ≤ i ∧ i ≤ (X.dims.length : Int) - 1
 cj : 0 ≤ j ∧ j ≤ (Y.dims.length : Int) - 1
 lX : X.dims.length ≤ 6
 lY : Y.dims.length ≤ 6
 cu : (u.length : Int) = dimP X i ∧ Bnd X.p u
 cv : (v.length : Int) = dimP Y j ∧ Bnd X.p v
end Go.Proofs.Ytacajcjibhifmaa

namespace Go.Proofs.Ytacajcjibhifmaa
open Go
section
variable {P : Program} {n : Nat} {K : Env → Heap → Prop} {env : Env} {h : Heap} {d : Option Tmp} {ty : TypeId} {p : String} {a : Array Edge} {g : Option (Nat × Bool)}
end
def famAt (X Y : Cx) (f : List (List (List Int))) (s : Int) (n : Nat) : Bool := tableP X.p (f.getD n default) (X.dims.getD n 0) (dimP Y ((n : Int) + s))
structure IsFam (X Y : Cx) (f : List (List (List Int))) (s : Int) : Prop where
 len : f.length = X.dims.length
 rows : ∀ n, n < f.length → famAt X Y f s n = true
theorem famAt_iff {X Y : Cx} {f : List (List (List Int))} {s : Int} {n : Nat} : famAt X Y f s n = true ↔ ((f.getD n default).length : Int) = X.dims.getD n 0 ∧ (f.getD n default).all (isRow X.p (dimP Y ((n : Int) + s))) = true := by
 simp only [famAt, tableP, Bool.and_eq_true, decide_eq_true_eq]
theorem IsFam.at {X Y : Cx} {f : List (List (List Int))} {s : Int} (h : IsFam X Y f s) {n : Nat} (hn : n < f.length) : ((f.getD n default).length : Int) = X.dims.getD n 0 ∧ Tbl X.p (dimP Y ((n : Int) + s)) (f.getD n default) := tableP_iff.1 (h.rows n hn)
theorem IsFam.row {X Y : Cx} {f : List (List (List Int))} {s : Int} (h : IsFam X Y f s) {n i : Nat} (hn : n < f.length) (hi : i < (f.getD n default).length) : isRow X.p (dimP Y ((n : Int) + s)) ((f.getD n default).getD i default) = true := all_at (d := default) (famAt_iff.1 (h.rows n hn)).2 hi
end Go.Proofs.Ytacajcjibhifmaa

namespace Go.Proofs.Ytacajcjibhifmaa
open Go
/-- What a round of the test of chain maps knows. -/
structure ChnR (X Y : Cx) (f : List (List (List Int))) (k i : Nat) : Prop where
 hi : i < (X.maps.getD k default).length
 ml : k < X.maps.length
 row : (((X.maps.getD k default).getD i default).length : Int) = X.dims.getD k 0 ∧ Bnd X.p ((X.maps.getD k default).getD i default)
 img : (((f.getD ((k : Int) + 1).toNat default).getD i default).length : Int) = Y.dims.getD ((k : Int) + 1).toNat 0 ∧ Bnd Y.p ((f.getD ((k : Int) + 1).toNat default).getD i default)
end Go.Proofs.Ytacajcjibhifmaa

namespace Go.Proofs.Ytacajcjibhifmaa
open Go
structure SumOk (p : Int) (f g : List (List (List Int))) : Prop where
 len : f.length = g.length ∧ f.length ≤ 6
 rows : ∀ n, n < f.length → (f.getD n default).length = (g.getD n default).length ∧ (f.getD n default).length ≤ 8
 row : ∀ n i, n < f.length → i < (f.getD n default).length → ((f.getD n default).getD i default).length = ((g.getD n default).getD i default).length ∧ ((f.getD n default).getD i default).length ≤ 8 ∧ Bnd p ((f.getD n default).getD i default) ∧ Bnd p ((g.getD n default).getD i default)
end Go.Proofs.Ytacajcjibhifmaa

namespace Go.Proofs.Ytacajcjibhifmaa
open Go
/-- A row that is one's own, or one that lies in other blocks. -/
def EM (h0 : Heap) (fE : List Nat) (h : Heap) (u : Value) (x : List Int) (fp : List Nat) : Prop := O1 h u x fp ∨ ESt h0 fE h u x fp
instance {h0 : Heap} {fE : List Nat} : Own (EM h0 fE) := ⟨fun hl h => h.elim (fun a => .inl (Own.loc hl a)) .inr, (fun h => h.elim Own.lt fun a b hb => by rw [a.1] at hb; cases hb), (fun h => h.elim Own.one fun a => a.2.1)⟩
abbrev O2M (h0 : Heap) (fE : List Nat) : Heap → Value → List (List Int) → List Nat → Prop := OS 55 (EM h0 fE)
theorem O2M.nil {h0 : Heap} {fE : List Nat} {h : Heap} {v : Value} {fp : List Nat} (ho : O2 h v [] fp) : O2M h0 fE h v [] fp := by
 rcases ho with ⟨h1, _, h3⟩ | ⟨b, c, cur, fps, rfl, r⟩
 ·exact .inl ⟨h1, rfl, h3⟩
 ·exact .inr ⟨b, c, cur, fps, rfl, ⟨r.val, r.box, r.size, r.max, r.le, r.len, fun j hj => by simp at hj⟩⟩
theorem O2M.rd {h0 : Heap} {fE : List Nat} {h : Heap} {v : Value} {xs : List (List Int)} {fp : List Nat} (ho : O2M h0 fE h v xs fp) (hag : Agr fE h0 h) : R2 h v xs := by
 rcases ho with ⟨rfl, rfl, _⟩ | ⟨b, c, cur, fps, _, r⟩
 ·exact ⟨none, 0, rfl, .inr rfl, by simp, by omega, fun j hj => by simp at hj⟩
 ·refine ⟨some ⟨b, 0, none⟩, c, r.val, .inl rfl, r.le, r.max, fun j hj => ?_⟩
  obtain ⟨u, f, h1, _, h4⟩ := r.el j hj
  refine ⟨u, ?_, h4.elim (fun a => OS.rd a) fun a => a.2.2 h hag⟩
  rw [r.val]
  simp only [sA]
  rw [addr_add, r.box.cell, Nat.zero_add, h1]
theorem ES.row {h : Heap} {vE : Value} {E : List (List Int)} {fE : List Nat} (hE : O2 h vE E fE) (hn : fE.Nodup) {i : Nat} (hi : i < E.length) {H : Heap} : ESt h fE H (rowV h vE i) (E.getD i default) [] := by
 obtain ⟨f, hO, hsub, _, _⟩ := OS.elem hE hn i hi
 exact ⟨rfl, Own.one hO, fun h' hg => OS.rd (show O1 h' (rowV h vE i) (E.getD i default) f from Own.loc (fun b hb => hg b (hsub b hb)) hO)⟩
structure RkOk (X Y : Cx) (f : List (List (List Int))) (n : Int) : Prop where
 cX : IsC X
 cY : IsC Y
 cf : IsFam X Y f 0
 p : X.p = Y.p
 n0 : 0 ≤ n
 n1 : n ≤ (X.dims.length : Int) - 1
end Go.Proofs.Ytacajcjibhifmaa

namespace Go.Proofs.Ytacajcjibhifmaa
open Go
theorem Agr.app {f1 f2 : List Nat} {h0 h : Heap} (a : Agr f1 h0 h) (b : Agr f2 h0 h) : Agr (f1 ++ f2) h0 h := fun x hx => (List.mem_append.1 hx).elim (a x) (b x)
theorem ESt.left {h0 : Heap} {f1 f2 : List Nat} {H : Heap} {u : Value} {x : List Int} {fp : List Nat} (h : ESt h0 f1 H u x fp) : ESt h0 (f1 ++ f2) H u x fp := ⟨h.1, h.2.1, fun h' g => h.2.2 h' (fun b hb => g b (List.mem_append_left _ hb))⟩
theorem ESt.right {h0 : Heap} {f1 f2 : List Nat} {H : Heap} {u : Value} {x : List Int} {fp : List Nat} (h : ESt h0 f2 H u x fp) : ESt h0 (f1 ++ f2) H u x fp := ⟨h.1, h.2.1, fun h' g => h.2.2 h' (fun b hb => g b (List.mem_append_right _ hb))⟩
end Go.Proofs.Ytacajcjibhifmaa

namespace Go.Proofs.Ytacajcjibhifmaa
open Go
theorem bF0 : buildV TT 61 [] = some (.agg #[.int .i64 0, .slice none 0 0, .slice none 0 0, .slice none 0 0]) := by kernel_rfl
theorem bF2 {v w x : Value} (hv : ∃ A n c, v = .slice A n c) (hw : ∃ A n c, w = .slice A n c) (hx : ∃ A n c, x = .slice A n c) (p : Int) : buildV TT 61 [(0, .agg #[.int .i64 p, v, w]), (1, x)] = some (.agg #[.int .i64 p, v, w, x]) := by
 obtain ⟨A, n, c, rfl⟩ := hv
 obtain ⟨A', n', c', rfl⟩ := hw
 obtain ⟨B, m, d, rfl⟩ := hx
 kernel_rfl
end Go.Proofs.Ytacajcjibhifmaa

namespace Go.Proofs.Ytacajcjibhifmaa
open Go
def mbT (X : Dg) (n : Int) (m : Nat) : List Int := ((List.range m).filter fun i : Nat => decide (X.deg i = n)).map fun i : Nat => (i : Int)
def mbP (X : Dg) (n : Int) : List Int := mbT X n X.s.toNat
theorem mbT_yes {X : Dg} {n : Int} {m : Nat} (h : X.deg m = n) : mbT X n m ++ [(m : Int)] = mbT X n (m + 1) := by
 unfold mbT
 rw [List.range_succ, List.filter_append, List.map_append]
 simp [h]
theorem mbT_no {X : Dg} {n : Int} {m : Nat} (h : ¬ X.deg m = n) : mbT X n m = mbT X n (m + 1) := by
 unfold mbT
 rw [List.range_succ, List.filter_append, List.map_append]
 simp [h]
theorem mbT_len (X : Dg) (n : Int) (m : Nat) : (mbT X n m).length ≤ m := by
 unfold mbT
 rw [List.length_map]
 exact Nat.le_trans (List.length_filter_le _ _) (by simp)
theorem mbP_len {X : Dg} (hs : 1 ≤ X.s ∧ X.s ≤ 8) (n : Int) : (mbP X n).length ≤ 8 := by
 have := mbT_len X n X.s.toNat
 unfold mbP; omega
theorem mb_at {X : Dg} {n : Int} {k : Nat} (hk : k < (mbP X n).length) : 0 ≤ (mbP X n).getD k 0 ∧ (mbP X n).getD k 0 < X.s ∧ X.deg ((mbP X n).getD k 0).toNat = n := by
 have h : (mbP X n)[k] ∈ mbP X n := List.getElem_mem hk
 obtain ⟨i, hi, e⟩ := List.mem_map.1 h
 rw [List.mem_filter, List.mem_range, decide_eq_true_eq] at hi
 have e2 : (mbP X n).getD k 0 = (i : Int) := by rw [List.getD_eq_getElem?_getD, List.getElem?_eq_getElem hk]; exact e.symm
 rw [e2, Int.toNat_natCast]
 exact ⟨by omega, by omega, hi.2⟩
def vcP (X : Dg) (n : Int) (u : Nat → Int) : List Int := (mbP X n).map fun z : Int => u z.toNat
def fcV (X : Dg) (n : Int) : List Int := (mbP X n).map fun z : Int => X.lev z.toNat
def fcR (X : Dg) (n : Int) : List (List Int) := (mbP X n).map fun z : Int => vcP X (n - 1) (X.dif z.toNat)
def fcD (X : Dg) (k : Nat) : List Int := (List.range k).map fun n : Nat => ((mbP X (n : Int)).length : Int)
def fcL (X : Dg) (k : Nat) : List (List Int) := (List.range k).map fun n : Nat => fcV X (n : Int)
def fcM (X : Dg) (k : Nat) : List (List (List Int)) := (List.range k).map fun m : Nat => fcR X ((m : Int) + 1)
def fcT (X : Dg) : Nat := (X.deg (X.s - 1).toNat + 1).toNat
def fcP (X : Dg) : Fl := ⟨⟨X.p, fcD X (fcT X), fcM X (fcT X - 1)⟩, fcL X (fcT X)⟩
theorem fcD_len (X : Dg) (k : Nat) : (fcD X k).length = k := by simp [fcD]
theorem fcL_len (X : Dg) (k : Nat) : (fcL X k).length = k := by simp [fcL]
theorem fcM_len (X : Dg) (k : Nat) : (fcM X k).length = k := by simp [fcM]
theorem fcD_step (X : Dg) (k : Nat) : fcD X k ++ [((mbP X (k : Int)).length : Int)] = fcD X (k + 1) := range_step (fun n : Nat => ((mbP X (n : Int)).length : Int)) k
theorem fcL_step (X : Dg) (k : Nat) : fcL X k ++ [fcV X (k : Int)] = fcL X (k + 1) := range_step (fun n : Nat => fcV X (n : Int)) k
theorem fcM_step {X : Dg} {n : Nat} (h : 1 ≤ n) : fcM X (n - 1) ++ [fcR X (n : Int)] = fcM X (n + 1 - 1) := by
 obtain ⟨m, rfl⟩ : ∃ m, n = m + 1 := ⟨n - 1, by omega⟩
 exact range_step (fun m : Nat => fcR X ((m : Int) + 1)) m

set_option maxRecDepth 100000 in
set_option maxHeartbeats 4000000 in
theorem iMb_ok (X : Dg) (n : Int) (h : Heap)  (hs : 1 ≤ X.s ∧ X.s ≤ 8) : CallA Try.prog 95 #[.agg (dgA X), .int .i64 n] h fun v' h' => ∃ w0 f0, v' = w0 ∧ O1 h' w0 (mbP X n) f0 ∧ Fresh h.size f0 ∧ Ext h h' := by
 refine callA_intro TTok (args := [_, _]) Try.func95 (by kernel_rfl) rfl 25 rfl (by simp) [.tmp 4] rfl ?_
 simp only [idxs, Nat.reduceAdd]
 refine den_seq ?_
 refine den_region TTok ?_
 intro K hK
 simp -implicitDefEqProofs (disch := first | decide | assumption | omega) only [go_sem, wrap_id, cv_u8, cv_i64, Nat.zero_add, wrap_u8, eq_el, ne_el, build_el, Int.toNat_zero]
 refine op_box (cs := dgA X) rfl ?_
 intro h0_0 e0_0 hb0_0 z0_0
 have := Ext.size e0_0
 have eB := e0_0
 have hfhb0_0 : Fresh h.size [h.size] := Fresh.one _
 have hlhb0_0 := one_lt (show h.size < h0_0.size by omega)
 try simp -implicitDefEqProofs (disch := first | decide | assumption | omega) only [go_sem, wrap_id, cv_u8, cv_i64, Nat.zero_add, wrap_u8, eq_el, ne_el, build_el, Int.toNat_zero]
 refine hK _ _ ?_
 clear hK K
 refine den_seq ?_
 refine den_region TTok ?_
 intro K hK
 simp -implicitDefEqProofs (disch := first | decide | assumption | omega) only [go_sem, wrap_id, cv_u8, cv_i64, Nat.zero_add, wrap_u8, eq_el, ne_el, build_el, Int.toNat_zero]
 refine op_bs0 sz55 OI ?_
 intro v1_0 h1_0 ho1_0 e1_0
 replace hb0_0 := BoxAt.ext hb0_0 e1_0
 have := Ext.size e1_0
 replace eB := Ext.trans eB e1_0
 have hfho1_0 : Fresh h0_0.size [h0_0.size] := Fresh.one _
 have hlho1_0 := OS.lt ho1_0
 try simp -implicitDefEqProofs (disch := first | decide | assumption | omega) only [go_sem, RdS.len (OS.rd ho1_0) sl55, RdS.idx (OS.rd ho1_0) sl55, R1.intN (OS.rd ho1_0), RdS.cells (OS.rd ho1_0), wrap_id, cv_u8, cv_i64, Nat.zero_add, wrap_u8, eq_el, ne_el, build_el, Int.toNat_zero]
 refine hK _ _ ?_
 clear hK K
 refine den_seq ?_
 refine den_seq ?_
 refine den_region TTok ?_
 intro K hK
 simp -implicitDefEqProofs (disch := first | decide | assumption | omega) only [go_sem, fa34_1, ld2, BoxAt.dgL hb0_0, BoxAt.dgP hb0_0, BoxAt.dgS hb0_0, BoxAt.dgDeg hb0_0, BoxAt.dgLev hb0_0, BoxAt.dgDeg0 hb0_0, BoxAt.dgLev0 hb0_0, BoxAt.dgDifL hb0_0, BoxAt.dgTabL hb0_0, BoxAt.dgTabL0 hb0_0, BoxAt.dgTabL1 hb0_0, BoxAt.dgTabL1' hb0_0, BoxAt.dgDifB hb0_0, BoxAt.dgTabB hb0_0, wrap_id, cv_u8, cv_i64, Nat.zero_add, wrap_u8, eq_el, ne_el, build_el, Int.toNat_zero]
 refine hK _ _ ?_
 clear hK K
 refine den_block ?_
 refine den_sel [5, 10, 1, 2, 9] ?_
 intro env_1
 simp only [go_sem]
 refine den_loopS (σ := Nat × Value × List Nat) (fun st_ => [(5, st_.2.1), (10, .int .i64 (st_.1 : Int))]) (fun st_ H => ((st_.1 : Int) ≤ X.s) ∧ (O1 H st_.2.1 (mbT X n st_.1) st_.2.2) ∧ (Fresh (h0_0.size) st_.2.2) ∧ (Sub [h0_0.size] h1_0.size st_.2.2) ∧ (Chg [h0_0.size] h1_0 H)) (fun st_ => X.s.toNat - st_.1) (0, v1_0, [h0_0.size]) ?_ ?_
 ·exact ⟨by omega, by show O1 _ _ [] _; exact ho1_0, hfho1_0, Sub.refl, Chg.refl _ _⟩
 ·rintro ⟨i, vhO, fphO⟩ h4 ee3 ⟨hi0, hO, hfhO, sbhO, cL2⟩
  dsimp only at hi0 hO hfhO sbhO cL2
  replace hb0_0 := BoxAt.chgA hb0_0 cL2 (apart_lt hlhb0_0 hfho1_0 (by omega))
  have := cL2.size
  replace eB := Ext.then eB cL2 (ge_of hfho1_0 (by omega))
  have hlhO := OS.lt hO
  simp only [List.cons_append, List.nil_append]
  have hkl := mbT_len X n i
  refine den_seq ?_
  refine den_region TTok ?_
  intro K hK
  simp -implicitDefEqProofs (disch := first | decide | assumption | omega) only [go_sem, wrap_id, cv_u8, cv_i64, Nat.zero_add, wrap_u8, eq_el, ne_el, build_el, Int.toNat_zero]
  refine hK _ _ ?_
  clear hK K
  refine den_seq ?_
  refine den_cond rfl (fun c0 => ?_) (fun c0 => ?_)
  ·try simp only [decide_eq_true_eq, decide_eq_false_iff_not, beq_iff_eq, beq_eq_false_iff_ne, bne_iff_ne, ne_eq, Bool.not_eq_true', Bool.not_eq_false', Bool.and_eq_true, Bool.or_eq_true, bne_eq_false_iff_eq] at c0
   refine den_skip ?_
   refine den_seq ?_
   refine den_block ?_
   refine den_seq ?_
   refine den_region TTok ?_
   intro K hK
   simp -implicitDefEqProofs (disch := first | decide | assumption | omega) only [go_sem, wrap_id, cv_u8, cv_i64, Nat.zero_add, wrap_u8, eq_el, ne_el, build_el, Int.toNat_zero]
   refine hK _ _ ?_
   clear hK K
   refine den_seq ?_
   refine den_region TTok ?_
   intro K hK
   simp -implicitDefEqProofs (disch := first | decide | assumption | omega) only [go_sem, Int.toNat_zero, fa34_2, ia22, ld2, BoxAt.dgL hb0_0, BoxAt.dgP hb0_0, BoxAt.dgS hb0_0, BoxAt.dgDeg hb0_0, BoxAt.dgLev hb0_0, BoxAt.dgDeg0 hb0_0, BoxAt.dgLev0 hb0_0, BoxAt.dgDifL hb0_0, BoxAt.dgTabL hb0_0, BoxAt.dgTabL0 hb0_0, BoxAt.dgTabL1 hb0_0, BoxAt.dgTabL1' hb0_0, BoxAt.dgDifB hb0_0, BoxAt.dgTabB hb0_0, wrap_id, cv_u8, cv_i64, Nat.zero_add, wrap_u8, eq_el, ne_el, build_el, Int.toNat_zero]
   refine hK _ _ ?_
   clear hK K
   refine den_cond rfl (fun c1 => ?_) (fun c1 => ?_)
   ·try simp only [decide_eq_true_eq, decide_eq_false_iff_not, beq_iff_eq, beq_eq_false_iff_ne, bne_iff_ne, ne_eq, Bool.not_eq_true', Bool.not_eq_false', Bool.and_eq_true, Bool.or_eq_true, bne_eq_false_iff_eq] at c1
    refine den_region TTok ?_
    intro K hK
    simp -implicitDefEqProofs (disch := first | decide | assumption | omega) only [go_sem, RdS.len (OS.rd hO) sl55, RdS.idx (OS.rd hO) sl55, R1.intN (OS.rd hO), RdS.cells (OS.rd hO), wrap_id, cv_u8, cv_i64, Nat.zero_add, wrap_u8, eq_el, ne_el, build_el, Int.toNat_zero]
    refine op_bs1 sz55 rfl rfl ?_
    try simp -implicitDefEqProofs (disch := first | decide | assumption | omega) only [go_sem, wrap_id, cv_u8, cv_i64, Nat.zero_add, wrap_u8, eq_el, ne_el, build_el, Int.toNat_zero]
    refine op_append1 sz55 hO hfhO.nodup ⟨rfl, rfl⟩ List.nodup_nil (Apart.nil _) (by first | omega | (simp; omega)) rfl rfl ?_
    intro v6_3 h6_3 fp6_3 ho6_3 hn6_3 hs6_3 c6_3
    have hsz6_3 := c6_3.size
    have hfho6_3 : Fresh h0_0.size fp6_3 := Fresh.appd hfhO (Fresh.nil h4.size) (by omega) (by omega) hn6_3 hs6_3
    have sb5 : Sub [h0_0.size] h1_0.size fp6_3 := Sub.grow sbhO Sub.nil (by omega) hs6_3
    replace hb0_0 := BoxAt.chgA hb0_0 c6_3 (apart_lt hlhb0_0 hfhO (by omega))
    have := c6_3.size
    replace eB := Ext.then eB c6_3 (ge_of hfhO (by omega))
    replace cL2 := Chg.step cL2 c6_3 sbhO
    have hlho6_3 := OS.lt ho6_3
    try simp -implicitDefEqProofs (disch := first | decide | assumption | omega) only [go_sem, RdS.len (OS.rd ho6_3) sl55, RdS.idx (OS.rd ho6_3) sl55, R1.intN (OS.rd ho6_3), RdS.cells (OS.rd ho6_3), wrap_id, cv_u8, cv_i64, Nat.zero_add, wrap_u8, eq_el, ne_el, build_el, Int.toNat_zero]
    refine hK _ _ ?_
    clear hK K
    refine den_blk ?_
    refine den_region TTok ?_
    intro K hK
    simp -implicitDefEqProofs (disch := first | decide | assumption | omega) only [go_sem, wrap_id, cv_u8, cv_i64, Nat.zero_add, wrap_u8, eq_el, ne_el, build_el, Int.toNat_zero]
    refine hK _ _ ?_
    clear hK K
    refine den_stop ?_
    first | rw [mbT_yes c1] at ho6_3 | rw [mbT_no c1] at ho6_3
    exact ⟨(i + 1, v6_3, fp6_3), by simp [HasL, puts_at], ⟨by first | omega | (dsimp only; omega), ho6_3, hfho6_3, sb5, cL2⟩, by first | omega | (dsimp only; omega)⟩
   ·try simp only [decide_eq_true_eq, decide_eq_false_iff_not, beq_iff_eq, beq_eq_false_iff_ne, bne_iff_ne, ne_eq, Bool.not_eq_true', Bool.not_eq_false', Bool.and_eq_true, Bool.or_eq_true, bne_eq_false_iff_eq] at c1
    refine den_skip ?_
    refine den_blk ?_
    refine den_region TTok ?_
    intro K hK
    simp -implicitDefEqProofs (disch := first | decide | assumption | omega) only [go_sem, wrap_id, cv_u8, cv_i64, Nat.zero_add, wrap_u8, eq_el, ne_el, build_el, Int.toNat_zero]
    refine hK _ _ ?_
    clear hK K
    refine den_stop ?_
    first | rw [mbT_yes c1] at hO | rw [mbT_no c1] at hO
    exact ⟨(i + 1, vhO, fphO), by simp [HasL, puts_at], ⟨by first | omega | (dsimp only; omega), hO, hfhO, sbhO, cL2⟩, by first | omega | (dsimp only; omega)⟩
  ·try simp only [decide_eq_true_eq, decide_eq_false_iff_not, beq_iff_eq, beq_eq_false_iff_ne, bne_iff_ne, ne_eq, Bool.not_eq_true', Bool.not_eq_false', Bool.and_eq_true, Bool.or_eq_true, bne_eq_false_iff_eq] at c0
   refine den_exit ?_
   refine denX_code ?_
   refine denX_stop ?_
   refine denX_hit ?_
   refine den_seq ?_
   refine den_region TTok ?_
   intro K hK
   simp -implicitDefEqProofs (disch := first | decide | assumption | omega) only [go_sem, RdS.len (OS.rd hO) sl55, RdS.idx (OS.rd hO) sl55, R1.intN (OS.rd hO), RdS.cells (OS.rd hO), wrap_id, cv_u8, cv_i64, Nat.zero_add, wrap_u8, eq_el, ne_el, build_el, Int.toNat_zero]
   refine hK _ _ ?_
   clear hK K
   refine den_ret ?_
   simp (disch := decide) only [resP_1, puts_same, puts_ne]
   rw [show i = X.s.toNat by omega] at hO
   change O1 _ _ (mbP X n) _ at hO
   exact ⟨_, _, rfl, hO, hfhO.mono (by omega), eB⟩

set_option maxRecDepth 100000 in
set_option maxHeartbeats 4000000 in
theorem sMb_ok (X : Dg) (n : Int) (h : Heap)  (hs : 1 ≤ X.s ∧ X.s ≤ 8) : CallA Try.prog 93 #[.agg (dgA X), .int .i64 n] h fun v' h' => ∃ w0 f0, v' = w0 ∧ O1 h' w0 (mbP X n) f0 ∧ Fresh h.size f0 ∧ Ext h h' := by
 refine callA_intro TTok (args := [_, _]) Try.func93 (by kernel_rfl) rfl 25 rfl (by simp) [.tmp 4] rfl ?_
 simp only [idxs, Nat.reduceAdd]
 refine den_seq ?_
 refine den_region TTok ?_
 intro K hK
 simp -implicitDefEqProofs (disch := first | decide | assumption | omega) only [go_sem, wrap_id, cv_u8, cv_i64, Nat.zero_add, wrap_u8, eq_el, ne_el, build_el, Int.toNat_zero]
 refine op_box (cs := dgA X) rfl ?_
 intro h0_0 e0_0 hb0_0 z0_0
 have := Ext.size e0_0
 have eB := e0_0
 have hfhb0_0 : Fresh h.size [h.size] := Fresh.one _
 have hlhb0_0 := one_lt (show h.size < h0_0.size by omega)
 try simp -implicitDefEqProofs (disch := first | decide | assumption | omega) only [go_sem, wrap_id, cv_u8, cv_i64, Nat.zero_add, wrap_u8, eq_el, ne_el, build_el, Int.toNat_zero]
 refine hK _ _ ?_
 clear hK K
 refine den_seq ?_
 refine den_region TTok ?_
 intro K hK
 simp -implicitDefEqProofs (disch := first | decide | assumption | omega) only [go_sem, wrap_id, cv_u8, cv_i64, Nat.zero_add, wrap_u8, eq_el, ne_el, build_el, Int.toNat_zero]
 refine op_bs0 sz55 OI ?_
 intro v1_0 h1_0 ho1_0 e1_0
 replace hb0_0 := BoxAt.ext hb0_0 e1_0
 have := Ext.size e1_0
 replace eB := Ext.trans eB e1_0
 have hfho1_0 : Fresh h0_0.size [h0_0.size] := Fresh.one _
 have hlho1_0 := OS.lt ho1_0
 try simp -implicitDefEqProofs (disch := first | decide | assumption | omega) only [go_sem, RdS.len (OS.rd ho1_0) sl55, RdS.idx (OS.rd ho1_0) sl55, R1.intN (OS.rd ho1_0), RdS.cells (OS.rd ho1_0), wrap_id, cv_u8, cv_i64, Nat.zero_add, wrap_u8, eq_el, ne_el, build_el, Int.toNat_zero]
 refine hK _ _ ?_
 clear hK K
 refine den_seq ?_
 refine den_seq ?_
 refine den_region TTok ?_
 intro K hK
 simp -implicitDefEqProofs (disch := first | decide | assumption | omega) only [go_sem, wrap_id, cv_u8, cv_i64, Nat.zero_add, wrap_u8, eq_el, ne_el, build_el, Int.toNat_zero]
 refine hK _ _ ?_
 clear hK K
 refine den_block ?_
 refine den_sel [5, 6, 1, 2] ?_
 intro env_1
 simp only [go_sem]
 refine den_loopS (σ := Nat × Value × List Nat) (fun st_ => [(5, st_.2.1), (6, .int .i64 (st_.1 : Int))]) (fun st_ H => ((st_.1 : Int) ≤ X.s) ∧ (O1 H st_.2.1 (mbT X n st_.1) st_.2.2) ∧ (Fresh (h0_0.size) st_.2.2) ∧ (Sub [h0_0.size] h1_0.size st_.2.2) ∧ (Chg [h0_0.size] h1_0 H)) (fun st_ => X.s.toNat - st_.1) (0, v1_0, [h0_0.size]) ?_ ?_
 ·exact ⟨by omega, by show O1 _ _ [] _; exact ho1_0, hfho1_0, Sub.refl, Chg.refl _ _⟩
 ·rintro ⟨i, vhO, fphO⟩ h4 ee3 ⟨hi0, hO, hfhO, sbhO, cL2⟩
  dsimp only at hi0 hO hfhO sbhO cL2
  replace hb0_0 := BoxAt.chgA hb0_0 cL2 (apart_lt hlhb0_0 hfho1_0 (by omega))
  have := cL2.size
  replace eB := Ext.then eB cL2 (ge_of hfho1_0 (by omega))
  have hlhO := OS.lt hO
  simp only [List.cons_append, List.nil_append]
  have hkl := mbT_len X n i
  refine den_seq ?_
  refine den_seq ?_
  refine den_region TTok ?_
  intro K hK
  simp -implicitDefEqProofs (disch := first | decide | assumption | omega) only [go_sem, fa34_1, ld2, BoxAt.dgL hb0_0, BoxAt.dgP hb0_0, BoxAt.dgS hb0_0, BoxAt.dgDeg hb0_0, BoxAt.dgLev hb0_0, BoxAt.dgDeg0 hb0_0, BoxAt.dgLev0 hb0_0, BoxAt.dgDifL hb0_0, BoxAt.dgTabL hb0_0, BoxAt.dgTabL0 hb0_0, BoxAt.dgTabL1 hb0_0, BoxAt.dgTabL1' hb0_0, BoxAt.dgDifB hb0_0, BoxAt.dgTabB hb0_0, wrap_id, cv_u8, cv_i64, Nat.zero_add, wrap_u8, eq_el, ne_el, build_el, Int.toNat_zero]
  refine hK _ _ ?_
  clear hK K
  refine den_cond rfl (fun c0 => ?_) (fun c0 => ?_)
  ·try simp only [decide_eq_true_eq, decide_eq_false_iff_not, beq_iff_eq, beq_eq_false_iff_ne, bne_iff_ne, ne_eq, Bool.not_eq_true', Bool.not_eq_false', Bool.and_eq_true, Bool.or_eq_true, bne_eq_false_iff_eq] at c0
   refine den_skip ?_
   refine den_seq ?_
   refine den_block ?_
   refine den_seq ?_
   refine den_region TTok ?_
   intro K hK
   simp -implicitDefEqProofs (disch := first | decide | assumption | omega) only [go_sem, Int.toNat_zero, fa34_2, ia22, ld2, BoxAt.dgL hb0_0, BoxAt.dgP hb0_0, BoxAt.dgS hb0_0, BoxAt.dgDeg hb0_0, BoxAt.dgLev hb0_0, BoxAt.dgDeg0 hb0_0, BoxAt.dgLev0 hb0_0, BoxAt.dgDifL hb0_0, BoxAt.dgTabL hb0_0, BoxAt.dgTabL0 hb0_0, BoxAt.dgTabL1 hb0_0, BoxAt.dgTabL1' hb0_0, BoxAt.dgDifB hb0_0, BoxAt.dgTabB hb0_0, wrap_id, cv_u8, cv_i64, Nat.zero_add, wrap_u8, eq_el, ne_el, build_el, Int.toNat_zero]
   refine hK _ _ ?_
   clear hK K
   refine den_cond rfl (fun c1 => ?_) (fun c1 => ?_)
   ·try simp only [decide_eq_true_eq, decide_eq_false_iff_not, beq_iff_eq, beq_eq_false_iff_ne, bne_iff_ne, ne_eq, Bool.not_eq_true', Bool.not_eq_false', Bool.and_eq_true, Bool.or_eq_true, bne_eq_false_iff_eq] at c1
    refine den_region TTok ?_
    intro K hK
    simp -implicitDefEqProofs (disch := first | decide | assumption | omega) only [go_sem, RdS.len (OS.rd hO) sl55, RdS.idx (OS.rd hO) sl55, R1.intN (OS.rd hO), RdS.cells (OS.rd hO), wrap_id, cv_u8, cv_i64, Nat.zero_add, wrap_u8, eq_el, ne_el, build_el, Int.toNat_zero]
    refine op_bs1 sz55 rfl rfl ?_
    try simp -implicitDefEqProofs (disch := first | decide | assumption | omega) only [go_sem, wrap_id, cv_u8, cv_i64, Nat.zero_add, wrap_u8, eq_el, ne_el, build_el, Int.toNat_zero]
    refine op_append1 sz55 hO hfhO.nodup ⟨rfl, rfl⟩ List.nodup_nil (Apart.nil _) (by first | omega | (simp; omega)) rfl rfl ?_
    intro v6_3 h6_3 fp6_3 ho6_3 hn6_3 hs6_3 c6_3
    have hsz6_3 := c6_3.size
    have hfho6_3 : Fresh h0_0.size fp6_3 := Fresh.appd hfhO (Fresh.nil h4.size) (by omega) (by omega) hn6_3 hs6_3
    have sb5 : Sub [h0_0.size] h1_0.size fp6_3 := Sub.grow sbhO Sub.nil (by omega) hs6_3
    replace hb0_0 := BoxAt.chgA hb0_0 c6_3 (apart_lt hlhb0_0 hfhO (by omega))
    have := c6_3.size
    replace eB := Ext.then eB c6_3 (ge_of hfhO (by omega))
    replace cL2 := Chg.step cL2 c6_3 sbhO
    have hlho6_3 := OS.lt ho6_3
    try simp -implicitDefEqProofs (disch := first | decide | assumption | omega) only [go_sem, RdS.len (OS.rd ho6_3) sl55, RdS.idx (OS.rd ho6_3) sl55, R1.intN (OS.rd ho6_3), RdS.cells (OS.rd ho6_3), wrap_id, cv_u8, cv_i64, Nat.zero_add, wrap_u8, eq_el, ne_el, build_el, Int.toNat_zero]
    refine hK _ _ ?_
    clear hK K
    refine den_blk ?_
    refine den_region TTok ?_
    intro K hK
    simp -implicitDefEqProofs (disch := first | decide | assumption | omega) only [go_sem, wrap_id, cv_u8, cv_i64, Nat.zero_add, wrap_u8, eq_el, ne_el, build_el, Int.toNat_zero]
    refine hK _ _ ?_
    clear hK K
    refine den_stop ?_
    first | rw [mbT_yes c1] at ho6_3 | rw [mbT_no c1] at ho6_3
    exact ⟨(i + 1, v6_3, fp6_3), by simp [HasL, puts_at], ⟨by first | omega | (dsimp only; omega), ho6_3, hfho6_3, sb5, cL2⟩, by first | omega | (dsimp only; omega)⟩
   ·try simp only [decide_eq_true_eq, decide_eq_false_iff_not, beq_iff_eq, beq_eq_false_iff_ne, bne_iff_ne, ne_eq, Bool.not_eq_true', Bool.not_eq_false', Bool.and_eq_true, Bool.or_eq_true, bne_eq_false_iff_eq] at c1
    refine den_skip ?_
    refine den_blk ?_
    refine den_region TTok ?_
    intro K hK
    simp -implicitDefEqProofs (disch := first | decide | assumption | omega) only [go_sem, wrap_id, cv_u8, cv_i64, Nat.zero_add, wrap_u8, eq_el, ne_el, build_el, Int.toNat_zero]
    refine hK _ _ ?_
    clear hK K
    refine den_stop ?_
    first | rw [mbT_yes c1] at hO | rw [mbT_no c1] at hO
    exact ⟨(i + 1, vhO, fphO), by simp [HasL, puts_at], ⟨by first | omega | (dsimp only; omega), hO, hfhO, sbhO, cL2⟩, by first | omega | (dsimp only; omega)⟩
  ·try simp only [decide_eq_true_eq, decide_eq_false_iff_not, beq_iff_eq, beq_eq_false_iff_ne, bne_iff_ne, ne_eq, Bool.not_eq_true', Bool.not_eq_false', Bool.and_eq_true, Bool.or_eq_true, bne_eq_false_iff_eq] at c0
   refine den_exit ?_
   refine denX_code ?_
   refine denX_stop ?_
   refine denX_hit ?_
   refine den_seq ?_
   refine den_region TTok ?_
   intro K hK
   simp -implicitDefEqProofs (disch := first | decide | assumption | omega) only [go_sem, RdS.len (OS.rd hO) sl55, RdS.idx (OS.rd hO) sl55, R1.intN (OS.rd hO), RdS.cells (OS.rd hO), wrap_id, cv_u8, cv_i64, Nat.zero_add, wrap_u8, eq_el, ne_el, build_el, Int.toNat_zero]
   refine hK _ _ ?_
   clear hK K
   refine den_ret ?_
   simp (disch := decide) only [resP_1, puts_same, puts_ne]
   rw [show i = X.s.toNat by omega] at hO
   change O1 _ _ (mbP X n) _ at hO
   exact ⟨_, _, rfl, hO, hfhO.mono (by omega), eB⟩

set_option maxRecDepth 100000 in
set_option maxHeartbeats 4000000 in
theorem sVc_ok (X : Dg) (n : Int) (u : Nat → Int) (h : Heap)  (hs : 1 ≤ X.s ∧ X.s ≤ 8) (hu : By u) : CallA Try.prog 94 #[.agg (dgA X), .int .i64 n, .agg (elA u)] h fun v' h' => ∃ w0 f0, v' = w0 ∧ O1 h' w0 (vcP X n u) f0 ∧ Fresh h.size f0 ∧ Ext h h' := by
 have hml := mbP_len hs n
 refine callA_intro TTok (args := [_, _, _]) Try.func94 (by kernel_rfl) rfl 31 rfl (by simp) [.tmp 6] rfl ?_
 simp only [idxs, Nat.reduceAdd]
 refine den_seq ?_
 refine den_region TTok ?_
 intro K hK
 simp -implicitDefEqProofs (disch := first | decide | assumption | omega) only [go_sem, wrap_id, cv_u8, cv_i64, Nat.zero_add, wrap_u8, eq_el, ne_el, build_el, Int.toNat_zero]
 refine op_box (cs := dgA X) rfl ?_
 intro h0_0 e0_0 hb0_0 z0_0
 have := Ext.size e0_0
 have eB := e0_0
 have hfhb0_0 : Fresh h.size [h.size] := Fresh.one _
 have hlhb0_0 := one_lt (show h.size < h0_0.size by omega)
 try simp -implicitDefEqProofs (disch := first | decide | assumption | omega) only [go_sem, wrap_id, cv_u8, cv_i64, Nat.zero_add, wrap_u8, eq_el, ne_el, build_el, Int.toNat_zero]
 refine op_box (cs := elA u) rfl ?_
 intro h0_1 e0_1 hb0_1 z0_1
 replace hb0_0 := BoxAt.ext hb0_0 e0_1
 have := Ext.size e0_1
 replace eB := Ext.trans eB e0_1
 have hfhb0_1 : Fresh h0_0.size [h0_0.size] := Fresh.one _
 have hlhb0_1 := one_lt (show h0_0.size < h0_1.size by omega)
 try simp -implicitDefEqProofs (disch := first | decide | assumption | omega) only [go_sem, wrap_id, cv_u8, cv_i64, Nat.zero_add, wrap_u8, eq_el, ne_el, build_el, Int.toNat_zero]
 refine hK _ _ ?_
 clear hK K
 refine den_seq ?_
 refine den_region TTok ?_
 intro K hK
 simp -implicitDefEqProofs (disch := first | decide | assumption | omega) only [go_sem, BoxAt.dgL hb0_0, BoxAt.dgP hb0_0, BoxAt.dgS hb0_0, BoxAt.dgDeg hb0_0, BoxAt.dgLev hb0_0, BoxAt.dgDeg0 hb0_0, BoxAt.dgLev0 hb0_0, BoxAt.dgDifL hb0_0, BoxAt.dgTabL hb0_0, BoxAt.dgTabL0 hb0_0, BoxAt.dgTabL1 hb0_0, BoxAt.dgTabL1' hb0_0, BoxAt.dgDifB hb0_0, BoxAt.dgTabB hb0_0, wrap_id, cv_u8, cv_i64, Nat.zero_add, wrap_u8, eq_el, ne_el, build_el, Int.toNat_zero]
 try simp -implicitDefEqProofs (disch := first | decide | assumption | omega) only [go_sem, wrap_id, cv_u8, cv_i64, Nat.zero_add, wrap_u8, eq_el, ne_el, build_el, Int.toNat_zero]
 refine CallA.mono (sMb_ok  X n _  (by omega)) ?_
 intro vw1_2_0 h1_2
 rintro ⟨zvw1_2_0, fw1_2_0, rfl, how1_2_0, hfw1_2_0, e1_2⟩
 replace hb0_0 := BoxAt.ext hb0_0 e1_2
 replace hb0_1 := BoxAt.ext hb0_1 e1_2
 have := Ext.size e1_2
 replace eB := Ext.trans eB e1_2
 have hlhow1_2_0 := OS.lt how1_2_0
 try simp -implicitDefEqProofs (disch := first | decide | assumption | omega) only [go_sem, wrap_id, cv_u8, cv_i64, Nat.zero_add, wrap_u8, eq_el, ne_el, build_el, Int.toNat_zero]
 refine op_bs0 sz55 OI ?_
 intro v1_3 h1_3 ho1_3 e1_3
 replace how1_2_0 := OS.ext how1_2_0 e1_3
 replace hb0_0 := BoxAt.ext hb0_0 e1_3
 replace hb0_1 := BoxAt.ext hb0_1 e1_3
 have := Ext.size e1_3
 replace eB := Ext.trans eB e1_3
 have hfho1_3 : Fresh h1_2.size [h1_2.size] := Fresh.one _
 have hlho1_3 := OS.lt ho1_3
 try simp -implicitDefEqProofs (disch := first | decide | assumption | omega) only [go_sem, RdS.len (OS.rd how1_2_0) sl55, RdS.idx (OS.rd how1_2_0) sl55, R1.intN (OS.rd how1_2_0), RdS.cells (OS.rd how1_2_0), RdS.len (OS.rd ho1_3) sl55, RdS.idx (OS.rd ho1_3) sl55, R1.intN (OS.rd ho1_3), RdS.cells (OS.rd ho1_3), wrap_id, cv_u8, cv_i64, Nat.zero_add, wrap_u8, eq_el, ne_el, build_el, Int.toNat_zero]
 refine hK _ _ ?_
 clear hK K
 refine den_seq ?_
 refine den_seq ?_
 refine den_region TTok ?_
 intro K hK
 simp -implicitDefEqProofs (disch := first | decide | assumption | omega) only [go_sem, wrap_id, cv_u8, cv_i64, Nat.zero_add, wrap_u8, eq_el, ne_el, build_el, Int.toNat_zero]
 refine hK _ _ ?_
 clear hK K
 refine den_block ?_
 refine den_sel [8, 9, 5, 7] ?_
 intro env_1
 simp only [go_sem]
 refine den_loopS (σ := Nat × Value × List Nat) (fun st_ => [(8, st_.2.1), (9, .int .i64 (st_.1 : Int))]) (fun st_ H => (st_.1 ≤ (mbP X n).length) ∧ (O1 H st_.2.1 (((mbP X n).take st_.1).map (fun z : Int => u z.toNat)) st_.2.2) ∧ (Fresh (h1_2.size) st_.2.2) ∧ (Sub [h1_2.size] h1_3.size st_.2.2) ∧ (Chg [h1_2.size] h1_3 H)) (fun st_ => (mbP X n).length - st_.1) (0, v1_3, [h1_2.size]) ?_ ?_
 ·exact ⟨by first | (simp; done) | (dsimp only; omega) | (simp; omega), by simpa using ho1_3, hfho1_3, Sub.refl, Chg.refl _ _⟩
 ·rintro ⟨k, vhO, fphO⟩ h4 ee3 ⟨hi0, hO, hfhO, sbhO, cL2⟩
  dsimp only at hi0 hO hfhO sbhO cL2
  replace how1_2_0 := OS.chg how1_2_0 cL2 (apart_lt hlhow1_2_0 hfho1_3 (by omega))
  replace hb0_1 := BoxAt.chgA hb0_1 cL2 (apart_lt hlhb0_1 hfho1_3 (by omega))
  have := cL2.size
  replace eB := Ext.then eB cL2 (ge_of hfho1_3 (by omega))
  have hlhO := OS.lt hO
  simp only [List.cons_append, List.nil_append]
  refine den_seq ?_
  refine den_seq ?_
  refine den_region TTok ?_
  intro K hK
  simp -implicitDefEqProofs (disch := first | decide | assumption | omega) only [go_sem, RdS.len (OS.rd how1_2_0) sl55, RdS.idx (OS.rd how1_2_0) sl55, R1.intN (OS.rd how1_2_0), RdS.cells (OS.rd how1_2_0), wrap_id, cv_u8, cv_i64, Nat.zero_add, wrap_u8, eq_el, ne_el, build_el, Int.toNat_zero]
  refine hK _ _ ?_
  clear hK K
  refine den_cond rfl (fun c0 => ?_) (fun c0 => ?_)
  ·try simp only [decide_eq_true_eq, decide_eq_false_iff_not, beq_iff_eq, beq_eq_false_iff_ne, bne_iff_ne, ne_eq, Bool.not_eq_true', Bool.not_eq_false', Bool.and_eq_true, Bool.or_eq_true, bne_eq_false_iff_eq] at c0
   refine den_skip ?_
   refine den_seq ?_
   refine den_block ?_
   have hat := mb_at (X := X) (n := n) (k := k) (by omega)
   have hui := hu ((mbP X n).getD k 0).toNat
   have hmt : (((mbP X n).take k).map (fun z : Int => u z.toNat)).length ≤ 8 := by rw [List.length_map, List.length_take]; omega
   refine den_region TTok ?_
   intro K hK
   simp -implicitDefEqProofs (disch := first | decide | assumption | omega) only [go_sem, Int.toNat_zero, T2, T5, ia30, ld2, ld5, RdS.len (OS.rd how1_2_0) sl55, RdS.idx (OS.rd how1_2_0) sl55, R1.intN (OS.rd how1_2_0), RdS.cells (OS.rd how1_2_0), RdS.len (OS.rd hO) sl55, RdS.idx (OS.rd hO) sl55, R1.intN (OS.rd hO), RdS.cells (OS.rd hO), BoxAt.elC hb0_1, BoxAt.elL hb0_1, wrap_id, cv_u8, cv_i64, Nat.zero_add, wrap_u8, eq_el, ne_el, build_el, Int.toNat_zero]
   refine op_bs1 sz55 rfl rfl ?_
   try simp -implicitDefEqProofs (disch := first | decide | assumption | omega) only [go_sem, wrap_id, cv_u8, cv_i64, Nat.zero_add, wrap_u8, eq_el, ne_el, build_el, Int.toNat_zero]
   refine op_append1 sz55 hO hfhO.nodup ⟨rfl, rfl⟩ List.nodup_nil (Apart.nil _) (by first | omega | (simp; omega)) rfl rfl ?_
   intro v5_9 h5_9 fp5_9 ho5_9 hn5_9 hs5_9 c5_9
   have hsz5_9 := c5_9.size
   have hfho5_9 : Fresh h1_2.size fp5_9 := Fresh.appd hfhO (Fresh.nil h4.size) (by omega) (by omega) hn5_9 hs5_9
   have sb5 : Sub [h1_2.size] h1_3.size fp5_9 := Sub.grow sbhO Sub.nil (by omega) hs5_9
   replace how1_2_0 := OS.chg how1_2_0 c5_9 (apart_lt hlhow1_2_0 hfhO (by omega))
   replace hb0_1 := BoxAt.chgA hb0_1 c5_9 (apart_lt hlhb0_1 hfhO (by omega))
   have := c5_9.size
   replace eB := Ext.then eB c5_9 (ge_of hfhO (by omega))
   replace cL2 := Chg.step cL2 c5_9 sbhO
   have hlho5_9 := OS.lt ho5_9
   try simp -implicitDefEqProofs (disch := first | decide | assumption | omega) only [go_sem, RdS.len (OS.rd ho5_9) sl55, RdS.idx (OS.rd ho5_9) sl55, R1.intN (OS.rd ho5_9), RdS.cells (OS.rd ho5_9), wrap_id, cv_u8, cv_i64, Nat.zero_add, wrap_u8, eq_el, ne_el, build_el, Int.toNat_zero]
   refine hK _ _ ?_
   clear hK K
   refine den_blk ?_
   refine den_region TTok ?_
   intro K hK
   simp -implicitDefEqProofs (disch := first | decide | assumption | omega) only [go_sem, wrap_id, cv_u8, cv_i64, Nat.zero_add, wrap_u8, eq_el, ne_el, build_el, Int.toNat_zero]
   refine hK _ _ ?_
   clear hK K
   refine den_stop ?_
   rw [map_takeL (f := fun z : Int => u z.toNat) (d := 0) (by omega)] at ho5_9
   exact ⟨(k + 1, v5_9, fp5_9), by simp [HasL, puts_at], ⟨by first | omega | (dsimp only; omega), ho5_9, hfho5_9, sb5, cL2⟩, by first | omega | (dsimp only; omega)⟩
  ·try simp only [decide_eq_true_eq, decide_eq_false_iff_not, beq_iff_eq, beq_eq_false_iff_ne, bne_iff_ne, ne_eq, Bool.not_eq_true', Bool.not_eq_false', Bool.and_eq_true, Bool.or_eq_true, bne_eq_false_iff_eq] at c0
   refine den_exit ?_
   refine denX_code ?_
   refine denX_stop ?_
   refine denX_hit ?_
   refine den_seq ?_
   refine den_region TTok ?_
   intro K hK
   simp -implicitDefEqProofs (disch := first | decide | assumption | omega) only [go_sem, RdS.len (OS.rd hO) sl55, RdS.idx (OS.rd hO) sl55, R1.intN (OS.rd hO), RdS.cells (OS.rd hO), wrap_id, cv_u8, cv_i64, Nat.zero_add, wrap_u8, eq_el, ne_el, build_el, Int.toNat_zero]
   refine hK _ _ ?_
   clear hK K
   refine den_ret ?_
   simp (disch := decide) only [resP_1, puts_same, puts_ne]
   rw [map_takeE (by omega)] at hO
   change O1 _ _ (vcP X n u) _ at hO
   exact ⟨_, _, rfl, hO, hfhO.mono (by omega), eB⟩

set_option maxRecDepth 100000 in
set_option maxHeartbeats 4000000 in
theorem sFc_ok (X : Dg) (h : Heap)  (hB : DgB X) (hfm : IsFm X) : CallA Try.prog 71 #[.agg (dgA X)] h fun v' h' => ∃ wd0 wm0 wv0 fd0 fm0 fv0, v' = .agg #[.int .i64 (fcP X).c.p, wd0, wm0, wv0] ∧ O1 h' wd0 (fcP X).c.dims fd0 ∧ O3 h' wm0 (fcP X).c.maps fm0 ∧ O2 h' wv0 (fcP X).lv fv0 ∧ Fresh h.size (fd0 ++ (fm0 ++ fv0)) ∧ Ext h h' := by
 have hBd := hB.dif
 have hs := hfm.s
 have htop := (hfm.row (X.s - 1).toNat (by omega)).deg
 have hT : (fcT X : Int) = X.deg (X.s - 1).toNat + 1 := by unfold fcT; omega
 refine callA_intro TTok (args := [_]) Try.func71 (by kernel_rfl) rfl 87 rfl (by simp) [.cell 2 61] rfl ?_
 simp only [idxs, Nat.reduceAdd]
 refine den_seq ?_
 refine den_region TTok ?_
 intro K hK
 simp -implicitDefEqProofs (disch := first | decide | assumption | omega) only [go_sem, wrap_id, cv_u8, cv_i64, Nat.zero_add, wrap_u8, eq_el, ne_el, build_el, Int.toNat_zero, bF0]
 refine op_box (cs := dgA X) rfl ?_
 intro h0_0 e0_0 hb0_0 z0_0
 have := Ext.size e0_0
 have eB := e0_0
 have hfhb0_0 : Fresh h.size [h.size] := Fresh.one _
 have hlhb0_0 := one_lt (show h.size < h0_0.size by omega)
 try simp -implicitDefEqProofs (disch := first | decide | assumption | omega) only [go_sem, wrap_id, cv_u8, cv_i64, Nat.zero_add, wrap_u8, eq_el, ne_el, build_el, Int.toNat_zero, bF0]
 refine op_alloc (cs := #[.int .i64 0, .slice none 0 0, .slice none 0 0, .slice none 0 0]) (by kernel_rfl) ?_
 intro h0_1 e0_1 hb0_1 z0_1
 replace hb0_0 := BoxAt.ext hb0_0 e0_1
 have := Ext.size e0_1
 replace eB := Ext.trans eB e0_1
 have hfhb0_1 : Fresh h0_0.size [h0_0.size] := Fresh.one _
 have hlhb0_1 := one_lt (show h0_0.size < h0_1.size by omega)
 try simp -implicitDefEqProofs (disch := first | decide | assumption | omega) only [go_sem, BoxAt.cell hb0_1, wrap_id, cv_u8, cv_i64, Nat.zero_add, wrap_u8, eq_el, ne_el, build_el, Int.toNat_zero, bF0]
 refine hK _ _ ?_
 clear hK K
 refine den_seq ?_
 refine den_region TTok ?_
 intro K hK
 simp -implicitDefEqProofs (disch := first | decide | assumption | omega) only [go_sem, fa34_0, ld2, BoxAt.dgL hb0_0, BoxAt.dgP hb0_0, BoxAt.dgS hb0_0, BoxAt.dgDeg hb0_0, BoxAt.dgLev hb0_0, BoxAt.dgDeg0 hb0_0, BoxAt.dgLev0 hb0_0, BoxAt.dgDifL hb0_0, BoxAt.dgTabL hb0_0, BoxAt.dgTabL0 hb0_0, BoxAt.dgTabL1 hb0_0, BoxAt.dgTabL1' hb0_0, BoxAt.dgDifB hb0_0, BoxAt.dgTabB hb0_0, wrap_id, cv_u8, cv_i64, Nat.zero_add, wrap_u8, eq_el, ne_el, build_el, Int.toNat_zero, bF0]
 refine op_bs0 sz55 OI ?_
 intro v1_2 h1_2 ho1_2 e1_2
 replace hb0_0 := BoxAt.ext hb0_0 e1_2
 replace hb0_1 := BoxAt.ext hb0_1 e1_2
 have := Ext.size e1_2
 replace eB := Ext.trans eB e1_2
 have hfho1_2 : Fresh h0_1.size [h0_1.size] := Fresh.one _
 have hlho1_2 := OS.lt ho1_2
 try simp -implicitDefEqProofs (disch := first | decide | assumption | omega) only [go_sem, BoxAt.cell hb0_1, wrap_id, cv_u8, cv_i64, Nat.zero_add, wrap_u8, eq_el, ne_el, build_el, Int.toNat_zero, bF0]
 refine op_bs0 sz56 O2 ?_
 intro v1_3 h1_3 ho1_3 e1_3
 replace ho1_2 := OS.ext ho1_2 e1_3
 replace hb0_0 := BoxAt.ext hb0_0 e1_3
 replace hb0_1 := BoxAt.ext hb0_1 e1_3
 have := Ext.size e1_3
 replace eB := Ext.trans eB e1_3
 have hfho1_3 : Fresh h1_2.size [h1_2.size] := Fresh.one _
 have hlho1_3 := OS.lt ho1_3
 try simp -implicitDefEqProofs (disch := first | decide | assumption | omega) only [go_sem, RdS.len (OS.rd ho1_2) sl55, RdS.idx (OS.rd ho1_2) sl55, R1.intN (OS.rd ho1_2), RdS.cells (OS.rd ho1_2), RdS.len (OS.rd ho1_3) sl56, RdS.idx (OS.rd ho1_3) sl56, RdS.cellN (OS.rd ho1_3), RdS.cells (OS.rd ho1_3), wrap_id, cv_u8, cv_i64, Nat.zero_add, wrap_u8, eq_el, ne_el, build_el, Int.toNat_zero, bF0, bC3 (OS.isSl ho1_2) (OS.isSl ho1_3)]
 refine op_bs0 sz59 O1 ?_
 intro v1_5 h1_5 ho1_5 e1_5
 replace ho1_2 := OS.ext ho1_2 e1_5
 replace ho1_3 := OS.ext ho1_3 e1_5
 replace hb0_0 := BoxAt.ext hb0_0 e1_5
 replace hb0_1 := BoxAt.ext hb0_1 e1_5
 have := Ext.size e1_5
 replace eB := Ext.trans eB e1_5
 have hfho1_5 : Fresh h1_3.size [h1_3.size] := Fresh.one _
 have hlho1_5 := OS.lt ho1_5
 try simp -implicitDefEqProofs (disch := first | decide | assumption | omega) only [go_sem, RdS.len (OS.rd ho1_2) sl55, RdS.idx (OS.rd ho1_2) sl55, R1.intN (OS.rd ho1_2), RdS.cells (OS.rd ho1_2), RdS.len (OS.rd ho1_3) sl56, RdS.idx (OS.rd ho1_3) sl56, RdS.cellN (OS.rd ho1_3), RdS.cells (OS.rd ho1_3), RdS.len (OS.rd ho1_5) sl59, RdS.idx (OS.rd ho1_5) sl59, RdS.cellN (OS.rd ho1_5), RdS.cells (OS.rd ho1_5), wrap_id, cv_u8, cv_i64, Nat.zero_add, wrap_u8, eq_el, ne_el, build_el, Int.toNat_zero, bF0, bC3 (OS.isSl ho1_2) (OS.isSl ho1_3), bF2 (OS.isSl ho1_2) (OS.isSl ho1_3) (OS.isSl ho1_5)]
 refine op_alloc (cs := #[.int .i64 0, .slice none 0 0, .slice none 0 0, .slice none 0 0]) (by kernel_rfl) ?_
 intro h1_7 e1_7 hb1_7 z1_7
 replace ho1_2 := OS.ext ho1_2 e1_7
 replace ho1_3 := OS.ext ho1_3 e1_7
 replace ho1_5 := OS.ext ho1_5 e1_7
 replace hb0_0 := BoxAt.ext hb0_0 e1_7
 replace hb0_1 := BoxAt.ext hb0_1 e1_7
 have := Ext.size e1_7
 replace eB := Ext.trans eB e1_7
 have hfhb1_7 : Fresh h1_5.size [h1_5.size] := Fresh.one _
 have hlhb1_7 := one_lt (show h1_5.size < h1_7.size by omega)
 try simp -implicitDefEqProofs (disch := first | decide | assumption | omega) only [go_sem, BoxAt.cell hb0_1, wrap_id, cv_u8, cv_i64, Nat.zero_add, wrap_u8, eq_el, ne_el, build_el, Int.toNat_zero, bF0, bC3 (OS.isSl ho1_2) (OS.isSl ho1_3), bF2 (OS.isSl ho1_2) (OS.isSl ho1_3) (OS.isSl ho1_5)]
 refine op_storeB (cs' := #[.int .i64 (X.p), v1_2, v1_3, v1_5]) st61 hb1_7 rfl rfl rfl (by simp) (allOne_mem (l := [.int .i64 (X.p), v1_2, v1_3, v1_5]) ⟨rfl, (OS.one ho1_2).1, (OS.one ho1_3).1, (OS.one ho1_5).1, trivial⟩) rfl ?_
 intro h1_8 hb1_7 c1_8
 replace ho1_2 := OS.chg ho1_2 c1_8 (apart_lt hlho1_2 hfhb1_7 (by omega))
 replace ho1_3 := OS.chg ho1_3 c1_8 (apart_lt hlho1_3 hfhb1_7 (by omega))
 replace ho1_5 := OS.chg ho1_5 c1_8 (apart_lt hlho1_5 hfhb1_7 (by omega))
 replace hb0_0 := BoxAt.chgA hb0_0 c1_8 (apart_lt hlhb0_0 hfhb1_7 (by omega))
 replace hb0_1 := BoxAt.chgA hb0_1 c1_8 (apart_lt hlhb0_1 hfhb1_7 (by omega))
 have := c1_8.size
 replace eB := Ext.then eB c1_8 (ge_of hfhb1_7 (by omega))
 try simp -implicitDefEqProofs (disch := first | decide | assumption | omega) only [go_sem, BoxAt.cell hb0_1, wrap_id, cv_u8, cv_i64, Nat.zero_add, wrap_u8, eq_el, ne_el, build_el, Int.toNat_zero, bF0, bC3 (OS.isSl ho1_2) (OS.isSl ho1_3), bF2 (OS.isSl ho1_2) (OS.isSl ho1_3) (OS.isSl ho1_5)]
 refine hK _ _ ?_
 clear hK K
 refine den_seq ?_
 refine den_seq ?_
 refine den_region TTok ?_
 intro K hK
 simp -implicitDefEqProofs (disch := first | decide | assumption | omega) only [go_sem, wrap_id, cv_u8, cv_i64, Nat.zero_add, wrap_u8, eq_el, ne_el, build_el, Int.toNat_zero, bF0]
 refine hK _ _ ?_
 clear hK K
 refine den_block ?_
 refine den_sel [4, 1, 2, 3] ?_
 intro env_1
 simp only [go_sem]
 refine den_loopS (σ := Nat × Value × List Nat × Value × List Nat × Value × List Nat) (fun st_ => [(4, .int .i64 (st_.1 : Int))]) (fun st_ H => (st_.1 ≤ fcT X) ∧ (O1 H st_.2.1 (fcD X st_.1) st_.2.2.1) ∧ (Fresh (h0_1.size) st_.2.2.1) ∧ (Sub ([h0_1.size] ++ ([h1_2.size] ++ ([h1_3.size] ++ ([h1_5.size])))) h1_8.size st_.2.2.1) ∧ (O3 H st_.2.2.2.1 (fcM X (st_.1 - 1)) st_.2.2.2.2.1) ∧ (Fresh (h1_2.size) st_.2.2.2.2.1) ∧ (Sub ([h0_1.size] ++ ([h1_2.size] ++ ([h1_3.size] ++ ([h1_5.size])))) h1_8.size st_.2.2.2.2.1) ∧ (O2 H st_.2.2.2.2.2.1 (fcL X st_.1) st_.2.2.2.2.2.2) ∧ (Fresh (h1_3.size) st_.2.2.2.2.2.2) ∧ (Sub ([h0_1.size] ++ ([h1_2.size] ++ ([h1_3.size] ++ ([h1_5.size])))) h1_8.size st_.2.2.2.2.2.2) ∧ (BoxAt H (h1_5.size) #[.int .i64 (X.p), st_.2.1, st_.2.2.2.1, st_.2.2.2.2.2.1] 61) ∧ (Apart st_.2.2.1 st_.2.2.2.2.1) ∧ (Apart st_.2.2.1 st_.2.2.2.2.2.2) ∧ (Apart st_.2.2.1 [h1_5.size]) ∧ (Apart st_.2.2.2.2.1 st_.2.2.2.2.2.2) ∧ (Apart st_.2.2.2.2.1 [h1_5.size]) ∧ (Apart st_.2.2.2.2.2.2 [h1_5.size]) ∧ (Chg ([h0_1.size] ++ ([h1_2.size] ++ ([h1_3.size] ++ ([h1_5.size])))) h1_8 H)) (fun st_ => fcT X - st_.1) (0, v1_2, [h0_1.size], v1_3, [h1_2.size], v1_5, [h1_3.size]) ?_ ?_
 ·exact ⟨by first | (simp; done) | (dsimp only; omega) | (simp; omega), by show O1 _ _ [] _; exact ho1_2, hfho1_2, (Sub.left Sub.refl), by show O3 _ _ [] _; exact ho1_3, hfho1_3, (Sub.right (Sub.left Sub.refl)), by show O2 _ _ [] _; exact ho1_5, hfho1_5, (Sub.right (Sub.right (Sub.left Sub.refl))), by simpa using hb1_7, (apart_lt hlho1_2 hfho1_3 (by omega)), (apart_lt hlho1_2 hfho1_5 (by omega)), (apart_lt hlho1_2 hfhb1_7 (by omega)), (apart_lt hlho1_3 hfho1_5 (by omega)), (apart_lt hlho1_3 hfhb1_7 (by omega)), (apart_lt hlho1_5 hfhb1_7 (by omega)), Chg.refl _ _⟩
 ·rintro ⟨n, vhD, fphD, vhM, fphM, vhV, fphV⟩ h4 ee3 ⟨hi0, hD, hfhD, sbhD, hM, hfhM, sbhM, hV, hfhV, sbhV, hbx3, ap_hD_hM, ap_hD_hV, ap_hD_hbx3, ap_hM_hV, ap_hM_hbx3, ap_hV_hbx3, cL2⟩
  dsimp only at hi0 hD hfhD sbhD hM hfhM sbhM hV hfhV sbhV hbx3 ap_hD_hM ap_hD_hV ap_hD_hbx3 ap_hM_hV ap_hM_hbx3 ap_hV_hbx3 cL2
  replace hb0_0 := BoxAt.chgA hb0_0 cL2 (Apart.app (apart_lt hlhb0_0 hfho1_2 (by omega)) (Apart.app (apart_lt hlhb0_0 hfho1_3 (by omega)) (Apart.app (apart_lt hlhb0_0 hfho1_5 (by omega)) (apart_lt hlhb0_0 hfhb1_7 (by omega)))))
  replace hb0_1 := BoxAt.chgA hb0_1 cL2 (Apart.app (apart_lt hlhb0_1 hfho1_2 (by omega)) (Apart.app (apart_lt hlhb0_1 hfho1_3 (by omega)) (Apart.app (apart_lt hlhb0_1 hfho1_5 (by omega)) (apart_lt hlhb0_1 hfhb1_7 (by omega)))))
  have := cL2.size
  replace eB := Ext.then eB cL2 (ge_app (ge_of hfho1_2 (by omega)) (ge_app (ge_of hfho1_3 (by omega)) (ge_app (ge_of hfho1_5 (by omega)) (ge_of hfhb1_7 (by omega)))))
  have hlhD := OS.lt hD
  have hlhM := OS.lt hM
  have hlhV := OS.lt hV
  have hfhbx3 := hfhb1_7
  have hlhbx3 := hlhb1_7
  simp only [List.cons_append, List.nil_append]
  have hlD0 := fcD_len X n
  have hlM0 := fcM_len X (n - 1)
  have hlV0 := fcL_len X n
  have hkl := mbP_len hs (n : Int)
  refine den_seq ?_
  refine den_seq ?_
  refine den_region TTok ?_
  intro K hK
  simp -implicitDefEqProofs (disch := first | decide | assumption | omega) only [go_sem, Int.toNat_zero, fa34_1, fa34_2, ia22, ld2, BoxAt.dgL hb0_0, BoxAt.dgP hb0_0, BoxAt.dgS hb0_0, BoxAt.dgDeg hb0_0, BoxAt.dgLev hb0_0, BoxAt.dgDeg0 hb0_0, BoxAt.dgLev0 hb0_0, BoxAt.dgDifL hb0_0, BoxAt.dgTabL hb0_0, BoxAt.dgTabL0 hb0_0, BoxAt.dgTabL1 hb0_0, BoxAt.dgTabL1' hb0_0, BoxAt.dgDifB hb0_0, BoxAt.dgTabB hb0_0, wrap_id, cv_u8, cv_i64, Nat.zero_add, wrap_u8, eq_el, ne_el, build_el, Int.toNat_zero, bF0]
  refine hK _ _ ?_
  clear hK K
  refine den_cond rfl (fun c0 => ?_) (fun c0 => ?_)
  ·try simp only [decide_eq_true_eq, decide_eq_false_iff_not, beq_iff_eq, beq_eq_false_iff_ne, bne_iff_ne, ne_eq, Bool.not_eq_true', Bool.not_eq_false', Bool.and_eq_true, Bool.or_eq_true, bne_eq_false_iff_eq] at c0
   refine den_skip ?_
   refine den_seq ?_
   refine den_block ?_
   refine den_seq ?_
   refine den_region TTok ?_
   intro K hK
   simp -implicitDefEqProofs (disch := first | decide | assumption | omega) only [go_sem, BoxAt.dgL hb0_0, BoxAt.dgP hb0_0, BoxAt.dgS hb0_0, BoxAt.dgDeg hb0_0, BoxAt.dgLev hb0_0, BoxAt.dgDeg0 hb0_0, BoxAt.dgLev0 hb0_0, BoxAt.dgDifL hb0_0, BoxAt.dgTabL hb0_0, BoxAt.dgTabL0 hb0_0, BoxAt.dgTabL1 hb0_0, BoxAt.dgTabL1' hb0_0, BoxAt.dgDifB hb0_0, BoxAt.dgTabB hb0_0, wrap_id, cv_u8, cv_i64, Nat.zero_add, wrap_u8, eq_el, ne_el, build_el, Int.toNat_zero, bF0]
   try simp -implicitDefEqProofs (disch := first | decide | assumption | omega) only [go_sem, BoxAt.cell hb0_1, wrap_id, cv_u8, cv_i64, Nat.zero_add, wrap_u8, eq_el, ne_el, build_el, Int.toNat_zero, bF0]
   refine CallA.mono (sMb_ok  X (n : Int) _  (by omega)) ?_
   intro vw5_2_0 h5_2
   rintro ⟨zvw5_2_0, fw5_2_0, rfl, how5_2_0, hfw5_2_0, e5_2⟩
   replace hD := OS.ext hD e5_2
   replace hM := OS.ext hM e5_2
   replace hV := OS.ext hV e5_2
   replace hb0_0 := BoxAt.ext hb0_0 e5_2
   replace hb0_1 := BoxAt.ext hb0_1 e5_2
   replace hbx3 := BoxAt.ext hbx3 e5_2
   have := Ext.size e5_2
   replace eB := Ext.trans eB e5_2
   replace cL2 := Chg.stepE cL2 e5_2
   have hlhow5_2_0 := OS.lt how5_2_0
   try simp -implicitDefEqProofs (disch := first | decide | assumption | omega) only [go_sem, BoxAt.cell hb0_1, wrap_id, cv_u8, cv_i64, Nat.zero_add, wrap_u8, eq_el, ne_el, build_el, Int.toNat_zero, bF0]
   refine op_bs0 sz55 OI ?_
   intro v5_3 h5_3 ho5_3 e5_3
   replace hD := OS.ext hD e5_3
   replace hM := OS.ext hM e5_3
   replace hV := OS.ext hV e5_3
   replace how5_2_0 := OS.ext how5_2_0 e5_3
   replace hb0_0 := BoxAt.ext hb0_0 e5_3
   replace hb0_1 := BoxAt.ext hb0_1 e5_3
   replace hbx3 := BoxAt.ext hbx3 e5_3
   have := Ext.size e5_3
   replace eB := Ext.trans eB e5_3
   replace cL2 := Chg.stepE cL2 e5_3
   have hfho5_3 : Fresh h5_2.size [h5_2.size] := Fresh.one _
   have hlho5_3 := OS.lt ho5_3
   try simp -implicitDefEqProofs (disch := first | decide | assumption | omega) only [go_sem, BoxAt.cell hb0_1, wrap_id, cv_u8, cv_i64, Nat.zero_add, wrap_u8, eq_el, ne_el, build_el, Int.toNat_zero, bF0]
   refine op_bs0 sz59 O1 ?_
   intro v5_4 h5_4 ho5_4 e5_4
   replace hD := OS.ext hD e5_4
   replace hM := OS.ext hM e5_4
   replace hV := OS.ext hV e5_4
   replace how5_2_0 := OS.ext how5_2_0 e5_4
   replace ho5_3 := OS.ext ho5_3 e5_4
   replace hb0_0 := BoxAt.ext hb0_0 e5_4
   replace hb0_1 := BoxAt.ext hb0_1 e5_4
   replace hbx3 := BoxAt.ext hbx3 e5_4
   have := Ext.size e5_4
   replace eB := Ext.trans eB e5_4
   replace cL2 := Chg.stepE cL2 e5_4
   have hfho5_4 : Fresh h5_3.size [h5_3.size] := Fresh.one _
   have hlho5_4 := OS.lt ho5_4
   try simp -implicitDefEqProofs (disch := first | decide | assumption | omega) only [go_sem, RdS.len (OS.rd how5_2_0) sl55, RdS.idx (OS.rd how5_2_0) sl55, R1.intN (OS.rd how5_2_0), RdS.cells (OS.rd how5_2_0), RdS.len (OS.rd ho5_3) sl55, RdS.idx (OS.rd ho5_3) sl55, R1.intN (OS.rd ho5_3), RdS.cells (OS.rd ho5_3), RdS.len (OS.rd ho5_4) sl59, RdS.idx (OS.rd ho5_4) sl59, RdS.cellN (OS.rd ho5_4), RdS.cells (OS.rd ho5_4), wrap_id, cv_u8, cv_i64, Nat.zero_add, wrap_u8, eq_el, ne_el, build_el, Int.toNat_zero, bF0]
   refine hK _ _ ?_
   clear hK K
   refine den_seq ?_
   refine den_seq ?_
   refine den_region TTok ?_
   intro K hK
   simp -implicitDefEqProofs (disch := first | decide | assumption | omega) only [go_sem, wrap_id, cv_u8, cv_i64, Nat.zero_add, wrap_u8, eq_el, ne_el, build_el, Int.toNat_zero, bF0]
   refine hK _ _ ?_
   clear hK K
   refine den_block ?_
   refine den_sel [6, 7, 8, 1, 2, 3, 4, 5] ?_
   intro env_5
   simp only [go_sem]
   refine den_loopS (σ := Nat × Value × List Nat × Value × List Nat) (fun st_ => [(6, st_.2.1), (7, st_.2.2.2.1), (8, .int .i64 (st_.1 : Int))]) (fun st_ H => (st_.1 ≤ (mbP X (n : Int)).length) ∧ (O1 H st_.2.1 (((mbP X (n : Int)).take st_.1).map (fun z : Int => X.lev z.toNat)) st_.2.2.1) ∧ (Fresh (h5_2.size) st_.2.2.1) ∧ (Sub ([h5_2.size] ++ ([h5_3.size])) h5_4.size st_.2.2.1) ∧ (O2 H st_.2.2.2.1 (((mbP X (n : Int)).take st_.1).map (fun z : Int => vcP X ((n : Int) - 1) (X.dif z.toNat))) st_.2.2.2.2) ∧ (Fresh (h5_3.size) st_.2.2.2.2) ∧ (Sub ([h5_2.size] ++ ([h5_3.size])) h5_4.size st_.2.2.2.2) ∧ (Apart st_.2.2.1 st_.2.2.2.2) ∧ (Chg ([h5_2.size] ++ ([h5_3.size])) h5_4 H)) (fun st_ => (mbP X (n : Int)).length - st_.1) (0, v5_3, [h5_2.size], v5_4, [h5_3.size]) ?_ ?_
   ·exact ⟨by first | (simp; done) | (dsimp only; omega) | (simp; omega), by simpa using ho5_3, hfho5_3, (Sub.left Sub.refl), by simpa using ho5_4, hfho5_4, (Sub.right Sub.refl), (apart_lt hlho5_3 hfho5_4 (by omega)), Chg.refl _ _⟩
   ·rintro ⟨i, vhA, fphA, vhR, fphR⟩ h8 ee7 ⟨hi0, hA, hfhA, sbhA, hR, hfhR, sbhR, ap_hA_hR, cL6⟩
    dsimp only at hi0 hA hfhA sbhA hR hfhR sbhR ap_hA_hR cL6
    replace hD := OS.chg hD cL6 (Apart.app (apart_lt hlhD hfho5_3 (by omega)) (apart_lt hlhD hfho5_4 (by omega)))
    replace hM := OS.chg hM cL6 (Apart.app (apart_lt hlhM hfho5_3 (by omega)) (apart_lt hlhM hfho5_4 (by omega)))
    replace hV := OS.chg hV cL6 (Apart.app (apart_lt hlhV hfho5_3 (by omega)) (apart_lt hlhV hfho5_4 (by omega)))
    replace how5_2_0 := OS.chg how5_2_0 cL6 (Apart.app (apart_lt hlhow5_2_0 hfho5_3 (by omega)) (apart_lt hlhow5_2_0 hfho5_4 (by omega)))
    replace hb0_0 := BoxAt.chgA hb0_0 cL6 (Apart.app (apart_lt hlhb0_0 hfho5_3 (by omega)) (apart_lt hlhb0_0 hfho5_4 (by omega)))
    replace hb0_1 := BoxAt.chgA hb0_1 cL6 (Apart.app (apart_lt hlhb0_1 hfho5_3 (by omega)) (apart_lt hlhb0_1 hfho5_4 (by omega)))
    replace hbx3 := BoxAt.chgA hbx3 cL6 (Apart.app (apart_lt hlhbx3 hfho5_3 (by omega)) (apart_lt hlhbx3 hfho5_4 (by omega)))
    have := cL6.size
    replace eB := Ext.then eB cL6 (ge_app (ge_of hfho5_3 (by omega)) (ge_of hfho5_4 (by omega)))
    replace cL2 := Chg.step cL2 cL6 (Sub.app (Sub.fresh hfho5_3 (by omega)) (Sub.fresh hfho5_4 (by omega)))
    have hlhA := OS.lt hA
    have hlhR := OS.lt hR
    simp only [List.cons_append, List.nil_append]
    refine den_seq ?_
    refine den_seq ?_
    refine den_region TTok ?_
    intro K hK
    simp -implicitDefEqProofs (disch := first | decide | assumption | omega) only [go_sem, RdS.len (OS.rd how5_2_0) sl55, RdS.idx (OS.rd how5_2_0) sl55, R1.intN (OS.rd how5_2_0), RdS.cells (OS.rd how5_2_0), wrap_id, cv_u8, cv_i64, Nat.zero_add, wrap_u8, eq_el, ne_el, build_el, Int.toNat_zero, bF0]
    refine hK _ _ ?_
    clear hK K
    refine den_cond rfl (fun c1 => ?_) (fun c1 => ?_)
    ·try simp only [decide_eq_true_eq, decide_eq_false_iff_not, beq_iff_eq, beq_eq_false_iff_ne, bne_iff_ne, ne_eq, Bool.not_eq_true', Bool.not_eq_false', Bool.and_eq_true, Bool.or_eq_true, bne_eq_false_iff_eq] at c1
     refine den_skip ?_
     refine den_seq ?_
     refine den_block ?_
     refine den_seq ?_
     have hat := mb_at (X := X) (n := (n : Int)) (k := i) (by omega)
     have hlb := (hfm.row ((mbP X (n : Int)).getD i 0).toNat (by omega)).lev
     have hmt : (((mbP X (n : Int)).take i).map (fun z : Int => X.lev z.toNat)).length ≤ 8 := by rw [List.length_map, List.length_take]; omega
     refine den_region TTok ?_
     intro K hK
     simp -implicitDefEqProofs (disch := first | decide | assumption | omega) only [go_sem, Int.toNat_zero, fa34_3, ia22, ld2, RdS.len (OS.rd how5_2_0) sl55, RdS.idx (OS.rd how5_2_0) sl55, R1.intN (OS.rd how5_2_0), RdS.cells (OS.rd how5_2_0), RdS.len (OS.rd hA) sl55, RdS.idx (OS.rd hA) sl55, R1.intN (OS.rd hA), RdS.cells (OS.rd hA), BoxAt.dgL hb0_0, BoxAt.dgP hb0_0, BoxAt.dgS hb0_0, BoxAt.dgDeg hb0_0, BoxAt.dgLev hb0_0, BoxAt.dgDeg0 hb0_0, BoxAt.dgLev0 hb0_0, BoxAt.dgDifL hb0_0, BoxAt.dgTabL hb0_0, BoxAt.dgTabL0 hb0_0, BoxAt.dgTabL1 hb0_0, BoxAt.dgTabL1' hb0_0, BoxAt.dgDifB hb0_0, BoxAt.dgTabB hb0_0, wrap_id, cv_u8, cv_i64, Nat.zero_add, wrap_u8, eq_el, ne_el, build_el, Int.toNat_zero, bF0]
     refine op_bs1 sz55 rfl rfl ?_
     try simp -implicitDefEqProofs (disch := first | decide | assumption | omega) only [go_sem, BoxAt.cell hb0_1, wrap_id, cv_u8, cv_i64, Nat.zero_add, wrap_u8, eq_el, ne_el, build_el, Int.toNat_zero, bF0]
     refine op_append1 sz55 hA hfhA.nodup ⟨rfl, rfl⟩ List.nodup_nil (Apart.nil _) (by first | omega | (simp; omega)) rfl rfl ?_
     intro v9_9 h9_9 fp9_9 ho9_9 hn9_9 hs9_9 c9_9
     have hsz9_9 := c9_9.size
     have hfho9_9 : Fresh h5_2.size fp9_9 := Fresh.appd hfhA (Fresh.nil h8.size) (by omega) (by omega) hn9_9 hs9_9
     have sb9 : Sub ([h5_2.size] ++ ([h5_3.size])) h5_4.size fp9_9 := Sub.grow sbhA Sub.nil (by omega) hs9_9
     replace hD := OS.chg hD c9_9 (apart_lt hlhD hfhA (by omega))
     replace hM := OS.chg hM c9_9 (apart_lt hlhM hfhA (by omega))
     replace hV := OS.chg hV c9_9 (apart_lt hlhV hfhA (by omega))
     replace how5_2_0 := OS.chg how5_2_0 c9_9 (apart_lt hlhow5_2_0 hfhA (by omega))
     replace hR := OS.chg hR c9_9 (Apart.symm ap_hA_hR)
     replace hb0_0 := BoxAt.chgA hb0_0 c9_9 (apart_lt hlhb0_0 hfhA (by omega))
     replace hb0_1 := BoxAt.chgA hb0_1 c9_9 (apart_lt hlhb0_1 hfhA (by omega))
     replace hbx3 := BoxAt.chgA hbx3 c9_9 (apart_lt hlhbx3 hfhA (by omega))
     have := c9_9.size
     replace eB := Ext.then eB c9_9 (ge_of hfhA (by omega))
     replace cL2 := Chg.step cL2 c9_9 (Sub.fresh hfhA (by omega))
     replace cL6 := Chg.step cL6 c9_9 sbhA
     have ap10 : Apart fphR fp9_9 := Apart.grow hlhR (by omega) (Apart.symm ap_hA_hR) (Apart.nil _) hs9_9
     have hlho9_9 := OS.lt ho9_9
     try simp -implicitDefEqProofs (disch := first | decide | assumption | omega) only [go_sem, RdS.len (OS.rd ho9_9) sl55, RdS.idx (OS.rd ho9_9) sl55, R1.intN (OS.rd ho9_9), RdS.cells (OS.rd ho9_9), wrap_id, cv_u8, cv_i64, Nat.zero_add, wrap_u8, eq_el, ne_el, build_el, Int.toNat_zero, bF0]
     refine hK _ _ ?_
     clear hK K
     have hmt2 : (((mbP X (n : Int)).take i).map (fun z : Int => vcP X ((n : Int) - 1) (X.dif z.toNat))).length ≤ 8 := by rw [List.length_map, List.length_take]; omega
     refine den_draw TTok mixed [13] [(0, true), (1, true), (2, true), (3, true), (4, true), (5, true), (6, true), (7, true), (8, true), (9, true), (10, true), (11, false), (12, false), (13, false), (14, true)] (by kernel_rfl) ?_
     intro K hK
     simp -implicitDefEqProofs (disch := first | decide | assumption | omega) only [go_sem, Int.toNat_zero, fa34_4, ia31, ld2, RdS.len (OS.rd how5_2_0) sl55, RdS.idx (OS.rd how5_2_0) sl55, R1.intN (OS.rd how5_2_0), RdS.cells (OS.rd how5_2_0), RdS.len (OS.rd hR) sl59, RdS.idx (OS.rd hR) sl59, RdS.cellN (OS.rd hR), RdS.cells (OS.rd hR), BoxAt.dgL hb0_0, BoxAt.dgP hb0_0, BoxAt.dgS hb0_0, BoxAt.dgDeg hb0_0, BoxAt.dgLev hb0_0, BoxAt.dgDeg0 hb0_0, BoxAt.dgLev0 hb0_0, BoxAt.dgDifL hb0_0, BoxAt.dgTabL hb0_0, BoxAt.dgTabL0 hb0_0, BoxAt.dgTabL1 hb0_0, BoxAt.dgTabL1' hb0_0, BoxAt.dgDifB hb0_0, BoxAt.dgTabB hb0_0, wrap_id, cv_u8, cv_i64, Nat.zero_add, wrap_u8, eq_el, ne_el, build_el, Int.toNat_zero, bF0]
     try simp -implicitDefEqProofs (disch := first | decide | assumption | omega) only [go_sem, BoxAt.cell hb0_1, wrap_id, cv_u8, cv_i64, Nat.zero_add, wrap_u8, eq_el, ne_el, build_el, Int.toNat_zero, bF0]
     refine CallA.mono (sVc_ok  X ((n : Int) - (1 : Int)) (X.dif (((mbP X (n : Int)).getD i 0)).toNat) _  (by omega) (by first | assumption | exact e8_by _ | exact By.z8 | exact hBd _ | exact hBt _ _ | exact tmJ_by (by omega) (tmI_by (by omega) _) _ | exact timesP_by (by omega) | exact dfI_by (by omega) _ | exact plusN_by (by omega) (timesP_by (by omega)) | exact dfI_by (by omega) 8)) ?_
     intro vw10_11_0 h10_11
     rintro ⟨zvw10_11_0, fw10_11_0, rfl, how10_11_0, hfw10_11_0, e10_11⟩
     replace hD := OS.ext hD e10_11
     replace hM := OS.ext hM e10_11
     replace hV := OS.ext hV e10_11
     replace how5_2_0 := OS.ext how5_2_0 e10_11
     replace hR := OS.ext hR e10_11
     replace ho9_9 := OS.ext ho9_9 e10_11
     replace hb0_0 := BoxAt.ext hb0_0 e10_11
     replace hb0_1 := BoxAt.ext hb0_1 e10_11
     replace hbx3 := BoxAt.ext hbx3 e10_11
     have := Ext.size e10_11
     replace eB := Ext.trans eB e10_11
     replace cL2 := Chg.stepE cL2 e10_11
     replace cL6 := Chg.stepE cL6 e10_11
     have hlhow10_11_0 := OS.lt how10_11_0
     try simp (disch := decide) only [outv_some, outv_none, put_puts]
     refine plK_pres (Ext.pres e10_11) ?_
     try simp -implicitDefEqProofs (disch := first | decide | assumption | omega) only [go_sem, BoxAt.cell hb0_1, wrap_id, cv_u8, cv_i64, Nat.zero_add, wrap_u8, eq_el, ne_el, build_el, Int.toNat_zero, bF0]
     refine op_bs1 sz59 rfl (OS.one how10_11_0).2 ?_
     try simp (disch := decide) only [outv_some, outv_none, put_puts]
     refine plK_pres (Ext.pres (Ext.push _ _)) ?_
     try simp -implicitDefEqProofs (disch := first | decide | assumption | omega) only [go_sem, BoxAt.cell hb0_1, wrap_id, cv_u8, cv_i64, Nat.zero_add, wrap_u8, eq_el, ne_el, build_el, Int.toNat_zero, bF0]
     refine op_append1 sz59 hR hfhR.nodup how10_11_0 hfw10_11_0.nodup (apart_lt hlhR hfw10_11_0 (by omega)) (by first | omega | (simp; omega)) rfl rfl ?_
     intro v10_13 h10_13 fp10_13 ho10_13 hn10_13 hs10_13 c10_13
     have hsz10_13 := c10_13.size
     have hfho10_13 : Fresh h5_3.size fp10_13 := Fresh.appd hfhR hfw10_11_0 (by omega) (by omega) hn10_13 hs10_13
     have sb11 : Sub ([h5_2.size] ++ ([h5_3.size])) h5_4.size fp10_13 := Sub.grow sbhR (Sub.fresh hfw10_11_0 (by omega)) (by omega) hs10_13
     replace hD := OS.chg hD c10_13 (apart_lt hlhD hfhR (by omega))
     replace hM := OS.chg hM c10_13 (apart_lt hlhM hfhR (by omega))
     replace hV := OS.chg hV c10_13 (apart_lt hlhV hfhR (by omega))
     replace how5_2_0 := OS.chg how5_2_0 c10_13 (apart_lt hlhow5_2_0 hfhR (by omega))
     replace ho9_9 := OS.chg ho9_9 c10_13 (Apart.symm ap10)
     replace hb0_0 := BoxAt.chgA hb0_0 c10_13 (apart_lt hlhb0_0 hfhR (by omega))
     replace hb0_1 := BoxAt.chgA hb0_1 c10_13 (apart_lt hlhb0_1 hfhR (by omega))
     replace hbx3 := BoxAt.chgA hbx3 c10_13 (apart_lt hlhbx3 hfhR (by omega))
     have := c10_13.size
     replace eB := Ext.then eB c10_13 (ge_of hfhR (by omega))
     replace cL2 := Chg.step cL2 c10_13 (Sub.fresh hfhR (by omega))
     replace cL6 := Chg.step cL6 c10_13 sbhR
     have ap12 : Apart fp9_9 fp10_13 := Apart.grow hlho9_9 (by omega) (Apart.symm ap10) (apart_lt hlho9_9 hfw10_11_0 (by omega)) hs10_13
     have hlho10_13 := OS.lt ho10_13
     try simp (disch := decide) only [outv_some, outv_none, put_puts]
     refine plK_last (by decide) ?_
     try simp -implicitDefEqProofs (disch := first | decide | assumption | omega) only [go_sem, RdS.len (OS.rd ho10_13) sl59, RdS.idx (OS.rd ho10_13) sl59, RdS.cellN (OS.rd ho10_13), RdS.cells (OS.rd ho10_13), wrap_id, cv_u8, cv_i64, Nat.zero_add, wrap_u8, eq_el, ne_el, build_el, Int.toNat_zero, bF0]
     refine hK _ _ ?_
     clear hK K
     refine den_blk ?_
     refine den_region TTok ?_
     intro K hK
     simp -implicitDefEqProofs (disch := first | decide | assumption | omega) only [go_sem, wrap_id, cv_u8, cv_i64, Nat.zero_add, wrap_u8, eq_el, ne_el, build_el, Int.toNat_zero, bF0]
     refine hK _ _ ?_
     clear hK K
     refine den_stop ?_
     rw [map_takeL (f := fun z : Int => X.lev z.toNat) (d := 0) (by omega)] at ho9_9
     rw [map_takeL (f := fun z : Int => vcP X ((n : Int) - 1) (X.dif z.toNat)) (d := 0) (by omega)] at ho10_13
     exact ⟨(i + 1, v9_9, fp9_9, v10_13, fp10_13), by simp [HasL, puts_at], ⟨by first | omega | (dsimp only; omega), ho9_9, hfho9_9, sb9, ho10_13, hfho10_13, sb11, ap12, cL6⟩, by first | omega | (dsimp only; omega)⟩
    ·try simp only [decide_eq_true_eq, decide_eq_false_iff_not, beq_iff_eq, beq_eq_false_iff_ne, bne_iff_ne, ne_eq, Bool.not_eq_true', Bool.not_eq_false', Bool.and_eq_true, Bool.or_eq_true, bne_eq_false_iff_eq] at c1
     refine den_exit ?_
     refine denX_code ?_
     refine denX_stop ?_
     refine denX_hit ?_
     refine den_seq ?_
     refine den_region TTok ?_
     intro K hK
     simp -implicitDefEqProofs (disch := first | decide | assumption | omega) only [go_sem, fa58_1, fa61_0, ld55, RdS.len (OS.rd hD) sl55, RdS.idx (OS.rd hD) sl55, R1.intN (OS.rd hD), RdS.cells (OS.rd hD), RdS.len (OS.rd hM) sl56, RdS.idx (OS.rd hM) sl56, RdS.cellN (OS.rd hM), RdS.cells (OS.rd hM), RdS.len (OS.rd hV) sl59, RdS.idx (OS.rd hV) sl59, RdS.cellN (OS.rd hV), RdS.cells (OS.rd hV), RdS.len (OS.rd how5_2_0) sl55, RdS.idx (OS.rd how5_2_0) sl55, R1.intN (OS.rd how5_2_0), RdS.cells (OS.rd how5_2_0), BoxAt.cell hbx3, wrap_id, cv_u8, cv_i64, Nat.zero_add, wrap_u8, eq_el, ne_el, build_el, Int.toNat_zero, bF0]
     refine op_bs1 sz55 rfl rfl ?_
     try simp -implicitDefEqProofs (disch := first | decide | assumption | omega) only [go_sem, BoxAt.cell hb0_1, wrap_id, cv_u8, cv_i64, Nat.zero_add, wrap_u8, eq_el, ne_el, build_el, Int.toNat_zero, bF0]
     refine op_append1 sz55 hD hfhD.nodup ⟨rfl, rfl⟩ List.nodup_nil (Apart.nil _) (by first | omega | (simp; omega)) rfl rfl ?_
     intro v11_6 h11_6 fp11_6 ho11_6 hn11_6 hs11_6 c11_6
     have hsz11_6 := c11_6.size
     have hfho11_6 : Fresh h0_1.size fp11_6 := Fresh.appd hfhD (Fresh.nil h8.size) (by omega) (by omega) hn11_6 hs11_6
     have sb13 : Sub ([h0_1.size] ++ ([h1_2.size] ++ ([h1_3.size] ++ ([h1_5.size])))) h1_8.size fp11_6 := Sub.grow sbhD Sub.nil (by omega) hs11_6
     replace hM := OS.chg hM c11_6 (Apart.symm ap_hD_hM)
     replace hV := OS.chg hV c11_6 (Apart.symm ap_hD_hV)
     replace how5_2_0 := OS.chg how5_2_0 c11_6 (apart_gt hfw5_2_0 hlhD (by omega))
     replace hA := OS.chg hA c11_6 (apart_gt hfhA hlhD (by omega))
     replace hR := OS.chg hR c11_6 (apart_gt hfhR hlhD (by omega))
     replace hb0_0 := BoxAt.chgA hb0_0 c11_6 (apart_lt hlhb0_0 hfhD (by omega))
     replace hb0_1 := BoxAt.chgA hb0_1 c11_6 (apart_lt hlhb0_1 hfhD (by omega))
     replace hbx3 := BoxAt.chgA hbx3 c11_6 (Apart.symm ap_hD_hbx3)
     have := c11_6.size
     replace eB := Ext.then eB c11_6 (ge_of hfhD (by omega))
     replace cL2 := Chg.step cL2 c11_6 sbhD
     have ap14 : Apart fphM fp11_6 := Apart.grow hlhM (by omega) (Apart.symm ap_hD_hM) (Apart.nil _) hs11_6
     have ap15 : Apart fphV fp11_6 := Apart.grow hlhV (by omega) (Apart.symm ap_hD_hV) (Apart.nil _) hs11_6
     have ap16 : Apart fw5_2_0 fp11_6 := Apart.grow hlhow5_2_0 (by omega) (apart_gt hfw5_2_0 hlhD (by omega)) (Apart.nil _) hs11_6
     have ap17 : Apart fphA fp11_6 := Apart.grow hlhA (by omega) (apart_gt hfhA hlhD (by omega)) (Apart.nil _) hs11_6
     have ap18 : Apart fphR fp11_6 := Apart.grow hlhR (by omega) (apart_gt hfhR hlhD (by omega)) (Apart.nil _) hs11_6
     have ap19 : Apart [h1_5.size] fp11_6 := Apart.grow hlhbx3 (by omega) (Apart.symm ap_hD_hbx3) (Apart.nil _) hs11_6
     have hlho11_6 := OS.lt ho11_6
     try simp -implicitDefEqProofs (disch := first | decide | assumption | omega) only [go_sem, fa58_1, fa61_0, RdS.len (OS.rd hM) sl56, RdS.idx (OS.rd hM) sl56, RdS.cellN (OS.rd hM), RdS.cells (OS.rd hM), RdS.len (OS.rd hV) sl59, RdS.idx (OS.rd hV) sl59, RdS.cellN (OS.rd hV), RdS.cells (OS.rd hV), BoxAt.cell hbx3, wrap_id, cv_u8, cv_i64, Nat.zero_add, wrap_u8, eq_el, ne_el, build_el, Int.toNat_zero, bF0]
     refine op_storeB (cs' := #[.int .i64 (X.p), v11_6, vhM, vhV]) st55 hbx3 rfl (OS.one ho11_6).2 rfl (by simp) (allOne_mem (l := [v11_6]) ⟨(OS.one ho11_6).1, trivial⟩) rfl ?_
     intro h11_9 hbx3 c11_9
     replace hM := OS.chg hM c11_9 ap_hM_hbx3
     replace hV := OS.chg hV c11_9 ap_hV_hbx3
     replace how5_2_0 := OS.chg how5_2_0 c11_9 (apart_gt hfw5_2_0 hlhbx3 (by omega))
     replace hA := OS.chg hA c11_9 (apart_gt hfhA hlhbx3 (by omega))
     replace hR := OS.chg hR c11_9 (apart_gt hfhR hlhbx3 (by omega))
     replace ho11_6 := OS.chg ho11_6 c11_9 (Apart.symm ap19)
     replace hb0_0 := BoxAt.chgA hb0_0 c11_9 (apart_lt hlhb0_0 hfhbx3 (by omega))
     replace hb0_1 := BoxAt.chgA hb0_1 c11_9 (apart_lt hlhb0_1 hfhbx3 (by omega))
     have := c11_9.size
     replace eB := Ext.then eB c11_9 (ge_of hfhbx3 (by omega))
     replace cL2 := Chg.step cL2 c11_9 (Sub.right (Sub.right (Sub.right Sub.refl)))
     try simp -implicitDefEqProofs (disch := first | decide | assumption | omega) only [go_sem, BoxAt.cell hb0_1, wrap_id, cv_u8, cv_i64, Nat.zero_add, wrap_u8, eq_el, ne_el, build_el, Int.toNat_zero, bF0]
     refine hK _ _ ?_
     clear hK K
     refine den_seq ?_
     refine den_region TTok ?_
     intro K hK
     simp -implicitDefEqProofs (disch := first | decide | assumption | omega) only [go_sem, fa61_1, ld59, RdS.len (OS.rd hM) sl56, RdS.idx (OS.rd hM) sl56, RdS.cellN (OS.rd hM), RdS.cells (OS.rd hM), RdS.len (OS.rd hV) sl59, RdS.idx (OS.rd hV) sl59, RdS.cellN (OS.rd hV), RdS.cells (OS.rd hV), RdS.len (OS.rd hA) sl55, RdS.idx (OS.rd hA) sl55, R1.intN (OS.rd hA), RdS.cells (OS.rd hA), RdS.len (OS.rd ho11_6) sl55, RdS.idx (OS.rd ho11_6) sl55, R1.intN (OS.rd ho11_6), RdS.cells (OS.rd ho11_6), BoxAt.cell hbx3, wrap_id, cv_u8, cv_i64, Nat.zero_add, wrap_u8, eq_el, ne_el, build_el, Int.toNat_zero, bF0]
     refine op_bs1 sz59 rfl (OS.one hA).2 ?_
     try simp -implicitDefEqProofs (disch := first | decide | assumption | omega) only [go_sem, BoxAt.cell hb0_1, wrap_id, cv_u8, cv_i64, Nat.zero_add, wrap_u8, eq_el, ne_el, build_el, Int.toNat_zero, bF0]
     refine op_append1 sz59 hV hfhV.nodup hA hfhA.nodup (apart_lt hlhV hfhA (by omega)) (by first | omega | (simp; omega)) rfl rfl ?_
     intro v12_4 h12_4 fp12_4 ho12_4 hn12_4 hs12_4 c12_4
     have hsz12_4 := c12_4.size
     have hfho12_4 : Fresh h1_3.size fp12_4 := Fresh.appd hfhV hfhA (by omega) (by omega) hn12_4 hs12_4
     have sb20 : Sub ([h0_1.size] ++ ([h1_2.size] ++ ([h1_3.size] ++ ([h1_5.size])))) h1_8.size fp12_4 := Sub.grow sbhV (Sub.fresh hfhA (by omega)) (by omega) hs12_4
     replace hM := OS.chg hM c12_4 ap_hM_hV
     replace hR := OS.chg hR c12_4 (apart_gt hfhR hlhV (by omega))
     replace ho11_6 := OS.chg ho11_6 c12_4 (Apart.symm ap15)
     replace hb0_0 := BoxAt.chgA hb0_0 c12_4 (apart_lt hlhb0_0 hfhV (by omega))
     replace hb0_1 := BoxAt.chgA hb0_1 c12_4 (apart_lt hlhb0_1 hfhV (by omega))
     replace hbx3 := BoxAt.chgA hbx3 c12_4 (Apart.symm ap_hV_hbx3)
     have := c12_4.size
     replace eB := Ext.then eB c12_4 (ge_of hfhV (by omega))
     replace cL2 := Chg.step cL2 c12_4 sbhV
     have ap21 : Apart fphM fp12_4 := Apart.grow hlhM (by omega) ap_hM_hV (apart_lt hlhM hfhA (by omega)) hs12_4
     have ap22 : Apart fphR fp12_4 := Apart.grow hlhR (by omega) (apart_gt hfhR hlhV (by omega)) (Apart.symm ap_hA_hR) hs12_4
     have ap23 : Apart fp11_6 fp12_4 := Apart.grow hlho11_6 (by omega) (Apart.symm ap15) (Apart.symm ap17) hs12_4
     have ap24 : Apart [h1_5.size] fp12_4 := Apart.grow hlhbx3 (by omega) (Apart.symm ap_hV_hbx3) (apart_lt hlhbx3 hfhA (by omega)) hs12_4
     have hlho12_4 := OS.lt ho12_4
     try simp -implicitDefEqProofs (disch := first | decide | assumption | omega) only [go_sem, fa61_1, RdS.len (OS.rd hM) sl56, RdS.idx (OS.rd hM) sl56, RdS.cellN (OS.rd hM), RdS.cells (OS.rd hM), RdS.len (OS.rd ho11_6) sl55, RdS.idx (OS.rd ho11_6) sl55, R1.intN (OS.rd ho11_6), RdS.cells (OS.rd ho11_6), BoxAt.cell hbx3, wrap_id, cv_u8, cv_i64, Nat.zero_add, wrap_u8, eq_el, ne_el, build_el, Int.toNat_zero, bF0]
     refine op_storeB (cs' := #[.int .i64 (X.p), v11_6, vhM, v12_4]) st59 hbx3 rfl (OS.one ho12_4).2 rfl (by simp) (allOne_mem (l := [v12_4]) ⟨(OS.one ho12_4).1, trivial⟩) rfl ?_
     intro h12_6 hbx3 c12_6
     replace hM := OS.chg hM c12_6 ap_hM_hbx3
     replace hR := OS.chg hR c12_6 (apart_gt hfhR hlhbx3 (by omega))
     replace ho11_6 := OS.chg ho11_6 c12_6 (Apart.symm ap19)
     replace ho12_4 := OS.chg ho12_4 c12_6 (Apart.symm ap24)
     replace hb0_0 := BoxAt.chgA hb0_0 c12_6 (apart_lt hlhb0_0 hfhbx3 (by omega))
     replace hb0_1 := BoxAt.chgA hb0_1 c12_6 (apart_lt hlhb0_1 hfhbx3 (by omega))
     have := c12_6.size
     replace eB := Ext.then eB c12_6 (ge_of hfhbx3 (by omega))
     replace cL2 := Chg.step cL2 c12_6 (Sub.right (Sub.right (Sub.right Sub.refl)))
     try simp -implicitDefEqProofs (disch := first | decide | assumption | omega) only [go_sem, BoxAt.cell hb0_1, wrap_id, cv_u8, cv_i64, Nat.zero_add, wrap_u8, eq_el, ne_el, build_el, Int.toNat_zero, bF0]
     refine hK _ _ ?_
     clear hK K
     refine den_seq ?_
     refine den_region TTok ?_
     intro K hK
     simp -implicitDefEqProofs (disch := first | decide | assumption | omega) only [go_sem, wrap_id, cv_u8, cv_i64, Nat.zero_add, wrap_u8, eq_el, ne_el, build_el, Int.toNat_zero, bF0]
     refine hK _ _ ?_
     clear hK K
     refine den_cond rfl (fun c2 => ?_) (fun c2 => ?_)
     ·try simp only [decide_eq_true_eq, decide_eq_false_iff_not, beq_iff_eq, beq_eq_false_iff_ne, bne_iff_ne, ne_eq, Bool.not_eq_true', Bool.not_eq_false', Bool.and_eq_true, Bool.or_eq_true, bne_eq_false_iff_eq] at c2
      refine den_region TTok ?_
      intro K hK
      simp -implicitDefEqProofs (disch := first | decide | assumption | omega) only [go_sem, fa58_2, fa61_0, ld56, RdS.len (OS.rd hM) sl56, RdS.idx (OS.rd hM) sl56, RdS.cellN (OS.rd hM), RdS.cells (OS.rd hM), RdS.len (OS.rd hR) sl59, RdS.idx (OS.rd hR) sl59, RdS.cellN (OS.rd hR), RdS.cells (OS.rd hR), RdS.len (OS.rd ho11_6) sl55, RdS.idx (OS.rd ho11_6) sl55, R1.intN (OS.rd ho11_6), RdS.cells (OS.rd ho11_6), RdS.len (OS.rd ho12_4) sl59, RdS.idx (OS.rd ho12_4) sl59, RdS.cellN (OS.rd ho12_4), RdS.cells (OS.rd ho12_4), BoxAt.cell hbx3, wrap_id, cv_u8, cv_i64, Nat.zero_add, wrap_u8, eq_el, ne_el, build_el, Int.toNat_zero, bF0]
      refine op_bs1 sz56 rfl (OS.one hR).2 ?_
      try simp -implicitDefEqProofs (disch := first | decide | assumption | omega) only [go_sem, BoxAt.cell hb0_1, wrap_id, cv_u8, cv_i64, Nat.zero_add, wrap_u8, eq_el, ne_el, build_el, Int.toNat_zero, bF0]
      refine op_append1 sz56 hM hfhM.nodup hR hfhR.nodup (apart_lt hlhM hfhR (by omega)) (by first | omega | (simp; omega)) rfl rfl ?_
      intro v14_5 h14_5 fp14_5 ho14_5 hn14_5 hs14_5 c14_5
      have hsz14_5 := c14_5.size
      have hfho14_5 : Fresh h1_2.size fp14_5 := Fresh.appd hfhM hfhR (by omega) (by omega) hn14_5 hs14_5
      have sb25 : Sub ([h0_1.size] ++ ([h1_2.size] ++ ([h1_3.size] ++ ([h1_5.size])))) h1_8.size fp14_5 := Sub.grow sbhM (Sub.fresh hfhR (by omega)) (by omega) hs14_5
      replace ho11_6 := OS.chg ho11_6 c14_5 (Apart.symm ap14)
      replace ho12_4 := OS.chg ho12_4 c14_5 (Apart.symm ap21)
      replace hb0_0 := BoxAt.chgA hb0_0 c14_5 (apart_lt hlhb0_0 hfhM (by omega))
      replace hb0_1 := BoxAt.chgA hb0_1 c14_5 (apart_lt hlhb0_1 hfhM (by omega))
      replace hbx3 := BoxAt.chgA hbx3 c14_5 (Apart.symm ap_hM_hbx3)
      have := c14_5.size
      replace eB := Ext.then eB c14_5 (ge_of hfhM (by omega))
      replace cL2 := Chg.step cL2 c14_5 sbhM
      have ap26 : Apart fp11_6 fp14_5 := Apart.grow hlho11_6 (by omega) (Apart.symm ap14) (Apart.symm ap18) hs14_5
      have ap27 : Apart fp12_4 fp14_5 := Apart.grow hlho12_4 (by omega) (Apart.symm ap21) (Apart.symm ap22) hs14_5
      have ap28 : Apart [h1_5.size] fp14_5 := Apart.grow hlhbx3 (by omega) (Apart.symm ap_hM_hbx3) (apart_lt hlhbx3 hfhR (by omega)) hs14_5
      have hlho14_5 := OS.lt ho14_5
      try simp -implicitDefEqProofs (disch := first | decide | assumption | omega) only [go_sem, fa58_2, fa61_0, RdS.len (OS.rd ho11_6) sl55, RdS.idx (OS.rd ho11_6) sl55, R1.intN (OS.rd ho11_6), RdS.cells (OS.rd ho11_6), RdS.len (OS.rd ho12_4) sl59, RdS.idx (OS.rd ho12_4) sl59, RdS.cellN (OS.rd ho12_4), RdS.cells (OS.rd ho12_4), BoxAt.cell hbx3, wrap_id, cv_u8, cv_i64, Nat.zero_add, wrap_u8, eq_el, ne_el, build_el, Int.toNat_zero, bF0]
      refine op_storeB (cs' := #[.int .i64 (X.p), v11_6, v14_5, v12_4]) st56 hbx3 rfl (OS.one ho14_5).2 rfl (by simp) (allOne_mem (l := [v14_5]) ⟨(OS.one ho14_5).1, trivial⟩) rfl ?_
      intro h14_8 hbx3 c14_8
      replace ho11_6 := OS.chg ho11_6 c14_8 (Apart.symm ap19)
      replace ho12_4 := OS.chg ho12_4 c14_8 (Apart.symm ap24)
      replace ho14_5 := OS.chg ho14_5 c14_8 (Apart.symm ap28)
      replace hb0_0 := BoxAt.chgA hb0_0 c14_8 (apart_lt hlhb0_0 hfhbx3 (by omega))
      replace hb0_1 := BoxAt.chgA hb0_1 c14_8 (apart_lt hlhb0_1 hfhbx3 (by omega))
      have := c14_8.size
      replace eB := Ext.then eB c14_8 (ge_of hfhbx3 (by omega))
      replace cL2 := Chg.step cL2 c14_8 (Sub.right (Sub.right (Sub.right Sub.refl)))
      try simp -implicitDefEqProofs (disch := first | decide | assumption | omega) only [go_sem, BoxAt.cell hb0_1, wrap_id, cv_u8, cv_i64, Nat.zero_add, wrap_u8, eq_el, ne_el, build_el, Int.toNat_zero, bF0]
      refine hK _ _ ?_
      clear hK K
      refine den_blk ?_
      refine den_region TTok ?_
      intro K hK
      simp -implicitDefEqProofs (disch := first | decide | assumption | omega) only [go_sem, wrap_id, cv_u8, cv_i64, Nat.zero_add, wrap_u8, eq_el, ne_el, build_el, Int.toNat_zero, bF0]
      refine hK _ _ ?_
      clear hK K
      refine den_stop ?_
      rw [fcD_step] at ho11_6
      rw [map_takeE (by omega), show (mbP X (n : Int)).map (fun z : Int => X.lev z.toNat) = fcV X (n : Int) from rfl, fcL_step] at ho12_4
      first | rw [map_takeE (by omega), show ((mbP X (n : Int)).map (fun z : Int => vcP X ((n : Int) - 1) (X.dif z.toNat))) = fcR X (n : Int) from rfl, fcM_step (by omega)] at ho14_5 | rw [show n - 1 = n + 1 - 1 by omega] at ho14_5
      exact ⟨(n + 1, v11_6, fp11_6, v14_5, fp14_5, v12_4, fp12_4), by simp [HasL, puts_at], ⟨by first | omega | (dsimp only; omega), ho11_6, hfho11_6, sb13, ho14_5, hfho14_5, sb25, ho12_4, hfho12_4, sb20, hbx3, ap26, ap23, (Apart.symm ap19), (Apart.symm ap27), (Apart.symm ap28), (Apart.symm ap24), cL2⟩, by first | omega | (dsimp only; omega)⟩
     ·try simp only [decide_eq_true_eq, decide_eq_false_iff_not, beq_iff_eq, beq_eq_false_iff_ne, bne_iff_ne, ne_eq, Bool.not_eq_true', Bool.not_eq_false', Bool.and_eq_true, Bool.or_eq_true, bne_eq_false_iff_eq] at c2
      refine den_skip ?_
      refine den_blk ?_
      refine den_region TTok ?_
      intro K hK
      simp -implicitDefEqProofs (disch := first | decide | assumption | omega) only [go_sem, wrap_id, cv_u8, cv_i64, Nat.zero_add, wrap_u8, eq_el, ne_el, build_el, Int.toNat_zero, bF0]
      refine hK _ _ ?_
      clear hK K
      refine den_stop ?_
      rw [fcD_step] at ho11_6
      rw [map_takeE (by omega), show (mbP X (n : Int)).map (fun z : Int => X.lev z.toNat) = fcV X (n : Int) from rfl, fcL_step] at ho12_4
      first | rw [map_takeE (by omega), show ((mbP X (n : Int)).map (fun z : Int => vcP X ((n : Int) - 1) (X.dif z.toNat))) = fcR X (n : Int) from rfl, fcM_step (by omega)] at hM | rw [show n - 1 = n + 1 - 1 by omega] at hM
      exact ⟨(n + 1, v11_6, fp11_6, vhM, fphM, v12_4, fp12_4), by simp [HasL, puts_at], ⟨by first | omega | (dsimp only; omega), ho11_6, hfho11_6, sb13, hM, hfhM, sbhM, ho12_4, hfho12_4, sb20, hbx3, (Apart.symm ap14), ap23, (Apart.symm ap19), ap21, ap_hM_hbx3, (Apart.symm ap24), cL2⟩, by first | omega | (dsimp only; omega)⟩
  ·try simp only [decide_eq_true_eq, decide_eq_false_iff_not, beq_iff_eq, beq_eq_false_iff_ne, bne_iff_ne, ne_eq, Bool.not_eq_true', Bool.not_eq_false', Bool.and_eq_true, Bool.or_eq_true, bne_eq_false_iff_eq] at c0
   refine den_exit ?_
   refine denX_code ?_
   refine denX_stop ?_
   refine denX_hit ?_
   refine den_seq ?_
   refine den_region TTok ?_
   intro K hK
   simp -implicitDefEqProofs (disch := first | decide | assumption | omega) only [go_sem, ld61, RdS.len (OS.rd hD) sl55, RdS.idx (OS.rd hD) sl55, R1.intN (OS.rd hD), RdS.cells (OS.rd hD), RdS.len (OS.rd hM) sl56, RdS.idx (OS.rd hM) sl56, RdS.cellN (OS.rd hM), RdS.cells (OS.rd hM), RdS.len (OS.rd hV) sl59, RdS.idx (OS.rd hV) sl59, RdS.cellN (OS.rd hV), RdS.cells (OS.rd hV), BoxAt.cell hbx3, wrap_id, cv_u8, cv_i64, Nat.zero_add, wrap_u8, eq_el, ne_el, build_el, Int.toNat_zero, bF0]
   refine op_storeB (cs' := #[.int .i64 (X.p), vhD, vhM, vhV]) st61 hb0_1 rfl rfl rfl (by simp) (allOne_mem (l := [.int .i64 (X.p), vhD, vhM, vhV]) ⟨rfl, (OS.one hD).1, (OS.one hM).1, (OS.one hV).1, trivial⟩) rfl ?_
   intro h15_1 hb0_1 c15_1
   replace hD := OS.chg hD c15_1 (apart_gt hfhD hlhb0_1 (by omega))
   replace hM := OS.chg hM c15_1 (apart_gt hfhM hlhb0_1 (by omega))
   replace hV := OS.chg hV c15_1 (apart_gt hfhV hlhb0_1 (by omega))
   replace hbx3 := BoxAt.chgA hbx3 c15_1 (apart_gt hfhbx3 hlhb0_1 (by omega))
   have := c15_1.size
   replace eB := Ext.then eB c15_1 (ge_of hfhb0_1 (by omega))
   try simp -implicitDefEqProofs (disch := first | decide | assumption | omega) only [go_sem, RdS.len (OS.rd hD) sl55, RdS.idx (OS.rd hD) sl55, R1.intN (OS.rd hD), RdS.cells (OS.rd hD), RdS.len (OS.rd hM) sl56, RdS.idx (OS.rd hM) sl56, RdS.cellN (OS.rd hM), RdS.cells (OS.rd hM), RdS.len (OS.rd hV) sl59, RdS.idx (OS.rd hV) sl59, RdS.cellN (OS.rd hV), RdS.cells (OS.rd hV), BoxAt.cell hb0_1, wrap_id, cv_u8, cv_i64, Nat.zero_add, wrap_u8, eq_el, ne_el, build_el, Int.toNat_zero, bF0]
   refine hK _ _ ?_
   clear hK K
   refine den_ret ?_
   simp -implicitDefEqProofs (disch := first | decide | assumption | omega) only [go_sem, RdS.len (OS.rd hD) sl55, RdS.idx (OS.rd hD) sl55, R1.intN (OS.rd hD), RdS.cells (OS.rd hD), RdS.len (OS.rd hM) sl56, RdS.idx (OS.rd hM) sl56, RdS.cellN (OS.rd hM), RdS.cells (OS.rd hM), RdS.len (OS.rd hV) sl59, RdS.idx (OS.rd hV) sl59, RdS.cellN (OS.rd hV), RdS.cells (OS.rd hV), BoxAt.cell hb0_1, wrap_id, cv_u8, cv_i64, Nat.zero_add, wrap_u8, eq_el, ne_el, build_el, Int.toNat_zero, bF0, resP_c1, ld61]
   have hD := hD
   have hM := hM
   have hV := hV
   rw [show n = fcT X by omega] at hD hM hV
   exact ⟨_, _, _, _, _, _, rfl, hD, hM, hV, Fresh.two (lo := h.size) hfhD (Fresh.two (lo := h.size) hfhM hfhV ap_hM_hV (by omega) (by omega)) (Apart.app ap_hD_hM ap_hD_hV) (by omega) (by omega), eB⟩
end Go.Proofs.Ytacajcjibhifmaa
