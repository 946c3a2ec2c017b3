/-
  What the statement FnExactHomologySizes uses of the walks, part 3.
  Conditions: each theorem's own.
-/
import Derived.Test.YtacajcjibhifmaaG16
import Derived.Test.YtacajcjibhifmaaG17
import Derived.Test.YtacajcjibhifmaaG14
import Derived.Test.YtacajcjibhifmaaG13
import Derived.Test.YtacajcjibhifmaaG15
import Derived.Test.YtacajcjibhifmaaG18
import Derived.Test.YtacajcjibhifmaaG19
import Derived.Test.YtacajcjibhifmaaZHomologySizes1
import Derived.Test.YtacajcjibhifmaaZHomologySizes2
set_option linter.unusedVariables false
set_option linter.unusedSimpArgs false
namespace Go.Proofs.Ytacajcjibhifmaa
open Go
theorem sg_bnd {d : Int} : -1 ≤ 1 - d.tmod 2 * 2 ∧ 1 - d.tmod 2 * 2 ≤ 3 := by
 have h1 := Int.tmod_lt_of_pos d (show (0 : Int) < 2 by decide)
 have h2 := Int.lt_tmod_of_pos d (show (0 : Int) < 2 by decide)
 omega
def UnF (X : Dg) (i : Nat) : Prop := eqE (timesP X.p X.tab (e8 0) (e8 i) 8) (e8 i) = true ∧ eqE (timesP X.p X.tab (e8 i) (e8 0) 8) (e8 i) = true ∧ eqE (dfI X.p X.dif (X.dif i) 8) z8 = true
def LbF (X : Dg) (i j : Nat) : Prop := eqE (dfI X.p X.dif (X.tab i j) 8) (plusN X.p (timesP X.p X.tab (X.dif i) (e8 j) 8) (timesP X.p X.tab (e8 i) (X.dif j) 8) (1 - (X.deg i).tmod 2 * 2) 8) = true
def AsF (X : Dg) (i j k : Nat) : Prop := eqE (timesP X.p X.tab (X.tab i j) (e8 k) 8) (timesP X.p X.tab (e8 i) (X.tab j k) 8) = true
structure IsDg (X : Dg) : Prop where
 fm : IsFm X
 un : ∀ i : Nat, (i : Int) < X.s → UnF X i
 lb : ∀ i : Nat, (i : Int) < X.s → ∀ j : Nat, (j : Int) < X.s → LbF X i j
 ac : ∀ i : Nat, (i : Int) < X.s → ∀ j : Nat, (j : Int) < X.s → ∀ k : Nat, (k : Int) < X.s → AsF X i j k
noncomputable def dgB (X : Dg) : Bool := @decide (IsDg X) (Classical.propDecidable _)
theorem dgB_t {X : Dg} : dgB X = true ↔ IsDg X := @decide_eq_true_iff _ (Classical.propDecidable _)
theorem dgB_y {X : Dg} (h : IsDg X) : true = dgB X := (dgB_t.2 h).symm
theorem dgB_n {X : Dg} (h : ¬ IsDg X) : false = dgB X := by
 cases e : dgB X
 ·rfl
 ·exact absurd (dgB_t.1 e) h
theorem un_no {X : Dg} {i : Nat} (h : UnF X i) (c : (eqE (timesP X.p X.tab (e8 0) (e8 i) 8) (e8 i) = false ∨ eqE (timesP X.p X.tab (e8 i) (e8 0) 8) (e8 i) = false) ∨ eqE (dfI X.p X.dif (X.dif i) 8) z8 = false) : False := by
 rcases c with (c | c) | c
 ·rw [h.1] at c; cases c
 ·rw [h.2.1] at c; cases c
 ·rw [h.2.2] at c; cases c

set_option maxRecDepth 100000 in
set_option maxHeartbeats 4000000 in
theorem iDg_ok (X : Dg) (h : Heap)  (hB : DgB X) : CallA Try.prog 15 #[.agg (dgA X)] h fun v' h' => v' = .bool (dgB X) ∧ Ext h h' := by
 have hBd := hB.dif
 have hBt := hB.tab
 refine callA_intro TTok (args := [_]) Try.func15 (by kernel_rfl) rfl 116 rfl (by simp) [.tmp 2] rfl ?_
 simp only [idxs, Nat.reduceAdd]
 refine den_seq ?_
 refine den_region TTok ?_
 intro K hK
 simp -implicitDefEqProofs (disch := first | decide | assumption | omega) only [go_sem, wrap_id, sbs, Int.toNat_zero]
 refine op_box (cs := dgA X) rfl ?_
 intro h0_0 e0_0 hb0_0 z0_0
 have := Ext.size e0_0
 have eB := e0_0
 have hfhb0_0 : Fresh h.size [h.size] := Fresh.one _
 have hlhb0_0 := one_lt (show h.size < h0_0.size by omega)
 try simp -implicitDefEqProofs (disch := first | decide | assumption | omega) only [go_sem, wrap_id, sbs, Int.toNat_zero]
 refine hK _ _ ?_
 clear hK K
 refine den_seq ?_
 refine den_seq ?_
 refine den_region TTok ?_
 intro K hK
 simp -implicitDefEqProofs (disch := first | decide | assumption | omega) only [go_sem, BoxAt.dgs hb0_0, wrap_id, sbs, Int.toNat_zero]
 try simp -implicitDefEqProofs (disch := first | decide | assumption | omega) only [go_sem, wrap_id, sbs, Int.toNat_zero]
 refine CallA.mono (iFm_ok  X _  hB) ?_
 intro v_ h1_1
 rintro ⟨rfl, e1_1⟩
 replace hb0_0 := BoxAt.ext hb0_0 e1_1
 have := Ext.size e1_1
 replace eB := Ext.trans eB e1_1
 try simp -implicitDefEqProofs (disch := first | decide | assumption | omega) only [go_sem, wrap_id, sbs, Int.toNat_zero]
 refine hK _ _ ?_
 clear hK K
 refine den_cond rfl (fun c0 => ?_) (fun c0 => ?_)
 ·try simp only [ddA, Bool.or_eq_false_iff, Bool.and_eq_false_iff, in3_iff, in3_f] at c0
  refine den_seq ?_
  refine den_region TTok ?_
  intro K hK
  simp -implicitDefEqProofs (disch := first | decide | assumption | omega) only [go_sem, wrap_id, sbs, Int.toNat_zero]
  refine hK _ _ ?_
  clear hK K
  refine den_ret ?_
  simp (disch := decide) only [resP_1, puts_same, puts_ne]
  exact ⟨vbool (dgB_n (fun hh => by rw [fmB_t.2 hh.fm] at c0; cases c0)), eB⟩
 ·try simp only [ddA, Bool.or_eq_false_iff, Bool.and_eq_false_iff, in3_iff, in3_f] at c0
  have hfm := fmB_t.1 c0
  have hs8 := hfm.s
  have hpb := isP_bnd hfm.p
  have hpG : 0 < X.p ∧ X.p ≤ 7 := ⟨by omega, by omega⟩
  refine den_skip ?_
  refine den_seq ?_
  refine den_seq ?_
  refine den_region TTok ?_
  intro K hK
  simp -implicitDefEqProofs (disch := first | decide | assumption | omega) only [go_sem, fa34_1, ld2, BoxAt.dgs hb0_0, wrap_id, sbs, Int.toNat_zero]
  refine hK _ _ ?_
  clear hK K
  refine den_block ?_
  refine den_sel [15, 1, 14] ?_
  intro env_1
  simp only [go_sem]
  refine den_loopS (σ := Nat) (fun st_ => [(15, .int .i64 (st_ : Int))]) (fun st_ H => ((st_ : Int) ≤ X.s) ∧ (∀ a : Nat, a < st_ → UnF X a ∧ ∀ b : Nat, (b : Int) < X.s → LbF X a b ∧ ∀ k : Nat, (k : Int) < X.s → AsF X a b k) ∧ (Ext h1_1 H)) (fun st_ => X.s.toNat - st_) 0 ?_ ?_
  ·exact ⟨by omega, fun a h => by omega, Ext.refl _⟩
  ·rintro i h4 ee3 ⟨hi, hz, cL2⟩
   replace hb0_0 := BoxAt.ext hb0_0 cL2
   have := Ext.size cL2
   replace eB := Ext.trans eB cL2
   simp only [List.cons_append, List.nil_append]
   refine den_seq ?_
   refine den_region TTok ?_
   intro K hK
   simp -implicitDefEqProofs (disch := first | decide | assumption | omega) only [go_sem, wrap_id, sbs, Int.toNat_zero]
   refine hK _ _ ?_
   clear hK K
   refine den_seq ?_
   refine den_cond rfl (fun c1 => ?_) (fun c1 => ?_)
   ·try simp only [ddA, Bool.or_eq_false_iff, Bool.and_eq_false_iff, in3_iff, in3_f] at c1
    refine den_skip ?_
    refine den_seq ?_
    refine den_block ?_
    refine den_seq ?_
    refine den_region TTok ?_
    intro K hK
    simp -implicitDefEqProofs (disch := first | decide | assumption | omega) only [go_sem, wrap_id, sbs, Int.toNat_zero]
    refine hK _ _ ?_
    clear hK K
    refine den_seq ?_
    refine den_region TTok ?_
    intro K hK
    simp -implicitDefEqProofs (disch := first | decide | assumption | omega) only [go_sem, BoxAt.dgs hb0_0, wrap_id, sbs, Int.toNat_zero]
    try simp -implicitDefEqProofs (disch := first | decide | assumption | omega) only [go_sem, wrap_id, sbs, Int.toNat_zero]
    refine CallA.mono (iBas_ok  X (i : Int) _  (by omega)) ?_
    intro v_ h6_2
    rintro ⟨rfl, e6_2⟩
    replace hb0_0 := BoxAt.ext hb0_0 e6_2
    have := Ext.size e6_2
    replace eB := Ext.trans eB e6_2
    replace cL2 := Ext.trans cL2 e6_2
    try simp -implicitDefEqProofs (disch := first | decide | assumption | omega) only [go_sem, wrap_id, sbs, Int.toNat_zero]
    refine op_alloc (cs := elA z8) (by kernel_rfl) ?_
    intro h6_3 e6_3 hb6_3 z6_3
    replace hb0_0 := BoxAt.ext hb0_0 e6_3
    have := Ext.size e6_3
    replace eB := Ext.trans eB e6_3
    replace cL2 := Ext.trans cL2 e6_3
    have hfhb6_3 : Fresh h6_2.size [h6_2.size] := Fresh.one _
    have hlhb6_3 := one_lt (show h6_2.size < h6_3.size by omega)
    try simp -implicitDefEqProofs (disch := first | decide | assumption | omega) only [go_sem, wrap_id, sbs, Int.toNat_zero]
    refine op_storeB (o := 0) (cs' := elA (e8 i)) st30 hb6_3 rfl rfl (elA_sz _) (by rw [elA_sz]; decide) elA_one elA_all ?_
    intro h6_4 hb6_3 c6_4
    replace hb0_0 := BoxAt.chgA hb0_0 c6_4 (apart_lt hlhb0_0 hfhb6_3 (by omega))
    have := c6_4.size
    replace eB := Ext.then eB c6_4 (ge_of hfhb6_3 (by omega))
    replace cL2 := Ext.then cL2 c6_4 (ge_of hfhb6_3 (by omega))
    try simp -implicitDefEqProofs (disch := first | decide | assumption | omega) only [go_sem, wrap_id, sbs, Int.toNat_zero]
    refine hK _ _ ?_
    clear hK K
    refine den_seq ?_
    refine den_seq ?_
    refine den_merge [(46, .bool ((((!(eqE (timesP X.p X.tab (e8 0) (e8 i) 8) (e8 i))) || (!(eqE (timesP X.p X.tab (e8 i) (e8 0) 8) (e8 i)))) || (!(eqE (dfI X.p X.dif (X.dif i) 8) z8)))))] [1, 3, 4, 14, 15] (fun H => Ext h6_4 H) ?_ ?_
     -- a way
    ·refine den_draw TTok mixed [] [(0, true), (1, true), (3, true), (5, true), (2, false), (4, false), (6, true), (7, true), (8, true), (9, true), (10, true), (13, true), (11, false), (12, false), (14, true), (15, true), (16, true), (17, true), (18, true), (19, true), (20, true), (21, true), (23, true), (22, false), (24, true), (25, true)] (by kernel_rfl) ?_
     intro K hK
     simp -implicitDefEqProofs (disch := first | decide | assumption | (simp (disch := decide) only [gvA, eq_self, if_true, if_false, Bool.false_eq_true]; done) | omega) only [go_sem, BoxAt.dgs hb0_0, BoxAt.elC hb6_3, BoxAt.elL hb6_3, wrap_id, sbs, Int.toNat_zero]
     try simp -implicitDefEqProofs (disch := first | decide | assumption | omega) only [go_sem, wrap_id, sbs, Int.toNat_zero]
     refine CallA.mono (iBas_ok  X (0 : Int) _  (by omega)) ?_
     intro v_ h7_2
     rintro ⟨rfl, e7_2⟩
     replace hb0_0 := BoxAt.ext hb0_0 e7_2
     replace hb6_3 := BoxAt.ext hb6_3 e7_2
     have := Ext.size e7_2
     replace eB := Ext.trans eB e7_2
     replace cL2 := Ext.trans cL2 e7_2
     try simp (disch := decide) only [outv_some, outv_none, put_puts]
     refine plK_pres (Ext.pres e7_2) ?_
     try simp -implicitDefEqProofs (disch := first | decide | assumption | (simp (disch := decide) only [gvA, eq_self, if_true, if_false, Bool.false_eq_true]; done) | omega) only [go_sem, wrap_id, sbs, Int.toNat_zero]
     try simp -implicitDefEqProofs (disch := first | decide | assumption | omega) only [go_sem, wrap_id, sbs, Int.toNat_zero]
     refine CallA.mono (iTms_ok  X (e8 0) (e8 i) _  hpG (by first | assumption | exact e8_by _ | exact By.z8 | exact hBd _ | exact hBt _ _ | exact tmJ_by (by omega) (tmI_by (by omega) _) _ | exact timesP_by (by omega) | exact dfI_by (by omega) _ | exact plusN_by (by omega) (timesP_by (by omega)) | exact dfI_by (by omega) 8) (by first | assumption | exact e8_by _ | exact By.z8 | exact hBd _ | exact hBt _ _ | exact tmJ_by (by omega) (tmI_by (by omega) _) _ | exact timesP_by (by omega) | exact dfI_by (by omega) _ | exact plusN_by (by omega) (timesP_by (by omega)) | exact dfI_by (by omega) 8) hBt) ?_
     intro v_ h7_4
     rintro ⟨rfl, e7_4⟩
     replace hb0_0 := BoxAt.ext hb0_0 e7_4
     replace hb6_3 := BoxAt.ext hb6_3 e7_4
     have := Ext.size e7_4
     replace eB := Ext.trans eB e7_4
     replace cL2 := Ext.trans cL2 e7_4
     try simp (disch := decide) only [outv_some, outv_none, put_puts]
     refine plK_pres (Ext.pres e7_4) ?_
     try simp -implicitDefEqProofs (disch := first | decide | assumption | (simp (disch := decide) only [gvA, eq_self, if_true, if_false, Bool.false_eq_true]; done) | omega) only [go_sem, wrap_id, sbs, Int.toNat_zero]
     refine plG_F (by simp (disch := decide) only [gvA, eq_self, if_true, if_false, Bool.false_eq_true]; rfl) (fun g5 => ?_) (fun g5 => ?_)
     ·try simp -implicitDefEqProofs (disch := first | decide | assumption | (simp (disch := decide) only [gvA, eq_self, if_true, if_false, Bool.false_eq_true, g5]; done) | omega) only [go_sem, BoxAt.dgs hb0_0, BoxAt.elC hb6_3, BoxAt.elL hb6_3, wrap_id, sbs, Int.toNat_zero, g5, eq_self, if_true, if_false, Bool.false_eq_true]
      try simp -implicitDefEqProofs (disch := first | decide | assumption | omega) only [go_sem, wrap_id, sbs, Int.toNat_zero]
      refine CallA.mono (iBas_ok  X (0 : Int) _  (by omega)) ?_
      intro v_ h7_11
      rintro ⟨rfl, e7_11⟩
      replace hb0_0 := BoxAt.ext hb0_0 e7_11
      replace hb6_3 := BoxAt.ext hb6_3 e7_11
      have := Ext.size e7_11
      replace eB := Ext.trans eB e7_11
      replace cL2 := Ext.trans cL2 e7_11
      try simp (disch := decide) only [outv_some, outv_none, put_puts]
      refine plK_pres (Ext.pres e7_11) ?_
      try simp -implicitDefEqProofs (disch := first | decide | assumption | (simp (disch := decide) only [gvA, eq_self, if_true, if_false, Bool.false_eq_true, g5]; done) | omega) only [go_sem, wrap_id, sbs, Int.toNat_zero, g5, eq_self, if_true, if_false, Bool.false_eq_true]
      try simp -implicitDefEqProofs (disch := first | decide | assumption | omega) only [go_sem, wrap_id, sbs, Int.toNat_zero]
      refine CallA.mono (iTms_ok  X (e8 i) (e8 0) _  hpG (by first | assumption | exact e8_by _ | exact By.z8 | exact hBd _ | exact hBt _ _ | exact tmJ_by (by omega) (tmI_by (by omega) _) _ | exact timesP_by (by omega) | exact dfI_by (by omega) _ | exact plusN_by (by omega) (timesP_by (by omega)) | exact dfI_by (by omega) 8) (by first | assumption | exact e8_by _ | exact By.z8 | exact hBd _ | exact hBt _ _ | exact tmJ_by (by omega) (tmI_by (by omega) _) _ | exact timesP_by (by omega) | exact dfI_by (by omega) _ | exact plusN_by (by omega) (timesP_by (by omega)) | exact dfI_by (by omega) 8) hBt) ?_
      intro v_ h7_12
      rintro ⟨rfl, e7_12⟩
      replace hb0_0 := BoxAt.ext hb0_0 e7_12
      replace hb6_3 := BoxAt.ext hb6_3 e7_12
      have := Ext.size e7_12
      replace eB := Ext.trans eB e7_12
      replace cL2 := Ext.trans cL2 e7_12
      try simp (disch := decide) only [outv_some, outv_none, put_puts]
      refine plK_pres (Ext.pres e7_12) ?_
      try simp -implicitDefEqProofs (disch := first | decide | assumption | (simp (disch := decide) only [gvA, eq_self, if_true, if_false, Bool.false_eq_true, g5]; done) | omega) only [go_sem, wrap_id, sbs, Int.toNat_zero, g5, eq_self, if_true, if_false, Bool.false_eq_true]
      refine plG_F (by simp (disch := decide) only [gvA, eq_self, if_true, if_false, Bool.false_eq_true, g5]; rfl) (fun g6 => ?_) (fun g6 => ?_)
      ·try simp -implicitDefEqProofs (disch := first | decide | assumption | (simp (disch := decide) only [gvA, eq_self, if_true, if_false, Bool.false_eq_true, g5, g6]; done) | omega) only [go_sem, Int.toNat_zero, fa34_4, ia31, BoxAt.dgs hb0_0, wrap_id, sbs, Int.toNat_zero, g5, g6, eq_self, if_true, if_false, Bool.false_eq_true]
       try simp -implicitDefEqProofs (disch := first | decide | assumption | omega) only [go_sem, wrap_id, sbs, Int.toNat_zero]
       refine CallA.mono (iDif_ok  X (X.dif i) _  hpG (by first | assumption | exact e8_by _ | exact By.z8 | exact hBd _ | exact hBt _ _ | exact tmJ_by (by omega) (tmI_by (by omega) _) _ | exact timesP_by (by omega) | exact dfI_by (by omega) _ | exact plusN_by (by omega) (timesP_by (by omega)) | exact dfI_by (by omega) 8) hBd) ?_
       intro v_ h7_22
       rintro ⟨rfl, e7_22⟩
       replace hb0_0 := BoxAt.ext hb0_0 e7_22
       replace hb6_3 := BoxAt.ext hb6_3 e7_22
       have := Ext.size e7_22
       replace eB := Ext.trans eB e7_22
       replace cL2 := Ext.trans cL2 e7_22
       try simp (disch := decide) only [outv_some, outv_none, put_puts]
       refine plK_pres (Ext.pres e7_22) ?_
       try simp -implicitDefEqProofs (disch := first | decide | assumption | (simp (disch := decide) only [gvA, eq_self, if_true, if_false, Bool.false_eq_true, g5, g6]; done) | omega) only [go_sem, wrap_id, sbs, Int.toNat_zero, g5, g6, eq_self, if_true, if_false, Bool.false_eq_true]
       refine hK _ _ ?_
       clear hK K
       refine den_stop ?_
       refine ⟨?_, (Ext.trans (Ext.trans (Ext.trans (Ext.trans e7_2 e7_4) e7_11) e7_12) e7_22)⟩
       first | (simp (disch := decide) only [go_sem, g5, g6, eq_self, Bool.true_and, Bool.and_true, Bool.false_and, Bool.and_false, Bool.true_or, Bool.or_true, Bool.false_or, Bool.or_false, if_true, if_false, Bool.false_eq_true]; done) | simp [HasL, sel, puts_at, g5, g6]
      ·try simp -implicitDefEqProofs (disch := first | decide | assumption | (simp (disch := decide) only [gvA, eq_self, if_true, if_false, Bool.false_eq_true, g5, g6]; done) | omega) only [go_sem, wrap_id, sbs, Int.toNat_zero, g5, g6, eq_self, if_true, if_false, Bool.false_eq_true]
       refine hK _ _ ?_
       clear hK K
       refine den_stop ?_
       refine ⟨?_, (Ext.trans (Ext.trans (Ext.trans e7_2 e7_4) e7_11) e7_12)⟩
       first | (simp (disch := decide) only [go_sem, g5, g6, eq_self, Bool.true_and, Bool.and_true, Bool.false_and, Bool.and_false, Bool.true_or, Bool.or_true, Bool.false_or, Bool.or_false, if_true, if_false, Bool.false_eq_true]; done) | simp [HasL, sel, puts_at, g5, g6]
     ·try simp -implicitDefEqProofs (disch := first | decide | assumption | (simp (disch := decide) only [gvA, eq_self, if_true, if_false, Bool.false_eq_true, g5]; done) | omega) only [go_sem, wrap_id, sbs, Int.toNat_zero, g5, eq_self, if_true, if_false, Bool.false_eq_true]
      try simp -implicitDefEqProofs (disch := first | decide | assumption | (simp (disch := decide) only [gvA, eq_self, if_true, if_false, Bool.false_eq_true, g5]; done) | omega) only [go_sem, wrap_id, sbs, Int.toNat_zero, g5, eq_self, if_true, if_false, Bool.false_eq_true]
      refine hK _ _ ?_
      clear hK K
      refine den_stop ?_
      refine ⟨?_, (Ext.trans e7_2 e7_4)⟩
      first | (simp (disch := decide) only [go_sem, g5, eq_self, Bool.true_and, Bool.and_true, Bool.false_and, Bool.and_false, Bool.true_or, Bool.or_true, Bool.false_or, Bool.or_false, if_true, if_false, Bool.false_eq_true]; done) | simp [HasL, sel, puts_at, g5]
    intro en7 h8 e9
    replace hb0_0 := BoxAt.ext hb0_0 e9
    replace hb6_3 := BoxAt.ext hb6_3 e9
    have := Ext.size e9
    replace eB := Ext.trans eB e9
    replace cL2 := Ext.trans cL2 e9
    simp (disch := decide) only [go_sem]
    refine den_cond rfl (fun c2 => ?_) (fun c2 => ?_)
    ·try simp only [ddA, Bool.or_eq_false_iff, Bool.and_eq_false_iff, in3_iff, in3_f] at c2
     refine den_seq ?_
     refine den_region TTok ?_
     intro K hK
     simp -implicitDefEqProofs (disch := first | decide | assumption | omega) only [go_sem, wrap_id, sbs, Int.toNat_zero]
     refine hK _ _ ?_
     clear hK K
     refine den_ret ?_
     simp (disch := decide) only [resP_1, puts_same, puts_ne]
     exact ⟨vbool (dgB_n (fun hh => un_no (hh.un i (by omega)) c2)), eB⟩
    ·try simp only [ddA, Bool.or_eq_false_iff, Bool.and_eq_false_iff, in3_iff, in3_f] at c2
     refine den_skip ?_
     refine den_seq ?_
     refine den_region TTok ?_
     intro K hK
     simp -implicitDefEqProofs (disch := first | decide | assumption | omega) only [go_sem, fa34_1, ld2, BoxAt.dgs hb0_0, wrap_id, sbs, Int.toNat_zero]
     refine hK _ _ ?_
     clear hK K
     refine den_block ?_
     refine den_sel [49, 1, 3, 4, 14, 15, 48] ?_
     intro env_10
     simp only [go_sem]
     refine den_loopS (σ := Nat) (fun st_ => [(49, .int .i64 (st_ : Int))]) (fun st_ H => ((st_ : Int) ≤ X.s) ∧ (∀ b : Nat, b < st_ → LbF X i b ∧ ∀ k : Nat, (k : Int) < X.s → AsF X i b k) ∧ (Ext h8 H)) (fun st_ => X.s.toNat - st_) 0 ?_ ?_
     ·exact ⟨by omega, fun b h => by omega, Ext.refl _⟩
     ·rintro j h13 ee12 ⟨hj, hzj, cL11⟩
      replace hb0_0 := BoxAt.ext hb0_0 cL11
      replace hb6_3 := BoxAt.ext hb6_3 cL11
      have := Ext.size cL11
      replace eB := Ext.trans eB cL11
      replace cL2 := Ext.trans cL2 cL11
      simp only [List.cons_append, List.nil_append]
      refine den_seq ?_
      refine den_region TTok ?_
      intro K hK
      simp -implicitDefEqProofs (disch := first | decide | assumption | omega) only [go_sem, wrap_id, sbs, Int.toNat_zero]
      refine hK _ _ ?_
      clear hK K
      refine den_seq ?_
      refine den_cond rfl (fun c3 => ?_) (fun c3 => ?_)
      ·try simp only [ddA, Bool.or_eq_false_iff, Bool.and_eq_false_iff, in3_iff, in3_f] at c3
       refine den_skip ?_
       refine den_seq ?_
       refine den_block ?_
       refine den_seq ?_
       refine den_region TTok ?_
       intro K hK
       simp -implicitDefEqProofs (disch := first | decide | assumption | omega) only [go_sem, wrap_id, sbs, Int.toNat_zero]
       refine hK _ _ ?_
       clear hK K
       refine den_seq ?_
       refine den_region TTok ?_
       intro K hK
       simp -implicitDefEqProofs (disch := first | decide | assumption | omega) only [go_sem, BoxAt.dgs hb0_0, wrap_id, sbs, Int.toNat_zero]
       try simp -implicitDefEqProofs (disch := first | decide | assumption | omega) only [go_sem, wrap_id, sbs, Int.toNat_zero]
       refine CallA.mono (iBas_ok  X (j : Int) _  (by omega)) ?_
       intro v_ h12_2
       rintro ⟨rfl, e12_2⟩
       replace hb0_0 := BoxAt.ext hb0_0 e12_2
       replace hb6_3 := BoxAt.ext hb6_3 e12_2
       have := Ext.size e12_2
       replace eB := Ext.trans eB e12_2
       replace cL2 := Ext.trans cL2 e12_2
       replace cL11 := Ext.trans cL11 e12_2
       try simp -implicitDefEqProofs (disch := first | decide | assumption | omega) only [go_sem, wrap_id, sbs, Int.toNat_zero]
       refine op_alloc (cs := elA z8) (by kernel_rfl) ?_
       intro h12_3 e12_3 hb12_3 z12_3
       replace hb0_0 := BoxAt.ext hb0_0 e12_3
       replace hb6_3 := BoxAt.ext hb6_3 e12_3
       have := Ext.size e12_3
       replace eB := Ext.trans eB e12_3
       replace cL2 := Ext.trans cL2 e12_3
       replace cL11 := Ext.trans cL11 e12_3
       have hfhb12_3 : Fresh h12_2.size [h12_2.size] := Fresh.one _
       have hlhb12_3 := one_lt (show h12_2.size < h12_3.size by omega)
       try simp -implicitDefEqProofs (disch := first | decide | assumption | omega) only [go_sem, wrap_id, sbs, Int.toNat_zero]
       refine op_storeB (o := 0) (cs' := elA (e8 j)) st30 hb12_3 rfl rfl (elA_sz _) (by rw [elA_sz]; decide) elA_one elA_all ?_
       intro h12_4 hb12_3 c12_4
       replace hb0_0 := BoxAt.chgA hb0_0 c12_4 (apart_lt hlhb0_0 hfhb12_3 (by omega))
       replace hb6_3 := BoxAt.chgA hb6_3 c12_4 (apart_lt hlhb6_3 hfhb12_3 (by omega))
       have := c12_4.size
       replace eB := Ext.then eB c12_4 (ge_of hfhb12_3 (by omega))
       replace cL2 := Ext.then cL2 c12_4 (ge_of hfhb12_3 (by omega))
       replace cL11 := Ext.then cL11 c12_4 (ge_of hfhb12_3 (by omega))
       try simp -implicitDefEqProofs (disch := first | decide | assumption | omega) only [go_sem, wrap_id, sbs, Int.toNat_zero]
       refine hK _ _ ?_
       clear hK K
       refine den_seq ?_
       refine den_sel [1, 3, 4, 5, 6, 14, 15, 48, 49] ?_
       intro env_14
       simp only [go_sem]
       refine den_drawTJ (σ := Nat) TTok (fun st_ => [(7, .pointer (some ⟨st_, 0, none⟩))]) (fun st_ H => (BoxAt H st_ (elA (dfI X.p X.dif ((X.tab i) j) 8)) 30) ∧ (Fresh h12_4.size [st_]) ∧ (Ext h12_4 H)) mixed [9] [(0, true), (1, true), (2, true), (3, true), (4, true), (5, true), (6, true)] (.fork 7 [(8, false), (9, false)] .fin 8 [(7, false), (9, false)] .fin) (by kernel_rfl) ?_ ?_
       ·intro K hK
        have cJ15 := Ext.refl h12_4
        simp -implicitDefEqProofs (disch := first | decide | assumption | omega) only [go_sem, Int.toNat_zero, fa34_5, ia32, ia31, BoxAt.dgs hb0_0, wrap_id, sbs, Int.toNat_zero]
        refine And.intro ?_ ?_
        ·simp -implicitDefEqProofs (disch := first | decide | assumption | omega) only [go_sem, wrap_id, sbs, Int.toNat_zero]
         try simp -implicitDefEqProofs (disch := first | decide | assumption | omega) only [go_sem, wrap_id, sbs, Int.toNat_zero]
         refine CallA.mono (iDif_ok  X ((X.tab i) j) _  hpG (by first | assumption | exact e8_by _ | exact By.z8 | exact hBd _ | exact hBt _ _ | exact tmJ_by (by omega) (tmI_by (by omega) _) _ | exact timesP_by (by omega) | exact dfI_by (by omega) _ | exact plusN_by (by omega) (timesP_by (by omega)) | exact dfI_by (by omega) 8) hBd) ?_
         intro v_ h13_7
         rintro ⟨rfl, e13_7⟩
         replace hb0_0 := BoxAt.ext hb0_0 e13_7
         replace hb6_3 := BoxAt.ext hb6_3 e13_7
         replace hb12_3 := BoxAt.ext hb12_3 e13_7
         have := Ext.size e13_7
         replace eB := Ext.trans eB e13_7
         replace cL2 := Ext.trans cL2 e13_7
         replace cL11 := Ext.trans cL11 e13_7
         replace cJ15 := Ext.trans cJ15 e13_7
         try simp (disch := decide) only [outv_some, outv_none, put_puts]
         refine plK_pres (Ext.pres e13_7) ?_
         try simp -implicitDefEqProofs (disch := first | decide | assumption | omega) only [go_sem, wrap_id, sbs, Int.toNat_zero]
         refine op_alloc (cs := elA z8) (by kernel_rfl) ?_
         intro h13_8 e13_8 hb13_8 z13_8
         replace hb0_0 := BoxAt.ext hb0_0 e13_8
         replace hb6_3 := BoxAt.ext hb6_3 e13_8
         replace hb12_3 := BoxAt.ext hb12_3 e13_8
         have := Ext.size e13_8
         replace eB := Ext.trans eB e13_8
         replace cL2 := Ext.trans cL2 e13_8
         replace cL11 := Ext.trans cL11 e13_8
         replace cJ15 := Ext.trans cJ15 e13_8
         have hfhb13_8 : Fresh h13_7.size [h13_7.size] := Fresh.one _
         have hlhb13_8 := one_lt (show h13_7.size < h13_8.size by omega)
         try simp (disch := decide) only [outv_some, outv_none, put_puts]
         refine plK_pres (Ext.pres e13_8) ?_
         try simp -implicitDefEqProofs (disch := first | decide | assumption | omega) only [go_sem, wrap_id, sbs, Int.toNat_zero]
         refine op_storeB (o := 0) (cs' := elA (dfI X.p X.dif ((X.tab i) j) 8)) st30 hb13_8 rfl rfl (elA_sz _) (by rw [elA_sz]; decide) elA_one elA_all ?_
         intro h13_9 hb13_8 c13_9
         replace hb0_0 := BoxAt.chgA hb0_0 c13_9 (apart_lt hlhb0_0 hfhb13_8 (by omega))
         replace hb6_3 := BoxAt.chgA hb6_3 c13_9 (apart_lt hlhb6_3 hfhb13_8 (by omega))
         replace hb12_3 := BoxAt.chgA hb12_3 c13_9 (apart_lt hlhb12_3 hfhb13_8 (by omega))
         have := c13_9.size
         replace eB := Ext.then eB c13_9 (ge_of hfhb13_8 (by omega))
         replace cL2 := Ext.then cL2 c13_9 (ge_of hfhb13_8 (by omega))
         replace cL11 := Ext.then cL11 c13_9 (ge_of hfhb13_8 (by omega))
         replace cJ15 := Ext.then cJ15 c13_9 (ge_of hfhb13_8 (by omega))
         try simp (disch := decide) only [outv_some, outv_none, put_puts]
         refine plK_last (by decide) ?_
         try simp -implicitDefEqProofs (disch := first | decide | assumption | omega) only [go_sem, wrap_id, sbs, Int.toNat_zero]
         exact hK h13_7.size _ _ (by simp [HasL, puts_at]) ⟨hb13_8, (hfhb13_8.mono (by omega)), cJ15⟩
        ·simp -implicitDefEqProofs (disch := first | decide | assumption | omega) only [go_sem, wrap_id, sbs, Int.toNat_zero]
         refine op_alloc (cs := elA z8) (by kernel_rfl) ?_
         intro h13_8 e13_8 hb13_8 z13_8
         replace hb0_0 := BoxAt.ext hb0_0 e13_8
         replace hb6_3 := BoxAt.ext hb6_3 e13_8
         replace hb12_3 := BoxAt.ext hb12_3 e13_8
         have := Ext.size e13_8
         replace eB := Ext.trans eB e13_8
         replace cL2 := Ext.trans cL2 e13_8
         replace cL11 := Ext.trans cL11 e13_8
         replace cJ15 := Ext.trans cJ15 e13_8
         have hfhb13_8 : Fresh h12_4.size [h12_4.size] := Fresh.one _
         have hlhb13_8 := one_lt (show h12_4.size < h13_8.size by omega)
         try simp (disch := decide) only [outv_some, outv_none, put_puts]
         refine plK_pres (Ext.pres e13_8) ?_
         try simp -implicitDefEqProofs (disch := first | decide | assumption | omega) only [go_sem, wrap_id, sbs, Int.toNat_zero]
         try simp -implicitDefEqProofs (disch := first | decide | assumption | omega) only [go_sem, wrap_id, sbs, Int.toNat_zero]
         refine CallA.mono (iDif_ok  X ((X.tab i) j) _  hpG (by first | assumption | exact e8_by _ | exact By.z8 | exact hBd _ | exact hBt _ _ | exact tmJ_by (by omega) (tmI_by (by omega) _) _ | exact timesP_by (by omega) | exact dfI_by (by omega) _ | exact plusN_by (by omega) (timesP_by (by omega)) | exact dfI_by (by omega) 8) hBd) ?_
         intro v_ h13_7
         rintro ⟨rfl, e13_7⟩
         replace hb0_0 := BoxAt.ext hb0_0 e13_7
         replace hb6_3 := BoxAt.ext hb6_3 e13_7
         replace hb12_3 := BoxAt.ext hb12_3 e13_7
         replace hb13_8 := BoxAt.ext hb13_8 e13_7
         have := Ext.size e13_7
         replace eB := Ext.trans eB e13_7
         replace cL2 := Ext.trans cL2 e13_7
         replace cL11 := Ext.trans cL11 e13_7
         replace cJ15 := Ext.trans cJ15 e13_7
         try simp (disch := decide) only [outv_some, outv_none, put_puts]
         refine plK_pres (Ext.pres e13_7) ?_
         try simp -implicitDefEqProofs (disch := first | decide | assumption | omega) only [go_sem, wrap_id, sbs, Int.toNat_zero]
         refine op_storeB (o := 0) (cs' := elA (dfI X.p X.dif ((X.tab i) j) 8)) st30 hb13_8 rfl rfl (elA_sz _) (by rw [elA_sz]; decide) elA_one elA_all ?_
         intro h13_9 hb13_8 c13_9
         replace hb0_0 := BoxAt.chgA hb0_0 c13_9 (apart_lt hlhb0_0 hfhb13_8 (by omega))
         replace hb6_3 := BoxAt.chgA hb6_3 c13_9 (apart_lt hlhb6_3 hfhb13_8 (by omega))
         replace hb12_3 := BoxAt.chgA hb12_3 c13_9 (apart_lt hlhb12_3 hfhb13_8 (by omega))
         have := c13_9.size
         replace eB := Ext.then eB c13_9 (ge_of hfhb13_8 (by omega))
         replace cL2 := Ext.then cL2 c13_9 (ge_of hfhb13_8 (by omega))
         replace cL11 := Ext.then cL11 c13_9 (ge_of hfhb13_8 (by omega))
         replace cJ15 := Ext.then cJ15 c13_9 (ge_of hfhb13_8 (by omega))
         try simp (disch := decide) only [outv_some, outv_none, put_puts]
         refine plK_last (by decide) ?_
         try simp -implicitDefEqProofs (disch := first | decide | assumption | omega) only [go_sem, wrap_id, sbs, Int.toNat_zero]
         exact hK h12_4.size _ _ (by simp [HasL, puts_at]) ⟨hb13_8, (hfhb13_8.mono (by omega)), cJ15⟩
       ·rintro bJhb13_8 hj16 ee18 ⟨hb13_8, hfhb13_8, eJ17⟩
        replace hb0_0 := BoxAt.ext hb0_0 eJ17
        replace hb6_3 := BoxAt.ext hb6_3 eJ17
        replace hb12_3 := BoxAt.ext hb12_3 eJ17
        have := Ext.size eJ17
        replace eB := Ext.trans eB eJ17
        replace cL2 := Ext.trans cL2 eJ17
        replace cL11 := Ext.trans cL11 eJ17
        have hlhb13_8 := one_lt hb13_8.lt
        simp only [List.cons_append, List.nil_append]
        refine den_seq ?_
        have hdr := (hfm.row i (by omega)).deg
        have hsg := sg_bnd (d := X.deg i)
        refine den_sel [1, 3, 4, 5, 6, 7, 14, 15, 48, 49] ?_
        intro env_19
        simp only [go_sem]
        refine den_drawTJ (σ := Nat) TTok (fun st_ => [(8, .pointer (some ⟨st_, 0, none⟩))]) (fun st_ H => (BoxAt H st_ (elA (plusN X.p (timesP X.p X.tab (X.dif i) (e8 j) 8) (timesP X.p X.tab (e8 i) (X.dif j) 8) (1 - (X.deg i).tmod 2 * 2) 8)) 30) ∧ (Fresh hj16.size [st_]) ∧ (Ext hj16 H)) mixed [22] [(0, true), (1, true), (2, true), (3, true), (4, true), (5, true), (6, true), (8, true), (9, true), (10, true), (11, true), (12, true), (13, true), (15, true), (16, true), (17, true), (18, true)] (.fork 7 [] (.fork 14 [] (.fork 19 [] (.fork 20 [(21, false), (22, false)] .fin 21 [(20, false), (22, false)] .fin) 21 [(19, false), (20, false), (22, false)] .fin) 21 [(14, false), (19, false), (20, false), (22, false)] .fin) 21 [(7, false), (14, false), (19, false), (20, false), (22, false)] .fin) (by kernel_rfl) ?_ ?_
        ·intro K hK
         have cJ20 := Ext.refl hj16
         simp -implicitDefEqProofs (disch := first | decide | assumption | omega) only [go_sem, Int.toNat_zero, fa34_2, fa34_4, ia31, ia22, ld2, BoxAt.dgs hb0_0, BoxAt.elC hb6_3, BoxAt.elL hb6_3, BoxAt.elC hb12_3, BoxAt.elL hb12_3, wrap_id, sbs, Int.toNat_zero]
         refine And.intro ?_ ?_
         ·simp -implicitDefEqProofs (disch := first | decide | assumption | omega) only [go_sem, wrap_id, sbs, Int.toNat_zero]
          try simp -implicitDefEqProofs (disch := first | decide | assumption | omega) only [go_sem, wrap_id, sbs, Int.toNat_zero]
          refine CallA.mono (iTms_ok  X (X.dif i) (e8 j) _  hpG (by first | assumption | exact e8_by _ | exact By.z8 | exact hBd _ | exact hBt _ _ | exact tmJ_by (by omega) (tmI_by (by omega) _) _ | exact timesP_by (by omega) | exact dfI_by (by omega) _ | exact plusN_by (by omega) (timesP_by (by omega)) | exact dfI_by (by omega) 8) (by first | assumption | exact e8_by _ | exact By.z8 | exact hBd _ | exact hBt _ _ | exact tmJ_by (by omega) (tmI_by (by omega) _) _ | exact timesP_by (by omega) | exact dfI_by (by omega) _ | exact plusN_by (by omega) (timesP_by (by omega)) | exact dfI_by (by omega) 8) hBt) ?_
          intro v_ h14_7
          rintro ⟨rfl, e14_7⟩
          replace hb0_0 := BoxAt.ext hb0_0 e14_7
          replace hb6_3 := BoxAt.ext hb6_3 e14_7
          replace hb12_3 := BoxAt.ext hb12_3 e14_7
          replace hb13_8 := BoxAt.ext hb13_8 e14_7
          have := Ext.size e14_7
          replace eB := Ext.trans eB e14_7
          replace cL2 := Ext.trans cL2 e14_7
          replace cL11 := Ext.trans cL11 e14_7
          replace cJ20 := Ext.trans cJ20 e14_7
          try simp (disch := decide) only [outv_some, outv_none, put_puts]
          refine plK_pres (Ext.pres e14_7) ?_
          try simp -implicitDefEqProofs (disch := first | decide | assumption | omega) only [go_sem, wrap_id, sbs, Int.toNat_zero]
          refine And.intro ?_ ?_
          ·simp -implicitDefEqProofs (disch := first | decide | assumption | omega) only [go_sem, wrap_id, sbs, Int.toNat_zero]
           try simp -implicitDefEqProofs (disch := first | decide | assumption | omega) only [go_sem, wrap_id, sbs, Int.toNat_zero]
           refine CallA.mono (iTms_ok  X (e8 i) (X.dif j) _  hpG (by first | assumption | exact e8_by _ | exact By.z8 | exact hBd _ | exact hBt _ _ | exact tmJ_by (by omega) (tmI_by (by omega) _) _ | exact timesP_by (by omega) | exact dfI_by (by omega) _ | exact plusN_by (by omega) (timesP_by (by omega)) | exact dfI_by (by omega) 8) (by first | assumption | exact e8_by _ | exact By.z8 | exact hBd _ | exact hBt _ _ | exact tmJ_by (by omega) (tmI_by (by omega) _) _ | exact timesP_by (by omega) | exact dfI_by (by omega) _ | exact plusN_by (by omega) (timesP_by (by omega)) | exact dfI_by (by omega) 8) hBt) ?_
           intro v_ h14_14
           rintro ⟨rfl, e14_14⟩
           replace hb0_0 := BoxAt.ext hb0_0 e14_14
           replace hb6_3 := BoxAt.ext hb6_3 e14_14
           replace hb12_3 := BoxAt.ext hb12_3 e14_14
           replace hb13_8 := BoxAt.ext hb13_8 e14_14
           have := Ext.size e14_14
           replace eB := Ext.trans eB e14_14
           replace cL2 := Ext.trans cL2 e14_14
           replace cL11 := Ext.trans cL11 e14_14
           replace cJ20 := Ext.trans cJ20 e14_14
           try simp (disch := decide) only [outv_some, outv_none, put_puts]
           refine plK_pres (Ext.pres e14_14) ?_
           try simp -implicitDefEqProofs (disch := first | decide | assumption | omega) only [go_sem, wrap_id, sbs, Int.toNat_zero]
           refine And.intro ?_ ?_
           ·simp -implicitDefEqProofs (disch := first | decide | assumption | omega) only [go_sem, wrap_id, sbs, Int.toNat_zero]
            try simp -implicitDefEqProofs (disch := first | decide | assumption | omega) only [go_sem, wrap_id, sbs, Int.toNat_zero]
            refine CallA.mono (iSign_ok  (X.deg i) _  (by omega)) ?_
            intro v_ h14_19
            rintro ⟨rfl, e14_19⟩
            replace hb0_0 := BoxAt.ext hb0_0 e14_19
            replace hb6_3 := BoxAt.ext hb6_3 e14_19
            replace hb12_3 := BoxAt.ext hb12_3 e14_19
            replace hb13_8 := BoxAt.ext hb13_8 e14_19
            have := Ext.size e14_19
            replace eB := Ext.trans eB e14_19
            replace cL2 := Ext.trans cL2 e14_19
            replace cL11 := Ext.trans cL11 e14_19
            replace cJ20 := Ext.trans cJ20 e14_19
            try simp (disch := decide) only [outv_some, outv_none, put_puts]
            refine plK_pres (Ext.pres e14_19) ?_
            try simp -implicitDefEqProofs (disch := first | decide | assumption | omega) only [go_sem, wrap_id, sbs, Int.toNat_zero]
            refine And.intro ?_ ?_
            ·simp -implicitDefEqProofs (disch := first | decide | assumption | omega) only [go_sem, wrap_id, sbs, Int.toNat_zero]
             try simp -implicitDefEqProofs (disch := first | decide | assumption | omega) only [go_sem, wrap_id, sbs, Int.toNat_zero]
             refine CallA.mono (iPls_ok  X (timesP X.p X.tab (X.dif i) (e8 j) 8) (timesP X.p X.tab (e8 i) (X.dif j) 8) (1 - (X.deg i).tmod 2 * 2) _  hpG (by first | assumption | exact e8_by _ | exact By.z8 | exact hBd _ | exact hBt _ _ | exact tmJ_by (by omega) (tmI_by (by omega) _) _ | exact timesP_by (by omega) | exact dfI_by (by omega) _ | exact plusN_by (by omega) (timesP_by (by omega)) | exact dfI_by (by omega) 8) (by first | assumption | exact e8_by _ | exact By.z8 | exact hBd _ | exact hBt _ _ | exact tmJ_by (by omega) (tmI_by (by omega) _) _ | exact timesP_by (by omega) | exact dfI_by (by omega) _ | exact plusN_by (by omega) (timesP_by (by omega)) | exact dfI_by (by omega) 8) (by omega)) ?_
             intro v_ h14_20
             rintro ⟨rfl, e14_20⟩
             replace hb0_0 := BoxAt.ext hb0_0 e14_20
             replace hb6_3 := BoxAt.ext hb6_3 e14_20
             replace hb12_3 := BoxAt.ext hb12_3 e14_20
             replace hb13_8 := BoxAt.ext hb13_8 e14_20
             have := Ext.size e14_20
             replace eB := Ext.trans eB e14_20
             replace cL2 := Ext.trans cL2 e14_20
             replace cL11 := Ext.trans cL11 e14_20
             replace cJ20 := Ext.trans cJ20 e14_20
             try simp (disch := decide) only [outv_some, outv_none, put_puts]
             refine plK_pres (Ext.pres e14_20) ?_
             try simp -implicitDefEqProofs (disch := first | decide | assumption | omega) only [go_sem, wrap_id, sbs, Int.toNat_zero]
             refine op_alloc (cs := elA z8) (by kernel_rfl) ?_
             intro h14_21 e14_21 hb14_21 z14_21
             replace hb0_0 := BoxAt.ext hb0_0 e14_21
             replace hb6_3 := BoxAt.ext hb6_3 e14_21
             replace hb12_3 := BoxAt.ext hb12_3 e14_21
             replace hb13_8 := BoxAt.ext hb13_8 e14_21
             have := Ext.size e14_21
             replace eB := Ext.trans eB e14_21
             replace cL2 := Ext.trans cL2 e14_21
             replace cL11 := Ext.trans cL11 e14_21
             replace cJ20 := Ext.trans cJ20 e14_21
             have hfhb14_21 : Fresh h14_20.size [h14_20.size] := Fresh.one _
             have hlhb14_21 := one_lt (show h14_20.size < h14_21.size by omega)
             try simp (disch := decide) only [outv_some, outv_none, put_puts]
             refine plK_pres (Ext.pres e14_21) ?_
             try simp -implicitDefEqProofs (disch := first | decide | assumption | omega) only [go_sem, wrap_id, sbs, Int.toNat_zero]
             refine op_storeB (o := 0) (cs' := elA (plusN X.p (timesP X.p X.tab (X.dif i) (e8 j) 8) (timesP X.p X.tab (e8 i) (X.dif j) 8) (1 - (X.deg i).tmod 2 * 2) 8)) st30 hb14_21 rfl rfl (elA_sz _) (by rw [elA_sz]; decide) elA_one elA_all ?_
             intro h14_22 hb14_21 c14_22
             replace hb0_0 := BoxAt.chgA hb0_0 c14_22 (apart_lt hlhb0_0 hfhb14_21 (by omega))
             replace hb6_3 := BoxAt.chgA hb6_3 c14_22 (apart_lt hlhb6_3 hfhb14_21 (by omega))
             replace hb12_3 := BoxAt.chgA hb12_3 c14_22 (apart_lt hlhb12_3 hfhb14_21 (by omega))
             replace hb13_8 := BoxAt.chgA hb13_8 c14_22 (apart_lt hlhb13_8 hfhb14_21 (by omega))
             have := c14_22.size
             replace eB := Ext.then eB c14_22 (ge_of hfhb14_21 (by omega))
             replace cL2 := Ext.then cL2 c14_22 (ge_of hfhb14_21 (by omega))
             replace cL11 := Ext.then cL11 c14_22 (ge_of hfhb14_21 (by omega))
             replace cJ20 := Ext.then cJ20 c14_22 (ge_of hfhb14_21 (by omega))
             try simp (disch := decide) only [outv_some, outv_none, put_puts]
             refine plK_last (by decide) ?_
             try simp -implicitDefEqProofs (disch := first | decide | assumption | omega) only [go_sem, wrap_id, sbs, Int.toNat_zero]
             exact hK h14_20.size _ _ (by simp [HasL, puts_at]) ⟨hb14_21, (hfhb14_21.mono (by omega)), cJ20⟩
            ·simp -implicitDefEqProofs (disch := first | decide | assumption | omega) only [go_sem, wrap_id, sbs, Int.toNat_zero]
             refine op_alloc (cs := elA z8) (by kernel_rfl) ?_
             intro h14_21 e14_21 hb14_21 z14_21
             replace hb0_0 := BoxAt.ext hb0_0 e14_21
             replace hb6_3 := BoxAt.ext hb6_3 e14_21
             replace hb12_3 := BoxAt.ext hb12_3 e14_21
             replace hb13_8 := BoxAt.ext hb13_8 e14_21
             have := Ext.size e14_21
             replace eB := Ext.trans eB e14_21
             replace cL2 := Ext.trans cL2 e14_21
             replace cL11 := Ext.trans cL11 e14_21
             replace cJ20 := Ext.trans cJ20 e14_21
             have hfhb14_21 : Fresh h14_19.size [h14_19.size] := Fresh.one _
             have hlhb14_21 := one_lt (show h14_19.size < h14_21.size by omega)
             try simp (disch := decide) only [outv_some, outv_none, put_puts]
             refine plK_pres (Ext.pres e14_21) ?_
             try simp -implicitDefEqProofs (disch := first | decide | assumption | omega) only [go_sem, wrap_id, sbs, Int.toNat_zero]
             try simp -implicitDefEqProofs (disch := first | decide | assumption | omega) only [go_sem, wrap_id, sbs, Int.toNat_zero]
             refine CallA.mono (iPls_ok  X (timesP X.p X.tab (X.dif i) (e8 j) 8) (timesP X.p X.tab (e8 i) (X.dif j) 8) (1 - (X.deg i).tmod 2 * 2) _  hpG (by first | assumption | exact e8_by _ | exact By.z8 | exact hBd _ | exact hBt _ _ | exact tmJ_by (by omega) (tmI_by (by omega) _) _ | exact timesP_by (by omega) | exact dfI_by (by omega) _ | exact plusN_by (by omega) (timesP_by (by omega)) | exact dfI_by (by omega) 8) (by first | assumption | exact e8_by _ | exact By.z8 | exact hBd _ | exact hBt _ _ | exact tmJ_by (by omega) (tmI_by (by omega) _) _ | exact timesP_by (by omega) | exact dfI_by (by omega) _ | exact plusN_by (by omega) (timesP_by (by omega)) | exact dfI_by (by omega) 8) (by omega)) ?_
             intro v_ h14_20
             rintro ⟨rfl, e14_20⟩
             replace hb0_0 := BoxAt.ext hb0_0 e14_20
             replace hb6_3 := BoxAt.ext hb6_3 e14_20
             replace hb12_3 := BoxAt.ext hb12_3 e14_20
             replace hb13_8 := BoxAt.ext hb13_8 e14_20
             replace hb14_21 := BoxAt.ext hb14_21 e14_20
             have := Ext.size e14_20
             replace eB := Ext.trans eB e14_20
             replace cL2 := Ext.trans cL2 e14_20
             replace cL11 := Ext.trans cL11 e14_20
             replace cJ20 := Ext.trans cJ20 e14_20
             try simp (disch := decide) only [outv_some, outv_none, put_puts]
             refine plK_pres (Ext.pres e14_20) ?_
             try simp -implicitDefEqProofs (disch := first | decide | assumption | omega) only [go_sem, wrap_id, sbs, Int.toNat_zero]
             refine op_storeB (o := 0) (cs' := elA (plusN X.p (timesP X.p X.tab (X.dif i) (e8 j) 8) (timesP X.p X.tab (e8 i) (X.dif j) 8) (1 - (X.deg i).tmod 2 * 2) 8)) st30 hb14_21 rfl rfl (elA_sz _) (by rw [elA_sz]; decide) elA_one elA_all ?_
             intro h14_22 hb14_21 c14_22
             replace hb0_0 := BoxAt.chgA hb0_0 c14_22 (apart_lt hlhb0_0 hfhb14_21 (by omega))
             replace hb6_3 := BoxAt.chgA hb6_3 c14_22 (apart_lt hlhb6_3 hfhb14_21 (by omega))
             replace hb12_3 := BoxAt.chgA hb12_3 c14_22 (apart_lt hlhb12_3 hfhb14_21 (by omega))
             replace hb13_8 := BoxAt.chgA hb13_8 c14_22 (apart_lt hlhb13_8 hfhb14_21 (by omega))
             have := c14_22.size
             replace eB := Ext.then eB c14_22 (ge_of hfhb14_21 (by omega))
             replace cL2 := Ext.then cL2 c14_22 (ge_of hfhb14_21 (by omega))
             replace cL11 := Ext.then cL11 c14_22 (ge_of hfhb14_21 (by omega))
             replace cJ20 := Ext.then cJ20 c14_22 (ge_of hfhb14_21 (by omega))
             try simp (disch := decide) only [outv_some, outv_none, put_puts]
             refine plK_last (by decide) ?_
             try simp -implicitDefEqProofs (disch := first | decide | assumption | omega) only [go_sem, wrap_id, sbs, Int.toNat_zero]
             exact hK h14_19.size _ _ (by simp [HasL, puts_at]) ⟨hb14_21, (hfhb14_21.mono (by omega)), cJ20⟩
           ·simp -implicitDefEqProofs (disch := first | decide | assumption | omega) only [go_sem, wrap_id, sbs, Int.toNat_zero]
            refine op_alloc (cs := elA z8) (by kernel_rfl) ?_
            intro h14_21 e14_21 hb14_21 z14_21
            replace hb0_0 := BoxAt.ext hb0_0 e14_21
            replace hb6_3 := BoxAt.ext hb6_3 e14_21
            replace hb12_3 := BoxAt.ext hb12_3 e14_21
            replace hb13_8 := BoxAt.ext hb13_8 e14_21
            have := Ext.size e14_21
            replace eB := Ext.trans eB e14_21
            replace cL2 := Ext.trans cL2 e14_21
            replace cL11 := Ext.trans cL11 e14_21
            replace cJ20 := Ext.trans cJ20 e14_21
            have hfhb14_21 : Fresh h14_14.size [h14_14.size] := Fresh.one _
            have hlhb14_21 := one_lt (show h14_14.size < h14_21.size by omega)
            try simp (disch := decide) only [outv_some, outv_none, put_puts]
            refine plK_pres (Ext.pres e14_21) ?_
            try simp -implicitDefEqProofs (disch := first | decide | assumption | omega) only [go_sem, wrap_id, sbs, Int.toNat_zero]
            try simp -implicitDefEqProofs (disch := first | decide | assumption | omega) only [go_sem, wrap_id, sbs, Int.toNat_zero]
            refine CallA.mono (iSign_ok  (X.deg i) _  (by omega)) ?_
            intro v_ h14_19
            rintro ⟨rfl, e14_19⟩
            replace hb0_0 := BoxAt.ext hb0_0 e14_19
            replace hb6_3 := BoxAt.ext hb6_3 e14_19
            replace hb12_3 := BoxAt.ext hb12_3 e14_19
            replace hb13_8 := BoxAt.ext hb13_8 e14_19
            replace hb14_21 := BoxAt.ext hb14_21 e14_19
            have := Ext.size e14_19
            replace eB := Ext.trans eB e14_19
            replace cL2 := Ext.trans cL2 e14_19
            replace cL11 := Ext.trans cL11 e14_19
            replace cJ20 := Ext.trans cJ20 e14_19
            try simp (disch := decide) only [outv_some, outv_none, put_puts]
            refine plK_pres (Ext.pres e14_19) ?_
            try simp -implicitDefEqProofs (disch := first | decide | assumption | omega) only [go_sem, wrap_id, sbs, Int.toNat_zero]
            try simp -implicitDefEqProofs (disch := first | decide | assumption | omega) only [go_sem, wrap_id, sbs, Int.toNat_zero]
            refine CallA.mono (iPls_ok  X (timesP X.p X.tab (X.dif i) (e8 j) 8) (timesP X.p X.tab (e8 i) (X.dif j) 8) (1 - (X.deg i).tmod 2 * 2) _  hpG (by first | assumption | exact e8_by _ | exact By.z8 | exact hBd _ | exact hBt _ _ | exact tmJ_by (by omega) (tmI_by (by omega) _) _ | exact timesP_by (by omega) | exact dfI_by (by omega) _ | exact plusN_by (by omega) (timesP_by (by omega)) | exact dfI_by (by omega) 8) (by first | assumption | exact e8_by _ | exact By.z8 | exact hBd _ | exact hBt _ _ | exact tmJ_by (by omega) (tmI_by (by omega) _) _ | exact timesP_by (by omega) | exact dfI_by (by omega) _ | exact plusN_by (by omega) (timesP_by (by omega)) | exact dfI_by (by omega) 8) (by omega)) ?_
            intro v_ h14_20
            rintro ⟨rfl, e14_20⟩
            replace hb0_0 := BoxAt.ext hb0_0 e14_20
            replace hb6_3 := BoxAt.ext hb6_3 e14_20
            replace hb12_3 := BoxAt.ext hb12_3 e14_20
            replace hb13_8 := BoxAt.ext hb13_8 e14_20
            replace hb14_21 := BoxAt.ext hb14_21 e14_20
            have := Ext.size e14_20
            replace eB := Ext.trans eB e14_20
            replace cL2 := Ext.trans cL2 e14_20
            replace cL11 := Ext.trans cL11 e14_20
            replace cJ20 := Ext.trans cJ20 e14_20
            try simp (disch := decide) only [outv_some, outv_none, put_puts]
            refine plK_pres (Ext.pres e14_20) ?_
            try simp -implicitDefEqProofs (disch := first | decide | assumption | omega) only [go_sem, wrap_id, sbs, Int.toNat_zero]
            refine op_storeB (o := 0) (cs' := elA (plusN X.p (timesP X.p X.tab (X.dif i) (e8 j) 8) (timesP X.p X.tab (e8 i) (X.dif j) 8) (1 - (X.deg i).tmod 2 * 2) 8)) st30 hb14_21 rfl rfl (elA_sz _) (by rw [elA_sz]; decide) elA_one elA_all ?_
            intro h14_22 hb14_21 c14_22
            replace hb0_0 := BoxAt.chgA hb0_0 c14_22 (apart_lt hlhb0_0 hfhb14_21 (by omega))
            replace hb6_3 := BoxAt.chgA hb6_3 c14_22 (apart_lt hlhb6_3 hfhb14_21 (by omega))
            replace hb12_3 := BoxAt.chgA hb12_3 c14_22 (apart_lt hlhb12_3 hfhb14_21 (by omega))
            replace hb13_8 := BoxAt.chgA hb13_8 c14_22 (apart_lt hlhb13_8 hfhb14_21 (by omega))
            have := c14_22.size
            replace eB := Ext.then eB c14_22 (ge_of hfhb14_21 (by omega))
            replace cL2 := Ext.then cL2 c14_22 (ge_of hfhb14_21 (by omega))
            replace cL11 := Ext.then cL11 c14_22 (ge_of hfhb14_21 (by omega))
            replace cJ20 := Ext.then cJ20 c14_22 (ge_of hfhb14_21 (by omega))
            try simp (disch := decide) only [outv_some, outv_none, put_puts]
            refine plK_last (by decide) ?_
            try simp -implicitDefEqProofs (disch := first | decide | assumption | omega) only [go_sem, wrap_id, sbs, Int.toNat_zero]
            exact hK h14_14.size _ _ (by simp [HasL, puts_at]) ⟨hb14_21, (hfhb14_21.mono (by omega)), cJ20⟩
          ·simp -implicitDefEqProofs (disch := first | decide | assumption | omega) only [go_sem, wrap_id, sbs, Int.toNat_zero]
           refine op_alloc (cs := elA z8) (by kernel_rfl) ?_
           intro h14_21 e14_21 hb14_21 z14_21
           replace hb0_0 := BoxAt.ext hb0_0 e14_21
           replace hb6_3 := BoxAt.ext hb6_3 e14_21
           replace hb12_3 := BoxAt.ext hb12_3 e14_21
           replace hb13_8 := BoxAt.ext hb13_8 e14_21
           have := Ext.size e14_21
           replace eB := Ext.trans eB e14_21
           replace cL2 := Ext.trans cL2 e14_21
           replace cL11 := Ext.trans cL11 e14_21
           replace cJ20 := Ext.trans cJ20 e14_21
           have hfhb14_21 : Fresh h14_7.size [h14_7.size] := Fresh.one _
           have hlhb14_21 := one_lt (show h14_7.size < h14_21.size by omega)
           try simp (disch := decide) only [outv_some, outv_none, put_puts]
           refine plK_pres (Ext.pres e14_21) ?_
           try simp -implicitDefEqProofs (disch := first | decide | assumption | omega) only [go_sem, wrap_id, sbs, Int.toNat_zero]
           try simp -implicitDefEqProofs (disch := first | decide | assumption | omega) only [go_sem, wrap_id, sbs, Int.toNat_zero]
           refine CallA.mono (iTms_ok  X (e8 i) (X.dif j) _  hpG (by first | assumption | exact e8_by _ | exact By.z8 | exact hBd _ | exact hBt _ _ | exact tmJ_by (by omega) (tmI_by (by omega) _) _ | exact timesP_by (by omega) | exact dfI_by (by omega) _ | exact plusN_by (by omega) (timesP_by (by omega)) | exact dfI_by (by omega) 8) (by first | assumption | exact e8_by _ | exact By.z8 | exact hBd _ | exact hBt _ _ | exact tmJ_by (by omega) (tmI_by (by omega) _) _ | exact timesP_by (by omega) | exact dfI_by (by omega) _ | exact plusN_by (by omega) (timesP_by (by omega)) | exact dfI_by (by omega) 8) hBt) ?_
           intro v_ h14_14
           rintro ⟨rfl, e14_14⟩
           replace hb0_0 := BoxAt.ext hb0_0 e14_14
           replace hb6_3 := BoxAt.ext hb6_3 e14_14
           replace hb12_3 := BoxAt.ext hb12_3 e14_14
           replace hb13_8 := BoxAt.ext hb13_8 e14_14
           replace hb14_21 := BoxAt.ext hb14_21 e14_14
           have := Ext.size e14_14
           replace eB := Ext.trans eB e14_14
           replace cL2 := Ext.trans cL2 e14_14
           replace cL11 := Ext.trans cL11 e14_14
           replace cJ20 := Ext.trans cJ20 e14_14
           try simp (disch := decide) only [outv_some, outv_none, put_puts]
           refine plK_pres (Ext.pres e14_14) ?_
           try simp -implicitDefEqProofs (disch := first | decide | assumption | omega) only [go_sem, wrap_id, sbs, Int.toNat_zero]
           try simp -implicitDefEqProofs (disch := first | decide | assumption | omega) only [go_sem, wrap_id, sbs, Int.toNat_zero]
           refine CallA.mono (iSign_ok  (X.deg i) _  (by omega)) ?_
           intro v_ h14_19
           rintro ⟨rfl, e14_19⟩
           replace hb0_0 := BoxAt.ext hb0_0 e14_19
           replace hb6_3 := BoxAt.ext hb6_3 e14_19
           replace hb12_3 := BoxAt.ext hb12_3 e14_19
           replace hb13_8 := BoxAt.ext hb13_8 e14_19
           replace hb14_21 := BoxAt.ext hb14_21 e14_19
           have := Ext.size e14_19
           replace eB := Ext.trans eB e14_19
           replace cL2 := Ext.trans cL2 e14_19
           replace cL11 := Ext.trans cL11 e14_19
           replace cJ20 := Ext.trans cJ20 e14_19
           try simp (disch := decide) only [outv_some, outv_none, put_puts]
           refine plK_pres (Ext.pres e14_19) ?_
           try simp -implicitDefEqProofs (disch := first | decide | assumption | omega) only [go_sem, wrap_id, sbs, Int.toNat_zero]
           try simp -implicitDefEqProofs (disch := first | decide | assumption | omega) only [go_sem, wrap_id, sbs, Int.toNat_zero]
           refine CallA.mono (iPls_ok  X (timesP X.p X.tab (X.dif i) (e8 j) 8) (timesP X.p X.tab (e8 i) (X.dif j) 8) (1 - (X.deg i).tmod 2 * 2) _  hpG (by first | assumption | exact e8_by _ | exact By.z8 | exact hBd _ | exact hBt _ _ | exact tmJ_by (by omega) (tmI_by (by omega) _) _ | exact timesP_by (by omega) | exact dfI_by (by omega) _ | exact plusN_by (by omega) (timesP_by (by omega)) | exact dfI_by (by omega) 8) (by first | assumption | exact e8_by _ | exact By.z8 | exact hBd _ | exact hBt _ _ | exact tmJ_by (by omega) (tmI_by (by omega) _) _ | exact timesP_by (by omega) | exact dfI_by (by omega) _ | exact plusN_by (by omega) (timesP_by (by omega)) | exact dfI_by (by omega) 8) (by omega)) ?_
           intro v_ h14_20
           rintro ⟨rfl, e14_20⟩
           replace hb0_0 := BoxAt.ext hb0_0 e14_20
           replace hb6_3 := BoxAt.ext hb6_3 e14_20
           replace hb12_3 := BoxAt.ext hb12_3 e14_20
           replace hb13_8 := BoxAt.ext hb13_8 e14_20
           replace hb14_21 := BoxAt.ext hb14_21 e14_20
           have := Ext.size e14_20
           replace eB := Ext.trans eB e14_20
           replace cL2 := Ext.trans cL2 e14_20
           replace cL11 := Ext.trans cL11 e14_20
           replace cJ20 := Ext.trans cJ20 e14_20
           try simp (disch := decide) only [outv_some, outv_none, put_puts]
           refine plK_pres (Ext.pres e14_20) ?_
           try simp -implicitDefEqProofs (disch := first | decide | assumption | omega) only [go_sem, wrap_id, sbs, Int.toNat_zero]
           refine op_storeB (o := 0) (cs' := elA (plusN X.p (timesP X.p X.tab (X.dif i) (e8 j) 8) (timesP X.p X.tab (e8 i) (X.dif j) 8) (1 - (X.deg i).tmod 2 * 2) 8)) st30 hb14_21 rfl rfl (elA_sz _) (by rw [elA_sz]; decide) elA_one elA_all ?_
           intro h14_22 hb14_21 c14_22
           replace hb0_0 := BoxAt.chgA hb0_0 c14_22 (apart_lt hlhb0_0 hfhb14_21 (by omega))
           replace hb6_3 := BoxAt.chgA hb6_3 c14_22 (apart_lt hlhb6_3 hfhb14_21 (by omega))
           replace hb12_3 := BoxAt.chgA hb12_3 c14_22 (apart_lt hlhb12_3 hfhb14_21 (by omega))
           replace hb13_8 := BoxAt.chgA hb13_8 c14_22 (apart_lt hlhb13_8 hfhb14_21 (by omega))
           have := c14_22.size
           replace eB := Ext.then eB c14_22 (ge_of hfhb14_21 (by omega))
           replace cL2 := Ext.then cL2 c14_22 (ge_of hfhb14_21 (by omega))
           replace cL11 := Ext.then cL11 c14_22 (ge_of hfhb14_21 (by omega))
           replace cJ20 := Ext.then cJ20 c14_22 (ge_of hfhb14_21 (by omega))
           try simp (disch := decide) only [outv_some, outv_none, put_puts]
           refine plK_last (by decide) ?_
           try simp -implicitDefEqProofs (disch := first | decide | assumption | omega) only [go_sem, wrap_id, sbs, Int.toNat_zero]
           exact hK h14_7.size _ _ (by simp [HasL, puts_at]) ⟨hb14_21, (hfhb14_21.mono (by omega)), cJ20⟩
         ·simp -implicitDefEqProofs (disch := first | decide | assumption | omega) only [go_sem, wrap_id, sbs, Int.toNat_zero]
          refine op_alloc (cs := elA z8) (by kernel_rfl) ?_
          intro h14_21 e14_21 hb14_21 z14_21
          replace hb0_0 := BoxAt.ext hb0_0 e14_21
          replace hb6_3 := BoxAt.ext hb6_3 e14_21
          replace hb12_3 := BoxAt.ext hb12_3 e14_21
          replace hb13_8 := BoxAt.ext hb13_8 e14_21
          have := Ext.size e14_21
          replace eB := Ext.trans eB e14_21
          replace cL2 := Ext.trans cL2 e14_21
          replace cL11 := Ext.trans cL11 e14_21
          replace cJ20 := Ext.trans cJ20 e14_21
          have hfhb14_21 : Fresh hj16.size [hj16.size] := Fresh.one _
          have hlhb14_21 := one_lt (show hj16.size < h14_21.size by omega)
          try simp (disch := decide) only [outv_some, outv_none, put_puts]
          refine plK_pres (Ext.pres e14_21) ?_
          try simp -implicitDefEqProofs (disch := first | decide | assumption | omega) only [go_sem, wrap_id, sbs, Int.toNat_zero]
          try simp -implicitDefEqProofs (disch := first | decide | assumption | omega) only [go_sem, wrap_id, sbs, Int.toNat_zero]
          refine CallA.mono (iTms_ok  X (X.dif i) (e8 j) _  hpG (by first | assumption | exact e8_by _ | exact By.z8 | exact hBd _ | exact hBt _ _ | exact tmJ_by (by omega) (tmI_by (by omega) _) _ | exact timesP_by (by omega) | exact dfI_by (by omega) _ | exact plusN_by (by omega) (timesP_by (by omega)) | exact dfI_by (by omega) 8) (by first | assumption | exact e8_by _ | exact By.z8 | exact hBd _ | exact hBt _ _ | exact tmJ_by (by omega) (tmI_by (by omega) _) _ | exact timesP_by (by omega) | exact dfI_by (by omega) _ | exact plusN_by (by omega) (timesP_by (by omega)) | exact dfI_by (by omega) 8) hBt) ?_
          intro v_ h14_7
          rintro ⟨rfl, e14_7⟩
          replace hb0_0 := BoxAt.ext hb0_0 e14_7
          replace hb6_3 := BoxAt.ext hb6_3 e14_7
          replace hb12_3 := BoxAt.ext hb12_3 e14_7
          replace hb13_8 := BoxAt.ext hb13_8 e14_7
          replace hb14_21 := BoxAt.ext hb14_21 e14_7
          have := Ext.size e14_7
          replace eB := Ext.trans eB e14_7
          replace cL2 := Ext.trans cL2 e14_7
          replace cL11 := Ext.trans cL11 e14_7
          replace cJ20 := Ext.trans cJ20 e14_7
          try simp (disch := decide) only [outv_some, outv_none, put_puts]
          refine plK_pres (Ext.pres e14_7) ?_
          try simp -implicitDefEqProofs (disch := first | decide | assumption | omega) only [go_sem, wrap_id, sbs, Int.toNat_zero]
          try simp -implicitDefEqProofs (disch := first | decide | assumption | omega) only [go_sem, wrap_id, sbs, Int.toNat_zero]
          refine CallA.mono (iTms_ok  X (e8 i) (X.dif j) _  hpG (by first | assumption | exact e8_by _ | exact By.z8 | exact hBd _ | exact hBt _ _ | exact tmJ_by (by omega) (tmI_by (by omega) _) _ | exact timesP_by (by omega) | exact dfI_by (by omega) _ | exact plusN_by (by omega) (timesP_by (by omega)) | exact dfI_by (by omega) 8) (by first | assumption | exact e8_by _ | exact By.z8 | exact hBd _ | exact hBt _ _ | exact tmJ_by (by omega) (tmI_by (by omega) _) _ | exact timesP_by (by omega) | exact dfI_by (by omega) _ | exact plusN_by (by omega) (timesP_by (by omega)) | exact dfI_by (by omega) 8) hBt) ?_
          intro v_ h14_14
          rintro ⟨rfl, e14_14⟩
          replace hb0_0 := BoxAt.ext hb0_0 e14_14
          replace hb6_3 := BoxAt.ext hb6_3 e14_14
          replace hb12_3 := BoxAt.ext hb12_3 e14_14
          replace hb13_8 := BoxAt.ext hb13_8 e14_14
          replace hb14_21 := BoxAt.ext hb14_21 e14_14
          have := Ext.size e14_14
          replace eB := Ext.trans eB e14_14
          replace cL2 := Ext.trans cL2 e14_14
          replace cL11 := Ext.trans cL11 e14_14
          replace cJ20 := Ext.trans cJ20 e14_14
          try simp (disch := decide) only [outv_some, outv_none, put_puts]
          refine plK_pres (Ext.pres e14_14) ?_
          try simp -implicitDefEqProofs (disch := first | decide | assumption | omega) only [go_sem, wrap_id, sbs, Int.toNat_zero]
          try simp -implicitDefEqProofs (disch := first | decide | assumption | omega) only [go_sem, wrap_id, sbs, Int.toNat_zero]
          refine CallA.mono (iSign_ok  (X.deg i) _  (by omega)) ?_
          intro v_ h14_19
          rintro ⟨rfl, e14_19⟩
          replace hb0_0 := BoxAt.ext hb0_0 e14_19
          replace hb6_3 := BoxAt.ext hb6_3 e14_19
          replace hb12_3 := BoxAt.ext hb12_3 e14_19
          replace hb13_8 := BoxAt.ext hb13_8 e14_19
          replace hb14_21 := BoxAt.ext hb14_21 e14_19
          have := Ext.size e14_19
          replace eB := Ext.trans eB e14_19
          replace cL2 := Ext.trans cL2 e14_19
          replace cL11 := Ext.trans cL11 e14_19
          replace cJ20 := Ext.trans cJ20 e14_19
          try simp (disch := decide) only [outv_some, outv_none, put_puts]
          refine plK_pres (Ext.pres e14_19) ?_
          try simp -implicitDefEqProofs (disch := first | decide | assumption | omega) only [go_sem, wrap_id, sbs, Int.toNat_zero]
          try simp -implicitDefEqProofs (disch := first | decide | assumption | omega) only [go_sem, wrap_id, sbs, Int.toNat_zero]
          refine CallA.mono (iPls_ok  X (timesP X.p X.tab (X.dif i) (e8 j) 8) (timesP X.p X.tab (e8 i) (X.dif j) 8) (1 - (X.deg i).tmod 2 * 2) _  hpG (by first | assumption | exact e8_by _ | exact By.z8 | exact hBd _ | exact hBt _ _ | exact tmJ_by (by omega) (tmI_by (by omega) _) _ | exact timesP_by (by omega) | exact dfI_by (by omega) _ | exact plusN_by (by omega) (timesP_by (by omega)) | exact dfI_by (by omega) 8) (by first | assumption | exact e8_by _ | exact By.z8 | exact hBd _ | exact hBt _ _ | exact tmJ_by (by omega) (tmI_by (by omega) _) _ | exact timesP_by (by omega) | exact dfI_by (by omega) _ | exact plusN_by (by omega) (timesP_by (by omega)) | exact dfI_by (by omega) 8) (by omega)) ?_
          intro v_ h14_20
          rintro ⟨rfl, e14_20⟩
          replace hb0_0 := BoxAt.ext hb0_0 e14_20
          replace hb6_3 := BoxAt.ext hb6_3 e14_20
          replace hb12_3 := BoxAt.ext hb12_3 e14_20
          replace hb13_8 := BoxAt.ext hb13_8 e14_20
          replace hb14_21 := BoxAt.ext hb14_21 e14_20
          have := Ext.size e14_20
          replace eB := Ext.trans eB e14_20
          replace cL2 := Ext.trans cL2 e14_20
          replace cL11 := Ext.trans cL11 e14_20
          replace cJ20 := Ext.trans cJ20 e14_20
          try simp (disch := decide) only [outv_some, outv_none, put_puts]
          refine plK_pres (Ext.pres e14_20) ?_
          try simp -implicitDefEqProofs (disch := first | decide | assumption | omega) only [go_sem, wrap_id, sbs, Int.toNat_zero]
          refine op_storeB (o := 0) (cs' := elA (plusN X.p (timesP X.p X.tab (X.dif i) (e8 j) 8) (timesP X.p X.tab (e8 i) (X.dif j) 8) (1 - (X.deg i).tmod 2 * 2) 8)) st30 hb14_21 rfl rfl (elA_sz _) (by rw [elA_sz]; decide) elA_one elA_all ?_
          intro h14_22 hb14_21 c14_22
          replace hb0_0 := BoxAt.chgA hb0_0 c14_22 (apart_lt hlhb0_0 hfhb14_21 (by omega))
          replace hb6_3 := BoxAt.chgA hb6_3 c14_22 (apart_lt hlhb6_3 hfhb14_21 (by omega))
          replace hb12_3 := BoxAt.chgA hb12_3 c14_22 (apart_lt hlhb12_3 hfhb14_21 (by omega))
          replace hb13_8 := BoxAt.chgA hb13_8 c14_22 (apart_lt hlhb13_8 hfhb14_21 (by omega))
          have := c14_22.size
          replace eB := Ext.then eB c14_22 (ge_of hfhb14_21 (by omega))
          replace cL2 := Ext.then cL2 c14_22 (ge_of hfhb14_21 (by omega))
          replace cL11 := Ext.then cL11 c14_22 (ge_of hfhb14_21 (by omega))
          replace cJ20 := Ext.then cJ20 c14_22 (ge_of hfhb14_21 (by omega))
          try simp (disch := decide) only [outv_some, outv_none, put_puts]
          refine plK_last (by decide) ?_
          try simp -implicitDefEqProofs (disch := first | decide | assumption | omega) only [go_sem, wrap_id, sbs, Int.toNat_zero]
          exact hK hj16.size _ _ (by simp [HasL, puts_at]) ⟨hb14_21, (hfhb14_21.mono (by omega)), cJ20⟩
        ·rintro bJhb14_21 hj21 ee23 ⟨hb14_21, hfhb14_21, eJ22⟩
         replace hb0_0 := BoxAt.ext hb0_0 eJ22
         replace hb6_3 := BoxAt.ext hb6_3 eJ22
         replace hb12_3 := BoxAt.ext hb12_3 eJ22
         replace hb13_8 := BoxAt.ext hb13_8 eJ22
         have := Ext.size eJ22
         replace eB := Ext.trans eB eJ22
         replace cL2 := Ext.trans cL2 eJ22
         replace cL11 := Ext.trans cL11 eJ22
         have hlhb14_21 := one_lt hb14_21.lt
         simp only [List.cons_append, List.nil_append]
         refine den_seq ?_
         refine den_seq ?_
         refine den_region TTok ?_
         intro K hK
         simp -implicitDefEqProofs (disch := first | decide | assumption | omega) only [go_sem, BoxAt.elC hb13_8, BoxAt.elL hb13_8, BoxAt.elC hb14_21, BoxAt.elL hb14_21, wrap_id, sbs, Int.toNat_zero]
         refine hK _ _ ?_
         clear hK K
         refine den_cond rfl (fun c4 => ?_) (fun c4 => ?_)
         ·try simp only [ddA, Bool.or_eq_false_iff, Bool.and_eq_false_iff, in3_iff, in3_f] at c4
          refine den_seq ?_
          refine den_region TTok ?_
          intro K hK
          simp -implicitDefEqProofs (disch := first | decide | assumption | omega) only [go_sem, wrap_id, sbs, Int.toNat_zero]
          refine hK _ _ ?_
          clear hK K
          refine den_ret ?_
          simp (disch := decide) only [resP_1, puts_same, puts_ne]
          exact ⟨vbool (dgB_n (fun hh => by have h1 := hh.lb i (by omega) j (by omega); unfold LbF at h1; rw [h1] at c4; cases c4)), eB⟩
         ·try simp only [ddA, Bool.or_eq_false_iff, Bool.and_eq_false_iff, in3_iff, in3_f] at c4
          refine den_skip ?_
          refine den_seq ?_
          refine den_region TTok ?_
          intro K hK
          simp -implicitDefEqProofs (disch := first | decide | assumption | omega) only [go_sem, fa34_1, ld2, BoxAt.dgs hb0_0, wrap_id, sbs, Int.toNat_zero]
          refine hK _ _ ?_
          clear hK K
          refine den_block ?_
          refine den_sel [89, 1, 3, 4, 5, 14, 15, 48, 49, 88] ?_
          intro env_24
          simp only [go_sem]
          refine den_loopS (σ := Nat) (fun st_ => [(89, .int .i64 (st_ : Int))]) (fun st_ H => ((st_ : Int) ≤ X.s) ∧ (∀ m : Nat, m < st_ → AsF X i j m) ∧ (Ext hj21 H)) (fun st_ => X.s.toNat - st_) 0 ?_ ?_
          ·exact ⟨by omega, fun b h => by omega, Ext.refl _⟩
          ·rintro k h27 ee26 ⟨hk, hzk, cL25⟩
           replace hb0_0 := BoxAt.ext hb0_0 cL25
           replace hb6_3 := BoxAt.ext hb6_3 cL25
           have := Ext.size cL25
           replace eB := Ext.trans eB cL25
           replace cL2 := Ext.trans cL2 cL25
           replace cL11 := Ext.trans cL11 cL25
           simp only [List.cons_append, List.nil_append]
           refine den_seq ?_
           refine den_region TTok ?_
           intro K hK
           simp -implicitDefEqProofs (disch := first | decide | assumption | omega) only [go_sem, wrap_id, sbs, Int.toNat_zero]
           refine hK _ _ ?_
           clear hK K
           refine den_seq ?_
           refine den_cond rfl (fun c5 => ?_) (fun c5 => ?_)
           ·try simp only [ddA, Bool.or_eq_false_iff, Bool.and_eq_false_iff, in3_iff, in3_f] at c5
            refine den_skip ?_
            refine den_seq ?_
            refine den_block ?_
            refine den_seq ?_
            refine den_region TTok ?_
            intro K hK
            simp -implicitDefEqProofs (disch := first | decide | assumption | omega) only [go_sem, wrap_id, sbs, Int.toNat_zero]
            refine hK _ _ ?_
            clear hK K
            refine den_seq ?_
            refine den_draw TTok mixed [] [(0, true), (1, true), (2, true), (3, true), (4, true), (5, true), (6, true), (7, true), (8, true), (11, true), (12, true), (13, true), (14, true), (15, true), (16, true), (17, true), (18, true), (9, false), (10, false), (19, false), (20, true)] (by kernel_rfl) ?_
            intro K hK
            simp -implicitDefEqProofs (disch := first | decide | assumption | omega) only [go_sem, Int.toNat_zero, fa34_5, ia32, ia31, BoxAt.dgs hb0_0, BoxAt.elC hb6_3, BoxAt.elL hb6_3, wrap_id, sbs, Int.toNat_zero]
            try simp -implicitDefEqProofs (disch := first | decide | assumption | omega) only [go_sem, wrap_id, sbs, Int.toNat_zero]
            refine CallA.mono (iBas_ok  X (k : Int) _  (by omega)) ?_
            intro v_ h20_9
            rintro ⟨rfl, e20_9⟩
            replace hb0_0 := BoxAt.ext hb0_0 e20_9
            replace hb6_3 := BoxAt.ext hb6_3 e20_9
            have := Ext.size e20_9
            replace eB := Ext.trans eB e20_9
            replace cL2 := Ext.trans cL2 e20_9
            replace cL11 := Ext.trans cL11 e20_9
            replace cL25 := Ext.trans cL25 e20_9
            try simp (disch := decide) only [outv_some, outv_none, put_puts]
            refine plK_pres (Ext.pres e20_9) ?_
            try simp -implicitDefEqProofs (disch := first | decide | assumption | omega) only [go_sem, wrap_id, sbs, Int.toNat_zero]
            try simp -implicitDefEqProofs (disch := first | decide | assumption | omega) only [go_sem, wrap_id, sbs, Int.toNat_zero]
            refine CallA.mono (iTms_ok  X ((X.tab i) j) (e8 k) _  hpG (by first | assumption | exact e8_by _ | exact By.z8 | exact hBd _ | exact hBt _ _ | exact tmJ_by (by omega) (tmI_by (by omega) _) _ | exact timesP_by (by omega) | exact dfI_by (by omega) _ | exact plusN_by (by omega) (timesP_by (by omega)) | exact dfI_by (by omega) 8) (by first | assumption | exact e8_by _ | exact By.z8 | exact hBd _ | exact hBt _ _ | exact tmJ_by (by omega) (tmI_by (by omega) _) _ | exact timesP_by (by omega) | exact dfI_by (by omega) _ | exact plusN_by (by omega) (timesP_by (by omega)) | exact dfI_by (by omega) 8) hBt) ?_
            intro v_ h20_10
            rintro ⟨rfl, e20_10⟩
            replace hb0_0 := BoxAt.ext hb0_0 e20_10
            replace hb6_3 := BoxAt.ext hb6_3 e20_10
            have := Ext.size e20_10
            replace eB := Ext.trans eB e20_10
            replace cL2 := Ext.trans cL2 e20_10
            replace cL11 := Ext.trans cL11 e20_10
            replace cL25 := Ext.trans cL25 e20_10
            try simp (disch := decide) only [outv_some, outv_none, put_puts]
            refine plK_pres (Ext.pres e20_10) ?_
            try simp -implicitDefEqProofs (disch := first | decide | assumption | omega) only [go_sem, wrap_id, sbs, Int.toNat_zero]
            try simp -implicitDefEqProofs (disch := first | decide | assumption | omega) only [go_sem, wrap_id, sbs, Int.toNat_zero]
            refine CallA.mono (iTms_ok  X (e8 i) ((X.tab j) k) _  hpG (by first | assumption | exact e8_by _ | exact By.z8 | exact hBd _ | exact hBt _ _ | exact tmJ_by (by omega) (tmI_by (by omega) _) _ | exact timesP_by (by omega) | exact dfI_by (by omega) _ | exact plusN_by (by omega) (timesP_by (by omega)) | exact dfI_by (by omega) 8) (by first | assumption | exact e8_by _ | exact By.z8 | exact hBd _ | exact hBt _ _ | exact tmJ_by (by omega) (tmI_by (by omega) _) _ | exact timesP_by (by omega) | exact dfI_by (by omega) _ | exact plusN_by (by omega) (timesP_by (by omega)) | exact dfI_by (by omega) 8) hBt) ?_
            intro v_ h20_19
            rintro ⟨rfl, e20_19⟩
            replace hb0_0 := BoxAt.ext hb0_0 e20_19
            replace hb6_3 := BoxAt.ext hb6_3 e20_19
            have := Ext.size e20_19
            replace eB := Ext.trans eB e20_19
            replace cL2 := Ext.trans cL2 e20_19
            replace cL11 := Ext.trans cL11 e20_19
            replace cL25 := Ext.trans cL25 e20_19
            try simp (disch := decide) only [outv_some, outv_none, put_puts]
            refine plK_pres (Ext.pres e20_19) ?_
            try simp -implicitDefEqProofs (disch := first | decide | assumption | omega) only [go_sem, wrap_id, sbs, Int.toNat_zero]
            refine hK _ _ ?_
            clear hK K
            refine den_cond rfl (fun c6 => ?_) (fun c6 => ?_)
            ·try simp only [ddA, Bool.or_eq_false_iff, Bool.and_eq_false_iff, in3_iff, in3_f] at c6
             refine den_seq ?_
             refine den_region TTok ?_
             intro K hK
             simp -implicitDefEqProofs (disch := first | decide | assumption | omega) only [go_sem, wrap_id, sbs, Int.toNat_zero]
             refine hK _ _ ?_
             clear hK K
             refine den_ret ?_
             simp (disch := decide) only [resP_1, puts_same, puts_ne]
             exact ⟨vbool (dgB_n (fun hh => by have h1 := hh.ac i (by omega) j (by omega) k (by omega); have h2 := c6; unfold AsF at h1; rw [h1] at h2; cases h2)), eB⟩
            ·try simp only [ddA, Bool.or_eq_false_iff, Bool.and_eq_false_iff, in3_iff, in3_f] at c6
             refine den_skip ?_
             refine den_blk ?_
             refine den_region TTok ?_
             intro K hK
             simp -implicitDefEqProofs (disch := first | decide | assumption | omega) only [go_sem, wrap_id, sbs, Int.toNat_zero]
             refine hK _ _ ?_
             clear hK K
             refine den_stop ?_
             exact ⟨k + 1, by simp [HasL, puts_at], ⟨by first | omega | (dsimp only; omega), fun m hm => by
 by_cases hab : m < k
 ·exact hzk m hab
 ·have e : m = k := by omega
  subst e
  exact c6, cL25⟩, by first | omega | (dsimp only; omega)⟩
           ·try simp only [ddA, Bool.or_eq_false_iff, Bool.and_eq_false_iff, in3_iff, in3_f] at c5
            refine den_exit ?_
            refine denX_code ?_
            refine denX_stop ?_
            refine denX_hit ?_
            refine den_blk ?_
            refine den_region TTok ?_
            intro K hK
            simp -implicitDefEqProofs (disch := first | decide | assumption | omega) only [go_sem, wrap_id, sbs, Int.toNat_zero]
            refine hK _ _ ?_
            clear hK K
            refine den_stop ?_
            exact ⟨j + 1, by simp [HasL, puts_at], ⟨by first | omega | (dsimp only; omega), fun b hb => by
 by_cases hab : b < j
 ·exact hzj b hab
 ·have e : b = j := by omega
  subst e
  exact ⟨c4, fun k hk => hzk k (by omega)⟩, cL11⟩, by first | omega | (dsimp only; omega)⟩
      ·try simp only [ddA, Bool.or_eq_false_iff, Bool.and_eq_false_iff, in3_iff, in3_f] at c3
       refine den_exit ?_
       refine denX_code ?_
       refine denX_stop ?_
       refine denX_hit ?_
       refine den_blk ?_
       refine den_region TTok ?_
       intro K hK
       simp -implicitDefEqProofs (disch := first | decide | assumption | omega) only [go_sem, wrap_id, sbs, Int.toNat_zero]
       refine hK _ _ ?_
       clear hK K
       refine den_stop ?_
       exact ⟨i + 1, by simp [HasL, puts_at], ⟨by first | omega | (dsimp only; omega), fun a ha => by
 by_cases hai : a < i
 ·exact hz a hai
 ·have e : a = i := by omega
  subst e
  exact ⟨⟨c2.1.1, c2.1.2, c2.2⟩, fun b hb => hzj b (by omega)⟩, cL2⟩, by first | omega | (dsimp only; omega)⟩
   ·try simp only [ddA, Bool.or_eq_false_iff, Bool.and_eq_false_iff, in3_iff, in3_f] at c1
    refine den_exit ?_
    refine denX_code ?_
    refine denX_stop ?_
    refine denX_hit ?_
    refine den_seq ?_
    refine den_region TTok ?_
    intro K hK
    simp -implicitDefEqProofs (disch := first | decide | assumption | omega) only [go_sem, wrap_id, sbs, Int.toNat_zero]
    refine hK _ _ ?_
    clear hK K
    refine den_ret ?_
    simp (disch := decide) only [resP_1, puts_same, puts_ne]
    exact ⟨vbool (dgB_y ⟨fmB_t.1 c0, fun i hi => (hz i (by omega)).1, fun i hi j hj => ((hz i (by omega)).2 j hj).1, fun i hi j hj k hk => ((hz i (by omega)).2 j hj).2 k hk⟩), eB⟩
end Go.Proofs.Ytacajcjibhifmaa

namespace Go.Proofs.Ytacajcjibhifmaa
open Go
theorem e8_lt {p : Int} (h : 2 ≤ p) (i : Nat) : ∀ k, k < 8 → e8 i k < p := fun k _ => by unfold e8 upd z8; split <;> omega
theorem e8_el {p s : Int} {i : Nat} (h : 2 ≤ p) (hi : (i : Int) < s) : isEl p s (e8 i) := fun k hk => ⟨e8_lt h i k hk, fun hs => by unfold e8 upd z8; rw [if_neg (by omega)]⟩
section
variable {p : Int} {tab : Nat → Nat → Nat → Int} {u v : Nat → Int}
theorem tmJ_cut {i : Nat} {o : Nat → Int} {m : Nat} : ∀ n, (∀ j, m ≤ j → j < m + n → v j = 0) → tmJ p tab u v i o (m + n) = tmJ p tab u v i o m
 | 0, _ => rfl
 | n + 1, h => by
  rw [← Nat.add_assoc, tmJ, if_neg (fun k => k.2 (h (m + n) (by omega) (by omega))), tmJ_cut n (fun j h1 h2 => h j h1 (by omega))]
theorem tmJ_zero {i : Nat} {o : Nat → Int} (h : u i = 0) : ∀ n, tmJ p tab u v i o n = o
 | 0 => rfl
 | n + 1 => by rw [tmJ, if_neg (fun k => k.1 h), tmJ_zero h n]
theorem tmI_cutJ {m n : Nat} (h : ∀ j, m ≤ j → j < m + n → v j = 0) : ∀ i, tmI p tab u v (m + n) i = tmI p tab u v m i
 | 0 => rfl
 | i + 1 => by rw [tmI, tmI, tmJ_cut n h, tmI_cutJ h i]
theorem tmI_cutI {q m : Nat} : ∀ n, (∀ j, m ≤ j → j < m + n → u j = 0) → tmI p tab u v q (m + n) = tmI p tab u v q m
 | 0, _ => rfl
 | n + 1, h => by rw [← Nat.add_assoc, tmI, tmJ_zero (h (m + n) (by omega) (by omega)), tmI_cutI n (fun j h1 h2 => h j h1 (by omega))]
theorem times_s {s : Int} (hs : 0 ≤ s ∧ s ≤ 8) (hu : isEl p s u) (hv : isEl p s v) : timesP p tab u v 8 = timesP p tab u v s.toNat := by
 unfold timesP
 obtain ⟨n, hn⟩ : ∃ n, 8 = s.toNat + n := ⟨8 - s.toNat, by omega⟩
 have h1 := tmI_cutJ (p := p) (tab := tab) (u := u) (v := v) (m := s.toNat) (n := n) (fun j h1 h2 => (hv j (by omega)).2 (by omega)) 8
 have h2 := tmI_cutI (p := p) (tab := tab) (u := u) (v := v) (q := s.toNat) (m := s.toNat) n (fun j h1 h2 => (hu j (by omega)).2 (by omega))
 rw [← hn] at h1 h2
 rw [h1, h2]
theorem plusN_nil {o w : Nat → Int} (h : ∀ k, k < 8 → 0 ≤ o k ∧ o k < p) : plusN p o w 0 8 = o := by
 funext k
 unfold plusN
 split
 ·rename_i hk
  rw [Int.zero_mul, Int.add_zero, Int.emod_eq_of_lt (h k hk).1 (h k hk).2]
 ·rfl
theorem plusN_red {o w : Nat → Int} {c : Int} (hp : 0 < p) : ∀ k, k < 8 → 0 ≤ plusN p o w c 8 k ∧ plusN p o w c 8 k < p := fun k hk => by
 unfold plusN
 rw [if_pos hk]
 exact ⟨Int.emod_nonneg _ (by omega), Int.emod_lt_of_pos _ hp⟩
theorem dfI_red {dif : Nat → Nat → Int} (hp : 0 < p) : ∀ i, ∀ k, k < 8 → 0 ≤ dfI p dif u i k ∧ dfI p dif u i k < p
 | 0, k, _ => ⟨Int.le_refl _, hp⟩
 | i + 1, k, hk => plusN_red hp k hk
theorem dfI_cut {dif : Nat → Nat → Int} {m : Nat} (hp : 0 < p) : ∀ n, (∀ j, m ≤ j → j < m + n → u j = 0) → dfI p dif u (m + n) = dfI p dif u m
 | 0, _ => rfl
 | n + 1, h => by rw [← Nat.add_assoc, dfI, h (m + n) (by omega) (by omega), plusN_nil (dfI_red hp _), dfI_cut hp n (fun j h1 h2 => h j h1 (by omega))]
theorem df_s {dif : Nat → Nat → Int} {s : Int} (hp : 0 < p) (hs : 0 ≤ s ∧ s ≤ 8) (hu : isEl p s u) : dfI p dif u 8 = dfI p dif u s.toNat := by
 obtain ⟨n, hn⟩ : ∃ n, 8 = s.toNat + n := ⟨8 - s.toNat, by omega⟩
 have h2 := dfI_cut (p := p) (dif := dif) (u := u) (m := s.toNat) hp n (fun j h1 h2 => (hu j (by omega)).2 (by omega))
 rw [← hn] at h2
 exact h2
theorem tmJ_e8 {a b i : Nat} {o : Nat → Int} : ∀ n, tmJ p tab (e8 a) (e8 b) i o n = if i = a ∧ b < n then plusN p o (tab a b) (1 * 1) 8 else o
 | 0 => by rw [if_neg (by omega)]; rfl
 | n + 1 => by
  rw [tmJ, tmJ_e8 n]
  by_cases hi : i = a
  ·subst hi
   by_cases hb : n = b
   ·subst hb
    rw [if_pos ⟨by simp [e8, upd], by simp [e8, upd]⟩, if_neg (by omega), if_pos (by omega)]
    simp [e8, upd]
   ·rw [if_neg (fun k => k.2 (by simp [e8, upd, z8, hb]))]
    by_cases h2 : b < n
    ·rw [if_pos ⟨rfl, h2⟩, if_pos ⟨rfl, by omega⟩]
    ·rw [if_neg (by omega), if_neg (by omega)]
  ·rw [if_neg (fun k => k.1 (by simp [e8, upd, z8, hi])), if_neg (fun k => hi k.1), if_neg (fun k => hi k.1)]
theorem tmI_e8 {a b m : Nat} (hb : b < m) : ∀ n, tmI p tab (e8 a) (e8 b) m n = if a < n then plusN p z8 (tab a b) (1 * 1) 8 else z8
 | 0 => rfl
 | n + 1 => by
  rw [tmI, tmJ_e8, tmI_e8 hb n]
  by_cases h : n = a
  ·subst h
   rw [if_pos ⟨rfl, hb⟩, if_neg (by omega), if_pos (by omega)]
  ·rw [if_neg (fun k => h k.1)]
   by_cases h2 : a < n
   ·rw [if_pos h2, if_pos (by omega)]
   ·rw [if_neg h2, if_neg (by omega)]
theorem times_e8 {a b : Nat} (ha : a < 8) (hb : b < 8) (hw : ∀ k, k < 8 → 0 ≤ tab a b k ∧ tab a b k < p) {w : Nat → Int} : eqE (timesP p tab (e8 a) (e8 b) 8) w = eqE (tab a b) w := by
 rw [timesP, tmI_e8 hb, if_pos ha, Bool.eq_iff_iff, eqE_iff, eqE_iff]
 have e : ∀ k, k < 8 → plusN p z8 (tab a b) (1 * 1) 8 k = tab a b k := fun k hk => by
  unfold plusN
  rw [if_pos hk]
  show (0 + 1 * 1 * tab a b k) % p = _
  rw [Int.zero_add, Int.one_mul, Int.one_mul, Int.emod_eq_of_lt (hw k hk).1 (hw k hk).2]
 exact ⟨fun h k hk => by rw [← e k hk]; exact h k hk, fun h k hk => by rw [e k hk]; exact h k hk⟩
end
section
variable {X : Dg} (hB : DgB X) (hf : IsFm X)
include hB hf
theorem un_sp {i : Nat} (hi : (i : Int) < X.s) : UnF X i ↔ (eqE (X.tab 0 i) (e8 i) = true ∧ eqE (X.tab i 0) (e8 i) = true) ∧ eqE (dfI X.p X.dif (X.dif i) X.s.toNat) z8 = true := by
 have hs := hf.s
 have hp := isP_bnd hf.p
 unfold UnF
 rw [times_e8 (a := 0) (b := i) (by omega) (by omega) (fun k hk => ⟨(hB.tab 0 i k).1, ((hf.cell 0 (by omega) i (by omega)).el k hk).1⟩), times_e8 (a := i) (b := 0) (by omega) (by omega) (fun k hk => ⟨(hB.tab i 0 k).1, ((hf.cell i (by omega) 0 (by omega)).el k hk).1⟩), df_s hp.1 (by omega) (hf.row i (by omega)).el, and_assoc]
theorem lb_sp {i j : Nat} (hi : (i : Int) < X.s) (hj : (j : Int) < X.s) : LbF X i j ↔ eqE (dfI X.p X.dif (X.tab i j) X.s.toNat) (plusN X.p (timesP X.p X.tab (X.dif i) (e8 j) X.s.toNat) (timesP X.p X.tab (e8 i) (X.dif j) X.s.toNat) (1 - 2 * (X.deg i).tmod 2) 8) = true := by
 have _ := hB
 have hs := hf.s
 have hp := isP_two hf.p
 unfold LbF
 rw [df_s (by omega) (by omega) (hf.cell i (by omega) j (by omega)).el, times_s (by omega) (hf.row i (by omega)).el (e8_el hp.1 hj), times_s (by omega) (e8_el hp.1 hi) (hf.row j (by omega)).el, Int.mul_comm 2]
theorem ac_sp {i j k : Nat} (hi : (i : Int) < X.s) (hj : (j : Int) < X.s) (hk : (k : Int) < X.s) : AsF X i j k ↔ eqE (timesP X.p X.tab (X.tab i j) (e8 k) X.s.toNat) (timesP X.p X.tab (e8 i) (X.tab j k) X.s.toNat) = true := by
 have _ := hB
 have hs := hf.s
 have hp := isP_two hf.p
 unfold AsF
 rw [times_s (by omega) (hf.cell i (by omega) j (by omega)).el (e8_el hp.1 hk), times_s (by omega) (e8_el hp.1 hi) (hf.cell j (by omega) k (by omega)).el]
theorem un_nos {i : Nat} (hi : (i : Int) < X.s) (h : UnF X i) (c : (eqE (X.tab 0 i) (e8 i) = false ∨ eqE (X.tab i 0) (e8 i) = false) ∨ eqE (dfI X.p X.dif (X.dif i) X.s.toNat) z8 = false) : False := by
 obtain ⟨⟨h1, h2⟩, h3⟩ := (un_sp hB hf hi).1 h
 rcases c with (c | c) | c
 ·rw [h1] at c; cases c
 ·rw [h2] at c; cases c
 ·rw [h3] at c; cases c
theorem lb_nos {i j : Nat} (hi : (i : Int) < X.s) (hj : (j : Int) < X.s) (h : LbF X i j) (c : eqE (dfI X.p X.dif (X.tab i j) X.s.toNat) (plusN X.p (timesP X.p X.tab (X.dif i) (e8 j) X.s.toNat) (timesP X.p X.tab (e8 i) (X.dif j) X.s.toNat) (1 - 2 * (X.deg i).tmod 2) 8) = false) : False := by
 rw [(lb_sp hB hf hi hj).1 h] at c; cases c
theorem ac_nos {i j k : Nat} (hi : (i : Int) < X.s) (hj : (j : Int) < X.s) (hk : (k : Int) < X.s) (h : AsF X i j k) (c : eqE (timesP X.p X.tab (X.tab i j) (e8 k) X.s.toNat) (timesP X.p X.tab (e8 i) (X.tab j k) X.s.toNat) = false) : False := by
 rw [(ac_sp hB hf hi hj hk).1 h] at c; cases c
end

set_option maxRecDepth 100000 in
set_option maxHeartbeats 4000000 in
theorem sDg_ok (X : Dg) (h : Heap)  (hB : DgB X) : CallA Try.prog 54 #[.agg (dgA X)] h fun v' h' => v' = .bool (dgB X) ∧ Ext h h' := by
 have hBd := hB.dif
 have hBt := hB.tab
 refine callA_intro TTok (args := [_]) Try.func54 (by kernel_rfl) rfl 114 rfl (by simp) [.tmp 2] rfl ?_
 simp only [idxs, Nat.reduceAdd]
 refine den_seq ?_
 refine den_region TTok ?_
 intro K hK
 simp -implicitDefEqProofs (disch := first | decide | assumption | omega) only [go_sem, wrap_id, sbs, Int.toNat_zero]
 refine op_box (cs := dgA X) rfl ?_
 intro h0_0 e0_0 hb0_0 z0_0
 have := Ext.size e0_0
 have eB := e0_0
 have hfhb0_0 : Fresh h.size [h.size] := Fresh.one _
 have hlhb0_0 := one_lt (show h.size < h0_0.size by omega)
 try simp -implicitDefEqProofs (disch := first | decide | assumption | omega) only [go_sem, wrap_id, sbs, Int.toNat_zero]
 refine hK _ _ ?_
 clear hK K
 refine den_seq ?_
 refine den_seq ?_
 refine den_region TTok ?_
 intro K hK
 simp -implicitDefEqProofs (disch := first | decide | assumption | omega) only [go_sem, BoxAt.dgs hb0_0, wrap_id, sbs, Int.toNat_zero]
 try simp -implicitDefEqProofs (disch := first | decide | assumption | omega) only [go_sem, wrap_id, sbs, Int.toNat_zero]
 refine CallA.mono (sFm_ok  X _  hB) ?_
 intro v_ h1_1
 rintro ⟨rfl, e1_1⟩
 replace hb0_0 := BoxAt.ext hb0_0 e1_1
 have := Ext.size e1_1
 replace eB := Ext.trans eB e1_1
 try simp -implicitDefEqProofs (disch := first | decide | assumption | omega) only [go_sem, wrap_id, sbs, Int.toNat_zero]
 refine hK _ _ ?_
 clear hK K
 refine den_cond rfl (fun c0 => ?_) (fun c0 => ?_)
 ·try simp only [ddA, Bool.or_eq_false_iff, Bool.and_eq_false_iff, in3_iff, in3_f] at c0
  refine den_seq ?_
  refine den_region TTok ?_
  intro K hK
  simp -implicitDefEqProofs (disch := first | decide | assumption | omega) only [go_sem, wrap_id, sbs, Int.toNat_zero]
  refine hK _ _ ?_
  clear hK K
  refine den_ret ?_
  simp (disch := decide) only [resP_1, puts_same, puts_ne]
  exact ⟨vbool (dgB_n (fun hh => by rw [fmB_t.2 hh.fm] at c0; cases c0)), eB⟩
 ·try simp only [ddA, Bool.or_eq_false_iff, Bool.and_eq_false_iff, in3_iff, in3_f] at c0
  have hfm := fmB_t.1 c0
  have hs8 := hfm.s
  have hpb := isP_bnd hfm.p
  have hpG : 0 < X.p ∧ X.p ≤ 7 := ⟨by omega, by omega⟩
  have hp2 := (isP_two hfm.p).1
  have hB7 : ∀ i, i < 8 → ∀ k, k < 8 → X.dif i k < X.p := fun i hi k hk => ((hfm.row i hi).el k hk).1
  have hB8 : ∀ i j, i < 8 → j < 8 → ∀ k, k < 8 → X.tab i j k < X.p := fun i j hi hj k hk => ((hfm.cell i hi j hj).el k hk).1
  refine den_skip ?_
  refine den_seq ?_
  refine den_seq ?_
  refine den_region TTok ?_
  intro K hK
  simp -implicitDefEqProofs (disch := first | decide | assumption | omega) only [go_sem, wrap_id, sbs, Int.toNat_zero]
  refine hK _ _ ?_
  clear hK K
  refine den_block ?_
  refine den_sel [3, 1] ?_
  intro env_1
  simp only [go_sem]
  refine den_loopS (σ := Nat) (fun st_ => [(3, .int .i64 (st_ : Int))]) (fun st_ H => ((st_ : Int) ≤ X.s) ∧ (∀ a : Nat, a < st_ → UnF X a ∧ ∀ b : Nat, (b : Int) < X.s → LbF X a b ∧ ∀ k : Nat, (k : Int) < X.s → AsF X a b k) ∧ (Ext h1_1 H)) (fun st_ => X.s.toNat - st_) 0 ?_ ?_
  ·exact ⟨by omega, fun a h => by omega, Ext.refl _⟩
  ·rintro i h4 ee3 ⟨hi, hz, cL2⟩
   replace hb0_0 := BoxAt.ext hb0_0 cL2
   have := Ext.size cL2
   replace eB := Ext.trans eB cL2
   simp only [List.cons_append, List.nil_append]
   refine den_seq ?_
   refine den_seq ?_
   refine den_region TTok ?_
   intro K hK
   simp -implicitDefEqProofs (disch := first | decide | assumption | omega) only [go_sem, fa34_1, ld2, BoxAt.dgs hb0_0, wrap_id, sbs, Int.toNat_zero]
   refine hK _ _ ?_
   clear hK K
   refine den_cond rfl (fun c1 => ?_) (fun c1 => ?_)
   ·try simp only [ddA, Bool.or_eq_false_iff, Bool.and_eq_false_iff, in3_iff, in3_f] at c1
    refine den_skip ?_
    refine den_seq ?_
    refine den_block ?_
    refine den_seq ?_
    have hdr := (hfm.row i (by omega)).deg
    have hsg := tmod_in (p := 2) (x := X.deg i) (by decide)
    refine den_sel [1, 3] ?_
    intro env_5
    simp only [go_sem]
    refine den_drawTJ (σ := Nat) TTok (fun st_ => [(4, .pointer (some ⟨st_, 0, none⟩)), (5, .int .i64 (((1 : Int) - ((2 : Int) * (Int.tmod (X.deg i) (2 : Int))))))]) (fun st_ H => (BoxAt H st_ (elA (e8 i)) 30) ∧ (Fresh h4.size [st_]) ∧ (Ext h4 H)) mixed [10] [(0, true), (2, true), (3, true), (4, true)] (.fork3 1 [] (.fork 5 [(6, true), (7, true), (8, true), (9, false), (10, false), (11, true)] .fin 9 [] (.fork 5 [(6, true), (7, true), (8, true), (10, false), (11, true)] .fin 10 [(5, true), (6, true), (7, true), (8, true), (11, true)] .fin)) 5 [(6, true), (7, true), (8, true)] (.fork 1 [(9, false), (10, false), (11, true)] .fin 9 [(1, false), (10, false), (11, true)] .fin) 9 [] (.fork 1 [] (.fork 5 [(6, true), (7, true), (8, true), (10, false), (11, true)] .fin 10 [(5, true), (6, true), (7, true), (8, true), (11, true)] .fin) 5 [(6, true), (7, true), (8, true), (1, false), (10, false), (11, true)] .fin)) (by kernel_rfl) ?_ ?_
    ·intro K hK
     have cJ6 := Ext.refl h4
     simp -implicitDefEqProofs (disch := first | decide | assumption | omega) only [go_sem, Int.toNat_zero, fa34_2, ia22, BoxAt.dgs hb0_0, wrap_id, sbs, Int.toNat_zero]
     refine And.intro ?_ (And.intro ?_ ?_)
     ·simp -implicitDefEqProofs (disch := first | decide | assumption | omega) only [go_sem, wrap_id, sbs, Int.toNat_zero]
      try simp -implicitDefEqProofs (disch := first | decide | assumption | omega) only [go_sem, wrap_id, sbs, Int.toNat_zero]
      refine CallA.mono (sUni_ok  (i : Int) _  (by omega)) ?_
      intro v_ h6_1
      rintro ⟨rfl, e6_1⟩
      replace hb0_0 := BoxAt.ext hb0_0 e6_1
      have := Ext.size e6_1
      replace eB := Ext.trans eB e6_1
      replace cL2 := Ext.trans cL2 e6_1
      replace cJ6 := Ext.trans cJ6 e6_1
      try simp (disch := decide) only [outv_some, outv_none, put_puts]
      refine plK_pres (Ext.pres e6_1) ?_
      try simp -implicitDefEqProofs (disch := first | decide | assumption | omega) only [go_sem, wrap_id, sbs, Int.toNat_zero]
      refine And.intro ?_ ?_
      ·simp -implicitDefEqProofs (disch := first | decide | assumption | omega) only [go_sem, ld2, BoxAt.dgs hb0_0, wrap_id, sbs, Int.toNat_zero]
       refine op_alloc (cs := elA z8) (by kernel_rfl) ?_
       intro h6_9 e6_9 hb6_9 z6_9
       replace hb0_0 := BoxAt.ext hb0_0 e6_9
       have := Ext.size e6_9
       replace eB := Ext.trans eB e6_9
       replace cL2 := Ext.trans cL2 e6_9
       replace cJ6 := Ext.trans cJ6 e6_9
       have hfhb6_9 : Fresh h6_1.size [h6_1.size] := Fresh.one _
       have hlhb6_9 := one_lt (show h6_1.size < h6_9.size by omega)
       try simp (disch := decide) only [outv_some, outv_none, put_puts]
       refine plK_pres (Ext.pres e6_9) ?_
       try simp -implicitDefEqProofs (disch := first | decide | assumption | omega) only [go_sem, wrap_id, sbs, Int.toNat_zero]
       refine op_storeB (o := 0) (cs' := elA (e8 i)) st30 hb6_9 rfl rfl (elA_sz _) (by rw [elA_sz]; decide) elA_one elA_all ?_
       intro h6_10 hb6_9 c6_10
       replace hb0_0 := BoxAt.chgA hb0_0 c6_10 (apart_lt hlhb0_0 hfhb6_9 (by omega))
       have := c6_10.size
       replace eB := Ext.then eB c6_10 (ge_of hfhb6_9 (by omega))
       replace cL2 := Ext.then cL2 c6_10 (ge_of hfhb6_9 (by omega))
       replace cJ6 := Ext.then cJ6 c6_10 (ge_of hfhb6_9 (by omega))
       try simp (disch := decide) only [outv_some, outv_none, put_puts]
       refine plK_last (by decide) ?_
       try simp -implicitDefEqProofs (disch := first | decide | assumption | omega) only [go_sem, wrap_id, sbs, Int.toNat_zero]
       exact hK h6_1.size _ _ (by simp [HasL, puts_at]) ⟨hb6_9, (hfhb6_9.mono (by omega)), cJ6⟩
      ·simp -implicitDefEqProofs (disch := first | decide | assumption | omega) only [go_sem, wrap_id, sbs, Int.toNat_zero]
       refine op_alloc (cs := elA z8) (by kernel_rfl) ?_
       intro h6_9 e6_9 hb6_9 z6_9
       replace hb0_0 := BoxAt.ext hb0_0 e6_9
       have := Ext.size e6_9
       replace eB := Ext.trans eB e6_9
       replace cL2 := Ext.trans cL2 e6_9
       replace cJ6 := Ext.trans cJ6 e6_9
       have hfhb6_9 : Fresh h6_1.size [h6_1.size] := Fresh.one _
       have hlhb6_9 := one_lt (show h6_1.size < h6_9.size by omega)
       try simp (disch := decide) only [outv_some, outv_none, put_puts]
       refine plK_pres (Ext.pres e6_9) ?_
       try simp -implicitDefEqProofs (disch := first | decide | assumption | omega) only [go_sem, wrap_id, sbs, Int.toNat_zero]
       refine And.intro ?_ ?_
       ·simp -implicitDefEqProofs (disch := first | decide | assumption | omega) only [go_sem, ld2, BoxAt.dgs hb0_0, wrap_id, sbs, Int.toNat_zero]
        refine op_storeB (o := 0) (cs' := elA (e8 i)) st30 hb6_9 rfl rfl (elA_sz _) (by rw [elA_sz]; decide) elA_one elA_all ?_
        intro h6_10 hb6_9 c6_10
        replace hb0_0 := BoxAt.chgA hb0_0 c6_10 (apart_lt hlhb0_0 hfhb6_9 (by omega))
        have := c6_10.size
        replace eB := Ext.then eB c6_10 (ge_of hfhb6_9 (by omega))
        replace cL2 := Ext.then cL2 c6_10 (ge_of hfhb6_9 (by omega))
        replace cJ6 := Ext.then cJ6 c6_10 (ge_of hfhb6_9 (by omega))
        try simp (disch := decide) only [outv_some, outv_none, put_puts]
        refine plK_last (by decide) ?_
        try simp -implicitDefEqProofs (disch := first | decide | assumption | omega) only [go_sem, wrap_id, sbs, Int.toNat_zero]
        exact hK h6_1.size _ _ (by simp [HasL, puts_at]) ⟨hb6_9, (hfhb6_9.mono (by omega)), cJ6⟩
       ·simp -implicitDefEqProofs (disch := first | decide | assumption | omega) only [go_sem, wrap_id, sbs, Int.toNat_zero]
        refine op_storeB (o := 0) (cs' := elA (e8 i)) st30 hb6_9 rfl rfl (elA_sz _) (by rw [elA_sz]; decide) elA_one elA_all ?_
        intro h6_10 hb6_9 c6_10
        replace hb0_0 := BoxAt.chgA hb0_0 c6_10 (apart_lt hlhb0_0 hfhb6_9 (by omega))
        have := c6_10.size
        replace eB := Ext.then eB c6_10 (ge_of hfhb6_9 (by omega))
        replace cL2 := Ext.then cL2 c6_10 (ge_of hfhb6_9 (by omega))
        replace cJ6 := Ext.then cJ6 c6_10 (ge_of hfhb6_9 (by omega))
        try simp (disch := decide) only [outv_some, outv_none, put_puts]
        refine plK_last (by decide) ?_
        try simp -implicitDefEqProofs (disch := first | decide | assumption | omega) only [go_sem, ld2, BoxAt.dgs hb0_0, wrap_id, sbs, Int.toNat_zero]
        exact hK h6_1.size _ _ (by simp [HasL, puts_at]) ⟨hb6_9, (hfhb6_9.mono (by omega)), cJ6⟩
     ·simp -implicitDefEqProofs (disch := first | decide | assumption | omega) only [go_sem, ld2, BoxAt.dgs hb0_0, wrap_id, sbs, Int.toNat_zero]
      refine And.intro ?_ ?_
      ·simp -implicitDefEqProofs (disch := first | decide | assumption | omega) only [go_sem, wrap_id, sbs, Int.toNat_zero]
       try simp -implicitDefEqProofs (disch := first | decide | assumption | omega) only [go_sem, wrap_id, sbs, Int.toNat_zero]
       refine CallA.mono (sUni_ok  (i : Int) _  (by omega)) ?_
       intro v_ h6_1
       rintro ⟨rfl, e6_1⟩
       replace hb0_0 := BoxAt.ext hb0_0 e6_1
       have := Ext.size e6_1
       replace eB := Ext.trans eB e6_1
       replace cL2 := Ext.trans cL2 e6_1
       replace cJ6 := Ext.trans cJ6 e6_1
       try simp (disch := decide) only [outv_some, outv_none, put_puts]
       refine plK_pres (Ext.pres e6_1) ?_
       try simp -implicitDefEqProofs (disch := first | decide | assumption | omega) only [go_sem, wrap_id, sbs, Int.toNat_zero]
       refine op_alloc (cs := elA z8) (by kernel_rfl) ?_
       intro h6_9 e6_9 hb6_9 z6_9
       replace hb0_0 := BoxAt.ext hb0_0 e6_9
       have := Ext.size e6_9
       replace eB := Ext.trans eB e6_9
       replace cL2 := Ext.trans cL2 e6_9
       replace cJ6 := Ext.trans cJ6 e6_9
       have hfhb6_9 : Fresh h6_1.size [h6_1.size] := Fresh.one _
       have hlhb6_9 := one_lt (show h6_1.size < h6_9.size by omega)
       try simp (disch := decide) only [outv_some, outv_none, put_puts]
       refine plK_pres (Ext.pres e6_9) ?_
       try simp -implicitDefEqProofs (disch := first | decide | assumption | omega) only [go_sem, wrap_id, sbs, Int.toNat_zero]
       refine op_storeB (o := 0) (cs' := elA (e8 i)) st30 hb6_9 rfl rfl (elA_sz _) (by rw [elA_sz]; decide) elA_one elA_all ?_
       intro h6_10 hb6_9 c6_10
       replace hb0_0 := BoxAt.chgA hb0_0 c6_10 (apart_lt hlhb0_0 hfhb6_9 (by omega))
       have := c6_10.size
       replace eB := Ext.then eB c6_10 (ge_of hfhb6_9 (by omega))
       replace cL2 := Ext.then cL2 c6_10 (ge_of hfhb6_9 (by omega))
       replace cJ6 := Ext.then cJ6 c6_10 (ge_of hfhb6_9 (by omega))
       try simp (disch := decide) only [outv_some, outv_none, put_puts]
       refine plK_last (by decide) ?_
       try simp -implicitDefEqProofs (disch := first | decide | assumption | omega) only [go_sem, wrap_id, sbs, Int.toNat_zero]
       exact hK h6_1.size _ _ (by simp [HasL, puts_at]) ⟨hb6_9, (hfhb6_9.mono (by omega)), cJ6⟩
      ·simp -implicitDefEqProofs (disch := first | decide | assumption | omega) only [go_sem, wrap_id, sbs, Int.toNat_zero]
       refine op_alloc (cs := elA z8) (by kernel_rfl) ?_
       intro h6_9 e6_9 hb6_9 z6_9
       replace hb0_0 := BoxAt.ext hb0_0 e6_9
       have := Ext.size e6_9
       replace eB := Ext.trans eB e6_9
       replace cL2 := Ext.trans cL2 e6_9
       replace cJ6 := Ext.trans cJ6 e6_9
       have hfhb6_9 : Fresh h4.size [h4.size] := Fresh.one _
       have hlhb6_9 := one_lt (show h4.size < h6_9.size by omega)
       try simp (disch := decide) only [outv_some, outv_none, put_puts]
       refine plK_pres (Ext.pres e6_9) ?_
       try simp -implicitDefEqProofs (disch := first | decide | assumption | omega) only [go_sem, wrap_id, sbs, Int.toNat_zero]
       try simp -implicitDefEqProofs (disch := first | decide | assumption | omega) only [go_sem, wrap_id, sbs, Int.toNat_zero]
       refine CallA.mono (sUni_ok  (i : Int) _  (by omega)) ?_
       intro v_ h6_1
       rintro ⟨rfl, e6_1⟩
       replace hb0_0 := BoxAt.ext hb0_0 e6_1
       replace hb6_9 := BoxAt.ext hb6_9 e6_1
       have := Ext.size e6_1
       replace eB := Ext.trans eB e6_1
       replace cL2 := Ext.trans cL2 e6_1
       replace cJ6 := Ext.trans cJ6 e6_1
       try simp (disch := decide) only [outv_some, outv_none, put_puts]
       refine plK_pres (Ext.pres e6_1) ?_
       try simp -implicitDefEqProofs (disch := first | decide | assumption | omega) only [go_sem, wrap_id, sbs, Int.toNat_zero]
       refine op_storeB (o := 0) (cs' := elA (e8 i)) st30 hb6_9 rfl rfl (elA_sz _) (by rw [elA_sz]; decide) elA_one elA_all ?_
       intro h6_10 hb6_9 c6_10
       replace hb0_0 := BoxAt.chgA hb0_0 c6_10 (apart_lt hlhb0_0 hfhb6_9 (by omega))
       have := c6_10.size
       replace eB := Ext.then eB c6_10 (ge_of hfhb6_9 (by omega))
       replace cL2 := Ext.then cL2 c6_10 (ge_of hfhb6_9 (by omega))
       replace cJ6 := Ext.then cJ6 c6_10 (ge_of hfhb6_9 (by omega))
       try simp (disch := decide) only [outv_some, outv_none, put_puts]
       refine plK_last (by decide) ?_
       try simp -implicitDefEqProofs (disch := first | decide | assumption | omega) only [go_sem, wrap_id, sbs, Int.toNat_zero]
       exact hK h4.size _ _ (by simp [HasL, puts_at]) ⟨hb6_9, (hfhb6_9.mono (by omega)), cJ6⟩
     ·simp -implicitDefEqProofs (disch := first | decide | assumption | omega) only [go_sem, wrap_id, sbs, Int.toNat_zero]
      refine op_alloc (cs := elA z8) (by kernel_rfl) ?_
      intro h6_9 e6_9 hb6_9 z6_9
      replace hb0_0 := BoxAt.ext hb0_0 e6_9
      have := Ext.size e6_9
      replace eB := Ext.trans eB e6_9
      replace cL2 := Ext.trans cL2 e6_9
      replace cJ6 := Ext.trans cJ6 e6_9
      have hfhb6_9 : Fresh h4.size [h4.size] := Fresh.one _
      have hlhb6_9 := one_lt (show h4.size < h6_9.size by omega)
      try simp (disch := decide) only [outv_some, outv_none, put_puts]
      refine plK_pres (Ext.pres e6_9) ?_
      try simp -implicitDefEqProofs (disch := first | decide | assumption | omega) only [go_sem, wrap_id, sbs, Int.toNat_zero]
      refine And.intro ?_ ?_
      ·simp -implicitDefEqProofs (disch := first | decide | assumption | omega) only [go_sem, wrap_id, sbs, Int.toNat_zero]
       try simp -implicitDefEqProofs (disch := first | decide | assumption | omega) only [go_sem, wrap_id, sbs, Int.toNat_zero]
       refine CallA.mono (sUni_ok  (i : Int) _  (by omega)) ?_
       intro v_ h6_1
       rintro ⟨rfl, e6_1⟩
       replace hb0_0 := BoxAt.ext hb0_0 e6_1
       replace hb6_9 := BoxAt.ext hb6_9 e6_1
       have := Ext.size e6_1
       replace eB := Ext.trans eB e6_1
       replace cL2 := Ext.trans cL2 e6_1
       replace cJ6 := Ext.trans cJ6 e6_1
       try simp (disch := decide) only [outv_some, outv_none, put_puts]
       refine plK_pres (Ext.pres e6_1) ?_
       try simp -implicitDefEqProofs (disch := first | decide | assumption | omega) only [go_sem, wrap_id, sbs, Int.toNat_zero]
       refine And.intro ?_ ?_
       ·simp -implicitDefEqProofs (disch := first | decide | assumption | omega) only [go_sem, ld2, BoxAt.dgs hb0_0, wrap_id, sbs, Int.toNat_zero]
        refine op_storeB (o := 0) (cs' := elA (e8 i)) st30 hb6_9 rfl rfl (elA_sz _) (by rw [elA_sz]; decide) elA_one elA_all ?_
        intro h6_10 hb6_9 c6_10
        replace hb0_0 := BoxAt.chgA hb0_0 c6_10 (apart_lt hlhb0_0 hfhb6_9 (by omega))
        have := c6_10.size
        replace eB := Ext.then eB c6_10 (ge_of hfhb6_9 (by omega))
        replace cL2 := Ext.then cL2 c6_10 (ge_of hfhb6_9 (by omega))
        replace cJ6 := Ext.then cJ6 c6_10 (ge_of hfhb6_9 (by omega))
        try simp (disch := decide) only [outv_some, outv_none, put_puts]
        refine plK_last (by decide) ?_
        try simp -implicitDefEqProofs (disch := first | decide | assumption | omega) only [go_sem, wrap_id, sbs, Int.toNat_zero]
        exact hK h4.size _ _ (by simp [HasL, puts_at]) ⟨hb6_9, (hfhb6_9.mono (by omega)), cJ6⟩
       ·simp -implicitDefEqProofs (disch := first | decide | assumption | omega) only [go_sem, wrap_id, sbs, Int.toNat_zero]
        refine op_storeB (o := 0) (cs' := elA (e8 i)) st30 hb6_9 rfl rfl (elA_sz _) (by rw [elA_sz]; decide) elA_one elA_all ?_
        intro h6_10 hb6_9 c6_10
        replace hb0_0 := BoxAt.chgA hb0_0 c6_10 (apart_lt hlhb0_0 hfhb6_9 (by omega))
        have := c6_10.size
        replace eB := Ext.then eB c6_10 (ge_of hfhb6_9 (by omega))
        replace cL2 := Ext.then cL2 c6_10 (ge_of hfhb6_9 (by omega))
        replace cJ6 := Ext.then cJ6 c6_10 (ge_of hfhb6_9 (by omega))
        try simp (disch := decide) only [outv_some, outv_none, put_puts]
        refine plK_last (by decide) ?_
        try simp -implicitDefEqProofs (disch := first | decide | assumption | omega) only [go_sem, ld2, BoxAt.dgs hb0_0, wrap_id, sbs, Int.toNat_zero]
        exact hK h4.size _ _ (by simp [HasL, puts_at]) ⟨hb6_9, (hfhb6_9.mono (by omega)), cJ6⟩
      ·simp -implicitDefEqProofs (disch := first | decide | assumption | omega) only [go_sem, ld2, BoxAt.dgs hb0_0, wrap_id, sbs, Int.toNat_zero]
       try simp -implicitDefEqProofs (disch := first | decide | assumption | omega) only [go_sem, wrap_id, sbs, Int.toNat_zero]
       refine CallA.mono (sUni_ok  (i : Int) _  (by omega)) ?_
       intro v_ h6_1
       rintro ⟨rfl, e6_1⟩
       replace hb0_0 := BoxAt.ext hb0_0 e6_1
       replace hb6_9 := BoxAt.ext hb6_9 e6_1
       have := Ext.size e6_1
       replace eB := Ext.trans eB e6_1
       replace cL2 := Ext.trans cL2 e6_1
       replace cJ6 := Ext.trans cJ6 e6_1
       try simp (disch := decide) only [outv_some, outv_none, put_puts]
       refine plK_pres (Ext.pres e6_1) ?_
       try simp -implicitDefEqProofs (disch := first | decide | assumption | omega) only [go_sem, wrap_id, sbs, Int.toNat_zero]
       refine op_storeB (o := 0) (cs' := elA (e8 i)) st30 hb6_9 rfl rfl (elA_sz _) (by rw [elA_sz]; decide) elA_one elA_all ?_
       intro h6_10 hb6_9 c6_10
       replace hb0_0 := BoxAt.chgA hb0_0 c6_10 (apart_lt hlhb0_0 hfhb6_9 (by omega))
       have := c6_10.size
       replace eB := Ext.then eB c6_10 (ge_of hfhb6_9 (by omega))
       replace cL2 := Ext.then cL2 c6_10 (ge_of hfhb6_9 (by omega))
       replace cJ6 := Ext.then cJ6 c6_10 (ge_of hfhb6_9 (by omega))
       try simp (disch := decide) only [outv_some, outv_none, put_puts]
       refine plK_last (by decide) ?_
       try simp -implicitDefEqProofs (disch := first | decide | assumption | omega) only [go_sem, wrap_id, sbs, Int.toNat_zero]
       exact hK h4.size _ _ (by simp [HasL, puts_at]) ⟨hb6_9, (hfhb6_9.mono (by omega)), cJ6⟩
    ·rintro bJhb6_9 hj7 ee9 ⟨hb6_9, hfhb6_9, eJ8⟩
     replace hb0_0 := BoxAt.ext hb0_0 eJ8
     have := Ext.size eJ8
     replace eB := Ext.trans eB eJ8
     replace cL2 := Ext.trans cL2 eJ8
     have hlhb6_9 := one_lt hb6_9.lt
     simp only [List.cons_append, List.nil_append]
     refine den_seq ?_
     refine den_seq ?_
     refine den_merge [(52, .bool ((((!(eqE ((X.tab 0) i) (e8 i))) || (!(eqE ((X.tab i) 0) (e8 i)))) || (!(eqE (dfI X.p X.dif (X.dif i) X.s.toNat) z8)))))] [1, 3, 4, 5] (fun H => Ext hj7 H) ?_ ?_
      -- a way
     ·refine den_draw TTok mixed [] [(0, true), (1, true), (2, true), (3, true), (4, true), (5, true), (6, true), (7, true), (8, true), (9, true), (10, true), (11, true), (12, true), (13, true), (14, true), (15, true), (16, true), (17, true), (18, true), (19, true), (20, true), (21, true), (23, true), (22, false), (24, true), (25, true)] (by kernel_rfl) ?_
      intro K hK
      simp -implicitDefEqProofs (disch := first | decide | assumption | (simp (disch := decide) only [gvA, eq_self, if_true, if_false, Bool.false_eq_true]; done) | omega) only [go_sem, Int.toNat_zero, fa34_5, ia32, ia31, BoxAt.dgs hb0_0, BoxAt.elC hb6_9, BoxAt.elL hb6_9, wrap_id, sbs, Int.toNat_zero]
      refine plG_F (by simp (disch := decide) only [gvA, eq_self, if_true, if_false, Bool.false_eq_true]; rfl) (fun g10 => ?_) (fun g10 => ?_)
      ·try simp -implicitDefEqProofs (disch := first | decide | assumption | (simp (disch := decide) only [gvA, eq_self, if_true, if_false, Bool.false_eq_true, g10]; done) | omega) only [go_sem, Int.toNat_zero, fa34_5, ia32, ia31, BoxAt.dgs hb0_0, BoxAt.elC hb6_9, BoxAt.elL hb6_9, wrap_id, sbs, Int.toNat_zero, g10, eq_self, if_true, if_false, Bool.false_eq_true]
       refine plG_F (by simp (disch := decide) only [gvA, eq_self, if_true, if_false, Bool.false_eq_true, g10]; rfl) (fun g11 => ?_) (fun g11 => ?_)
       ·try simp -implicitDefEqProofs (disch := first | decide | assumption | (simp (disch := decide) only [gvA, eq_self, if_true, if_false, Bool.false_eq_true, g10, g11]; done) | omega) only [go_sem, Int.toNat_zero, fa34_4, ia31, BoxAt.dgs hb0_0, wrap_id, sbs, Int.toNat_zero, g10, g11, eq_self, if_true, if_false, Bool.false_eq_true]
        try simp -implicitDefEqProofs (disch := first | decide | assumption | omega) only [go_sem, wrap_id, sbs, Int.toNat_zero]
        refine CallA.mono (sDif_ok  X (X.dif i) _  hpG (by omega) (by first | assumption | exact e8_by _ | exact By.z8 | exact hBd _ | exact hBt _ _ | exact tmJ_by (by omega) (tmI_by (by omega) _) _ | exact timesP_by (by omega) | exact dfI_by (by omega) _ | exact plusN_by (by omega) (timesP_by (by omega)) | exact dfI_by (by omega) 8) hBd) ?_
        intro v_ h7_22
        rintro ⟨rfl, e7_22⟩
        replace hb0_0 := BoxAt.ext hb0_0 e7_22
        replace hb6_9 := BoxAt.ext hb6_9 e7_22
        have := Ext.size e7_22
        replace eB := Ext.trans eB e7_22
        replace cL2 := Ext.trans cL2 e7_22
        try simp (disch := decide) only [outv_some, outv_none, put_puts]
        refine plK_pres (Ext.pres e7_22) ?_
        try simp -implicitDefEqProofs (disch := first | decide | assumption | (simp (disch := decide) only [gvA, eq_self, if_true, if_false, Bool.false_eq_true, g10, g11]; done) | omega) only [go_sem, wrap_id, sbs, Int.toNat_zero, g10, g11, eq_self, if_true, if_false, Bool.false_eq_true]
        refine hK _ _ ?_
        clear hK K
        refine den_stop ?_
        refine ⟨?_, e7_22⟩
        first | (simp (disch := decide) only [go_sem, g10, g11, eq_self, Bool.true_and, Bool.and_true, Bool.false_and, Bool.and_false, Bool.true_or, Bool.or_true, Bool.false_or, Bool.or_false, if_true, if_false, Bool.false_eq_true]; done) | simp [HasL, sel, puts_at, g10, g11]
       ·try simp -implicitDefEqProofs (disch := first | decide | assumption | (simp (disch := decide) only [gvA, eq_self, if_true, if_false, Bool.false_eq_true, g10, g11]; done) | omega) only [go_sem, wrap_id, sbs, Int.toNat_zero, g10, g11, eq_self, if_true, if_false, Bool.false_eq_true]
        refine hK _ _ ?_
        clear hK K
        refine den_stop ?_
        refine ⟨?_, Ext.refl _⟩
        first | (simp (disch := decide) only [go_sem, g10, g11, eq_self, Bool.true_and, Bool.and_true, Bool.false_and, Bool.and_false, Bool.true_or, Bool.or_true, Bool.false_or, Bool.or_false, if_true, if_false, Bool.false_eq_true]; done) | simp [HasL, sel, puts_at, g10, g11]
      ·try simp -implicitDefEqProofs (disch := first | decide | assumption | (simp (disch := decide) only [gvA, eq_self, if_true, if_false, Bool.false_eq_true, g10]; done) | omega) only [go_sem, wrap_id, sbs, Int.toNat_zero, g10, eq_self, if_true, if_false, Bool.false_eq_true]
       try simp -implicitDefEqProofs (disch := first | decide | assumption | (simp (disch := decide) only [gvA, eq_self, if_true, if_false, Bool.false_eq_true, g10]; done) | omega) only [go_sem, wrap_id, sbs, Int.toNat_zero, g10, eq_self, if_true, if_false, Bool.false_eq_true]
       refine hK _ _ ?_
       clear hK K
       refine den_stop ?_
       refine ⟨?_, Ext.refl _⟩
       first | (simp (disch := decide) only [go_sem, g10, eq_self, Bool.true_and, Bool.and_true, Bool.false_and, Bool.and_false, Bool.true_or, Bool.or_true, Bool.false_or, Bool.or_false, if_true, if_false, Bool.false_eq_true]; done) | simp [HasL, sel, puts_at, g10]
     intro en12 h13 e14
     replace hb0_0 := BoxAt.ext hb0_0 e14
     replace hb6_9 := BoxAt.ext hb6_9 e14
     have := Ext.size e14
     replace eB := Ext.trans eB e14
     replace cL2 := Ext.trans cL2 e14
     simp (disch := decide) only [go_sem]
     refine den_cond rfl (fun c2 => ?_) (fun c2 => ?_)
     ·try simp only [ddA, Bool.or_eq_false_iff, Bool.and_eq_false_iff, in3_iff, in3_f] at c2
      refine den_seq ?_
      refine den_region TTok ?_
      intro K hK
      simp -implicitDefEqProofs (disch := first | decide | assumption | omega) only [go_sem, wrap_id, sbs, Int.toNat_zero]
      refine hK _ _ ?_
      clear hK K
      refine den_ret ?_
      simp (disch := decide) only [resP_1, puts_same, puts_ne]
      exact ⟨vbool (dgB_n (fun hh => un_nos hB hfm (by omega) (hh.un i (by omega)) c2)), eB⟩
     ·try simp only [ddA, Bool.or_eq_false_iff, Bool.and_eq_false_iff, in3_iff, in3_f] at c2
      refine den_skip ?_
      refine den_seq ?_
      refine den_region TTok ?_
      intro K hK
      simp -implicitDefEqProofs (disch := first | decide | assumption | omega) only [go_sem, wrap_id, sbs, Int.toNat_zero]
      refine hK _ _ ?_
      clear hK K
      refine den_block ?_
      refine den_sel [6, 1, 3, 4, 5] ?_
      intro env_15
      simp only [go_sem]
      refine den_loopS (σ := Nat) (fun st_ => [(6, .int .i64 (st_ : Int))]) (fun st_ H => ((st_ : Int) ≤ X.s) ∧ (∀ b : Nat, b < st_ → LbF X i b ∧ ∀ k : Nat, (k : Int) < X.s → AsF X i b k) ∧ (Ext h13 H)) (fun st_ => X.s.toNat - st_) 0 ?_ ?_
      ·exact ⟨by omega, fun b h => by omega, Ext.refl _⟩
      ·rintro j h18 ee17 ⟨hj, hzj, cL16⟩
       replace hb0_0 := BoxAt.ext hb0_0 cL16
       replace hb6_9 := BoxAt.ext hb6_9 cL16
       have := Ext.size cL16
       replace eB := Ext.trans eB cL16
       replace cL2 := Ext.trans cL2 cL16
       simp only [List.cons_append, List.nil_append]
       refine den_seq ?_
       refine den_seq ?_
       refine den_region TTok ?_
       intro K hK
       simp -implicitDefEqProofs (disch := first | decide | assumption | omega) only [go_sem, fa34_1, ld2, BoxAt.dgs hb0_0, wrap_id, sbs, Int.toNat_zero]
       refine hK _ _ ?_
       clear hK K
       refine den_cond rfl (fun c3 => ?_) (fun c3 => ?_)
       ·try simp only [ddA, Bool.or_eq_false_iff, Bool.and_eq_false_iff, in3_iff, in3_f] at c3
        refine den_skip ?_
        refine den_seq ?_
        refine den_block ?_
        refine den_seq ?_
        refine den_sel [1, 3, 4, 5, 6] ?_
        intro env_19
        simp only [go_sem]
        refine den_drawTJ (σ := Nat) TTok (fun st_ => [(7, .pointer (some ⟨st_, 0, none⟩))]) (fun st_ H => (BoxAt H st_ (elA (timesP X.p X.tab (X.dif i) (e8 j) X.s.toNat)) 30) ∧ (Fresh h18.size [st_]) ∧ (Ext h18 H)) mixed [9] [(0, true), (1, true), (2, true), (3, true), (4, true), (5, true)] (.fork 6 [] (.fork 7 [(8, false), (9, false)] .fin 8 [(7, false), (9, false)] .fin) 8 [(6, false), (7, false), (9, false)] .fin) (by kernel_rfl) ?_ ?_
        ·intro K hK
         have cJ20 := Ext.refl h18
         simp -implicitDefEqProofs (disch := first | decide | assumption | omega) only [go_sem, Int.toNat_zero, fa34_4, ia31, BoxAt.dgs hb0_0, wrap_id, sbs, Int.toNat_zero]
         refine And.intro ?_ ?_
         ·simp -implicitDefEqProofs (disch := first | decide | assumption | omega) only [go_sem, wrap_id, sbs, Int.toNat_zero]
          try simp -implicitDefEqProofs (disch := first | decide | assumption | omega) only [go_sem, wrap_id, sbs, Int.toNat_zero]
          refine CallA.mono (sUni_ok  (j : Int) _  (by omega)) ?_
          intro v_ h12_6
          rintro ⟨rfl, e12_6⟩
          replace hb0_0 := BoxAt.ext hb0_0 e12_6
          replace hb6_9 := BoxAt.ext hb6_9 e12_6
          have := Ext.size e12_6
          replace eB := Ext.trans eB e12_6
          replace cL2 := Ext.trans cL2 e12_6
          replace cL16 := Ext.trans cL16 e12_6
          replace cJ20 := Ext.trans cJ20 e12_6
          try simp (disch := decide) only [outv_some, outv_none, put_puts]
          refine plK_pres (Ext.pres e12_6) ?_
          try simp -implicitDefEqProofs (disch := first | decide | assumption | omega) only [go_sem, wrap_id, sbs, Int.toNat_zero]
          refine And.intro ?_ ?_
          ·simp -implicitDefEqProofs (disch := first | decide | assumption | omega) only [go_sem, wrap_id, sbs, Int.toNat_zero]
           try simp -implicitDefEqProofs (disch := first | decide | assumption | omega) only [go_sem, wrap_id, sbs, Int.toNat_zero]
           refine CallA.mono (sTms_ok  X (X.dif i) (e8 j) _  hpG (by omega) (by first | assumption | exact e8_by _ | exact By.z8 | exact hBd _ | exact hBt _ _ | exact tmJ_by (by omega) (tmI_by (by omega) _) _ | exact timesP_by (by omega) | exact dfI_by (by omega) _ | exact plusN_by (by omega) (timesP_by (by omega)) | exact dfI_by (by omega) 8) (by first | assumption | exact e8_by _ | exact By.z8 | exact hBd _ | exact hBt _ _ | exact tmJ_by (by omega) (tmI_by (by omega) _) _ | exact timesP_by (by omega) | exact dfI_by (by omega) _ | exact plusN_by (by omega) (timesP_by (by omega)) | exact dfI_by (by omega) 8) hBt (by first | assumption | exact e8_lt (by omega) _ | exact z8_lt (by omega) | exact hB7 _ (by omega) | exact hB8 _ _ (by omega) (by omega) | exact tms_lt (by omega) | exact dfs_lt (by omega)) (by first | assumption | exact e8_lt (by omega) _ | exact z8_lt (by omega) | exact hB7 _ (by omega) | exact hB8 _ _ (by omega) (by omega) | exact tms_lt (by omega) | exact dfs_lt (by omega))) ?_
           intro v_ h12_7
           rintro ⟨rfl, e12_7⟩
           replace hb0_0 := BoxAt.ext hb0_0 e12_7
           replace hb6_9 := BoxAt.ext hb6_9 e12_7
           have := Ext.size e12_7
           replace eB := Ext.trans eB e12_7
           replace cL2 := Ext.trans cL2 e12_7
           replace cL16 := Ext.trans cL16 e12_7
           replace cJ20 := Ext.trans cJ20 e12_7
           try simp (disch := decide) only [outv_some, outv_none, put_puts]
           refine plK_pres (Ext.pres e12_7) ?_
           try simp -implicitDefEqProofs (disch := first | decide | assumption | omega) only [go_sem, wrap_id, sbs, Int.toNat_zero]
           refine op_alloc (cs := elA z8) (by kernel_rfl) ?_
           intro h12_8 e12_8 hb12_8 z12_8
           replace hb0_0 := BoxAt.ext hb0_0 e12_8
           replace hb6_9 := BoxAt.ext hb6_9 e12_8
           have := Ext.size e12_8
           replace eB := Ext.trans eB e12_8
           replace cL2 := Ext.trans cL2 e12_8
           replace cL16 := Ext.trans cL16 e12_8
           replace cJ20 := Ext.trans cJ20 e12_8
           have hfhb12_8 : Fresh h12_7.size [h12_7.size] := Fresh.one _
           have hlhb12_8 := one_lt (show h12_7.size < h12_8.size by omega)
           try simp (disch := decide) only [outv_some, outv_none, put_puts]
           refine plK_pres (Ext.pres e12_8) ?_
           try simp -implicitDefEqProofs (disch := first | decide | assumption | omega) only [go_sem, wrap_id, sbs, Int.toNat_zero]
           refine op_storeB (o := 0) (cs' := elA (timesP X.p X.tab (X.dif i) (e8 j) X.s.toNat)) st30 hb12_8 rfl rfl (elA_sz _) (by rw [elA_sz]; decide) elA_one elA_all ?_
           intro h12_9 hb12_8 c12_9
           replace hb0_0 := BoxAt.chgA hb0_0 c12_9 (apart_lt hlhb0_0 hfhb12_8 (by omega))
           replace hb6_9 := BoxAt.chgA hb6_9 c12_9 (apart_lt hlhb6_9 hfhb12_8 (by omega))
           have := c12_9.size
           replace eB := Ext.then eB c12_9 (ge_of hfhb12_8 (by omega))
           replace cL2 := Ext.then cL2 c12_9 (ge_of hfhb12_8 (by omega))
           replace cL16 := Ext.then cL16 c12_9 (ge_of hfhb12_8 (by omega))
           replace cJ20 := Ext.then cJ20 c12_9 (ge_of hfhb12_8 (by omega))
           try simp (disch := decide) only [outv_some, outv_none, put_puts]
           refine plK_last (by decide) ?_
           try simp -implicitDefEqProofs (disch := first | decide | assumption | omega) only [go_sem, wrap_id, sbs, Int.toNat_zero]
           exact hK h12_7.size _ _ (by simp [HasL, puts_at]) ⟨hb12_8, (hfhb12_8.mono (by omega)), cJ20⟩
          ·simp -implicitDefEqProofs (disch := first | decide | assumption | omega) only [go_sem, wrap_id, sbs, Int.toNat_zero]
           refine op_alloc (cs := elA z8) (by kernel_rfl) ?_
           intro h12_8 e12_8 hb12_8 z12_8
           replace hb0_0 := BoxAt.ext hb0_0 e12_8
           replace hb6_9 := BoxAt.ext hb6_9 e12_8
           have := Ext.size e12_8
           replace eB := Ext.trans eB e12_8
           replace cL2 := Ext.trans cL2 e12_8
           replace cL16 := Ext.trans cL16 e12_8
           replace cJ20 := Ext.trans cJ20 e12_8
           have hfhb12_8 : Fresh h12_6.size [h12_6.size] := Fresh.one _
           have hlhb12_8 := one_lt (show h12_6.size < h12_8.size by omega)
           try simp (disch := decide) only [outv_some, outv_none, put_puts]
           refine plK_pres (Ext.pres e12_8) ?_
           try simp -implicitDefEqProofs (disch := first | decide | assumption | omega) only [go_sem, wrap_id, sbs, Int.toNat_zero]
           try simp -implicitDefEqProofs (disch := first | decide | assumption | omega) only [go_sem, wrap_id, sbs, Int.toNat_zero]
           refine CallA.mono (sTms_ok  X (X.dif i) (e8 j) _  hpG (by omega) (by first | assumption | exact e8_by _ | exact By.z8 | exact hBd _ | exact hBt _ _ | exact tmJ_by (by omega) (tmI_by (by omega) _) _ | exact timesP_by (by omega) | exact dfI_by (by omega) _ | exact plusN_by (by omega) (timesP_by (by omega)) | exact dfI_by (by omega) 8) (by first | assumption | exact e8_by _ | exact By.z8 | exact hBd _ | exact hBt _ _ | exact tmJ_by (by omega) (tmI_by (by omega) _) _ | exact timesP_by (by omega) | exact dfI_by (by omega) _ | exact plusN_by (by omega) (timesP_by (by omega)) | exact dfI_by (by omega) 8) hBt (by first | assumption | exact e8_lt (by omega) _ | exact z8_lt (by omega) | exact hB7 _ (by omega) | exact hB8 _ _ (by omega) (by omega) | exact tms_lt (by omega) | exact dfs_lt (by omega)) (by first | assumption | exact e8_lt (by omega) _ | exact z8_lt (by omega) | exact hB7 _ (by omega) | exact hB8 _ _ (by omega) (by omega) | exact tms_lt (by omega) | exact dfs_lt (by omega))) ?_
           intro v_ h12_7
           rintro ⟨rfl, e12_7⟩
           replace hb0_0 := BoxAt.ext hb0_0 e12_7
           replace hb6_9 := BoxAt.ext hb6_9 e12_7
           replace hb12_8 := BoxAt.ext hb12_8 e12_7
           have := Ext.size e12_7
           replace eB := Ext.trans eB e12_7
           replace cL2 := Ext.trans cL2 e12_7
           replace cL16 := Ext.trans cL16 e12_7
           replace cJ20 := Ext.trans cJ20 e12_7
           try simp (disch := decide) only [outv_some, outv_none, put_puts]
           refine plK_pres (Ext.pres e12_7) ?_
           try simp -implicitDefEqProofs (disch := first | decide | assumption | omega) only [go_sem, wrap_id, sbs, Int.toNat_zero]
           refine op_storeB (o := 0) (cs' := elA (timesP X.p X.tab (X.dif i) (e8 j) X.s.toNat)) st30 hb12_8 rfl rfl (elA_sz _) (by rw [elA_sz]; decide) elA_one elA_all ?_
           intro h12_9 hb12_8 c12_9
           replace hb0_0 := BoxAt.chgA hb0_0 c12_9 (apart_lt hlhb0_0 hfhb12_8 (by omega))
           replace hb6_9 := BoxAt.chgA hb6_9 c12_9 (apart_lt hlhb6_9 hfhb12_8 (by omega))
           have := c12_9.size
           replace eB := Ext.then eB c12_9 (ge_of hfhb12_8 (by omega))
           replace cL2 := Ext.then cL2 c12_9 (ge_of hfhb12_8 (by omega))
           replace cL16 := Ext.then cL16 c12_9 (ge_of hfhb12_8 (by omega))
           replace cJ20 := Ext.then cJ20 c12_9 (ge_of hfhb12_8 (by omega))
           try simp (disch := decide) only [outv_some, outv_none, put_puts]
           refine plK_last (by decide) ?_
           try simp -implicitDefEqProofs (disch := first | decide | assumption | omega) only [go_sem, wrap_id, sbs, Int.toNat_zero]
           exact hK h12_6.size _ _ (by simp [HasL, puts_at]) ⟨hb12_8, (hfhb12_8.mono (by omega)), cJ20⟩
         ·simp -implicitDefEqProofs (disch := first | decide | assumption | omega) only [go_sem, wrap_id, sbs, Int.toNat_zero]
          refine op_alloc (cs := elA z8) (by kernel_rfl) ?_
          intro h12_8 e12_8 hb12_8 z12_8
          replace hb0_0 := BoxAt.ext hb0_0 e12_8
          replace hb6_9 := BoxAt.ext hb6_9 e12_8
          have := Ext.size e12_8
          replace eB := Ext.trans eB e12_8
          replace cL2 := Ext.trans cL2 e12_8
          replace cL16 := Ext.trans cL16 e12_8
          replace cJ20 := Ext.trans cJ20 e12_8
          have hfhb12_8 : Fresh h18.size [h18.size] := Fresh.one _
          have hlhb12_8 := one_lt (show h18.size < h12_8.size by omega)
          try simp (disch := decide) only [outv_some, outv_none, put_puts]
          refine plK_pres (Ext.pres e12_8) ?_
          try simp -implicitDefEqProofs (disch := first | decide | assumption | omega) only [go_sem, wrap_id, sbs, Int.toNat_zero]
          try simp -implicitDefEqProofs (disch := first | decide | assumption | omega) only [go_sem, wrap_id, sbs, Int.toNat_zero]
          refine CallA.mono (sUni_ok  (j : Int) _  (by omega)) ?_
          intro v_ h12_6
          rintro ⟨rfl, e12_6⟩
          replace hb0_0 := BoxAt.ext hb0_0 e12_6
          replace hb6_9 := BoxAt.ext hb6_9 e12_6
          replace hb12_8 := BoxAt.ext hb12_8 e12_6
          have := Ext.size e12_6
          replace eB := Ext.trans eB e12_6
          replace cL2 := Ext.trans cL2 e12_6
          replace cL16 := Ext.trans cL16 e12_6
          replace cJ20 := Ext.trans cJ20 e12_6
          try simp (disch := decide) only [outv_some, outv_none, put_puts]
          refine plK_pres (Ext.pres e12_6) ?_
          try simp -implicitDefEqProofs (disch := first | decide | assumption | omega) only [go_sem, wrap_id, sbs, Int.toNat_zero]
          try simp -implicitDefEqProofs (disch := first | decide | assumption | omega) only [go_sem, wrap_id, sbs, Int.toNat_zero]
          refine CallA.mono (sTms_ok  X (X.dif i) (e8 j) _  hpG (by omega) (by first | assumption | exact e8_by _ | exact By.z8 | exact hBd _ | exact hBt _ _ | exact tmJ_by (by omega) (tmI_by (by omega) _) _ | exact timesP_by (by omega) | exact dfI_by (by omega) _ | exact plusN_by (by omega) (timesP_by (by omega)) | exact dfI_by (by omega) 8) (by first | assumption | exact e8_by _ | exact By.z8 | exact hBd _ | exact hBt _ _ | exact tmJ_by (by omega) (tmI_by (by omega) _) _ | exact timesP_by (by omega) | exact dfI_by (by omega) _ | exact plusN_by (by omega) (timesP_by (by omega)) | exact dfI_by (by omega) 8) hBt (by first | assumption | exact e8_lt (by omega) _ | exact z8_lt (by omega) | exact hB7 _ (by omega) | exact hB8 _ _ (by omega) (by omega) | exact tms_lt (by omega) | exact dfs_lt (by omega)) (by first | assumption | exact e8_lt (by omega) _ | exact z8_lt (by omega) | exact hB7 _ (by omega) | exact hB8 _ _ (by omega) (by omega) | exact tms_lt (by omega) | exact dfs_lt (by omega))) ?_
          intro v_ h12_7
          rintro ⟨rfl, e12_7⟩
          replace hb0_0 := BoxAt.ext hb0_0 e12_7
          replace hb6_9 := BoxAt.ext hb6_9 e12_7
          replace hb12_8 := BoxAt.ext hb12_8 e12_7
          have := Ext.size e12_7
          replace eB := Ext.trans eB e12_7
          replace cL2 := Ext.trans cL2 e12_7
          replace cL16 := Ext.trans cL16 e12_7
          replace cJ20 := Ext.trans cJ20 e12_7
          try simp (disch := decide) only [outv_some, outv_none, put_puts]
          refine plK_pres (Ext.pres e12_7) ?_
          try simp -implicitDefEqProofs (disch := first | decide | assumption | omega) only [go_sem, wrap_id, sbs, Int.toNat_zero]
          refine op_storeB (o := 0) (cs' := elA (timesP X.p X.tab (X.dif i) (e8 j) X.s.toNat)) st30 hb12_8 rfl rfl (elA_sz _) (by rw [elA_sz]; decide) elA_one elA_all ?_
          intro h12_9 hb12_8 c12_9
          replace hb0_0 := BoxAt.chgA hb0_0 c12_9 (apart_lt hlhb0_0 hfhb12_8 (by omega))
          replace hb6_9 := BoxAt.chgA hb6_9 c12_9 (apart_lt hlhb6_9 hfhb12_8 (by omega))
          have := c12_9.size
          replace eB := Ext.then eB c12_9 (ge_of hfhb12_8 (by omega))
          replace cL2 := Ext.then cL2 c12_9 (ge_of hfhb12_8 (by omega))
          replace cL16 := Ext.then cL16 c12_9 (ge_of hfhb12_8 (by omega))
          replace cJ20 := Ext.then cJ20 c12_9 (ge_of hfhb12_8 (by omega))
          try simp (disch := decide) only [outv_some, outv_none, put_puts]
          refine plK_last (by decide) ?_
          try simp -implicitDefEqProofs (disch := first | decide | assumption | omega) only [go_sem, wrap_id, sbs, Int.toNat_zero]
          exact hK h18.size _ _ (by simp [HasL, puts_at]) ⟨hb12_8, (hfhb12_8.mono (by omega)), cJ20⟩
        ·rintro bJhb12_8 hj21 ee23 ⟨hb12_8, hfhb12_8, eJ22⟩
         replace hb0_0 := BoxAt.ext hb0_0 eJ22
         replace hb6_9 := BoxAt.ext hb6_9 eJ22
         have := Ext.size eJ22
         replace eB := Ext.trans eB eJ22
         replace cL2 := Ext.trans cL2 eJ22
         replace cL16 := Ext.trans cL16 eJ22
         have hlhb12_8 := one_lt hb12_8.lt
         simp only [List.cons_append, List.nil_append]
         refine den_seq ?_
         refine den_seq ?_
         have hsg := tmod_in (p := 2) (x := X.deg i) (by decide)
         refine den_draw TTok mixed [] [(0, true), (1, true), (2, true), (3, true), (4, true), (5, true), (6, true), (8, true), (9, true), (10, true), (11, true), (12, true), (13, true), (14, true), (15, true), (16, true), (18, true), (7, false), (17, false), (19, false), (20, true)] (by kernel_rfl) ?_
         intro K hK
         simp -implicitDefEqProofs (disch := first | decide | assumption | omega) only [go_sem, Int.toNat_zero, fa34_0, fa34_4, fa34_5, ia32, ia31, ld2, BoxAt.dgs hb0_0, BoxAt.elC hb6_9, BoxAt.elL hb6_9, BoxAt.elC hb12_8, BoxAt.elL hb12_8, wrap_id, sbs, Int.toNat_zero]
         try simp -implicitDefEqProofs (disch := first | decide | assumption | omega) only [go_sem, wrap_id, sbs, Int.toNat_zero]
         refine CallA.mono (sDif_ok  X ((X.tab i) j) _  hpG (by omega) (by first | assumption | exact e8_by _ | exact By.z8 | exact hBd _ | exact hBt _ _ | exact tmJ_by (by omega) (tmI_by (by omega) _) _ | exact timesP_by (by omega) | exact dfI_by (by omega) _ | exact plusN_by (by omega) (timesP_by (by omega)) | exact dfI_by (by omega) 8) hBd) ?_
         intro v_ h13_7
         rintro ⟨rfl, e13_7⟩
         replace hb0_0 := BoxAt.ext hb0_0 e13_7
         replace hb6_9 := BoxAt.ext hb6_9 e13_7
         replace hb12_8 := BoxAt.ext hb12_8 e13_7
         have := Ext.size e13_7
         replace eB := Ext.trans eB e13_7
         replace cL2 := Ext.trans cL2 e13_7
         replace cL16 := Ext.trans cL16 e13_7
         try simp (disch := decide) only [outv_some, outv_none, put_puts]
         refine plK_pres (Ext.pres e13_7) ?_
         try simp -implicitDefEqProofs (disch := first | decide | assumption | omega) only [go_sem, wrap_id, sbs, Int.toNat_zero]
         try simp -implicitDefEqProofs (disch := first | decide | assumption | omega) only [go_sem, wrap_id, sbs, Int.toNat_zero]
         refine CallA.mono (sTms_ok  X (e8 i) (X.dif j) _  hpG (by omega) (by first | assumption | exact e8_by _ | exact By.z8 | exact hBd _ | exact hBt _ _ | exact tmJ_by (by omega) (tmI_by (by omega) _) _ | exact timesP_by (by omega) | exact dfI_by (by omega) _ | exact plusN_by (by omega) (timesP_by (by omega)) | exact dfI_by (by omega) 8) (by first | assumption | exact e8_by _ | exact By.z8 | exact hBd _ | exact hBt _ _ | exact tmJ_by (by omega) (tmI_by (by omega) _) _ | exact timesP_by (by omega) | exact dfI_by (by omega) _ | exact plusN_by (by omega) (timesP_by (by omega)) | exact dfI_by (by omega) 8) hBt (by first | assumption | exact e8_lt (by omega) _ | exact z8_lt (by omega) | exact hB7 _ (by omega) | exact hB8 _ _ (by omega) (by omega) | exact tms_lt (by omega) | exact dfs_lt (by omega)) (by first | assumption | exact e8_lt (by omega) _ | exact z8_lt (by omega) | exact hB7 _ (by omega) | exact hB8 _ _ (by omega) (by omega) | exact tms_lt (by omega) | exact dfs_lt (by omega))) ?_
         intro v_ h13_17
         rintro ⟨rfl, e13_17⟩
         replace hb0_0 := BoxAt.ext hb0_0 e13_17
         replace hb6_9 := BoxAt.ext hb6_9 e13_17
         replace hb12_8 := BoxAt.ext hb12_8 e13_17
         have := Ext.size e13_17
         replace eB := Ext.trans eB e13_17
         replace cL2 := Ext.trans cL2 e13_17
         replace cL16 := Ext.trans cL16 e13_17
         try simp (disch := decide) only [outv_some, outv_none, put_puts]
         refine plK_pres (Ext.pres e13_17) ?_
         try simp -implicitDefEqProofs (disch := first | decide | assumption | omega) only [go_sem, wrap_id, sbs, Int.toNat_zero]
         try simp -implicitDefEqProofs (disch := first | decide | assumption | omega) only [go_sem, wrap_id, sbs, Int.toNat_zero]
         refine CallA.mono (sAdd8_ok  X.p (timesP X.p X.tab (X.dif i) (e8 j) X.s.toNat) (timesP X.p X.tab (e8 i) (X.dif j) X.s.toNat) ((1 : Int) - ((2 : Int) * (Int.tmod (X.deg i) (2 : Int)))) _  hpG (by first | assumption | exact e8_by _ | exact By.z8 | exact hBd _ | exact hBt _ _ | exact tmJ_by (by omega) (tmI_by (by omega) _) _ | exact timesP_by (by omega) | exact dfI_by (by omega) _ | exact plusN_by (by omega) (timesP_by (by omega)) | exact dfI_by (by omega) 8) (by first | assumption | exact e8_by _ | exact By.z8 | exact hBd _ | exact hBt _ _ | exact tmJ_by (by omega) (tmI_by (by omega) _) _ | exact timesP_by (by omega) | exact dfI_by (by omega) _ | exact plusN_by (by omega) (timesP_by (by omega)) | exact dfI_by (by omega) 8) (by omega)) ?_
         intro v_ h13_19
         rintro ⟨rfl, e13_19⟩
         replace hb0_0 := BoxAt.ext hb0_0 e13_19
         replace hb6_9 := BoxAt.ext hb6_9 e13_19
         replace hb12_8 := BoxAt.ext hb12_8 e13_19
         have := Ext.size e13_19
         replace eB := Ext.trans eB e13_19
         replace cL2 := Ext.trans cL2 e13_19
         replace cL16 := Ext.trans cL16 e13_19
         try simp (disch := decide) only [outv_some, outv_none, put_puts]
         refine plK_pres (Ext.pres e13_19) ?_
         try simp -implicitDefEqProofs (disch := first | decide | assumption | omega) only [go_sem, wrap_id, sbs, Int.toNat_zero]
         refine hK _ _ ?_
         clear hK K
         refine den_cond rfl (fun c4 => ?_) (fun c4 => ?_)
         ·try simp only [ddA, Bool.or_eq_false_iff, Bool.and_eq_false_iff, in3_iff, in3_f] at c4
          refine den_seq ?_
          refine den_region TTok ?_
          intro K hK
          simp -implicitDefEqProofs (disch := first | decide | assumption | omega) only [go_sem, wrap_id, sbs, Int.toNat_zero]
          refine hK _ _ ?_
          clear hK K
          refine den_ret ?_
          simp (disch := decide) only [resP_1, puts_same, puts_ne]
          exact ⟨vbool (dgB_n (fun hh => lb_nos hB hfm (by omega) (by omega) (hh.lb i (by omega) j (by omega)) c4)), eB⟩
         ·try simp only [ddA, Bool.or_eq_false_iff, Bool.and_eq_false_iff, in3_iff, in3_f] at c4
          refine den_skip ?_
          refine den_seq ?_
          refine den_region TTok ?_
          intro K hK
          simp -implicitDefEqProofs (disch := first | decide | assumption | omega) only [go_sem, wrap_id, sbs, Int.toNat_zero]
          refine hK _ _ ?_
          clear hK K
          refine den_block ?_
          refine den_sel [8, 1, 3, 4, 5, 6] ?_
          intro env_24
          simp only [go_sem]
          refine den_loopS (σ := Nat) (fun st_ => [(8, .int .i64 (st_ : Int))]) (fun st_ H => ((st_ : Int) ≤ X.s) ∧ (∀ m : Nat, m < st_ → AsF X i j m) ∧ (Ext h13_19 H)) (fun st_ => X.s.toNat - st_) 0 ?_ ?_
          ·exact ⟨by omega, fun b h => by omega, Ext.refl _⟩
          ·rintro k h27 ee26 ⟨hk, hzk, cL25⟩
           replace hb0_0 := BoxAt.ext hb0_0 cL25
           replace hb6_9 := BoxAt.ext hb6_9 cL25
           have := Ext.size cL25
           replace eB := Ext.trans eB cL25
           replace cL2 := Ext.trans cL2 cL25
           replace cL16 := Ext.trans cL16 cL25
           simp only [List.cons_append, List.nil_append]
           refine den_seq ?_
           refine den_seq ?_
           refine den_region TTok ?_
           intro K hK
           simp -implicitDefEqProofs (disch := first | decide | assumption | omega) only [go_sem, fa34_1, ld2, BoxAt.dgs hb0_0, wrap_id, sbs, Int.toNat_zero]
           refine hK _ _ ?_
           clear hK K
           refine den_cond rfl (fun c5 => ?_) (fun c5 => ?_)
           ·try simp only [ddA, Bool.or_eq_false_iff, Bool.and_eq_false_iff, in3_iff, in3_f] at c5
            refine den_skip ?_
            refine den_seq ?_
            refine den_block ?_
            refine den_seq ?_
            refine den_draw TTok mixed [] [(0, true), (1, true), (2, true), (3, true), (4, true), (5, true), (6, true), (7, true), (10, true), (11, true), (12, true), (13, true), (14, true), (15, true), (16, true), (17, true), (8, false), (9, false), (18, false), (19, true)] (by kernel_rfl) ?_
            intro K hK
            simp -implicitDefEqProofs (disch := first | decide | assumption | omega) only [go_sem, Int.toNat_zero, fa34_5, ia32, ia31, BoxAt.dgs hb0_0, BoxAt.elC hb6_9, BoxAt.elL hb6_9, wrap_id, sbs, Int.toNat_zero]
            try simp -implicitDefEqProofs (disch := first | decide | assumption | omega) only [go_sem, wrap_id, sbs, Int.toNat_zero]
            refine CallA.mono (sUni_ok  (k : Int) _  (by omega)) ?_
            intro v_ h18_8
            rintro ⟨rfl, e18_8⟩
            replace hb0_0 := BoxAt.ext hb0_0 e18_8
            replace hb6_9 := BoxAt.ext hb6_9 e18_8
            have := Ext.size e18_8
            replace eB := Ext.trans eB e18_8
            replace cL2 := Ext.trans cL2 e18_8
            replace cL16 := Ext.trans cL16 e18_8
            replace cL25 := Ext.trans cL25 e18_8
            try simp (disch := decide) only [outv_some, outv_none, put_puts]
            refine plK_pres (Ext.pres e18_8) ?_
            try simp -implicitDefEqProofs (disch := first | decide | assumption | omega) only [go_sem, wrap_id, sbs, Int.toNat_zero]
            try simp -implicitDefEqProofs (disch := first | decide | assumption | omega) only [go_sem, wrap_id, sbs, Int.toNat_zero]
            refine CallA.mono (sTms_ok  X ((X.tab i) j) (e8 k) _  hpG (by omega) (by first | assumption | exact e8_by _ | exact By.z8 | exact hBd _ | exact hBt _ _ | exact tmJ_by (by omega) (tmI_by (by omega) _) _ | exact timesP_by (by omega) | exact dfI_by (by omega) _ | exact plusN_by (by omega) (timesP_by (by omega)) | exact dfI_by (by omega) 8) (by first | assumption | exact e8_by _ | exact By.z8 | exact hBd _ | exact hBt _ _ | exact tmJ_by (by omega) (tmI_by (by omega) _) _ | exact timesP_by (by omega) | exact dfI_by (by omega) _ | exact plusN_by (by omega) (timesP_by (by omega)) | exact dfI_by (by omega) 8) hBt (by first | assumption | exact e8_lt (by omega) _ | exact z8_lt (by omega) | exact hB7 _ (by omega) | exact hB8 _ _ (by omega) (by omega) | exact tms_lt (by omega) | exact dfs_lt (by omega)) (by first | assumption | exact e8_lt (by omega) _ | exact z8_lt (by omega) | exact hB7 _ (by omega) | exact hB8 _ _ (by omega) (by omega) | exact tms_lt (by omega) | exact dfs_lt (by omega))) ?_
            intro v_ h18_9
            rintro ⟨rfl, e18_9⟩
            replace hb0_0 := BoxAt.ext hb0_0 e18_9
            replace hb6_9 := BoxAt.ext hb6_9 e18_9
            have := Ext.size e18_9
            replace eB := Ext.trans eB e18_9
            replace cL2 := Ext.trans cL2 e18_9
            replace cL16 := Ext.trans cL16 e18_9
            replace cL25 := Ext.trans cL25 e18_9
            try simp (disch := decide) only [outv_some, outv_none, put_puts]
            refine plK_pres (Ext.pres e18_9) ?_
            try simp -implicitDefEqProofs (disch := first | decide | assumption | omega) only [go_sem, wrap_id, sbs, Int.toNat_zero]
            try simp -implicitDefEqProofs (disch := first | decide | assumption | omega) only [go_sem, wrap_id, sbs, Int.toNat_zero]
            refine CallA.mono (sTms_ok  X (e8 i) ((X.tab j) k) _  hpG (by omega) (by first | assumption | exact e8_by _ | exact By.z8 | exact hBd _ | exact hBt _ _ | exact tmJ_by (by omega) (tmI_by (by omega) _) _ | exact timesP_by (by omega) | exact dfI_by (by omega) _ | exact plusN_by (by omega) (timesP_by (by omega)) | exact dfI_by (by omega) 8) (by first | assumption | exact e8_by _ | exact By.z8 | exact hBd _ | exact hBt _ _ | exact tmJ_by (by omega) (tmI_by (by omega) _) _ | exact timesP_by (by omega) | exact dfI_by (by omega) _ | exact plusN_by (by omega) (timesP_by (by omega)) | exact dfI_by (by omega) 8) hBt (by first | assumption | exact e8_lt (by omega) _ | exact z8_lt (by omega) | exact hB7 _ (by omega) | exact hB8 _ _ (by omega) (by omega) | exact tms_lt (by omega) | exact dfs_lt (by omega)) (by first | assumption | exact e8_lt (by omega) _ | exact z8_lt (by omega) | exact hB7 _ (by omega) | exact hB8 _ _ (by omega) (by omega) | exact tms_lt (by omega) | exact dfs_lt (by omega))) ?_
            intro v_ h18_18
            rintro ⟨rfl, e18_18⟩
            replace hb0_0 := BoxAt.ext hb0_0 e18_18
            replace hb6_9 := BoxAt.ext hb6_9 e18_18
            have := Ext.size e18_18
            replace eB := Ext.trans eB e18_18
            replace cL2 := Ext.trans cL2 e18_18
            replace cL16 := Ext.trans cL16 e18_18
            replace cL25 := Ext.trans cL25 e18_18
            try simp (disch := decide) only [outv_some, outv_none, put_puts]
            refine plK_pres (Ext.pres e18_18) ?_
            try simp -implicitDefEqProofs (disch := first | decide | assumption | omega) only [go_sem, wrap_id, sbs, Int.toNat_zero]
            refine hK _ _ ?_
            clear hK K
            refine den_cond rfl (fun c6 => ?_) (fun c6 => ?_)
            ·try simp only [ddA, Bool.or_eq_false_iff, Bool.and_eq_false_iff, in3_iff, in3_f] at c6
             refine den_seq ?_
             refine den_region TTok ?_
             intro K hK
             simp -implicitDefEqProofs (disch := first | decide | assumption | omega) only [go_sem, wrap_id, sbs, Int.toNat_zero]
             refine hK _ _ ?_
             clear hK K
             refine den_ret ?_
             simp (disch := decide) only [resP_1, puts_same, puts_ne]
             exact ⟨vbool (dgB_n (fun hh => ac_nos hB hfm (by omega) (by omega) (by omega) (hh.ac i (by omega) j (by omega) k (by omega)) c6)), eB⟩
            ·try simp only [ddA, Bool.or_eq_false_iff, Bool.and_eq_false_iff, in3_iff, in3_f] at c6
             refine den_skip ?_
             refine den_blk ?_
             refine den_region TTok ?_
             intro K hK
             simp -implicitDefEqProofs (disch := first | decide | assumption | omega) only [go_sem, wrap_id, sbs, Int.toNat_zero]
             refine hK _ _ ?_
             clear hK K
             refine den_stop ?_
             exact ⟨k + 1, by simp [HasL, puts_at], ⟨by first | omega | (dsimp only; omega), fun m hm => by
 by_cases hab : m < k
 ·exact hzk m hab
 ·have e : m = k := by omega
  subst e
  exact (ac_sp hB hfm (by omega) (by omega) (by omega)).2 c6, cL25⟩, by first | omega | (dsimp only; omega)⟩
           ·try simp only [ddA, Bool.or_eq_false_iff, Bool.and_eq_false_iff, in3_iff, in3_f] at c5
            refine den_exit ?_
            refine denX_code ?_
            refine denX_stop ?_
            refine denX_hit ?_
            refine den_blk ?_
            refine den_region TTok ?_
            intro K hK
            simp -implicitDefEqProofs (disch := first | decide | assumption | omega) only [go_sem, wrap_id, sbs, Int.toNat_zero]
            refine hK _ _ ?_
            clear hK K
            refine den_stop ?_
            exact ⟨j + 1, by simp [HasL, puts_at], ⟨by first | omega | (dsimp only; omega), fun b hb => by
 by_cases hab : b < j
 ·exact hzj b hab
 ·have e : b = j := by omega
  subst e
  exact ⟨(lb_sp hB hfm (by omega) (by omega)).2 c4, fun k hk => hzk k (by omega)⟩, cL16⟩, by first | omega | (dsimp only; omega)⟩
       ·try simp only [ddA, Bool.or_eq_false_iff, Bool.and_eq_false_iff, in3_iff, in3_f] at c3
        refine den_exit ?_
        refine denX_code ?_
        refine denX_stop ?_
        refine denX_hit ?_
        refine den_blk ?_
        refine den_region TTok ?_
        intro K hK
        simp -implicitDefEqProofs (disch := first | decide | assumption | omega) only [go_sem, wrap_id, sbs, Int.toNat_zero]
        refine hK _ _ ?_
        clear hK K
        refine den_stop ?_
        exact ⟨i + 1, by simp [HasL, puts_at], ⟨by first | omega | (dsimp only; omega), fun a ha => by
 by_cases hai : a < i
 ·exact hz a hai
 ·have e : a = i := by omega
  subst e
  exact ⟨(un_sp hB hfm (by omega)).2 c2, fun b hb => hzj b (by omega)⟩, cL2⟩, by first | omega | (dsimp only; omega)⟩
   ·try simp only [ddA, Bool.or_eq_false_iff, Bool.and_eq_false_iff, in3_iff, in3_f] at c1
    refine den_exit ?_
    refine denX_code ?_
    refine denX_stop ?_
    refine denX_hit ?_
    refine den_seq ?_
    refine den_region TTok ?_
    intro K hK
    simp -implicitDefEqProofs (disch := first | decide | assumption | omega) only [go_sem, wrap_id, sbs, Int.toNat_zero]
    refine hK _ _ ?_
    clear hK K
    refine den_ret ?_
    simp (disch := decide) only [resP_1, puts_same, puts_ne]
    exact ⟨vbool (dgB_y ⟨fmB_t.1 c0, fun i hi => (hz i (by omega)).1, fun i hi j hj => ((hz i (by omega)).2 j hj).1, fun i hi j hj k hk => ((hz i (by omega)).2 j hj).2 k hk⟩), eB⟩
end Go.Proofs.Ytacajcjibhifmaa

namespace Go.Proofs.Ytacajcjibhifmaa
open Go
theorem lenNE : lenV TT 117 (.slice none 0 0) = some (.int .i64 0) := by kernel_rfl

set_option maxRecDepth 100000 in
theorem sCd_ok (X : Dg) (h : Heap) (hB : DgB X) : CallA Try.prog 38 #[.agg (dgA X), .slice none 0 0] h fun v' h' => v' = .int .i64 (if dgB X = true then 0 else 1) ∧ Ext h h' := by
 refine callA_intro TTok (args := [_, _]) Try.func38 (by kernel_rfl) rfl 25 rfl (by simp) [.tmp 4] rfl ?_
 simp only [idxs, Nat.reduceAdd]
 refine den_seq ?_
 refine den_region TTok ?_
 intro K hK
 simp -implicitDefEqProofs (disch := first | decide | assumption | omega) only [go_sem, wrap_id, lenNE, sbs, Int.toNat_zero]
 refine op_box (cs := dgA X) rfl ?_
 intro h0_0 e0_0 hb0_0 z0_0
 have := Ext.size e0_0
 have eB := e0_0
 have hfhb0_0 : Fresh h.size [h.size] := Fresh.one _
 have hlhb0_0 := one_lt (show h.size < h0_0.size by omega)
 try simp -implicitDefEqProofs (disch := first | decide | assumption | omega) only [go_sem, wrap_id, lenNE, sbs, Int.toNat_zero]
 refine hK _ _ ?_
 clear hK K
 refine den_seq ?_
 refine den_seq ?_
 refine den_region TTok ?_
 intro K hK
 simp -implicitDefEqProofs (disch := first | decide | assumption | omega) only [go_sem, BoxAt.dgs hb0_0, wrap_id, lenNE, sbs, Int.toNat_zero]
 try simp -implicitDefEqProofs (disch := first | decide | assumption | omega) only [go_sem, wrap_id, lenNE, sbs, Int.toNat_zero]
 refine CallA.mono (sDg_ok  X _  hB) ?_
 intro v_ h1_1
 rintro ⟨rfl, e1_1⟩
 replace hb0_0 := BoxAt.ext hb0_0 e1_1
 have := Ext.size e1_1
 replace eB := Ext.trans eB e1_1
 try simp -implicitDefEqProofs (disch := first | decide | assumption | omega) only [go_sem, wrap_id, lenNE, sbs, Int.toNat_zero]
 refine hK _ _ ?_
 clear hK K
 refine den_cond rfl (fun c0 => ?_) (fun c0 => ?_)
 ·try simp only [ddA, Bool.not_eq_true, Bool.not_eq_false] at c0
  refine den_seq ?_
  refine den_region TTok ?_
  intro K hK
  simp -implicitDefEqProofs (disch := first | decide | assumption | omega) only [go_sem, wrap_id, lenNE, sbs, Int.toNat_zero]
  refine hK _ _ ?_
  clear hK K
  refine den_ret ?_
  simp (disch := decide) only [resP_1, puts_same, puts_ne]
  exact ⟨by rw [if_neg (by rw [c0]; decide)], eB⟩
 ·try simp only [ddA, Bool.not_eq_true, Bool.not_eq_false] at c0
  refine den_skip ?_
  refine den_seq ?_
  refine den_seq ?_
  refine den_region TTok ?_
  intro K hK
  simp -implicitDefEqProofs (disch := first | decide | assumption | omega) only [go_sem, wrap_id, lenNE, sbs, Int.toNat_zero]
  refine hK _ _ ?_
  clear hK K
  refine den_block ?_
  refine den_sel [5, 1, 2] ?_
  intro env_1
  simp only [go_sem]
  refine den_loopS (σ := Nat) (fun st_ => [(5, .int .i64 (st_ : Int))]) (fun st_ H => (st_ = 0) ∧ (Ext h1_1 H)) (fun st_ => 0) 0 ?_ ?_
  ·exact ⟨by first | (simp; done) | (dsimp only; omega) | (simp; omega), Ext.refl _⟩
  ·rintro k h4 ee3 ⟨hi0, cL2⟩
   replace hb0_0 := BoxAt.ext hb0_0 cL2
   have := Ext.size cL2
   replace eB := Ext.trans eB cL2
   simp only [List.cons_append, List.nil_append]
   refine den_seq ?_
   refine den_seq ?_
   refine den_region TTok ?_
   intro K hK
   simp -implicitDefEqProofs (disch := first | decide | assumption | omega) only [go_sem, wrap_id, lenNE, sbs, Int.toNat_zero]
   refine hK _ _ ?_
   clear hK K
   refine den_cond rfl (fun c1 => ?_) (fun c1 => ?_)
   ·try simp only [ddA, Bool.not_eq_true, Bool.not_eq_false] at c1
    exact absurd c1 (by omega)
   ·try simp only [ddA, Bool.not_eq_true, Bool.not_eq_false] at c1
    refine den_exit ?_
    refine denX_code ?_
    refine denX_stop ?_
    refine denX_hit ?_
    refine den_seq ?_
    refine den_region TTok ?_
    intro K hK
    simp -implicitDefEqProofs (disch := first | decide | assumption | omega) only [go_sem, wrap_id, lenNE, sbs, Int.toNat_zero]
    refine hK _ _ ?_
    clear hK K
    refine den_ret ?_
    simp (disch := decide) only [resP_1, puts_same, puts_ne]
    exact ⟨by rw [if_pos c0], eB⟩
end Go.Proofs.Ytacajcjibhifmaa

namespace Go.Proofs.Ytacajcjibhifmaa
open Go
def lvP (X : Fl) (n i : Int) : Int := (X.lv.getD n.toNat default).getD i.toNat 0
def goodP (X : Fl) (k i j : Nat) (v : Int) : Bool := (v == 0) || decide (lvP X (k : Int) (j : Int) ≤ lvP X ((k : Int) + 1) (i : Int))
def upJ (X : Fl) (k i : Nat) (row : List Int) (m : Nat) : Bool := (List.range m).all fun j => goodP X k i j (row.getD j 0)
def upI (X : Fl) (k : Nat) (R : List (List Int)) (m : Nat) : Bool := (List.range m).all fun i => upJ X k i (R.getD i default) (R.getD i default).length
def upK (X : Fl) (M : List (List (List Int))) (m : Nat) : Bool := (List.range m).all fun k => upI X k (M.getD k default) (M.getD k default).length
structure IsF (X : Fl) : Prop where
 c : IsC X.c
 ln : X.lv.length = X.c.dims.length
 rl : ∀ n, n < X.lv.length → ((X.lv.getD n default).length : Int) = X.c.dims.getD n 0
 rr : ∀ n, n < X.lv.length → (X.lv.getD n default).all (fun q => in3 q 0 5) = true
 up : upK X X.c.maps X.c.maps.length = true
end Go.Proofs.Ytacajcjibhifmaa

namespace Go.Proofs.Ytacajcjibhifmaa
open Go
theorem add_add (a : Addr) (i j : Nat) : (a.add i).add j = a.add (i + j) := by
 unfold Addr.add
 by_cases hi : i = 0
 ·subst hi; simp
 ·by_cases hj : j = 0
  ·subst hj; simp [hi]
  ·rw [if_neg hj, if_neg hi, if_neg (by omega)]; simp [Nat.add_assoc]
/-- What is left of a slice behind some elements. -/
theorem RdS.dropV {α : Type} {E : Heap → Value → α → Prop} {h : Heap} {v : Value} {xs : List α} {t e : TypeId} {k : IntKind} (hv : RdS E h v xs) (ht : SlT TT t e) {lo : Int} (h0 : 0 ≤ lo) (h1 : lo ≤ xs.length) : ∃ v', sliceV TT t v (some (.int k lo)) none none = some v' ∧ RdS E h v' (xs.drop lo.toNat) := by
 obtain ⟨A, c, rfl, hA, hc, hm, hr⟩ := hv
 obtain ⟨i, j, e1, e2, e3, e4⟩ := ht.out
 refine ⟨.slice (if c = lo.toNat then A else A.map (·.add lo.toNat)) (xs.length - lo.toNat) (c - lo.toNat), ?_, _, _, by rw [List.length_drop], ?_, by rw [List.length_drop]; omega, by omega, fun q hq => ?_⟩
 ·simp only [sliceV, e1, Option.bind_some, e2, e3, bndsV, bndV, e4, Nat.mul_one]
  rw [if_pos ⟨h0, h1⟩]; rfl
 ·rcases hA with hA | hA
  ·left
   obtain ⟨a, rfl⟩ := Option.isSome_iff_exists.1 hA
   split <;> rfl
  ·right; rw [List.length_drop]; omega
 ·rw [List.length_drop] at hq
  have hs : A.isSome = true := hA.resolve_right (by omega)
  obtain ⟨a, rfl⟩ := Option.isSome_iff_exists.1 hs
  obtain ⟨u, hu, hE⟩ := hr (lo.toNat + q) (by omega)
  refine ⟨u, ?_, by rw [List.getElem_drop]; exact hE⟩
  rw [if_neg (by omega)]
  simp only [sA, Option.map_some] at hu ⊢
  rw [add_add]; exact hu
theorem flatten_take {β : Type} (l : List (List β)) (n : Nat) : (l.take n).flatten.Sublist l.flatten := by
 have h : l.flatten = (l.take n).flatten ++ (l.drop n).flatten := by rw [← List.flatten_append, List.take_append_drop]
 rw [h]; exact List.sublist_append_left _ _
section
variable {α : Type} {e : TypeId} {E : Heap → Value → α → List Nat → Prop} {h : Heap} {v : Value} {xs : List α} {fp : List Nat}
theorem OS.takeV (ho : OS e E h v xs fp) (hn : fp.Nodup) {t : TypeId} {k : IntKind} (ht : SlT TT t e) {hi : Int} (h0 : 0 ≤ hi) (h1 : hi ≤ xs.length) : ∃ v' fp', sliceV TT t v none (some (.int k hi)) none = some v' ∧ OS e E h v' (xs.take hi.toNat) fp' ∧ fp'.Nodup ∧ ∀ b ∈ fp', b ∈ fp := by
 obtain ⟨i, j, e1, e2, e3, e4⟩ := ht.out
 rcases ho with ⟨rfl, rfl, rfl⟩ | ⟨b, c, cur, fps, rfl, r⟩
 ·have : hi = 0 := by simp at h1; omega
  subst this
  refine ⟨.slice none 0 0, [], ?_, OS.nil, List.nodup_nil, fun b hb => hb⟩
  simp only [sliceV, e1, Option.bind_some, e2, e3, bndsV, bndV]
  rfl
 ·have hle := r.le
  have hl : (xs.take hi.toNat).length = hi.toNat := by simp; omega
  obtain ⟨hnb, hnf⟩ := List.nodup_cons.1 hn
  refine ⟨.slice (some ⟨b, 0, none⟩) hi.toNat c, b :: (fps.take hi.toNat).flatten, ?_, .inr ⟨b, c, cur, fps.take hi.toNat, rfl, ⟨by rw [hl], r.box, r.size, r.max, by rw [hl]; omega, by rw [hl, List.length_take, r.len]; omega, fun q hq => ?_⟩⟩, ?_, ?_⟩
  ·rw [r.val]
   simp only [sliceV, e1, Option.bind_some, e2, e3, bndsV, bndV]
   rw [if_pos ⟨h0, by omega⟩]
   simp [addr_zero]
  ·rw [hl] at hq
   obtain ⟨u, f, k1, k2, k3⟩ := r.el q (by omega)
   exact ⟨u, f, k1, by rw [List.getElem?_take, if_pos hq]; exact k2, by rw [List.getElem_take]; exact k3⟩
  ·have hs : (fps.take hi.toNat).flatten.Sublist fps.flatten := flatten_take _ _
   exact List.nodup_cons.2 ⟨fun hm => hnb (hs.subset hm), hnf.sublist hs⟩
  ·intro q hq
   rcases List.mem_cons.1 hq with rfl | hq
   ·simp
   ·exact List.mem_cons_of_mem _ ((flatten_take _ _).subset hq)
theorem Row.rowV {b c : Nat} {cur : Array Value} {fps : List (List Nat)} (r : Row e E h v xs b c cur fps) {j : Nat} {u : Value} (hu : cur[j]? = some u) : Go.Proofs.Ytacajcjibhifmaa.rowV h v j = u := by
 unfold Go.Proofs.Ytacajcjibhifmaa.rowV
 rw [r.val]
 simp only [sA]
 rw [addr_add, r.box.cell, Nat.zero_add, hu]; rfl
/-- Two elements: the one changed in place, the other stays. -/
theorem OS.two [Own E] [Inhabited α] (ho : OS e E h v xs fp) (hn : fp.Nodup) {i d : Nat} (hi : i < xs.length) (hd : d < xs.length) (hne : i ≠ d) : ∃ f, E h (rowV h v i) (xs.getD i default) f ∧ f.Nodup ∧ (∀ b ∈ f, b ∈ fp) ∧ (∀ h' x', Chg f h h' → E h' (rowV h v i) x' f → OS e E h' v (xs.set i x') fp) ∧ ∀ h', Chg f h h' → ∃ g, E h' (rowV h v d) (xs.getD d default) g := by
 have hel := OS.elem ho hn i hi
 rcases ho with ⟨_, rfl, _⟩ | ⟨b, c, cur, fps, rfl, r⟩
 ·simp at hi
 ·obtain ⟨u, f, h1, h2, h4⟩ := r.el i hi
  obtain ⟨u', f', k1, k2, k4⟩ := r.el d hd
  obtain ⟨hb, hfl⟩ := List.nodup_cons.1 hn
  have hfn := List.pairwise_flatten.1 hfl
  have hfm : f ∈ fps := List.mem_of_getElem? h2
  have hxi : xs.getD i default = xs[i] := by rw [List.getD_eq_getElem?_getD, List.getElem?_eq_getElem hi]; rfl
  have hxd : xs.getD d default = xs[d] := by rw [List.getD_eq_getElem?_getD, List.getElem?_eq_getElem hd]; rfl
  have hjl : i < fps.length := (List.getElem?_eq_some_iff.1 h2).1
  have hil : d < fps.length := (List.getElem?_eq_some_iff.1 k2).1
  have e1 : fps[i] = f := (List.getElem?_eq_some_iff.1 h2).2
  have e2 : fps[d] = f' := (List.getElem?_eq_some_iff.1 k2).2
  have hp := List.pairwise_iff_getElem.1 hfn.2
  have hdis : ∀ q ∈ f', q ∉ f := fun q hq hqf => by
   rcases Nat.lt_or_gt_of_ne hne with hlt | hgt
   ·have := hp i d hjl hil hlt
    rw [e1, e2] at this
    exact this _ hqf _ hq rfl
   ·have := hp d i hil hjl hgt
    rw [e1, e2] at this
    exact this _ hq _ hqf rfl
  have hsub : ∀ q ∈ f, q ∈ b :: fps.flatten := fun q hq => List.mem_cons_of_mem _ (List.mem_flatten.2 ⟨f, hfm, hq⟩)
  refine ⟨f, by rw [r.rowV h1, hxi]; exact h4, hfn.1 f hfm, hsub, fun h' x' hc hE => ?_, fun h' hc => ⟨f', ?_⟩⟩
  ·rw [r.rowV h1] at hE
   refine .inr ⟨b, c, cur, fps, rfl, ⟨by rw [List.length_set]; exact r.val, ?_, r.size, r.max, by rw [List.length_set]; exact r.le, by rw [List.length_set]; exact r.len, fun q hq => ?_⟩⟩
   ·have := hc.block b r.box.lt (fun hq => hb (List.mem_flatten.2 ⟨f, hfm, hq⟩))
    unfold BoxAt
    rw [this]; exact r.box
   ·rw [List.length_set] at hq
    by_cases hij : i = q
    ·subst hij
     exact ⟨u, f, h1, h2, by simpa using hE⟩
    ·obtain ⟨u2, f2, l1, l2, l4⟩ := r.el q hq
     refine ⟨u2, f2, l1, l2, ?_⟩
     rw [List.getElem_set_ne hij]
     refine Own.loc (fun z hz => hc.block z (Own.lt l4 z hz) fun hzf => ?_) l4
     have hql : q < fps.length := (List.getElem?_eq_some_iff.1 l2).1
     have e3 : fps[q] = f2 := (List.getElem?_eq_some_iff.1 l2).2
     rcases Nat.lt_or_gt_of_ne hij with hlt | hgt
     ·have := hp i q hjl hql hlt
      rw [e1, e3] at this
      exact this _ hzf _ hz rfl
     ·have := hp q i hql hjl hgt
      rw [e1, e3] at this
      exact this _ hz _ hzf rfl
  ·rw [r.rowV k1, hxd]
   exact Own.loc (fun z hz => hc.block z (Own.lt k4 z hz) (hdis z hz)) k4
/-- Two elements change their places. -/
theorem OS.swap [Own E] [Inhabited α] (ho : OS e E h v xs fp) (hn : fp.Nodup) {d a : Nat} (hd : d < xs.length) (ha : a < xs.length) :
  ((hcell h ((sA v).add d)).isSome = true ∧ hfrozen h ((sA v).add d) = false) ∧ ((hcell (hset h ((sA v).add d) (rowV h v a)) ((sA v).add a)).isSome = true ∧ hfrozen (hset h ((sA v).add d) (rowV h v a)) ((sA v).add a) = false) ∧ ((rowV h v a).oneCell' = true ∧ (rowV h v a).cells = #[rowV h v a]) ∧ ((rowV h v d).oneCell' = true ∧ (rowV h v d).cells = #[rowV h v d]) ∧
  ∃ fp', OS e E (hset (hset h ((sA v).add d) (rowV h v a)) ((sA v).add a) (rowV h v d)) v (swapP xs d a) fp' ∧ fp'.Nodup ∧ (∀ b ∈ fp', b ∈ fp) ∧ Chg fp h (hset (hset h ((sA v).add d) (rowV h v a)) ((sA v).add a) (rowV h v d)) := by
 rcases ho with ⟨_, rfl, _⟩ | ⟨b, c, cur, fps, rfl, r⟩
 ·simp at hd
 ·obtain ⟨ud, fd, d1, d2, d4⟩ := r.el d hd
  obtain ⟨ua, fa, a1, a2, a4⟩ := r.el a ha
  have hdc : d < cur.size := by have := r.size; have := r.le; omega
  have hac : a < cur.size := by have := r.size; have := r.le; omega
  have hdf : d < fps.length := by rw [r.len]; exact hd
  have haf : a < fps.length := by rw [r.len]; exact ha
  have had : (sA v).add d = ⟨b, d, none⟩ := by rw [r.val]; simp only [sA]; rw [addr_add, Nat.zero_add]
  have haa : (sA v).add a = ⟨b, a, none⟩ := by rw [r.val]; simp only [sA]; rw [addr_add, Nat.zero_add]
  rw [r.rowV d1, r.rowV a1, had, haa]
  have b1 := BoxAt.set (o := d) (v := ua) r.box
  have b2 := BoxAt.set (o := a) (v := ud) b1
  obtain ⟨hnb, hnf⟩ := List.nodup_cons.1 hn
  refine ⟨⟨by rw [r.box.cell, Array.getElem?_eq_getElem hdc]; rfl, r.box.frozen _⟩, ⟨by rw [b1.cell, Array.getElem?_eq_getElem (by rw [Array.size_setIfInBounds]; exact hac)]; rfl, b1.frozen _⟩, Own.one a4, Own.one d4, b :: (swapP fps d a).flatten, .inr ⟨b, c, _, swapP fps d a, rfl, ⟨by rw [swapP_len]; exact r.val, b2, by rw [Array.size_setIfInBounds, Array.size_setIfInBounds]; exact r.size, r.max, by rw [swapP_len]; exact r.le, by rw [swapP_len, swapP_len]; exact r.len, fun i hi => ?_⟩⟩, ?_, ?_, ?_⟩
  ·have hi' : i < xs.length := by rw [swapP_len] at hi; exact hi
   have hif : i < fps.length := by rw [r.len]; exact hi'
   have hic : i < cur.size := by have := r.size; have := r.le; omega
   have loc : ∀ {u : Value} {x : α} {f : List Nat}, f ∈ fps → E h u x f → E (hset (hset h ⟨b, d, none⟩ ua) ⟨b, a, none⟩ ud) u x f := fun hf hE => Own.loc (fun q hq => by
    have hqb : q ≠ b := fun e => hnb (List.mem_flatten.2 ⟨_, hf, e ▸ hq⟩)
    rw [hset_other hqb, hset_other hqb]) hE
   have gx : (swapP xs d a)[i] = if a = i then xs[d] else if d = i then xs[a] else xs[i] := by
    have := swapP_get hd ha i
    rw [List.getD_eq_getElem?_getD, List.getElem?_eq_getElem hi, List.getD_eq_getElem?_getD, List.getElem?_eq_getElem hd, List.getD_eq_getElem?_getD, List.getElem?_eq_getElem ha, List.getD_eq_getElem?_getD, List.getElem?_eq_getElem hi'] at this
    exact this
   have hswl : i < (swapP fps d a).length := by rw [swapP_len]; exact hif
   have gf : (swapP fps d a)[i]? = some (if a = i then fd else if d = i then fa else fps[i]) := by
    have := swapP_get hdf haf i
    rw [List.getD_eq_getElem?_getD, List.getElem?_eq_getElem hswl, List.getD_eq_getElem?_getD, d2, List.getD_eq_getElem?_getD, a2, List.getD_eq_getElem?_getD, List.getElem?_eq_getElem hif] at this
    rw [List.getElem?_eq_getElem hswl]
    exact congrArg some this
   rw [gx, gf]
   by_cases h1 : a = i
   ·subst h1
    refine ⟨ud, fd, by rw [Array.getElem?_setIfInBounds_self_of_lt (by rw [Array.size_setIfInBounds]; exact hac)], by rw [if_pos rfl], ?_⟩
    rw [if_pos rfl]; exact loc (List.mem_of_getElem? d2) d4
   ·by_cases h2 : d = i
    ·subst h2
     refine ⟨ua, fa, by rw [Array.getElem?_setIfInBounds_ne h1, Array.getElem?_setIfInBounds_self_of_lt hdc], by rw [if_neg h1, if_pos rfl], ?_⟩
     rw [if_neg h1, if_pos rfl]; exact loc (List.mem_of_getElem? a2) a4
    ·obtain ⟨ui, fi, i1, i2, i4⟩ := r.el i hi'
     refine ⟨ui, fi, by rw [Array.getElem?_setIfInBounds_ne h1, Array.getElem?_setIfInBounds_ne h2]; exact i1, ?_, ?_⟩
     ·rw [if_neg h1, if_neg h2, ← i2, List.getElem?_eq_getElem hif]
     ·rw [if_neg h1, if_neg h2]; exact loc (List.mem_of_getElem? i2) i4
  ·have hp := List.pairwise_flatten.1 hnf
   have hswap : ∀ i, i < fps.length → ∃ k, k < fps.length ∧ (swapP fps d a)[i]? = fps[k]? ∧ k = (if a = i then d else if d = i then a else i) := fun i hi => by
    have hswl : i < (swapP fps d a).length := by rw [swapP_len]; exact hi
    have := swapP_get hdf haf i
    rw [List.getD_eq_getElem?_getD, List.getElem?_eq_getElem hswl] at this
    refine ⟨if a = i then d else if d = i then a else i, by split; exact hdf; split; exact haf; exact hi, ?_, rfl⟩
    rw [List.getElem?_eq_getElem hswl]
    by_cases h1 : a = i
    ·rw [if_pos h1] at this ⊢
     rw [List.getD_eq_getElem?_getD, List.getElem?_eq_getElem hdf] at this
     rw [List.getElem?_eq_getElem hdf]; exact congrArg some this
    ·rw [if_neg h1] at this ⊢
     by_cases h2 : d = i
     ·rw [if_pos h2] at this ⊢
      rw [List.getD_eq_getElem?_getD, List.getElem?_eq_getElem haf] at this
      rw [List.getElem?_eq_getElem haf]; exact congrArg some this
     ·rw [if_neg h2] at this ⊢
      rw [List.getD_eq_getElem?_getD, List.getElem?_eq_getElem hi] at this
      rw [List.getElem?_eq_getElem hi]; exact congrArg some this
   have hmem : ∀ f, f ∈ swapP fps d a → f ∈ fps := fun f hf => by
    obtain ⟨i, hi, rfl⟩ := List.getElem_of_mem hf
    have hi' : i < fps.length := by rw [swapP_len] at hi; exact hi
    obtain ⟨k, hk, e, _⟩ := hswap i hi'
    rw [List.getElem?_eq_getElem hi, List.getElem?_eq_getElem hk] at e
    injection e with e
    rw [e]; exact List.getElem_mem hk
   refine List.nodup_cons.2 ⟨fun hm => ?_, List.pairwise_flatten.2 ⟨fun f hf => hp.1 f (hmem f hf), ?_⟩⟩
   ·obtain ⟨f, hf, hbf⟩ := List.mem_flatten.1 hm
    exact hnb (List.mem_flatten.2 ⟨f, hmem f hf, hbf⟩)
   ·rw [List.pairwise_iff_getElem]
    intro i j hi hj hij x hx y hy
    have hi' : i < fps.length := by rw [swapP_len] at hi; exact hi
    have hj' : j < fps.length := by rw [swapP_len] at hj; exact hj
    obtain ⟨k, hk, e1, k1⟩ := hswap i hi'
    obtain ⟨m, hm, e2, m1⟩ := hswap j hj'
    rw [List.getElem?_eq_getElem hi, List.getElem?_eq_getElem hk] at e1
    rw [List.getElem?_eq_getElem hj, List.getElem?_eq_getElem hm] at e2
    injection e1 with e1
    injection e2 with e2
    rw [e1] at hx
    rw [e2] at hy
    have hkm : k ≠ m := by
     rw [k1, m1]
     split <;> split <;> first | omega | (split <;> first | omega | (split <;> omega))
    have hpp := List.pairwise_iff_getElem.1 hp.2
    rcases Nat.lt_or_gt_of_ne hkm with h' | h'
    ·exact hpp k m hk hm h' _ hx _ hy
    ·exact (hpp m k hm hk h' _ hy _ hx).symm
  ·intro q hq
   rcases List.mem_cons.1 hq with rfl | hq
   ·simp
   ·obtain ⟨f, hf, hbf⟩ := List.mem_flatten.1 hq
    refine List.mem_cons_of_mem _ (List.mem_flatten.2 ⟨f, ?_, hbf⟩)
    rcases List.mem_or_eq_of_mem_set hf with h1 | h1
    ·rcases List.mem_or_eq_of_mem_set h1 with h2 | h2
     ·exact h2
     ·rw [h2, List.getD_eq_getElem?_getD, List.getElem?_eq_getElem haf]; exact List.getElem_mem haf
    ·rw [h1, List.getD_eq_getElem?_getD, List.getElem?_eq_getElem hdf]; exact List.getElem_mem hdf
  ·exact ((hset_chg h b d ua).trans (hset_chg _ b a ud)).mono (by simp)
end
section
variable {P : Program} {T : Tab} {n : Nat} {K : Env → Heap → Prop} {env : Env} {h : Heap} {d : Option Tmp} {ty : TypeId} {p : String} {a : Array Edge} {g : Option (Nat × Bool)} {t e : TypeId}
theorem op_raw {x y : Operand} {ad : Addr} {u : Value} (hst : ∀ h a v, storeV T h t a v = if v.cells.size = 1 then hputs a h 0 v.cells.toList else none) (h1 : (hcell h ad).isSome = true ∧ hfrozen h ad = false) (h2 : u.oneCell' = true ∧ u.cells = #[u]) (hx : ev env x = .pointer (some ad)) (hy : ev env y = u)
  (hk : outv n ⟨d, .store t x y, ty, p, a, g⟩ K env (hset h ad u) undef) : opP P T n ⟨d, .store t x y, ty, p, a, g⟩ K env h := by
 rw [opP_store, hx, hy, asAd_ptr, Bd_some, hst, h2.2]
 rw [if_pos (show #[u].size = 1 from rfl)]
 have ha : ad.add 0 = ad := by unfold Addr.add; simp
 have : hputs ad h 0 #[u].toList = some (hset h ad u) := by
  show hputs ad h 0 [u] = _
  simp only [hputs]
  rw [ha, if_pos ⟨h1.1, h1.2, h2.1⟩]
 rw [this, Bd_some]
 exact hk
end
theorem nest_set {S : List (List Int)} {d : Nat} {r : List Int} {k : Nat} {v : Int} (hd : d < S.length) : (S.set d r).set d (((S.set d r).getD d default).set k v) = S.set d (r.set k v) := by
 rw [getD_set hd, if_pos rfl, List.set_set]
theorem mul42B {k y p : Int} (hk : 0 ≤ k ∧ k ≤ 7) (hy : 0 ≤ y ∧ y < p) (hp : p ≤ 7) : 0 ≤ k * y ∧ k * y ≤ 42 := by
 have h1 : k * y ≤ 7 * y := Int.mul_le_mul_of_nonneg_right hk.2 hy.1
 have h2 := Int.mul_nonneg hk.1 hy.1
 omega
theorem tmod_e {x p : Int} (h : 0 ≤ x) : x.tmod p = x % p := Int.tmod_eq_emod_of_nonneg h
theorem clr_val {p a k y : Int} (hk : 0 ≤ k ∧ k < p) (ha : 0 ≤ a) (hy : 0 ≤ y) : (a + (p - k) * y).tmod p = (a - k * y) % p := by
 have : 0 ≤ (p - k) * y := Int.mul_nonneg (by omega) hy
 rw [tmod_e (by omega), show a + (p - k) * y = a - k * y + p * y by rw [Int.sub_mul]; omega, Int.add_mul_emod_self_left]

set_option maxRecDepth 100000 in
theorem iInv_ok (p : Int) (x : Int) (h : Heap)  (hP : isP p = true) (hx : 0 < x ∧ x < p) : CallA Try.prog 146 #[.int .i64 p, .int .i64 x] h fun v' h' => v' = .int .i64 (invP p x) ∧ Ext h h' := by
 have hi := invP_ok hP hx.1 hx.2
 have hp := isP_two hP
 refine callA_intro TTok (args := [_, _]) Try.func146 (by kernel_rfl) rfl 15 rfl (by simp) [.tmp 4] rfl ?_
 simp only [idxs, Nat.reduceAdd]
 refine den_seq ?_
 refine den_region TTok ?_
 intro K hK
 simp -implicitDefEqProofs (disch := first | decide | assumption | omega) only [go_sem, wrap_id]
 refine hK _ _ ?_
 clear hK K
 refine den_seq ?_
 refine den_region TTok ?_
 intro K hK
 simp -implicitDefEqProofs (disch := first | decide | assumption | omega) only [go_sem, wrap_id]
 refine hK _ _ ?_
 clear hK K
 refine den_seq ?_
 refine den_block ?_
 refine den_sel [5, 0, 1] ?_
 intro env_1
 simp only [go_sem]
 refine den_loopP (σ := Int) (fun st_ => [(5, .int .i64 st_)]) (fun st_ => (1 ≤ st_ ∧ st_ ≤ invP p x)) (fun st_ => (invP p x - st_).toNat) 1 ?_ ?_
 ·exact ⟨rfl, by omega, by omega⟩
 ·rintro k ee2 hk
  simp only [List.cons_append, List.nil_append]
  have hkx := mul36 (x := k) (y := x) (p := p) ⟨by omega, by omega⟩ ⟨by omega, hx.2⟩ hp.2
  have hte := tmod_e (p := p) hkx.1
  have hlt : (k * x).tmod p ≠ 1 → k < invP p x := fun hne => by
   rcases Int.lt_or_eq_of_le hk.2 with h1 | h1
   ·exact h1
   ·rw [hte, h1] at hne; exact absurd hi.2.1 hne
  refine den_seq ?_
  refine den_seq ?_
  refine den_region TTok ?_
  intro K hK
  simp -implicitDefEqProofs (disch := first | decide | assumption | omega) only [go_sem, wrap_id]
  refine hK _ _ ?_
  clear hK K
  refine den_cond rfl (fun c0 => ?_) (fun c0 => ?_)
  ·try simp only [ddA] at c0
   refine den_skip ?_
   refine den_block ?_
   refine den_region TTok ?_
   intro K hK
   simp -implicitDefEqProofs (disch := first | decide | assumption | omega) only [go_sem, wrap_id]
   refine hK _ _ ?_
   clear hK K
   refine den_blk ?_
   refine den_stop ?_
   have hl2 := hlt c0
   exact ⟨k + 1, by simp [HasL, puts_at], ⟨rfl, by first | omega | (dsimp only; omega)⟩, by first | omega | (dsimp only; omega)⟩
  ·try simp only [ddA] at c0
   refine den_exit ?_
   refine denX_code ?_
   refine denX_stop ?_
   refine denX_hit ?_
   refine den_seq ?_
   refine den_region TTok ?_
   intro K hK
   simp -implicitDefEqProofs (disch := first | decide | assumption | omega) only [go_sem, wrap_id]
   refine hK _ _ ?_
   clear hK K
   refine den_ret ?_
   simp (disch := decide) only [resP_1, puts_same, puts_ne]
   have e : invP p x = k := by
    rcases Int.lt_or_eq_of_le hk.2 with h1 | h1
    ·rw [hte] at c0; exact absurd c0 (hi.2.2 k hk.1 h1)
    ·exact h1.symm
   exact ⟨vint e.symm, (Ext.refl _)⟩

set_option maxRecDepth 100000 in
theorem sInv_ok (p : Int) (x : Int) (h : Heap)  (hP : isP p = true) (hx : 0 < x ∧ x < p) : CallA Try.prog 128 #[.int .i64 p, .int .i64 x] h fun v' h' => v' = .int .i64 (invP p x) ∧ Ext h h' := by
 have hi := invP_ok hP hx.1 hx.2
 have hp := isP_two hP
 have hxm : x % p = x := Int.emod_eq_of_lt (by omega) hx.2
 refine callA_intro TTok (args := [_, _]) Try.func128 (by kernel_rfl) rfl 20 rfl (by simp) [.tmp 4] rfl ?_
 simp only [idxs, Nat.reduceAdd]
 refine den_seq ?_
 refine den_region TTok ?_
 intro K hK
 simp -implicitDefEqProofs (disch := first | decide | assumption | omega) only [go_sem, wrap_id]
 refine hK _ _ ?_
 clear hK K
 refine den_seq ?_
 refine den_seq ?_
 refine den_region TTok ?_
 intro K hK
 simp -implicitDefEqProofs (disch := first | decide | assumption | omega) only [go_sem, wrap_id]
 refine hK _ _ ?_
 clear hK K
 refine den_block ?_
 refine den_sel [5, 0, 1] ?_
 intro env_1
 simp only [go_sem]
 refine den_loopS (σ := Int) (fun st_ => [(5, .int .i64 st_)]) (fun st_ H => (1 ≤ st_ ∧ st_ ≤ invP p x) ∧ (Ext h H)) (fun st_ => (invP p x - st_).toNat) 1 ?_ ?_
 ·exact ⟨⟨by omega, by omega⟩, Ext.refl _⟩
 ·rintro k h4 ee3 ⟨hk, cL2⟩
  have := Ext.size cL2
  have eB := cL2
  simp only [List.cons_append, List.nil_append]
  have hkx := mul36 (x := k) (y := x % p) (p := p) ⟨by omega, by omega⟩ ⟨by omega, by omega⟩ hp.2
  have hte := tmod_e (p := p) hkx.1
  rw [hxm] at hte hkx
  have hlt : (k * x).tmod p ≠ 1 → k < invP p x := fun hne => by
   rcases Int.lt_or_eq_of_le hk.2 with h1 | h1
   ·exact h1
   ·rw [hte, h1] at hne; exact absurd hi.2.1 hne
  refine den_seq ?_
  refine den_seq ?_
  refine den_region TTok ?_
  intro K hK
  simp -implicitDefEqProofs (disch := first | decide | assumption | omega) only [go_sem, wrap_id]
  refine hK _ _ ?_
  clear hK K
  refine den_cond rfl (fun c0 => ?_) (fun c0 => ?_)
  ·try simp only [ddA] at c0
   refine den_skip ?_
   refine den_seq ?_
   refine den_block ?_
   refine den_seq ?_
   rw [← hxm] at hkx
   refine den_region TTok ?_
   intro K hK
   simp -implicitDefEqProofs (disch := first | decide | assumption | omega) only [go_sem, wrap_id]
   try simp -implicitDefEqProofs (disch := first | decide | assumption | omega) only [go_sem, wrap_id]
   refine CallA.mono (sMod_ok  p x _  (by omega) (by omega)) ?_
   intro v_ h4_3
   rintro ⟨rfl, e4_3⟩
   have := Ext.size e4_3
   replace eB := Ext.trans eB e4_3
   replace cL2 := Ext.trans cL2 e4_3
   try simp -implicitDefEqProofs (disch := first | decide | assumption | omega) only [go_sem, wrap_id]
   refine hK _ _ ?_
   clear hK K
   refine den_cond rfl (fun c1 => ?_) (fun c1 => ?_)
   ·try simp only [ddA] at c1
    refine den_seq ?_
    refine den_region TTok ?_
    intro K hK
    simp -implicitDefEqProofs (disch := first | decide | assumption | omega) only [go_sem, wrap_id]
    refine hK _ _ ?_
    clear hK K
    refine den_ret ?_
    simp (disch := decide) only [resP_1, puts_same, puts_ne]
    have e : invP p x = k := by
     rcases Int.lt_or_eq_of_le hk.2 with h1 | h1
     ·have h2 := c1
      rw [hxm, hte] at h2; exact absurd h2 (hi.2.2 k hk.1 h1)
     ·exact h1.symm
    exact ⟨vint e.symm, eB⟩
   ·try simp only [ddA] at c1
    refine den_skip ?_
    refine den_blk ?_
    refine den_region TTok ?_
    intro K hK
    simp -implicitDefEqProofs (disch := first | decide | assumption | omega) only [go_sem, wrap_id]
    refine hK _ _ ?_
    clear hK K
    refine den_stop ?_
    have hl2 := hlt (by have h1 := c1; rw [hxm] at h1; exact h1)
    exact ⟨k + 1, by simp [HasL, puts_at], ⟨by first | omega | (dsimp only; omega), cL2⟩, by first | omega | (dsimp only; omega)⟩
  ·try simp only [ddA] at c0
   refine den_exit ?_
   refine denX_code ?_
   refine denX_stop ?_
   refine denX_hit ?_
   refine den_seq ?_
   refine den_region TTok ?_
   intro K hK
   simp -implicitDefEqProofs (disch := first | decide | assumption | omega) only [go_sem, wrap_id]
   refine hK _ _ ?_
   clear hK K
   refine den_ret ?_
   simp (disch := decide) only [resP_1, puts_same, puts_ne]
   exact absurd hk.2 (by omega)

set_option maxRecDepth 100000 in
theorem clear_ok (p k : Int) (v u : Value) (a b : List Int) (f : List Nat) (h : Heap) (ho : O1 h v a f) (hn : f.Nodup) (rb : R1 h u b) (hk : ∀ h', Chg f h h' → R1 h' u b) (hp : 0 < p ∧ p ≤ 7) (hl : b.length = a.length) (ha : Bnd p a) (hb : Bnd p b) (hx : 0 ≤ k ∧ k < p) : CallA Try.prog 147 #[v, u, .int .i64 p, .int .i64 k] h fun v' h' => v' = .tuple #[] ∧ O1 h' v (lessRow p k a b) f ∧ Chg f h h' := by
 have hfr : Fresh 0 f := ⟨hn, fun b _ => Nat.zero_le b⟩
 have hle := OS.len_le ho
 have hleb := RdS.le rb
 refine callA_intro TTok (args := [_, _, _, _]) Try.func147 (by kernel_rfl) rfl 33 rfl (by simp) [] rfl ?_
 simp only [idxs, Nat.reduceAdd]
 have hlho := OS.lt ho
 have cA : Chg f h h := Chg.refl _ _
 refine den_seq ?_
 refine den_region TTok ?_
 intro K hK
 simp -implicitDefEqProofs (disch := first | decide | assumption | omega) only [go_sem, R1.an (OS.rd ho) sl55, wrap_id, RdS.len rb sl55]
 refine hK _ _ ?_
 clear hK K
 refine den_block ?_
 refine den_sel [12, 0, 2, 3, 10, 11] ?_
 intro env_1
 simp only [go_sem]
 refine den_loopS (σ := Nat) (fun st_ => [(12, .int .i64 (st_ : Int))]) (fun st_ H => (st_ ≤ b.length) ∧ (O1 H v (mix (lessRow p k a b) a st_) f) ∧ (Chg f h H)) (fun st_ => b.length - st_) 0 ?_ ?_
 ·exact ⟨by first | (simp; done) | (dsimp only; omega) | (simp; omega), by rw [mix_zero]; exact ho, Chg.refl _ _⟩
 ·rintro j h4 ee3 ⟨hi0, hO, cL2⟩
  have := cL2.size
  replace cA := Chg.step cA cL2 Sub.refl
  have sbhO : Sub f h.size f := Sub.refl
  have hfhO := hfr
  have sb5 : Sub f h.size f := Sub.trans sbhO Sub.refl (by omega)
  have hlhO := hlho
  simp only [List.cons_append, List.nil_append]
  have rbH := hk _ cA
  have hml := mix_len (lessRow p k a b) a j (lessRow_len _ _ _ _)
  refine den_seq ?_
  refine den_region TTok ?_
  intro K hK
  simp -implicitDefEqProofs (disch := first | decide | assumption | omega) only [go_sem, R1.an (OS.rd hO) sl55, wrap_id]
  refine hK _ _ ?_
  clear hK K
  refine den_seq ?_
  refine den_cond rfl (fun c0 => ?_) (fun c0 => ?_)
  ·try simp only [ddA] at c0
   refine den_skip ?_
   refine den_seq ?_
   refine den_block ?_
   refine den_seq ?_
   refine den_region TTok ?_
   intro K hK
   simp -implicitDefEqProofs (disch := first | decide | assumption | omega) only [go_sem, ld2, R1.an (OS.rd hO) sl55, wrap_id, RdS.idx rb sl55, R1.intN rbH]
   refine hK _ _ ?_
   clear hK K
   have hxa := ha.at (k := j) (by omega)
   have hxb := hb.at (k := j) (by omega)
   have hky := mul42B (k := p - k) ⟨by omega, by omega⟩ hxb hp.2
   have hmg := mix_get (lessRow p k a b) a j 0 (lessRow_len _ _ _ _) (by omega)
   have hcv := clr_val hx hxa.1 hxb.1
   refine den_region TTok ?_
   intro K hK
   simp -implicitDefEqProofs (disch := first | decide | assumption | omega) only [go_sem, ld2, R1.an (OS.rd hO) sl55, wrap_id]
   refine op_store1 (j := j) st2 hO hfhO.nodup (by first | omega | (simp; omega)) rfl rfl ?_
   intro h3_15 ho3_15 c3_15
   have hsz3_15 := c3_15.size
   have := c3_15.size
   replace cA := Chg.step cA c3_15 sb5
   replace cL2 := Chg.step cL2 c3_15 sbhO
   have hlho3_15 := hlhO
   have hlenho3_15 : ((mix (lessRow p k a b) a j).set j (Int.tmod (((mix (lessRow p k a b) a j).getD j 0) + ((p - k) * (b.getD j 0))) p) : List Int).length = (mix (lessRow p k a b) a j : List Int).length := List.length_set
   try simp -implicitDefEqProofs (disch := first | decide | assumption | omega) only [go_sem, R1.an (OS.rd ho3_15) sl55, wrap_id]
   refine hK _ _ ?_
   clear hK K
   refine den_blk ?_
   refine den_region TTok ?_
   intro K hK
   simp -implicitDefEqProofs (disch := first | decide | assumption | omega) only [go_sem, R1.an (OS.rd ho3_15) sl55, wrap_id]
   refine hK _ _ ?_
   clear hK K
   refine den_stop ?_
   rw [hmg, hcv, ← lessRow_get p k (by omega), mix_set _ _ _ _ (lessRow_len _ _ _ _) (by omega)] at ho3_15
   exact ⟨j + 1, by simp [HasL, puts_at], ⟨by first | omega | (dsimp only; omega), ho3_15, cL2⟩, by first | omega | (dsimp only; omega)⟩
  ·try simp only [ddA] at c0
   refine den_exit ?_
   refine denX_code ?_
   refine denX_stop ?_
   refine denX_hit ?_
   refine den_nil ?_
   simp (disch := decide) only [resP_0, puts_same, puts_ne]
   rw [mix_end _ _ _ (lessRow_len _ _ _ _) (by omega)] at hO
   exact ⟨by first | rfl | trivial, hO, cA⟩
end Go.Proofs.Ytacajcjibhifmaa

namespace Go.Proofs.Ytacajcjibhifmaa
open Go
set_option maxRecDepth 100000 in
theorem sRest_ok (vR vv : Value) (p : Int) (R : List (List Int)) (v : List Int) (h : Heap) (rR : R2 h vR R) (rv : R1 h vv v) {w_ : Nat} {l_ : Nat → Nat} (hP : isP p = true) (hr : Rr p w_ R l_) (hv : v.length = w_ ∧ w_ ≤ 1000) (hb : Bnd p v) : CallA Try.prog 127 #[.int .i64 p, vR, vv] h fun v' h' => ∃ w0 f0, v' = w0 ∧ O1 h' w0 (restP p R v) f0 ∧ Fresh h.size f0 ∧ Ext h h' := by
 have hleR := RdS.le rR
 have hlev := RdS.le rv
 have hp := isP_two hP
 have hRl := hr.le_w
 refine callA_intro TTok (args := [_, _, _]) Try.func127 (by kernel_rfl) rfl 33 rfl (by simp) [.tmp 6] rfl ?_
 simp only [idxs, Nat.reduceAdd]
 refine den_seq ?_
 refine den_region TTok ?_
 intro K hK
 simp -implicitDefEqProofs (disch := first | decide | assumption | omega) only [go_sem, RdS.al rR (HPres.refl _) sl59, R1.al rv (HPres.refl _) sl55, wrap_id]
 refine hK _ _ ?_
 clear hK K
 refine den_seq ?_
 refine den_region TTok ?_
 intro K hK
 simp -implicitDefEqProofs (disch := first | decide | assumption | omega) only [go_sem, RdS.al rR (HPres.refl _) sl59, R1.al rv (HPres.refl _) sl55, wrap_id]
 try simp -implicitDefEqProofs (disch := first | decide | assumption | omega) only [go_sem, RdS.al rR (HPres.refl _) sl59, R1.al rv (HPres.refl _) sl55, wrap_id]
 refine CallA.mono (sOwn_ok _ v _ rv (by omega)) ?_
 intro vw1_1_0 h1_1
 rintro ⟨zvw1_1_0, fw1_1_0, rfl, how1_1_0, hfw1_1_0, e1_1⟩
 have := Ext.size e1_1
 have eB := e1_1
 have hlhow1_1_0 := OS.lt how1_1_0
 try simp -implicitDefEqProofs (disch := first | decide | assumption | omega) only [go_sem, RdS.al rR (Ext.pres eB) sl59, R1.al rv (Ext.pres eB) sl55, R1.an (OS.rd how1_1_0) sl55, wrap_id]
 refine hK _ _ ?_
 clear hK K
 refine den_seq ?_
 refine den_seq ?_
 refine den_region TTok ?_
 intro K hK
 simp -implicitDefEqProofs (disch := first | decide | assumption | omega) only [go_sem, RdS.al rR (Ext.pres eB) sl59, R1.al rv (Ext.pres eB) sl55, R1.an (OS.rd how1_1_0) sl55, wrap_id]
 refine hK _ _ ?_
 clear hK K
 refine den_block ?_
 refine den_sel [7, 8, 0, 1] ?_
 intro env_1
 simp only [go_sem]
 refine den_loopS (σ := Nat × Value × List Nat) (fun st_ => [(7, st_.2.1), (8, .int .i64 (st_.1 : Int))]) (fun st_ H => (st_.1 ≤ R.length) ∧ (O1 H st_.2.1 (restN p R v st_.1) st_.2.2) ∧ (Fresh (h.size) st_.2.2) ∧ (Sub fw1_1_0 h1_1.size st_.2.2) ∧ (Chg fw1_1_0 h1_1 H)) (fun st_ => R.length - st_.1) (0, vw1_1_0, fw1_1_0) ?_ ?_
 ·exact ⟨by first | (simp; done) | (dsimp only; omega) | (simp; omega), by exact how1_1_0, hfw1_1_0, Sub.refl, Chg.refl _ _⟩
 ·rintro ⟨k, vhO, fphO⟩ h4 ee3 ⟨hi0, hO, hfhO, sbhO, cL2⟩
  dsimp only at hi0 hO hfhO sbhO cL2
  have := cL2.size
  replace eB := Ext.then eB cL2 (ge_of hfw1_1_0 (by omega))
  have hlhO := OS.lt hO
  simp only [List.cons_append, List.nil_append]
  have hrl := restN_len p R v k
  have hbn := restN_bnd (p := p) (L := R) (by omega) hb k
  refine den_seq ?_
  refine den_seq ?_
  refine den_region TTok ?_
  intro K hK
  simp -implicitDefEqProofs (disch := first | decide | assumption | omega) only [go_sem, RdS.al rR (Ext.pres eB) sl59, R1.al rv (Ext.pres eB) sl55, R1.an (OS.rd hO) sl55, wrap_id]
  refine hK _ _ ?_
  clear hK K
  refine den_cond rfl (fun c0 => ?_) (fun c0 => ?_)
  ·try simp only [ddA] at c0
   refine den_skip ?_
   refine den_seq ?_
   refine den_block ?_
   have hld := hr.lead (i := k) (by omega)
   have hlw := hr.lt k (by omega)
   have hrk := hr.len k (by omega)
   have hbk := hr.bnd k (by omega)
   have hxk := hbn.at (k := (leadP (R.getD k default)).toNat) (by omega)
   have hls : ((restN p R v k).length ≤ (R.getD k default).length ∧ (restN p R v k).length ≤ 1000) ∧ Bnd p (restN p R v k) ∧ Bnd p (R.getD k default) := ⟨by omega, hbn, hbk⟩
   refine den_draw TTok mixed [] [(0, true), (1, true), (2, true), (3, true), (4, true), (5, true), (6, true), (7, true), (8, true), (9, true), (10, true), (11, false), (12, true), (13, true), (14, false), (15, true)] (by kernel_rfl) ?_
   intro K hK
   have hr5 := RdS.rowN rR k (by omega)
   have hlhr5 := RdS.le hr5
   have hr6 := RdS.rowN rR k (by omega)
   have hlhr6 := RdS.le hr6
   simp -implicitDefEqProofs (disch := first | decide | assumption | omega) only [go_sem, ld55, RdS.al rR (Ext.pres eB) sl59, R1.al rv (Ext.pres eB) sl55, R1.al hr5 (Ext.pres eB) sl55, R1.al hr6 (Ext.pres eB) sl55, R1.an (OS.rd hO) sl55, wrap_id]
   try simp -implicitDefEqProofs (disch := first | decide | assumption | omega) only [go_sem, RdS.al rR (Ext.pres eB) sl59, R1.al rv (Ext.pres eB) sl55, R1.al hr5 (Ext.pres eB) sl55, R1.al hr6 (Ext.pres eB) sl55, R1.an (OS.rd hO) sl55, wrap_id]
   refine CallA.pure (sLead_ok _ ((R).getD k default) _ (RdS.pres hr6 (Ext.pres eB))) ?_
   try simp -implicitDefEqProofs (disch := first | decide | assumption | omega) only [go_sem, ld2, RdS.al rR (Ext.pres eB) sl59, R1.al rv (Ext.pres eB) sl55, R1.al hr5 (Ext.pres eB) sl55, R1.al hr6 (Ext.pres eB) sl55, R1.an (OS.rd hO) sl55, wrap_id]
   try simp -implicitDefEqProofs (disch := first | decide | assumption | omega) only [go_sem, RdS.al rR (Ext.pres eB) sl59, R1.al rv (Ext.pres eB) sl55, R1.al hr5 (Ext.pres eB) sl55, R1.al hr6 (Ext.pres eB) sl55, R1.an (OS.rd hO) sl55, wrap_id]
   refine CallA.mono (sLess_ok _ _ p (restN p R v k) ((R).getD k default) ((restN p R v k).getD ((leadP ((R).getD k default))).toNat 0) _ (OS.rd hO) (RdS.pres hr5 (Ext.pres eB)) (by omega) hls.1 hls.2.1 hls.2.2 (by omega)) ?_
   intro vw5_14_0 h5_14
   rintro ⟨zvw5_14_0, fw5_14_0, rfl, how5_14_0, hfw5_14_0, e5_14⟩
   replace hO := OS.ext hO e5_14
   have := Ext.size e5_14
   replace eB := Ext.trans eB e5_14
   replace cL2 := Chg.stepE cL2 e5_14
   have hlhow5_14_0 := OS.lt how5_14_0
   try simp (disch := decide) only [outv_some, outv_none, put_puts]
   refine plK_pres (Ext.pres e5_14) ?_
   try simp -implicitDefEqProofs (disch := first | decide | assumption | omega) only [go_sem, RdS.al rR (Ext.pres eB) sl59, R1.al rv (Ext.pres eB) sl55, R1.al hr5 (Ext.pres eB) sl55, R1.al hr6 (Ext.pres eB) sl55, R1.an (OS.rd hO) sl55, R1.an (OS.rd how5_14_0) sl55, wrap_id]
   refine hK _ _ ?_
   clear hK K
   refine den_blk ?_
   refine den_region TTok ?_
   intro K hK
   simp -implicitDefEqProofs (disch := first | decide | assumption | omega) only [go_sem, RdS.al rR (Ext.pres eB) sl59, R1.al rv (Ext.pres eB) sl55, R1.al hr5 (Ext.pres eB) sl55, R1.al hr6 (Ext.pres eB) sl55, R1.an (OS.rd how5_14_0) sl55, wrap_id]
   refine hK _ _ ?_
   clear hK K
   refine den_stop ?_
   exact ⟨(k + 1, vw5_14_0, fw5_14_0), by simp [HasL, puts_at], ⟨by first | omega | (dsimp only; omega), how5_14_0, (hfw5_14_0.mono (by omega)), (Sub.fresh hfw5_14_0 (by omega)), cL2⟩, by first | omega | (dsimp only; omega)⟩
  ·try simp only [ddA] at c0
   refine den_exit ?_
   refine denX_code ?_
   refine denX_stop ?_
   refine denX_hit ?_
   refine den_seq ?_
   refine den_region TTok ?_
   intro K hK
   simp -implicitDefEqProofs (disch := first | decide | assumption | omega) only [go_sem, RdS.al rR (Ext.pres eB) sl59, R1.al rv (Ext.pres eB) sl55, R1.an (OS.rd hO) sl55, wrap_id]
   refine hK _ _ ?_
   clear hK K
   refine den_ret ?_
   simp (disch := decide) only [resP_1, puts_same, puts_ne]
   rw [show restN p R v k = restP p R v by rw [restP, show R.length = k by omega]] at hO
   exact ⟨_, _, rfl, hO, hfhO.mono (by omega), eB⟩
end Go.Proofs.Ytacajcjibhifmaa

namespace Go.Proofs.Ytacajcjibhifmaa
open Go
theorem idxP_cases {α : Type} {f : α → Bool} {xs : List α} (d : α) : (idxP f xs = -1 ∧ ∀ j, j < xs.length → f (xs.getD j d) = false) ∨ ∃ k : Nat, k < xs.length ∧ idxP f xs = k ∧ f (xs.getD k d) = true := by
 have key : ∀ n, n ≤ xs.length → (∀ j, j < n → f (xs.getD j d) = false) ∨ ∃ k : Nat, k < n ∧ (∀ j, j < k → f (xs.getD j d) = false) ∧ f (xs.getD k d) = true := by
  intro n
  induction n with
  | zero => intro _; exact .inl fun j hj => by omega
  | succ n ih =>
   intro hn
   rcases ih (by omega) with h | ⟨k, hk, h⟩
   ·by_cases e : f (xs.getD n d) = true
    ·exact .inr ⟨n, by omega, h, e⟩
    ·exact .inl fun j hj => by
      rcases Nat.lt_succ_iff_lt_or_eq.1 hj with h' | h'
      ·exact h j h'
      ·rw [h']; simpa using e
   ·exact .inr ⟨k, by omega, h⟩
 rcases key xs.length (Nat.le_refl _) with h | ⟨k, hk, h1, h2⟩
 ·exact .inl ⟨idxP_none (all_getD (d := d) h), h⟩
 ·exact .inr ⟨k, hk, idxP_at hk h1 h2, h2⟩
theorem drop_getD {α : Type} {xs : List α} {n j : Nat} {d : α} : (xs.drop n).getD j d = xs.getD (n + j) d := by
 rw [List.getD_eq_getElem?_getD, List.getElem?_drop, List.getD_eq_getElem?_getD]
theorem set_self {S : List (List Int)} {d : Nat} (hd : d < S.length) : S.set d (S.getD d default) = S := by
 rw [List.getD_eq_getElem?_getD, List.getElem?_eq_getElem hd]; exact List.set_getElem_self hd
theorem clrP_zero (p : Int) (d c : Nat) (S : List (List Int)) : clrP p d c S 0 = S := by
 rw [clrP]
 apply List.ext_getElem (by simp)
 intro i h1 h2
 simp only [List.getElem_map, List.getElem_range]
 rw [if_neg (by omega), List.getD_eq_getElem?_getD, List.getElem?_eq_getElem h2]; rfl
theorem clr_same {p : Int} {d c : Nat} {S : List (List Int)} {i : Nat} (h : i = d) : clrP p d c S (i + 1) = clrP p d c S i := by
 rw [clrP, clrP]
 apply List.map_congr_left
 intro q _
 by_cases h1 : q < i ∧ q ≠ d
 ·rw [if_pos h1, if_pos ⟨by omega, h1.2⟩]
 ·rw [if_neg h1, if_neg (by omega)]
theorem clr_upd {p : Int} {d c : Nat} {S : List (List Int)} {i : Nat} (h : i ≠ d) (hi : i < S.length) (hd : d < S.length) : (clrP p d c S i).set i (lessRow p (((clrP p d c S i).getD i default).getD c 0) ((clrP p d c S i).getD i default) ((clrP p d c S i).getD d default)) = clrP p d c S (i + 1) := by
 have gi : (clrP p d c S i).getD i default = S.getD i default := by rw [clrP_get hi, if_neg (by omega)]
 have gd : (clrP p d c S i).getD d default = S.getD d default := by rw [clrP_get hd, if_neg (by omega)]
 have g3 : ∀ {xs ys : List (List Int)}, xs.length = ys.length → (∀ q, q < xs.length → xs.getD q default = ys.getD q default) → xs = ys := by
  intro xs ys hl hh
  apply List.ext_getElem hl
  intro q h1 h2
  have := hh q h1
  rwa [List.getD_eq_getElem?_getD, List.getD_eq_getElem?_getD, List.getElem?_eq_getElem h1, List.getElem?_eq_getElem h2] at this
 rw [gi, gd]
 refine g3 (by rw [List.length_set, clrP_len, clrP_len]) (fun q hq => ?_)
 rw [List.length_set, clrP_len] at hq
 rw [getD_set (by rw [clrP_len]; exact hi), clrP_get hq, clrP_get hq]
 by_cases e : i = q
 ·subst e
  rw [if_pos rfl, if_pos ⟨by omega, h⟩]
 ·rw [if_neg e]
  by_cases h1 : q < i ∧ q ≠ d
  ·rw [if_pos h1, if_pos ⟨by omega, h1.2⟩]
  ·rw [if_neg h1, if_neg (by omega)]
theorem swapP_fst {M : List (List Int)} {d a : Nat} (hd : d < M.length) (ha : a < M.length) : (swapP M d a).getD d default = M.getD a default := by
 rw [swapP_get hd ha]
 by_cases e : a = d
 ·rw [if_pos e, e]
 ·rw [if_neg e, if_pos rfl]
theorem ech_nil {p : Int} (hp : 1 < p) : ech p [] = [] := ech_eq (w := 0) (l := fun i => i) hp Rr.nil Eqv.refl (fun h => absurd rfl h)
theorem mul36A {x y p : Int} (hx : 0 ≤ x ∧ x < p) (hy : 0 ≤ y ∧ y < p) (hp : p ≤ 7) : 0 ≤ x * y ∧ x * y ≤ 36 := mul36 hx hy hp

set_option maxRecDepth 100000 in
theorem red1_ok (c : Nat) (v : Value) (xs : List Int) (b : Nat) (h : Heap) (hv : R1 h v xs) (hb : BoxAt h b #[.int .i64 (c : Int)] 3) (hc : c < xs.length) : CallA Try.prog 145 #[v, .pointer (some ⟨b, 0, none⟩)] h fun v' h' => v' = .bool (xs.getD c 0 != 0) ∧ h' = h := by
 have hle := RdS.le hv
 refine callA_intro TTok (args := [_, _]) Try.func145 (by kernel_rfl) rfl 9 rfl (by simp) [.tmp 3] rfl ?_
 simp only [idxs, Nat.reduceAdd]
 refine den_seq ?_
 refine den_region TTok ?_
 intro K hK
 simp -implicitDefEqProofs (disch := first | decide | assumption | omega) only [go_sem, R1.al hv (HPres.refl _) sl55, BoxAt.cell hb, wrap_id, Int.toNat_natCast]
 refine hK _ _ ?_
 clear hK K
 refine den_seq ?_
 refine den_region TTok ?_
 intro K hK
 simp -implicitDefEqProofs (disch := first | decide | assumption | omega) only [go_sem, ld2, ld3, R1.al hv (HPres.refl _) sl55, BoxAt.cell hb, wrap_id, Int.toNat_natCast]
 refine hK _ _ ?_
 clear hK K
 refine den_ret ?_
 simp (disch := decide) only [resP_1, puts_same, puts_ne]
 exact ⟨by first | rfl | trivial, trivial⟩

set_option maxRecDepth 100000 in
theorem iReduce_ok (vR : Value) (p : Int) (R : List (List Int)) (h : Heap) (rR : R2 h vR R) {w : Nat} (hP : isP p = true) (hT : ∀ r ∈ R, r.length = w ∧ Bnd p r) (hw : w ≤ 1000) (hl : R.length ≤ 1000) : CallA Try.prog 139 #[.int .i64 p, vR] h fun v' h' => ∃ w0 f0, v' = w0 ∧ O2 h' w0 (ech p R) f0 ∧ Fresh h.size f0 ∧ Ext h h' := by
 have hleR := RdS.le rR
 have hp := isP_two hP
 refine callA_intro TTok (args := [_, _]) Try.func139 (by kernel_rfl) rfl 134 rfl (by simp) [.tmp 4] rfl ?_
 simp only [idxs, Nat.reduceAdd]
 refine den_seq ?_
 refine den_region TTok ?_
 intro K hK
 simp -implicitDefEqProofs (disch := first | decide | assumption | omega) only [go_sem, RdS.al rR (HPres.refl _) sl59, wrap_id, Int.toNat_zero]
 refine hK _ _ ?_
 clear hK K
 refine den_seq ?_
 refine den_region TTok ?_
 intro K hK
 simp -implicitDefEqProofs (disch := first | decide | assumption | omega) only [go_sem, RdS.al rR (HPres.refl _) sl59, wrap_id, Int.toNat_zero]
 refine op_bs0 sz59 O1 ?_
 intro v1_0 h1_0 ho1_0 e1_0
 have := Ext.size e1_0
 have eB := e1_0
 have hfho1_0 : Fresh h.size [h.size] := Fresh.one _
 have hlho1_0 := OS.lt ho1_0
 try simp -implicitDefEqProofs (disch := first | decide | assumption | omega) only [go_sem, RdS.al rR (Ext.pres eB) sl59, RdS.an (OS.rd ho1_0) sl59, wrap_id, Int.toNat_zero]
 refine hK _ _ ?_
 clear hK K
 refine den_seq ?_
 refine den_seq ?_
 refine den_region TTok ?_
 intro K hK
 simp -implicitDefEqProofs (disch := first | decide | assumption | omega) only [go_sem, RdS.al rR (Ext.pres eB) sl59, RdS.an (OS.rd ho1_0) sl59, wrap_id, Int.toNat_zero]
 refine hK _ _ ?_
 clear hK K
 refine den_block ?_
 refine den_sel [5, 17, 0, 15, 16] ?_
 intro env_1
 simp only [go_sem]
 refine den_loopS (σ := Nat × Value × List Nat) (fun st_ => [(5, st_.2.1), (17, .int .i64 (st_.1 : Int))]) (fun st_ H => (st_.1 ≤ R.length) ∧ (O2 H st_.2.1 (R.take st_.1) st_.2.2) ∧ (Fresh (h.size) st_.2.2) ∧ (Sub [h.size] h1_0.size st_.2.2) ∧ (Chg [h.size] h1_0 H)) (fun st_ => R.length - st_.1) (0, v1_0, [h.size]) ?_ ?_
 ·exact ⟨by first | (simp; done) | (dsimp only; omega) | (simp; omega), by simpa using ho1_0, hfho1_0, Sub.refl, Chg.refl _ _⟩
 ·rintro ⟨k, vhL, fphL⟩ h4 ee3 ⟨hi0, hL, hfhL, sbhL, cL2⟩
  dsimp only at hi0 hL hfhL sbhL cL2
  have := cL2.size
  replace eB := Ext.then eB cL2 (ge_of hfho1_0 (by omega))
  have hlhL := OS.lt hL
  simp only [List.cons_append, List.nil_append]
  refine den_seq ?_
  refine den_region TTok ?_
  intro K hK
  simp -implicitDefEqProofs (disch := first | decide | assumption | omega) only [go_sem, RdS.al rR (Ext.pres eB) sl59, RdS.an (OS.rd hL) sl59, wrap_id, Int.toNat_zero]
  refine hK _ _ ?_
  clear hK K
  refine den_seq ?_
  refine den_cond rfl (fun c0 => ?_) (fun c0 => ?_)
  ·try simp only [ddA] at c0
   refine den_skip ?_
   refine den_seq ?_
   refine den_block ?_
   refine den_seq ?_
   refine den_region TTok ?_
   intro K hK
   have hr5 := RdS.rowN rR k (by omega)
   have hlhr5 := RdS.le hr5
   simp -implicitDefEqProofs (disch := first | decide | assumption | omega) only [go_sem, ld55, RdS.al rR (Ext.pres eB) sl59, R1.al hr5 (Ext.pres eB) sl55, RdS.an (OS.rd hL) sl59, wrap_id, Int.toNat_zero]
   refine hK _ _ ?_
   clear hK K
   have hri_ := (hT _ (getD_mem (show k < R.length by omega))).1
   have hlt_ : (R.take k).length = k := by simp; omega
   refine den_region TTok ?_
   intro K hK
   simp -implicitDefEqProofs (disch := first | decide | assumption | omega) only [go_sem, RdS.al rR (Ext.pres eB) sl59, R1.al hr5 (Ext.pres eB) sl55, RdS.an (OS.rd hL) sl59, wrap_id, Int.toNat_zero]
   try simp -implicitDefEqProofs (disch := first | decide | assumption | omega) only [go_sem, RdS.al rR (Ext.pres eB) sl59, R1.al hr5 (Ext.pres eB) sl55, RdS.an (OS.rd hL) sl59, wrap_id, Int.toNat_zero]
   refine CallA.mono (clone1_ok _ ((R).getD k default) _ (RdS.pres hr5 (Ext.pres eB)) (by omega)) ?_
   intro vw5_2_0 h5_2
   rintro ⟨zvw5_2_0, fw5_2_0, rfl, how5_2_0, hfw5_2_0, e5_2⟩
   replace hL := OS.ext hL e5_2
   have := Ext.size e5_2
   replace eB := Ext.trans eB e5_2
   replace cL2 := Chg.stepE cL2 e5_2
   have hlhow5_2_0 := OS.lt how5_2_0
   try simp -implicitDefEqProofs (disch := first | decide | assumption | omega) only [go_sem, RdS.al rR (Ext.pres eB) sl59, R1.al hr5 (Ext.pres eB) sl55, RdS.an (OS.rd hL) sl59, R1.an (OS.rd how5_2_0) sl55, wrap_id, Int.toNat_zero]
   refine op_bs1 sz59 rfl (OS.one how5_2_0).2 ?_
   try simp -implicitDefEqProofs (disch := first | decide | assumption | omega) only [go_sem, RdS.al rR (Ext.pres eB) sl59, R1.al hr5 (Ext.pres eB) sl55, RdS.an (OS.rd hL) sl59, R1.an (OS.rd how5_2_0) sl55, wrap_id, Int.toNat_zero]
   refine op_append1 sz59 hL hfhL.nodup how5_2_0 hfw5_2_0.nodup (apart_lt hlhL hfw5_2_0 (by omega)) (by first | omega | (simp; omega)) rfl rfl ?_
   intro v5_4 h5_4 fp5_4 ho5_4 hn5_4 hs5_4 c5_4
   have hsz5_4 := c5_4.size
   have hfho5_4 : Fresh h.size fp5_4 := Fresh.appd hfhL hfw5_2_0 (by omega) (by omega) hn5_4 hs5_4
   have sb6 : Sub [h.size] h1_0.size fp5_4 := Sub.grow sbhL (Sub.fresh hfw5_2_0 (by omega)) (by omega) hs5_4
   have := c5_4.size
   replace eB := Ext.then eB c5_4 (ge_of hfhL (by omega))
   replace cL2 := Chg.step cL2 c5_4 sbhL
   have hlho5_4 := OS.lt ho5_4
   try simp -implicitDefEqProofs (disch := first | decide | assumption | omega) only [go_sem, RdS.al rR (Ext.pres eB) sl59, R1.al hr5 (Ext.pres eB) sl55, RdS.an (OS.rd ho5_4) sl59, wrap_id, Int.toNat_zero]
   refine hK _ _ ?_
   clear hK K
   refine den_blk ?_
   refine den_region TTok ?_
   intro K hK
   simp -implicitDefEqProofs (disch := first | decide | assumption | omega) only [go_sem, RdS.al rR (Ext.pres eB) sl59, R1.al hr5 (Ext.pres eB) sl55, RdS.an (OS.rd ho5_4) sl59, wrap_id, Int.toNat_zero]
   refine hK _ _ ?_
   clear hK K
   refine den_stop ?_
   rw [← take_snoc (by omega)] at ho5_4
   exact ⟨(k + 1, v5_4, fp5_4), by simp [HasL, puts_at], ⟨by first | omega | (dsimp only; omega), ho5_4, hfho5_4, sb6, cL2⟩, by first | omega | (dsimp only; omega)⟩
  ·try simp only [ddA] at c0
   refine den_exit ?_
   refine denX_code ?_
   refine denX_stop ?_
   refine denX_hit ?_
   refine den_seq ?_
   refine den_seq ?_
   rw [List.take_of_length_le (by omega)] at hL
   have hw0 : 0 < R.length → (R.getD 0 default).length = w := fun h0_ => (hT _ (getD_mem h0_)).1
   refine den_region TTok ?_
   intro K hK
   simp -implicitDefEqProofs (disch := first | decide | assumption | omega) only [go_sem, RdS.al rR (Ext.pres eB) sl59, RdS.an (OS.rd hL) sl59, wrap_id, Int.toNat_zero]
   refine hK _ _ ?_
   clear hK K
   refine den_cond rfl (fun c1 => ?_) (fun c1 => ?_)
   ·try simp only [ddA] at c1
    refine den_seq ?_
    refine den_region TTok ?_
    intro K hK
    simp -implicitDefEqProofs (disch := first | decide | assumption | omega) only [go_sem, RdS.al rR (Ext.pres eB) sl59, RdS.an (OS.rd hL) sl59, wrap_id, Int.toNat_zero]
    refine hK _ _ ?_
    clear hK K
    refine den_ret ?_
    simp (disch := decide) only [resP_1, puts_same, puts_ne]
    have hz : R = [] := List.length_eq_zero_iff.1 (by omega)
    subst hz
    rw [ech_nil (isP_two hP).1]
    exact ⟨_, _, rfl, hL, hfhL.mono (by omega), eB⟩
   ·try simp only [ddA] at c1
    refine den_skip ?_
    refine den_seq ?_
    refine den_region TTok ?_
    intro K hK
    simp -implicitDefEqProofs (disch := first | decide | assumption | omega) only [go_sem, RdS.al rR (Ext.pres eB) sl59, RdS.an (OS.rd hL) sl59, wrap_id, Int.toNat_zero]
    refine hK _ _ ?_
    clear hK K
    refine den_seq ?_
    refine den_seq ?_
    have hwz := hw0 (by omega)
    have hz10 := RdS.cellN (OS.rd hL) 0 (by omega)
    rw [addr_zero] at hz10
    refine den_region TTok ?_
    intro K hK
    have hr7 := RdS.rowN (OS.rd hL) 0 (by omega)
    have hlhr7 := RdS.le hr7
    have xr8 := Ext.refl h4
    simp -implicitDefEqProofs (disch := first | decide | assumption | omega) only [go_sem, ld55, RdS.al rR (Ext.pres eB) sl59, RdS.an (OS.rd hL) sl59, R1.al hr7 (Ext.pres xr8) sl55, wrap_id, Int.toNat_zero, hz10]
    refine hK _ _ ?_
    clear hK K
    refine den_block ?_
    refine den_sel [8, 35, 0, 5, 34] ?_
    intro env_9
    simp only [go_sem]
    refine den_loopS (σ := Nat × Nat × List (List Int) × (Nat → Nat) × List Nat) (fun st_ => [(8, .int .i64 (st_.2.1 : Int)), (35, .int .i64 (st_.1 : Int))]) (fun st_ H => (RI p w R st_.2.2.1 st_.2.2.2.1 st_.2.1 st_.1) ∧ (st_.1 ≤ w) ∧ (O2 H vhL (st_.2.2.1) st_.2.2.2.2) ∧ (Fresh (h.size) st_.2.2.2.2) ∧ (Sub fphL h4.size st_.2.2.2.2) ∧ (Chg fphL h4 H)) (fun st_ => w - st_.1) (0, 0, R, (fun i => i), fphL) ?_ ?_
    ·exact ⟨RI.start hT, by dsimp only; omega, by exact hL, hfhL, Sub.refl, Chg.refl _ _⟩
    ·rintro ⟨c, d, M, l, fphM⟩ h12 ee11 ⟨hri, hcw_, hM, hfhM, sbhM, cL10⟩
     dsimp only at hri hcw_ hM hfhM sbhM cL10
     have := cL10.size
     replace eB := Ext.then eB cL10 (ge_of hfhL (by omega))
     have hlhM := OS.lt hM
     simp only [List.cons_append, List.nil_append]
     have hln := hri.ln
     have hdl := hri.dl
     refine den_seq ?_
     refine den_region TTok ?_
     intro K hK
     simp -implicitDefEqProofs (disch := first | decide | assumption | omega) only [go_sem, RdS.al rR (Ext.pres eB) sl59, RdS.an (OS.rd hM) sl59, wrap_id, Int.toNat_zero]
     refine hK _ _ ?_
     clear hK K
     refine den_seq ?_
     refine den_cond rfl (fun c2 => ?_) (fun c2 => ?_)
     ·try simp only [ddA] at c2
      refine den_skip ?_
      refine den_seq ?_
      refine den_block ?_
      refine den_seq ?_
      refine den_region TTok ?_
      intro K hK
      simp -implicitDefEqProofs (disch := first | decide | assumption | omega) only [go_sem, RdS.al rR (Ext.pres eB) sl59, RdS.an (OS.rd hM) sl59, wrap_id, Int.toNat_zero]
      refine op_alloc (cs := #[.int .i64 0]) (by kernel_rfl) ?_
      intro h12_1 e12_1 hb12_1 z12_1
      replace hM := OS.ext hM e12_1
      have := Ext.size e12_1
      replace eB := Ext.trans eB e12_1
      replace cL10 := Chg.stepE cL10 e12_1
      have hfhb12_1 : Fresh h12.size [h12.size] := Fresh.one _
      have hlhb12_1 := one_lt (show h12.size < h12_1.size by omega)
      try simp -implicitDefEqProofs (disch := first | decide | assumption | omega) only [go_sem, RdS.al rR (Ext.pres eB) sl59, RdS.an (OS.rd hM) sl59, BoxAt.cell hb12_1, wrap_id, Int.toNat_zero]
      refine op_storeB (cs' := #[.int .i64 ((c : Int))]) st3 hb12_1 rfl rfl rfl (by simp) (allOne_mem (l := [.int .i64 ((c : Int))]) ⟨rfl, trivial⟩) rfl ?_
      intro h12_2 hb12_1 c12_2
      replace hM := OS.chg hM c12_2 (apart_lt hlhM hfhb12_1 (by omega))
      have := c12_2.size
      replace eB := Ext.then eB c12_2 (ge_of hfhb12_1 (by omega))
      replace cL10 := Chg.step cL10 c12_2 (Sub.fresh hfhb12_1 (by omega))
      try simp -implicitDefEqProofs (disch := first | decide | assumption | omega) only [go_sem, RdS.al rR (Ext.pres eB) sl59, RdS.an (OS.rd hM) sl59, BoxAt.cell hb12_1, wrap_id, Int.toNat_zero]
      refine hK _ _ ?_
      clear hK K
      refine den_seq ?_
      obtain ⟨vs, hes, hRs⟩ := RdS.dropV (k := .i64) (OS.rd hM) sl59 (lo := (d : Int)) (by omega) (by omega)
      rw [Int.toNat_natCast] at hRs
      have hdj : ∀ j, j < (M.drop d).length → ((M.drop d).getD j default).length = w := fun j hj => by
       rw [List.length_drop] at hj
       rw [drop_getD]; exact hri.len (d + j) (by omega)
      refine den_region TTok ?_
      intro K hK
      simp -implicitDefEqProofs (disch := first | decide | assumption | omega) only [go_sem, RdS.al rR (Ext.pres eB) sl59, RdS.an (OS.rd hM) sl59, BoxAt.cell hb12_1, wrap_id, Int.toNat_zero, hes, Option.map_some, Option.map_none]
      try simp -implicitDefEqProofs (disch := first | decide | assumption | omega) only [go_sem, RdS.al rR (Ext.pres eB) sl59, RdS.an (OS.rd hM) sl59, BoxAt.cell hb12_1, wrap_id, Int.toNat_zero, hes, Option.map_some, Option.map_none]
      refine CallA.mono (idx2_ok _ (M.drop d) _ _ (fun r : List Int => r.getD c 0 != 0) _ hRs (fun j hj h' e => by
  simp only [List.append_toArray, List.cons_append, List.nil_append]
  exact CallA.mono (red1_ok c _ _ _ _ ((RdS.rowN hRs j hj).pres (Ext.pres e)) (BoxAt.ext hb12_1 e) (by rw [hdj j hj]; omega)) (fun _ _ ⟨e1, e2⟩ => ⟨e1, e2 ▸ Ext.refl _⟩))) ?_
      intro v_ h13_4
      rintro ⟨rfl, e13_4⟩
      replace hM := OS.ext hM e13_4
      replace hb12_1 := BoxAt.ext hb12_1 e13_4
      have := Ext.size e13_4
      replace eB := Ext.trans eB e13_4
      replace cL10 := Chg.stepE cL10 e13_4
      try simp -implicitDefEqProofs (disch := first | decide | assumption | omega) only [go_sem, RdS.al rR (Ext.pres eB) sl59, RdS.an (OS.rd hM) sl59, BoxAt.cell hb12_1, wrap_id, Int.toNat_zero, hes, Option.map_some, Option.map_none]
      refine hK _ _ ?_
      clear hK K
      refine den_seq ?_
      refine den_seq ?_
      refine den_region TTok ?_
      intro K hK
      simp -implicitDefEqProofs (disch := first | decide | assumption | omega) only [go_sem, RdS.al rR (Ext.pres eB) sl59, RdS.an (OS.rd hM) sl59, BoxAt.cell hb12_1, wrap_id, Int.toNat_zero]
      refine hK _ _ ?_
      clear hK K
      refine den_cond rfl (fun c3 => ?_) (fun c3 => ?_)
      ·try simp only [ddA] at c3
       have hnone : ∀ q, d ≤ q → q < M.length → g2 M q c = 0 := fun q hq1 hq2 => by
        rcases idxP_cases (f := fun r : List Int => r.getD c 0 != 0) (xs := M.drop d) default with ⟨_, hz⟩ | ⟨k_, _, hk2, _⟩
        ·have := hz (q - d) (by rw [List.length_drop]; omega)
         rw [drop_getD, show d + (q - d) = q by omega] at this
         simpa using this
        ·omega
       refine den_exit ?_
       refine denX_code ?_
       refine denX_hit ?_
       refine den_region TTok ?_
       intro K hK
       simp -implicitDefEqProofs (disch := first | decide | assumption | omega) only [go_sem, RdS.al rR (Ext.pres eB) sl59, RdS.an (OS.rd hM) sl59, wrap_id, Int.toNat_zero]
       refine hK _ _ ?_
       clear hK K
       refine den_stop ?_
       exact ⟨(c + 1, d, M, l, fphM), by simp [HasL, puts_at], ⟨hri.skip (fun q hq1 hq2 => hnone q hq1 hq2), by dsimp only; omega, hM, hfhM, sbhM, cL10⟩, by first | omega | (dsimp only; omega)⟩
      ·try simp only [ddA] at c3
       obtain ⟨a, ha, hea, hfa⟩ : ∃ k : Nat, k < (M.drop d).length ∧ idxP (fun r : List Int => r.getD c 0 != 0) (M.drop d) = (k : Int) ∧ (fun r : List Int => r.getD c 0 != 0) ((M.drop d).getD k default) = true := by
        rcases idxP_cases (f := fun r : List Int => r.getD c 0 != 0) (xs := M.drop d) default with ⟨hm, _⟩ | h
        ·omega
        ·exact h
       rw [List.length_drop] at ha
       have haM : d + a < M.length := by omega
       have hpc : (M.getD (d + a) default).getD c 0 ≠ 0 := by rw [drop_getD] at hfa; simpa using hfa
       have eda : ((d : Int) + (a : Int)).toNat = d + a := by omega
       refine den_skip ?_
       refine den_seq ?_
       refine den_draw TTok mixed [17, 19] [(0, true), (1, true), (2, true), (3, true), (4, true), (5, true), (6, true), (7, true), (8, true), (9, true), (10, true), (11, true), (12, true), (13, true), (14, true), (15, true), (16, true), (17, false), (18, true), (19, false)] (by kernel_rfl) ?_
       intro K hK
       have hr13 := RdS.rowN (OS.rd hM) (((d : Int) + (a : Int))).toNat (by omega)
       have hlhr13 := RdS.le hr13
       have xr14 := Ext.refl h13_4
       have hr15 := RdS.rowN (OS.rd hM) d (by omega)
       have hlhr15 := RdS.le hr15
       have xr16 := Ext.refl h13_4
       simp -implicitDefEqProofs (disch := first | decide | assumption | omega) only [go_sem, ld55, RdS.al rR (Ext.pres eB) sl59, RdS.an (OS.rd hM) sl59, BoxAt.cell hb12_1, R1.al hr13 (Ext.pres xr14) sl55, R1.al hr15 (Ext.pres xr16) sl55, wrap_id, Int.toNat_zero, hea]
       have hq := OS.swap hM hfhM.nodup (d := d) (a := d + a) (by omega) haM
       obtain ⟨hq1, hq2, hq3, hq4, fpS, hoS, hnS, hsS, cS⟩ := hq
       refine op_raw st55 hq1 hq3 rfl rfl ?_
       try simp (disch := decide) only [outv_some, outv_none, put_puts]
       refine plK_last (by decide) ?_
       try simp -implicitDefEqProofs (disch := first | decide | assumption | omega) only [go_sem, RdS.al rR (Ext.pres eB) sl59, RdS.an (OS.rd hM) sl59, BoxAt.cell hb12_1, R1.al hr13 (Ext.pres xr14) sl55, R1.al hr15 (Ext.pres xr16) sl55, wrap_id, Int.toNat_zero, hea]
       refine op_raw st55 hq2 hq4 rfl rfl ?_
       generalize (hset (hset h13_4 ((sA vhL).add d) (rowV h13_4 vhL (d + a))) ((sA vhL).add (d + a)) (rowV h13_4 vhL d)) = h15_19 at hoS cS ⊢
       have hszS := cS.size
       have hfhoS : Fresh h.size fpS := ⟨hnS, fun b hb => hfhM.ge b (hsS b hb)⟩
       have sb17 : Sub fphL h4.size fpS := fun b hb => sbhM b (hsS b hb)
       replace hb12_1 := BoxAt.chgA hb12_1 cS (apart_gt hfhb12_1 hlhM (by omega))
       have := cS.size
       replace eB := Ext.then eB cS (ge_of hfhM (by omega))
       replace cL10 := Chg.step cL10 cS sbhM
       have ap18 : Apart [h12.size] fpS := (fun b hb hq => (apart_gt hfhb12_1 hlhM (by omega)) b hb (hsS b hq))
       have hlhoS := OS.lt hoS
       obtain ⟨S, hS_⟩ : ∃ S, S = swapP M d (d + a) := ⟨_, rfl⟩
       rw [← hS_] at hoS
       have hri1 : RI p w R S l d c := hS_ ▸ hri.swap (by omega) haM
       have hSl := hri1.ln
       have hSd := hri1.len d (by omega)
       have hSb := hri1.bnd d (by omega)
       have hSc : (S.getD d default).getD c 0 ≠ 0 := by rw [hS_, swapP_fst (by omega) haM]; exact hpc
       have hSx := hSb.at (k := c) (by omega)
       have hiv := invP_ok hP (x := (S.getD d default).getD c 0) (by omega) hSx.2
       try simp (disch := decide) only [outv_some, outv_none, put_puts]
       refine plK_last (by decide) ?_
       try simp -implicitDefEqProofs (disch := first | decide | assumption | omega) only [go_sem, RdS.al rR (Ext.pres eB) sl59, RdS.an (OS.rd hoS) sl59, BoxAt.cell hb12_1, wrap_id, Int.toNat_zero, hea]
       refine hK _ _ ?_
       clear hK K
       refine den_seq ?_
       have hcw : c < w := by omega
       refine den_draw TTok mixed [] [(0, true), (1, true), (2, true), (3, true), (4, true), (5, true), (6, true), (7, true), (8, false), (9, true)] (by kernel_rfl) ?_
       intro K hK
       have hr19 := RdS.rowN (OS.rd hoS) d (by omega)
       have hlhr19 := RdS.le hr19
       have xr20 := Ext.refl h15_19
       simp -implicitDefEqProofs (disch := first | decide | assumption | omega) only [go_sem, ld55, ld2, ld3, RdS.al rR (Ext.pres eB) sl59, RdS.an (OS.rd hoS) sl59, BoxAt.cell hb12_1, R1.al hr19 (Ext.pres xr20) sl55, wrap_id, Int.toNat_zero]
       try simp -implicitDefEqProofs (disch := first | decide | assumption | omega) only [go_sem, RdS.al rR (Ext.pres eB) sl59, RdS.an (OS.rd hoS) sl59, BoxAt.cell hb12_1, R1.al hr19 (Ext.pres xr20) sl55, wrap_id, Int.toNat_zero]
       refine CallA.mono (iInv_ok  p (((S).getD d default).getD c 0) _  hP (by omega)) ?_
       intro v_ h16_8
       rintro ⟨rfl, e16_8⟩
       replace hoS := OS.ext hoS e16_8
       replace hb12_1 := BoxAt.ext hb12_1 e16_8
       have := Ext.size e16_8
       replace eB := Ext.trans eB e16_8
       replace xr20 := Ext.trans xr20 e16_8
       replace cL10 := Chg.stepE cL10 e16_8
       try simp (disch := decide) only [outv_some, outv_none, put_puts]
       refine plK_pres (Ext.pres e16_8) ?_
       try simp -implicitDefEqProofs (disch := first | decide | assumption | omega) only [go_sem, RdS.al rR (Ext.pres eB) sl59, RdS.an (OS.rd hoS) sl59, BoxAt.cell hb12_1, R1.al hr19 (Ext.pres xr20) sl55, wrap_id, Int.toNat_zero]
       refine hK _ _ ?_
       clear hK K
       refine den_seq ?_
       refine den_seq ?_
       refine den_region TTok ?_
       intro K hK
       have hr21 := RdS.rowN (OS.rd hoS) d (by omega)
       have hlhr21 := RdS.le hr21
       have xr22 := Ext.refl h16_8
       simp -implicitDefEqProofs (disch := first | decide | assumption | omega) only [go_sem, ld55, RdS.al rR (Ext.pres eB) sl59, RdS.an (OS.rd hoS) sl59, BoxAt.cell hb12_1, R1.al hr19 (Ext.pres xr20) sl55, R1.al hr21 (Ext.pres xr22) sl55, wrap_id, Int.toNat_zero]
       refine hK _ _ ?_
       clear hK K
       refine den_block ?_
       refine den_sel [77, 0, 5, 8, 9, 11, 34, 35, 76] ?_
       intro env_23
       simp only [go_sem]
       refine den_loopS (σ := Nat × List Nat) (fun st_ => [(77, .int .i64 (st_.1 : Int))]) (fun st_ H => (st_.1 ≤ (S.getD d default).length) ∧ (O2 H vhL (S.set d (mix (sclRow p (invP p ((S.getD d default).getD c 0)) (S.getD d default)) (S.getD d default) st_.1)) st_.2) ∧ (Fresh (h.size) st_.2) ∧ (Sub fpS h16_8.size st_.2) ∧ (Chg fpS h16_8 H)) (fun st_ => (S.getD d default).length - st_.1) (0, fpS) ?_ ?_
       ·exact ⟨by first | (simp; done) | (dsimp only; omega) | (simp; omega), by rw [mix_zero, set_self (by omega)]; exact hoS, hfhoS, Sub.refl, Chg.refl _ _⟩
       ·rintro ⟨k, fphC⟩ h26 ee25 ⟨hi0, hC, hfhC, sbhC, cL24⟩
        dsimp only at hi0 hC hfhC sbhC cL24
        replace hb12_1 := BoxAt.chgA hb12_1 cL24 ap18
        have := cL24.size
        replace eB := Ext.then eB cL24 (ge_of hfhoS (by omega))
        replace cL10 := Chg.step cL10 cL24 sb17
        have ap27 : Apart [h12.size] fphC := Apart.sub_ hlhb12_1 (by omega) ap18 sbhC
        have sb28 : Sub fphL h4.size fphC := Sub.trans sbhC sb17 (by omega)
        have hlhC := OS.lt hC
        simp only [List.cons_append, List.nil_append]
        have hsl0 : (S.set d (mix (sclRow p (invP p ((S.getD d default).getD c 0)) (S.getD d default)) (S.getD d default) k)).length = S.length := List.length_set
        refine den_seq ?_
        refine den_region TTok ?_
        intro K hK
        simp -implicitDefEqProofs (disch := first | decide | assumption | omega) only [go_sem, RdS.al rR (Ext.pres eB) sl59, RdS.an (OS.rd hC) sl59, BoxAt.cell hb12_1, wrap_id, Int.toNat_zero]
        refine hK _ _ ?_
        clear hK K
        refine den_seq ?_
        refine den_cond rfl (fun c4 => ?_) (fun c4 => ?_)
        ·try simp only [ddA] at c4
         refine den_skip ?_
         refine den_seq ?_
         refine den_block ?_
         refine den_seq ?_
         refine den_region TTok ?_
         intro K hK
         simp -implicitDefEqProofs (disch := first | decide | assumption | omega) only [go_sem, RdS.al rR (Ext.pres eB) sl59, RdS.an (OS.rd hC) sl59, BoxAt.cell hb12_1, wrap_id, Int.toNat_zero]
         refine hK _ _ ?_
         clear hK K
         have hgd : (S.set d (mix (sclRow p (invP p ((S.getD d default).getD c 0)) (S.getD d default)) (S.getD d default) k)).getD d default = mix (sclRow p (invP p ((S.getD d default).getD c 0)) (S.getD d default)) (S.getD d default) k := by rw [getD_set (by omega), if_pos rfl]
         have hv20 : ((S.set d (mix (sclRow p (invP p ((S.getD d default).getD c 0)) (S.getD d default)) (S.getD d default) k)).getD d default).getD k 0 = (S.getD d default).getD k 0 := by rw [hgd, mix_get _ _ _ _ (sclR_len _ _ _) (by omega)]
         have hgl : ((S.set d (mix (sclRow p (invP p ((S.getD d default).getD c 0)) (S.getD d default)) (S.getD d default) k)).getD d default).length = w := by rw [hgd, mix_len _ _ _ (sclR_len _ _ _)]; exact hSd
         have hxk := hSb.at (k := k) (by omega)
         have hmu := mul36A (x := ((S.set d (mix (sclRow p (invP p ((S.getD d default).getD c 0)) (S.getD d default)) (S.getD d default) k)).getD d default).getD k 0) (y := (invP p ((S.getD d default).getD c 0))) (p := p) (by omega) ⟨by omega, hiv.1.2⟩ hp.2
         have hsl_ : (S.set d (mix (sclRow p (invP p ((S.getD d default).getD c 0)) (S.getD d default)) (S.getD d default) k)).length = S.length := List.length_set
         refine den_draw TTok mixed [17] [(0, true), (1, true), (2, true), (3, true), (4, true), (5, true), (6, true), (7, true), (8, true), (9, true), (10, true), (11, true), (12, true), (13, true), (14, true), (15, true), (16, true), (17, false)] (by kernel_rfl) ?_
         intro K hK
         have hr29 := RdS.rowN (OS.rd hC) d (by omega)
         have hlhr29 := RdS.le hr29
         have xr30 := Ext.refl h26
         have hr31 := RdS.rowN (OS.rd hC) d (by omega)
         have hlhr31 := RdS.le hr31
         have xr32 := Ext.refl h26
         simp -implicitDefEqProofs (disch := first | decide | assumption | omega) only [go_sem, ld55, ld2, RdS.al rR (Ext.pres eB) sl59, RdS.an (OS.rd hC) sl59, BoxAt.cell hb12_1, R1.al hr29 (Ext.pres xr30) sl55, R1.al hr31 (Ext.pres xr32) sl55, wrap_id, Int.toNat_zero]
         obtain ⟨fr20_17, hE20_17, hS20_17, hN20_17, hB20_17⟩ := OS.elem hC hfhC.nodup d (by omega)
         refine op_store1 (j := k) st2 hE20_17 hN20_17 (by first | omega | (simp; omega)) rfl rfl ?_
         intro h20_17 hF20_17 cE20_17
         have ho20_17 := hB20_17 _ _ cE20_17 hF20_17
         have c20_17 := cE20_17.mono hS20_17
         have hsz20_17 := c20_17.size
         replace hb12_1 := BoxAt.chgA hb12_1 c20_17 ap27
         have := c20_17.size
         replace eB := Ext.then eB c20_17 (ge_of hfhC (by omega))
         replace cL10 := Chg.step cL10 c20_17 sb28
         replace cL24 := Chg.step cL24 c20_17 sbhC
         have ap33 : Apart [h12.size] fphC := ap27
         have hlho20_17 := hlhC
         have hlenho20_17 : ((S.set d (mix (sclRow p (invP p ((S.getD d default).getD c 0)) (S.getD d default)) (S.getD d default) k)).set d (((S.set d (mix (sclRow p (invP p ((S.getD d default).getD c 0)) (S.getD d default)) (S.getD d default) k)).getD d default).set k (Int.tmod ((((S.set d (mix (sclRow p (invP p ((S.getD d default).getD c 0)) (S.getD d default)) (S.getD d default) k)).getD d default).getD k 0) * (invP p (((S).getD d default).getD c 0))) p)) : List (List Int)).length = (S.set d (mix (sclRow p (invP p ((S.getD d default).getD c 0)) (S.getD d default)) (S.getD d default) k) : List (List Int)).length := List.length_set
         try simp (disch := decide) only [outv_some, outv_none, put_puts]
         refine plK_last (by decide) ?_
         try simp -implicitDefEqProofs (disch := first | decide | assumption | omega) only [go_sem, RdS.al rR (Ext.pres eB) sl59, RdS.an (OS.rd ho20_17) sl59, BoxAt.cell hb12_1, wrap_id, Int.toNat_zero]
         refine hK _ _ ?_
         clear hK K
         refine den_blk ?_
         refine den_region TTok ?_
         intro K hK
         simp -implicitDefEqProofs (disch := first | decide | assumption | omega) only [go_sem, RdS.al rR (Ext.pres eB) sl59, RdS.an (OS.rd ho20_17) sl59, BoxAt.cell hb12_1, wrap_id, Int.toNat_zero]
         refine hK _ _ ?_
         clear hK K
         refine den_stop ?_
         rw [hv20, tmod_e (by rw [← hv20]; exact hmu.1), Int.mul_comm, ← sclR_get p _ (by omega), nest_set (by omega), mix_set _ _ _ _ (sclR_len _ _ _) (by omega)] at ho20_17
         exact ⟨(k + 1, fphC), by simp [HasL, puts_at], ⟨by first | omega | (dsimp only; omega), ho20_17, hfhC, sbhC, cL24⟩, by first | omega | (dsimp only; omega)⟩
        ·try simp only [ddA] at c4
         refine den_exit ?_
         refine denX_code ?_
         refine denX_stop ?_
         refine denX_hit ?_
         refine den_seq ?_
         refine den_seq ?_
         rw [mix_end _ _ _ (sclR_len _ _ _) (by omega)] at hC
         obtain ⟨hri2, hS1⟩ := hri1.scale hP (by omega) (by omega) hSc
         obtain ⟨S2, hS2_⟩ : ∃ S2, S2 = S.set d (sclRow p (invP p ((S.getD d default).getD c 0)) (S.getD d default)) := ⟨_, rfl⟩
         change RI p w R (S.set d (sclRow p (invP p ((S.getD d default).getD c 0)) (S.getD d default))) l d c at hri2
         change g2 (S.set d (sclRow p (invP p ((S.getD d default).getD c 0)) (S.getD d default))) d c = 1 at hS1
         rw [← hS2_] at hC hri2 hS1
         have hS2l := hri2.ln
         refine den_region TTok ?_
         intro K hK
         simp -implicitDefEqProofs (disch := first | decide | assumption | omega) only [go_sem, RdS.al rR (Ext.pres eB) sl59, RdS.an (OS.rd hC) sl59, BoxAt.cell hb12_1, wrap_id, Int.toNat_zero]
         refine hK _ _ ?_
         clear hK K
         refine den_block ?_
         refine den_sel [100, 0, 5, 8, 9, 34, 35, 99] ?_
         intro env_34
         simp only [go_sem]
         refine den_loopS (σ := Nat × List Nat) (fun st_ => [(100, .int .i64 (st_.1 : Int))]) (fun st_ H => (st_.1 ≤ S2.length) ∧ (O2 H vhL (clrP p d c S2 st_.1) st_.2) ∧ (Fresh (h.size) st_.2) ∧ (Sub fphC h26.size st_.2) ∧ (Chg fphC h26 H)) (fun st_ => S2.length - st_.1) (0, fphC) ?_ ?_
         ·exact ⟨by first | (simp; done) | (dsimp only; omega) | (simp; omega), by rw [clrP_zero]; exact hC, hfhC, Sub.refl, Chg.refl _ _⟩
         ·rintro ⟨i, fphJ⟩ h37 ee36 ⟨hi0, hJ, hfhJ, sbhJ, cL35⟩
          dsimp only at hi0 hJ hfhJ sbhJ cL35
          replace hb12_1 := BoxAt.chgA hb12_1 cL35 ap27
          have := cL35.size
          replace eB := Ext.then eB cL35 (ge_of hfhC (by omega))
          replace cL10 := Chg.step cL10 cL35 sb28
          have ap38 : Apart [h12.size] fphJ := Apart.sub_ hlhb12_1 (by omega) ap27 sbhJ
          have sb39 : Sub fphL h4.size fphJ := Sub.trans sbhJ sb28 (by omega)
          have hlhJ := OS.lt hJ
          simp only [List.cons_append, List.nil_append]
          have hcl0 := clrP_len p d c S2 i
          refine den_seq ?_
          refine den_region TTok ?_
          intro K hK
          simp -implicitDefEqProofs (disch := first | decide | assumption | omega) only [go_sem, RdS.al rR (Ext.pres eB) sl59, RdS.an (OS.rd hJ) sl59, BoxAt.cell hb12_1, wrap_id, Int.toNat_zero]
          refine hK _ _ ?_
          clear hK K
          refine den_seq ?_
          refine den_cond rfl (fun c5 => ?_) (fun c5 => ?_)
          ·try simp only [ddA] at c5
           refine den_skip ?_
           refine den_seq ?_
           refine den_block ?_
           refine den_seq ?_
           refine den_region TTok ?_
           intro K hK
           simp -implicitDefEqProofs (disch := first | decide | assumption | omega) only [go_sem, RdS.al rR (Ext.pres eB) sl59, RdS.an (OS.rd hJ) sl59, BoxAt.cell hb12_1, wrap_id, Int.toNat_zero]
           refine hK _ _ ?_
           clear hK K
           refine den_seq ?_
           refine den_region TTok ?_
           intro K hK
           simp -implicitDefEqProofs (disch := first | decide | assumption | omega) only [go_sem, RdS.al rR (Ext.pres eB) sl59, RdS.an (OS.rd hJ) sl59, BoxAt.cell hb12_1, wrap_id, Int.toNat_zero]
           refine hK _ _ ?_
           clear hK K
           refine den_cond rfl (fun c6 => ?_) (fun c6 => ?_)
           ·try simp only [ddA] at c6
            have hgi : (clrP p d c S2 i).getD i default = S2.getD i default := by rw [clrP_get (by omega), if_neg (by omega)]
            have hgd : (clrP p d c S2 i).getD d default = S2.getD d default := by rw [clrP_get (by omega), if_neg (by omega)]
            have hli := hri2.len i (by omega)
            have hld := hri2.len d (by omega)
            have hcp : 0 < p ∧ p ≤ 7 := by omega
            have hcl : ((clrP p d c S2 i).getD d default).length = ((clrP p d c S2 i).getD i default).length := by rw [hgi, hgd]; omega
            have hca : Bnd p ((clrP p d c S2 i).getD i default) := by rw [hgi]; exact hri2.bnd i (by omega)
            have hcb : Bnd p ((clrP p d c S2 i).getD d default) := by rw [hgd]; exact hri2.bnd d (by omega)
            have hlc : ((clrP p d c S2 i).getD i default).length = w := by rw [hgi]; exact hli
            have hck := hca.at (k := c) (by omega)
            refine den_draw TTok mixed [16] [(0, true), (1, true), (2, true), (3, true), (4, true), (5, true), (6, true), (7, true), (8, true), (9, true), (10, true), (11, true), (12, true), (13, true), (14, true), (15, true), (16, false)] (by kernel_rfl) ?_
            intro K hK
            have hr40 := RdS.rowN (OS.rd hJ) i (by omega)
            have hlhr40 := RdS.le hr40
            have xr41 := Ext.refl h37
            have hr42 := RdS.rowN (OS.rd hJ) d (by omega)
            have hlhr42 := RdS.le hr42
            have xr43 := Ext.refl h37
            have hr44 := RdS.rowN (OS.rd hJ) i (by omega)
            have hlhr44 := RdS.le hr44
            have xr45 := Ext.refl h37
            simp -implicitDefEqProofs (disch := first | decide | assumption | omega) only [go_sem, ld55, ld2, ld3, RdS.al rR (Ext.pres eB) sl59, RdS.an (OS.rd hJ) sl59, BoxAt.cell hb12_1, R1.al hr40 (Ext.pres xr41) sl55, R1.al hr42 (Ext.pres xr43) sl55, R1.al hr44 (Ext.pres xr45) sl55, wrap_id, Int.toNat_zero]
            try simp -implicitDefEqProofs (disch := first | decide | assumption | omega) only [go_sem, RdS.al rR (Ext.pres eB) sl59, RdS.an (OS.rd hJ) sl59, BoxAt.cell hb12_1, R1.al hr40 (Ext.pres xr41) sl55, R1.al hr42 (Ext.pres xr43) sl55, R1.al hr44 (Ext.pres xr45) sl55, wrap_id, Int.toNat_zero]
            obtain ⟨f2, hE2, hN2, hU2, hB2, hK2⟩ := OS.two hJ hfhJ.nodup (i := i) (d := d) (by omega) (by omega) (by omega)
            refine CallA.mono (clear_ok _ (((clrP p d c S2 i).getD i default).getD c 0) _ _ _ _ _ _ hE2 hN2 (RdS.pres hr42 (Ext.pres xr43)) (fun h_ c_ => (hK2 h_ c_).elim fun g hg => OS.rd hg) hcp hcl hca hcb hck) ?_
            intro v_ h26_16
            rintro ⟨rfl, hF2, cE2⟩
            have hog26_16 := hB2 _ _ cE2 hF2
            have cg26_16 := cE2.mono hU2
            replace hb12_1 := BoxAt.chgA hb12_1 cg26_16 ap38
            have := cg26_16.size
            replace eB := Ext.then eB cg26_16 (ge_of hfhJ (by omega))
            replace cL10 := Chg.step cL10 cg26_16 sb39
            replace cL35 := Chg.step cL35 cg26_16 sbhJ
            have ap46 : Apart [h12.size] fphJ := ap38
            have hlhog26_16 := hlhJ
            try simp (disch := decide) only [outv_some, outv_none, put_puts]
            refine plK_last (by decide) ?_
            try simp -implicitDefEqProofs (disch := first | decide | assumption | omega) only [go_sem, RdS.al rR (Ext.pres eB) sl59, RdS.an (OS.rd hog26_16) sl59, BoxAt.cell hb12_1, wrap_id, Int.toNat_zero]
            refine hK _ _ ?_
            clear hK K
            refine den_blk ?_
            refine den_region TTok ?_
            intro K hK
            simp -implicitDefEqProofs (disch := first | decide | assumption | omega) only [go_sem, RdS.al rR (Ext.pres eB) sl59, RdS.an (OS.rd hog26_16) sl59, BoxAt.cell hb12_1, wrap_id, Int.toNat_zero]
            refine hK _ _ ?_
            clear hK K
            refine den_stop ?_
            first | rw [clr_upd (by omega) (by omega) (by omega)] at hog26_16 | rw [← clr_same (by omega)] at hog26_16
            exact ⟨(i + 1, fphJ), by simp [HasL, puts_at], ⟨by first | omega | (dsimp only; omega), hog26_16, hfhJ, sbhJ, cL35⟩, by first | omega | (dsimp only; omega)⟩
           ·try simp only [ddA] at c6
            refine den_skip ?_
            refine den_blk ?_
            refine den_region TTok ?_
            intro K hK
            simp -implicitDefEqProofs (disch := first | decide | assumption | omega) only [go_sem, RdS.al rR (Ext.pres eB) sl59, RdS.an (OS.rd hJ) sl59, BoxAt.cell hb12_1, wrap_id, Int.toNat_zero]
            refine hK _ _ ?_
            clear hK K
            refine den_stop ?_
            first | rw [clr_upd (by omega) (by omega) (by omega)] at hJ | rw [← clr_same (by omega)] at hJ
            exact ⟨(i + 1, fphJ), by simp [HasL, puts_at], ⟨by first | omega | (dsimp only; omega), hJ, hfhJ, sbhJ, cL35⟩, by first | omega | (dsimp only; omega)⟩
          ·try simp only [ddA] at c5
           refine den_exit ?_
           refine denX_code ?_
           refine denX_stop ?_
           refine denX_hit ?_
           refine den_seq ?_
           have hri3 := hri2.clear hP (by omega) (by omega) hS1
           rw [show i = S2.length by omega] at hJ
           have hcl1 := clrP_len p d c S2 S2.length
           refine den_region TTok ?_
           intro K hK
           simp -implicitDefEqProofs (disch := first | decide | assumption | omega) only [go_sem, RdS.al rR (Ext.pres eB) sl59, RdS.an (OS.rd hJ) sl59, wrap_id, Int.toNat_zero]
           refine hK _ _ ?_
           clear hK K
           refine den_seq ?_
           refine den_region TTok ?_
           intro K hK
           simp -implicitDefEqProofs (disch := first | decide | assumption | omega) only [go_sem, RdS.al rR (Ext.pres eB) sl59, RdS.an (OS.rd hJ) sl59, wrap_id, Int.toNat_zero]
           refine hK _ _ ?_
           clear hK K
           refine den_cond rfl (fun c7 => ?_) (fun c7 => ?_)
           ·try simp only [ddA] at c7
            refine den_exit ?_
            refine denX_miss (by decide) ?_
            refine denX_code ?_
            refine denX_stop ?_
            refine denX_hit ?_
            refine den_seq ?_
            obtain ⟨vt, fpt, het, hot, hnt, hut⟩ := OS.takeV (k := .i64) hJ hfhJ.nodup sl59 (hi := ((d : Int) + (1 : Int))) (by omega) (by omega)
            refine den_region TTok ?_
            intro K hK
            simp -implicitDefEqProofs (disch := first | decide | assumption | omega) only [go_sem, RdS.al rR (Ext.pres eB) sl59, RdS.an (OS.rd hJ) sl59, wrap_id, Int.toNat_zero, het, Option.map_some, Option.map_none]
            refine hK _ _ ?_
            clear hK K
            refine den_ret ?_
            simp (disch := decide) only [resP_1, puts_same, puts_ne]
            have hec := hri3.ech hP hT (.inl (by rw [clrP_len]; omega))
            rw [hec]
            exact ⟨vt, fpt, rfl, (by simpa using hot), ⟨hnt, fun b hb => by have := hfhJ.ge b (hut b hb); omega⟩, eB⟩
           ·try simp only [ddA] at c7
            refine den_skip ?_
            refine den_blk ?_
            refine den_region TTok ?_
            intro K hK
            simp -implicitDefEqProofs (disch := first | decide | assumption | omega) only [go_sem, RdS.al rR (Ext.pres eB) sl59, RdS.an (OS.rd hJ) sl59, wrap_id, Int.toNat_zero]
            refine hK _ _ ?_
            clear hK K
            refine den_stop ?_
            exact ⟨(c + 1, d + 1, clrP p d c S2 S2.length, fun i => if i = d then c else l i, fphJ), by simp [HasL, puts_at], ⟨hri3, by dsimp only; omega, hJ, hfhJ, sb39, cL10⟩, by first | omega | (dsimp only; omega)⟩
     ·try simp only [ddA] at c2
      refine den_exit ?_
      refine denX_code ?_
      refine denX_stop ?_
      refine denX_hit ?_
      refine den_seq ?_
      obtain ⟨vt, fpt, het, hot, hnt, hut⟩ := OS.takeV (k := .i64) hM hfhM.nodup sl59 (hi := (d : Int)) (by omega) (by omega)
      refine den_region TTok ?_
      intro K hK
      simp -implicitDefEqProofs (disch := first | decide | assumption | omega) only [go_sem, RdS.al rR (Ext.pres eB) sl59, RdS.an (OS.rd hM) sl59, wrap_id, Int.toNat_zero, het, Option.map_some, Option.map_none]
      refine hK _ _ ?_
      clear hK K
      refine den_ret ?_
      simp (disch := decide) only [resP_1, puts_same, puts_ne]
      have hec := hri.ech hP hT (.inr (by omega))
      rw [hec]
      exact ⟨vt, fpt, rfl, (by simpa using hot), ⟨hnt, fun b hb => by have := hfhM.ge b (hut b hb); omega⟩, eB⟩
end Go.Proofs.Ytacajcjibhifmaa
