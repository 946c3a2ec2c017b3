/-
  What the statement FnExactIsGradedCommutative uses of the walks, part 3.
  Conditions: each theorem's own.
-/
import Derived.Test.YtacajcjibhifmaaG16
import Derived.Test.YtacajcjibhifmaaG17
import Derived.Test.YtacajcjibhifmaaG14
import Derived.Test.YtacajcjibhifmaaG13
import Derived.Test.YtacajcjibhifmaaG15
import Derived.Test.YtacajcjibhifmaaG18
import Derived.Test.YtacajcjibhifmaaZIsGradedCommutative1
import Derived.Test.YtacajcjibhifmaaZIsGradedCommutative2
set_option linter.unusedVariables false
set_option linter.unusedSimpArgs false
namespace Go.Proofs.Ytacajcjibhifmaa
open Go
def GcF (X : Dg) (i j : Nat) : Prop := eqE (X.tab j i) (plusN X.p z8 (X.tab i j) (1 - (X.deg i * X.deg j).tmod 2 * 2) 8) = true
noncomputable def gcB (X : Dg) : Bool := @decide (∀ i : Nat, (i : Int) < X.s → ∀ j : Nat, (j : Int) < X.s → GcF X i j) (Classical.propDecidable _)
theorem gcB_t {X : Dg} : gcB X = true ↔ ∀ i : Nat, (i : Int) < X.s → ∀ j : Nat, (j : Int) < X.s → GcF X i j := @decide_eq_true_iff _ (Classical.propDecidable _)
theorem gcB_y {X : Dg} (h : ∀ i : Nat, (i : Int) < X.s → ∀ j : Nat, (j : Int) < X.s → GcF X i j) : gcB X = true := gcB_t.2 h
theorem gcB_n {X : Dg} {i j : Nat} (hi : (i : Int) < X.s) (hj : (j : Int) < X.s) (h : ¬ GcF X i j) : gcB X = false := by
 cases e : gcB X
 ·rfl
 ·exact absurd (gcB_t.1 e i hi j hj) h
noncomputable def gcR (X : Dg) : Bool × Int := if dgB X = true then (gcB X, 0) else (false, 1)
theorem gcR_y {X : Dg} (h : dgB X = true) : gcR X = (gcB X, 0) := if_pos h
theorem gcR_n {X : Dg} (h : ¬ dgB X = true) : gcR X = (false, 1) := if_neg h
theorem mul25 {x y : Int} (hx : 0 ≤ x ∧ x ≤ 5) (hy : 0 ≤ y ∧ y ≤ 5) : 0 ≤ x * y ∧ x * y ≤ 25 := by
 have h1 := Int.mul_nonneg hx.1 hy.1
 have h2 := Int.mul_le_mul hx.2 hy.2 hy.1 (show (0 : Int) ≤ 5 by omega)
 omega
theorem lenNE : lenV TT 117 (.slice none 0 0) = some (.int .i64 0) := by kernel_rfl

set_option maxRecDepth 100000 in
set_option maxHeartbeats 4000000 in
theorem iGC_ok (X : Dg) (h : Heap)  (hB : DgB X) : CallA Try.prog 10 #[.agg (dgA X)] h fun v' h' => v' = .tuple #[.bool ((gcR X).1), .int .i64 ((gcR X).2)] ∧ Ext h h' := by
 have hBd := hB.dif
 have hBt := hB.tab
 refine callA_intro TTok (args := [_]) Try.func10 (by kernel_rfl) rfl 47 rfl (by simp) [.tmp 2, .tmp 3] rfl ?_
 simp only [idxs, Nat.reduceAdd]
 refine den_seq ?_
 refine den_region TTok ?_
 intro K hK
 simp -implicitDefEqProofs (disch := first | decide | assumption | omega) only [go_sem, wrap_id, cv_u8, cv_i64, Nat.zero_add, wrap_u8, eq_el, ne_el, build_el, Int.toNat_zero]
 refine op_box (cs := dgA X) rfl ?_
 intro h0_0 e0_0 hb0_0 z0_0
 have := Ext.size e0_0
 have eB := e0_0
 have hfhb0_0 : Fresh h.size [h.size] := Fresh.one _
 have hlhb0_0 := one_lt (show h.size < h0_0.size by omega)
 try simp -implicitDefEqProofs (disch := first | decide | assumption | omega) only [go_sem, wrap_id, cv_u8, cv_i64, Nat.zero_add, wrap_u8, eq_el, ne_el, build_el, Int.toNat_zero]
 refine hK _ _ ?_
 clear hK K
 refine den_seq ?_
 refine den_seq ?_
 refine den_region TTok ?_
 intro K hK
 simp -implicitDefEqProofs (disch := first | decide | assumption | omega) only [go_sem, BoxAt.dgL hb0_0, BoxAt.dgP hb0_0, BoxAt.dgS hb0_0, BoxAt.dgDeg hb0_0, BoxAt.dgLev hb0_0, BoxAt.dgDeg0 hb0_0, BoxAt.dgLev0 hb0_0, BoxAt.dgDifL hb0_0, BoxAt.dgTabL hb0_0, BoxAt.dgTabL0 hb0_0, BoxAt.dgTabL1 hb0_0, BoxAt.dgTabL1' hb0_0, BoxAt.dgDifB hb0_0, BoxAt.dgTabB hb0_0, wrap_id, cv_u8, cv_i64, Nat.zero_add, wrap_u8, eq_el, ne_el, build_el, Int.toNat_zero]
 try simp -implicitDefEqProofs (disch := first | decide | assumption | omega) only [go_sem, wrap_id, cv_u8, cv_i64, Nat.zero_add, wrap_u8, eq_el, ne_el, build_el, Int.toNat_zero]
 refine CallA.mono (iDg_ok  X _  hB) ?_
 intro v_ h1_1
 rintro ⟨rfl, e1_1⟩
 replace hb0_0 := BoxAt.ext hb0_0 e1_1
 have := Ext.size e1_1
 replace eB := Ext.trans eB e1_1
 try simp -implicitDefEqProofs (disch := first | decide | assumption | omega) only [go_sem, wrap_id, cv_u8, cv_i64, Nat.zero_add, wrap_u8, eq_el, ne_el, build_el, Int.toNat_zero]
 refine hK _ _ ?_
 clear hK K
 refine den_cond rfl (fun c0 => ?_) (fun c0 => ?_)
 ·try simp only [decide_eq_true_eq, decide_eq_false_iff_not, beq_iff_eq, beq_eq_false_iff_ne, bne_iff_ne, ne_eq, Bool.not_eq_true', Bool.not_eq_false', Bool.and_eq_true, Bool.or_eq_true, bne_eq_false_iff_eq, Bool.not_eq_true, Bool.not_eq_false] at c0
  refine den_seq ?_
  refine den_region TTok ?_
  intro K hK
  simp -implicitDefEqProofs (disch := first | decide | assumption | omega) only [go_sem, wrap_id, cv_u8, cv_i64, Nat.zero_add, wrap_u8, eq_el, ne_el, build_el, Int.toNat_zero]
  refine hK _ _ ?_
  clear hK K
  refine den_ret ?_
  simp (disch := decide) only [resP_2, puts_same, puts_ne]
  rw [gcR_n (by rw [c0]; decide)]
  exact ⟨by first | rfl | trivial, eB⟩
 ·try simp only [decide_eq_true_eq, decide_eq_false_iff_not, beq_iff_eq, beq_eq_false_iff_ne, bne_iff_ne, ne_eq, Bool.not_eq_true', Bool.not_eq_false', Bool.and_eq_true, Bool.or_eq_true, bne_eq_false_iff_eq, Bool.not_eq_true, Bool.not_eq_false] at c0
  have hdg := dgB_t.1 c0
  have hfm := hdg.fm
  have hs8 := hfm.s
  have hpb := isP_bnd hfm.p
  have hpG : 0 < X.p ∧ X.p ≤ 7 := ⟨by omega, by omega⟩
  refine den_skip ?_
  refine den_seq ?_
  refine den_seq ?_
  refine den_region TTok ?_
  intro K hK
  simp -implicitDefEqProofs (disch := first | decide | assumption | omega) only [go_sem, fa34_1, ld2, BoxAt.dgL hb0_0, BoxAt.dgP hb0_0, BoxAt.dgS hb0_0, BoxAt.dgDeg hb0_0, BoxAt.dgLev hb0_0, BoxAt.dgDeg0 hb0_0, BoxAt.dgLev0 hb0_0, BoxAt.dgDifL hb0_0, BoxAt.dgTabL hb0_0, BoxAt.dgTabL0 hb0_0, BoxAt.dgTabL1 hb0_0, BoxAt.dgTabL1' hb0_0, BoxAt.dgDifB hb0_0, BoxAt.dgTabB hb0_0, wrap_id, cv_u8, cv_i64, Nat.zero_add, wrap_u8, eq_el, ne_el, build_el, Int.toNat_zero]
  refine hK _ _ ?_
  clear hK K
  refine den_block ?_
  refine den_sel [11, 1, 10] ?_
  intro env_1
  simp only [go_sem]
  refine den_loopS (σ := Nat) (fun st_ => [(11, .int .i64 (st_ : Int))]) (fun st_ H => ((st_ : Int) ≤ X.s) ∧ (∀ a : Nat, a < st_ → ∀ b : Nat, (b : Int) < X.s → GcF X a b) ∧ (Ext h1_1 H)) (fun st_ => X.s.toNat - st_) 0 ?_ ?_
  ·exact ⟨by omega, fun a h => by omega, Ext.refl _⟩
  ·rintro i h4 ee3 ⟨hi, hz, cL2⟩
   replace hb0_0 := BoxAt.ext hb0_0 cL2
   have := Ext.size cL2
   replace eB := Ext.trans eB cL2
   simp only [List.cons_append, List.nil_append]
   refine den_seq ?_
   refine den_region TTok ?_
   intro K hK
   simp -implicitDefEqProofs (disch := first | decide | assumption | omega) only [go_sem, wrap_id, cv_u8, cv_i64, Nat.zero_add, wrap_u8, eq_el, ne_el, build_el, Int.toNat_zero]
   refine hK _ _ ?_
   clear hK K
   refine den_seq ?_
   refine den_cond rfl (fun c1 => ?_) (fun c1 => ?_)
   ·try simp only [decide_eq_true_eq, decide_eq_false_iff_not, beq_iff_eq, beq_eq_false_iff_ne, bne_iff_ne, ne_eq, Bool.not_eq_true', Bool.not_eq_false', Bool.and_eq_true, Bool.or_eq_true, bne_eq_false_iff_eq, Bool.not_eq_true, Bool.not_eq_false] at c1
    refine den_skip ?_
    refine den_seq ?_
    refine den_block ?_
    refine den_seq ?_
    refine den_region TTok ?_
    intro K hK
    simp -implicitDefEqProofs (disch := first | decide | assumption | omega) only [go_sem, wrap_id, cv_u8, cv_i64, Nat.zero_add, wrap_u8, eq_el, ne_el, build_el, Int.toNat_zero]
    refine hK _ _ ?_
    clear hK K
    refine den_seq ?_
    refine den_region TTok ?_
    intro K hK
    simp -implicitDefEqProofs (disch := first | decide | assumption | omega) only [go_sem, fa34_1, ld2, BoxAt.dgL hb0_0, BoxAt.dgP hb0_0, BoxAt.dgS hb0_0, BoxAt.dgDeg hb0_0, BoxAt.dgLev hb0_0, BoxAt.dgDeg0 hb0_0, BoxAt.dgLev0 hb0_0, BoxAt.dgDifL hb0_0, BoxAt.dgTabL hb0_0, BoxAt.dgTabL0 hb0_0, BoxAt.dgTabL1 hb0_0, BoxAt.dgTabL1' hb0_0, BoxAt.dgDifB hb0_0, BoxAt.dgTabB hb0_0, wrap_id, cv_u8, cv_i64, Nat.zero_add, wrap_u8, eq_el, ne_el, build_el, Int.toNat_zero]
    refine hK _ _ ?_
    clear hK K
    refine den_block ?_
    refine den_sel [16, 1, 4, 10, 11, 15] ?_
    intro env_5
    simp only [go_sem]
    refine den_loopS (σ := Nat) (fun st_ => [(16, .int .i64 (st_ : Int))]) (fun st_ H => ((st_ : Int) ≤ X.s) ∧ (∀ b : Nat, b < st_ → GcF X i b) ∧ (Ext h4 H)) (fun st_ => X.s.toNat - st_) 0 ?_ ?_
    ·exact ⟨by omega, fun b h => by omega, Ext.refl _⟩
    ·rintro j h8 ee7 ⟨hj, hzj, cL6⟩
     replace hb0_0 := BoxAt.ext hb0_0 cL6
     have := Ext.size cL6
     replace eB := Ext.trans eB cL6
     replace cL2 := Ext.trans cL2 cL6
     simp only [List.cons_append, List.nil_append]
     refine den_seq ?_
     refine den_region TTok ?_
     intro K hK
     simp -implicitDefEqProofs (disch := first | decide | assumption | omega) only [go_sem, wrap_id, cv_u8, cv_i64, Nat.zero_add, wrap_u8, eq_el, ne_el, build_el, Int.toNat_zero]
     refine hK _ _ ?_
     clear hK K
     refine den_seq ?_
     refine den_cond rfl (fun c2 => ?_) (fun c2 => ?_)
     ·try simp only [decide_eq_true_eq, decide_eq_false_iff_not, beq_iff_eq, beq_eq_false_iff_ne, bne_iff_ne, ne_eq, Bool.not_eq_true', Bool.not_eq_false', Bool.and_eq_true, Bool.or_eq_true, bne_eq_false_iff_eq, Bool.not_eq_true, Bool.not_eq_false] at c2
      refine den_skip ?_
      refine den_seq ?_
      refine den_block ?_
      refine den_seq ?_
      refine den_region TTok ?_
      intro K hK
      simp -implicitDefEqProofs (disch := first | decide | assumption | omega) only [go_sem, wrap_id, cv_u8, cv_i64, Nat.zero_add, wrap_u8, eq_el, ne_el, build_el, Int.toNat_zero]
      refine hK _ _ ?_
      clear hK K
      refine den_seq ?_
      have hdi := (hfm.row i (by omega)).deg
      have hdj := (hfm.row j (by omega)).deg
      have hmul := mul25 hdi hdj
      have hsg := tmod_in (p := 2) (x := X.deg i * X.deg j) (by decide)
      refine den_draw TTok mixed [] [(0, true), (1, true), (2, true), (3, true), (4, true), (5, true), (6, true), (7, true), (8, true), (9, true), (10, true), (11, true), (12, true), (13, true), (14, true), (15, true), (16, true), (17, true), (18, true), (19, true), (20, true), (21, true), (22, true), (23, false), (24, false), (25, true)] (by kernel_rfl) ?_
      intro K hK
      simp -implicitDefEqProofs (disch := first | decide | assumption | omega) only [go_sem, Int.toNat_zero, fa34_2, fa34_5, ia32, ia31, ia22, ld2, BoxAt.dgL hb0_0, BoxAt.dgP hb0_0, BoxAt.dgS hb0_0, BoxAt.dgDeg hb0_0, BoxAt.dgLev hb0_0, BoxAt.dgDeg0 hb0_0, BoxAt.dgLev0 hb0_0, BoxAt.dgDifL hb0_0, BoxAt.dgTabL hb0_0, BoxAt.dgTabL0 hb0_0, BoxAt.dgTabL1 hb0_0, BoxAt.dgTabL1' hb0_0, BoxAt.dgDifB hb0_0, BoxAt.dgTabB hb0_0, wrap_id, cv_u8, cv_i64, Nat.zero_add, wrap_u8, eq_el, ne_el, build_el, Int.toNat_zero]
      try simp -implicitDefEqProofs (disch := first | decide | assumption | omega) only [go_sem, wrap_id, cv_u8, cv_i64, Nat.zero_add, wrap_u8, eq_el, ne_el, build_el, Int.toNat_zero]
      refine CallA.mono (iSign_ok  ((X.deg i) * (X.deg j)) _  (by omega)) ?_
      intro v_ h9_23
      rintro ⟨rfl, e9_23⟩
      replace hb0_0 := BoxAt.ext hb0_0 e9_23
      have := Ext.size e9_23
      replace eB := Ext.trans eB e9_23
      replace cL2 := Ext.trans cL2 e9_23
      replace cL6 := Ext.trans cL6 e9_23
      try simp (disch := decide) only [outv_some, outv_none, put_puts]
      refine plK_pres (Ext.pres e9_23) ?_
      try simp -implicitDefEqProofs (disch := first | decide | assumption | omega) only [go_sem, wrap_id, cv_u8, cv_i64, Nat.zero_add, wrap_u8, eq_el, ne_el, build_el, Int.toNat_zero]
      try simp -implicitDefEqProofs (disch := first | decide | assumption | omega) only [go_sem, wrap_id, cv_u8, cv_i64, Nat.zero_add, wrap_u8, eq_el, ne_el, build_el, Int.toNat_zero]
      refine CallA.mono (iPls_ok  X z8 ((X.tab i) j) (1 - ((X.deg i) * (X.deg j)).tmod 2 * 2) _  hpG (by first | assumption | exact e8_by _ | exact By.z8 | exact hBd _ | exact hBt _ _ | exact tmJ_by (by omega) (tmI_by (by omega) _) _ | exact timesP_by (by omega) | exact dfI_by (by omega) _ | exact plusN_by (by omega) (timesP_by (by omega)) | exact dfI_by (by omega) 8) (by first | assumption | exact e8_by _ | exact By.z8 | exact hBd _ | exact hBt _ _ | exact tmJ_by (by omega) (tmI_by (by omega) _) _ | exact timesP_by (by omega) | exact dfI_by (by omega) _ | exact plusN_by (by omega) (timesP_by (by omega)) | exact dfI_by (by omega) 8) (by omega)) ?_
      intro v_ h9_24
      rintro ⟨rfl, e9_24⟩
      replace hb0_0 := BoxAt.ext hb0_0 e9_24
      have := Ext.size e9_24
      replace eB := Ext.trans eB e9_24
      replace cL2 := Ext.trans cL2 e9_24
      replace cL6 := Ext.trans cL6 e9_24
      try simp (disch := decide) only [outv_some, outv_none, put_puts]
      refine plK_pres (Ext.pres e9_24) ?_
      try simp -implicitDefEqProofs (disch := first | decide | assumption | omega) only [go_sem, wrap_id, cv_u8, cv_i64, Nat.zero_add, wrap_u8, eq_el, ne_el, build_el, Int.toNat_zero]
      refine hK _ _ ?_
      clear hK K
      refine den_cond rfl (fun c3 => ?_) (fun c3 => ?_)
      ·try simp only [decide_eq_true_eq, decide_eq_false_iff_not, beq_iff_eq, beq_eq_false_iff_ne, bne_iff_ne, ne_eq, Bool.not_eq_true', Bool.not_eq_false', Bool.and_eq_true, Bool.or_eq_true, bne_eq_false_iff_eq, Bool.not_eq_true, Bool.not_eq_false] at c3
       refine den_seq ?_
       refine den_region TTok ?_
       intro K hK
       simp -implicitDefEqProofs (disch := first | decide | assumption | omega) only [go_sem, wrap_id, cv_u8, cv_i64, Nat.zero_add, wrap_u8, eq_el, ne_el, build_el, Int.toNat_zero]
       refine hK _ _ ?_
       clear hK K
       refine den_ret ?_
       simp (disch := decide) only [resP_2, puts_same, puts_ne]
       rw [gcR_y c0, gcB_n (i := i) (j := j) (by omega) (by omega) (fun h => by have h2 := c3; unfold GcF at h; rw [h] at h2; cases h2)]
       exact ⟨by first | rfl | trivial, eB⟩
      ·try simp only [decide_eq_true_eq, decide_eq_false_iff_not, beq_iff_eq, beq_eq_false_iff_ne, bne_iff_ne, ne_eq, Bool.not_eq_true', Bool.not_eq_false', Bool.and_eq_true, Bool.or_eq_true, bne_eq_false_iff_eq, Bool.not_eq_true, Bool.not_eq_false] at c3
       refine den_skip ?_
       refine den_blk ?_
       refine den_region TTok ?_
       intro K hK
       simp -implicitDefEqProofs (disch := first | decide | assumption | omega) only [go_sem, wrap_id, cv_u8, cv_i64, Nat.zero_add, wrap_u8, eq_el, ne_el, build_el, Int.toNat_zero]
       refine hK _ _ ?_
       clear hK K
       refine den_stop ?_
       exact ⟨j + 1, by simp [HasL, puts_at], ⟨by first | omega | (dsimp only; omega), fun b hb => by
 by_cases hab : b < j
 ·exact hzj b hab
 ·have e : b = j := by omega
  subst e
  exact c3, cL6⟩, by first | omega | (dsimp only; omega)⟩
     ·try simp only [decide_eq_true_eq, decide_eq_false_iff_not, beq_iff_eq, beq_eq_false_iff_ne, bne_iff_ne, ne_eq, Bool.not_eq_true', Bool.not_eq_false', Bool.and_eq_true, Bool.or_eq_true, bne_eq_false_iff_eq, Bool.not_eq_true, Bool.not_eq_false] at c2
      refine den_exit ?_
      refine denX_code ?_
      refine denX_stop ?_
      refine denX_hit ?_
      refine den_blk ?_
      refine den_region TTok ?_
      intro K hK
      simp -implicitDefEqProofs (disch := first | decide | assumption | omega) only [go_sem, wrap_id, cv_u8, cv_i64, Nat.zero_add, wrap_u8, eq_el, ne_el, build_el, Int.toNat_zero]
      refine hK _ _ ?_
      clear hK K
      refine den_stop ?_
      exact ⟨i + 1, by simp [HasL, puts_at], ⟨by first | omega | (dsimp only; omega), fun a ha => by
 by_cases hai : a < i
 ·exact hz a hai
 ·have e : a = i := by omega
  subst e
  exact fun b hb => hzj b (by omega), cL2⟩, by first | omega | (dsimp only; omega)⟩
   ·try simp only [decide_eq_true_eq, decide_eq_false_iff_not, beq_iff_eq, beq_eq_false_iff_ne, bne_iff_ne, ne_eq, Bool.not_eq_true', Bool.not_eq_false', Bool.and_eq_true, Bool.or_eq_true, bne_eq_false_iff_eq, Bool.not_eq_true, Bool.not_eq_false] at c1
    refine den_exit ?_
    refine denX_code ?_
    refine denX_stop ?_
    refine denX_hit ?_
    refine den_seq ?_
    refine den_region TTok ?_
    intro K hK
    simp -implicitDefEqProofs (disch := first | decide | assumption | omega) only [go_sem, wrap_id, cv_u8, cv_i64, Nat.zero_add, wrap_u8, eq_el, ne_el, build_el, Int.toNat_zero]
    refine hK _ _ ?_
    clear hK K
    refine den_ret ?_
    simp (disch := decide) only [resP_2, puts_same, puts_ne]
    rw [gcR_y c0, gcB_y (fun i hi j hj => hz i (by omega) j hj)]
    exact ⟨by first | rfl | trivial, eB⟩

set_option maxRecDepth 100000 in
set_option maxHeartbeats 4000000 in
theorem sGc_ok (X : Dg) (h : Heap)  (hB : DgB X) (hfm : IsFm X) : CallA Try.prog 39 #[.agg (dgA X)] h fun v' h' => v' = .bool (gcB X) ∧ Ext h h' := by
 have hBd := hB.dif
 have hBt := hB.tab
 have hs8 := hfm.s
 have hpb := isP_bnd hfm.p
 have hpG : 0 < X.p ∧ X.p ≤ 7 := ⟨by omega, by omega⟩
 refine callA_intro TTok (args := [_]) Try.func39 (by kernel_rfl) rfl 48 rfl (by simp) [.tmp 2] rfl ?_
 simp only [idxs, Nat.reduceAdd]
 refine den_seq ?_
 refine den_region TTok ?_
 intro K hK
 simp -implicitDefEqProofs (disch := first | decide | assumption | omega) only [go_sem, wrap_id, cv_u8, cv_i64, Nat.zero_add, wrap_u8, eq_el, ne_el, build_el, Int.toNat_zero]
 refine op_box (cs := dgA X) rfl ?_
 intro h0_0 e0_0 hb0_0 z0_0
 have := Ext.size e0_0
 have eB := e0_0
 have hfhb0_0 : Fresh h.size [h.size] := Fresh.one _
 have hlhb0_0 := one_lt (show h.size < h0_0.size by omega)
 try simp -implicitDefEqProofs (disch := first | decide | assumption | omega) only [go_sem, wrap_id, cv_u8, cv_i64, Nat.zero_add, wrap_u8, eq_el, ne_el, build_el, Int.toNat_zero]
 refine hK _ _ ?_
 clear hK K
 refine den_seq ?_
 refine den_seq ?_
 refine den_region TTok ?_
 intro K hK
 simp -implicitDefEqProofs (disch := first | decide | assumption | omega) only [go_sem, wrap_id, cv_u8, cv_i64, Nat.zero_add, wrap_u8, eq_el, ne_el, build_el, Int.toNat_zero]
 refine hK _ _ ?_
 clear hK K
 refine den_block ?_
 refine den_sel [3, 1] ?_
 intro env_1
 simp only [go_sem]
 refine den_loopS (σ := Nat) (fun st_ => [(3, .int .i64 (st_ : Int))]) (fun st_ H => ((st_ : Int) ≤ X.s) ∧ (∀ a : Nat, a < st_ → ∀ b : Nat, (b : Int) < X.s → GcF X a b) ∧ (Ext h0_0 H)) (fun st_ => X.s.toNat - st_) 0 ?_ ?_
 ·exact ⟨by omega, fun a h => by omega, Ext.refl _⟩
 ·rintro i h4 ee3 ⟨hi, hz, cL2⟩
  replace hb0_0 := BoxAt.ext hb0_0 cL2
  have := Ext.size cL2
  replace eB := Ext.trans eB cL2
  simp only [List.cons_append, List.nil_append]
  refine den_seq ?_
  refine den_seq ?_
  refine den_region TTok ?_
  intro K hK
  simp -implicitDefEqProofs (disch := first | decide | assumption | omega) only [go_sem, fa34_1, ld2, BoxAt.dgL hb0_0, BoxAt.dgP hb0_0, BoxAt.dgS hb0_0, BoxAt.dgDeg hb0_0, BoxAt.dgLev hb0_0, BoxAt.dgDeg0 hb0_0, BoxAt.dgLev0 hb0_0, BoxAt.dgDifL hb0_0, BoxAt.dgTabL hb0_0, BoxAt.dgTabL0 hb0_0, BoxAt.dgTabL1 hb0_0, BoxAt.dgTabL1' hb0_0, BoxAt.dgDifB hb0_0, BoxAt.dgTabB hb0_0, wrap_id, cv_u8, cv_i64, Nat.zero_add, wrap_u8, eq_el, ne_el, build_el, Int.toNat_zero]
  refine hK _ _ ?_
  clear hK K
  refine den_cond rfl (fun c0 => ?_) (fun c0 => ?_)
  ·try simp only [decide_eq_true_eq, decide_eq_false_iff_not, beq_iff_eq, beq_eq_false_iff_ne, bne_iff_ne, ne_eq, Bool.not_eq_true', Bool.not_eq_false', Bool.and_eq_true, Bool.or_eq_true, bne_eq_false_iff_eq, Bool.not_eq_true, Bool.not_eq_false] at c0
   refine den_skip ?_
   refine den_seq ?_
   refine den_block ?_
   refine den_seq ?_
   refine den_region TTok ?_
   intro K hK
   simp -implicitDefEqProofs (disch := first | decide | assumption | omega) only [go_sem, wrap_id, cv_u8, cv_i64, Nat.zero_add, wrap_u8, eq_el, ne_el, build_el, Int.toNat_zero]
   refine hK _ _ ?_
   clear hK K
   refine den_block ?_
   refine den_sel [4, 1, 3] ?_
   intro env_5
   simp only [go_sem]
   refine den_loopS (σ := Nat) (fun st_ => [(4, .int .i64 (st_ : Int))]) (fun st_ H => ((st_ : Int) ≤ X.s) ∧ (∀ b : Nat, b < st_ → GcF X i b) ∧ (Ext h4 H)) (fun st_ => X.s.toNat - st_) 0 ?_ ?_
   ·exact ⟨by omega, fun b h => by omega, Ext.refl _⟩
   ·rintro j h8 ee7 ⟨hj, hzj, cL6⟩
    replace hb0_0 := BoxAt.ext hb0_0 cL6
    have := Ext.size cL6
    replace eB := Ext.trans eB cL6
    replace cL2 := Ext.trans cL2 cL6
    simp only [List.cons_append, List.nil_append]
    refine den_seq ?_
    refine den_seq ?_
    refine den_region TTok ?_
    intro K hK
    simp -implicitDefEqProofs (disch := first | decide | assumption | omega) only [go_sem, fa34_1, ld2, BoxAt.dgL hb0_0, BoxAt.dgP hb0_0, BoxAt.dgS hb0_0, BoxAt.dgDeg hb0_0, BoxAt.dgLev hb0_0, BoxAt.dgDeg0 hb0_0, BoxAt.dgLev0 hb0_0, BoxAt.dgDifL hb0_0, BoxAt.dgTabL hb0_0, BoxAt.dgTabL0 hb0_0, BoxAt.dgTabL1 hb0_0, BoxAt.dgTabL1' hb0_0, BoxAt.dgDifB hb0_0, BoxAt.dgTabB hb0_0, wrap_id, cv_u8, cv_i64, Nat.zero_add, wrap_u8, eq_el, ne_el, build_el, Int.toNat_zero]
    refine hK _ _ ?_
    clear hK K
    refine den_cond rfl (fun c1 => ?_) (fun c1 => ?_)
    ·try simp only [decide_eq_true_eq, decide_eq_false_iff_not, beq_iff_eq, beq_eq_false_iff_ne, bne_iff_ne, ne_eq, Bool.not_eq_true', Bool.not_eq_false', Bool.and_eq_true, Bool.or_eq_true, bne_eq_false_iff_eq, Bool.not_eq_true, Bool.not_eq_false] at c1
     refine den_skip ?_
     refine den_seq ?_
     refine den_block ?_
     refine den_seq ?_
     have hdi := (hfm.row i (by omega)).deg
     have hdj := (hfm.row j (by omega)).deg
     have hmul := mul25 hdi hdj
     have hsg := tmod_in (p := 2) (x := X.deg i * X.deg j) (by decide)
     refine den_draw TTok mixed [] [(0, true), (1, true), (2, true), (3, true), (4, true), (5, true), (6, true), (7, true), (8, true), (9, true), (10, true), (11, true), (12, true)] (by kernel_rfl) ?_
     intro K hK
     simp -implicitDefEqProofs (disch := first | decide | assumption | omega) only [go_sem, Int.toNat_zero, fa34_2, ia22, ld2, BoxAt.dgL hb0_0, BoxAt.dgP hb0_0, BoxAt.dgS hb0_0, BoxAt.dgDeg hb0_0, BoxAt.dgLev hb0_0, BoxAt.dgDeg0 hb0_0, BoxAt.dgLev0 hb0_0, BoxAt.dgDifL hb0_0, BoxAt.dgTabL hb0_0, BoxAt.dgTabL0 hb0_0, BoxAt.dgTabL1 hb0_0, BoxAt.dgTabL1' hb0_0, BoxAt.dgDifB hb0_0, BoxAt.dgTabB hb0_0, wrap_id, cv_u8, cv_i64, Nat.zero_add, wrap_u8, eq_el, ne_el, build_el, Int.toNat_zero]
     refine hK _ _ ?_
     clear hK K
     refine den_seq ?_
     have hsg := tmod_in (p := 2) (x := X.deg i * X.deg j) (by decide)
     refine den_draw TTok mixed [] [(0, true), (1, true), (2, true), (3, true), (4, true), (5, true), (6, true), (7, true), (8, true), (9, true), (10, true), (11, true), (12, true), (13, true), (14, true), (15, true), (16, false), (17, true)] (by kernel_rfl) ?_
     intro K hK
     simp -implicitDefEqProofs (disch := first | decide | assumption | omega) only [go_sem, Int.toNat_zero, fa34_0, fa34_5, ia32, ia31, ld2, BoxAt.dgL hb0_0, BoxAt.dgP hb0_0, BoxAt.dgS hb0_0, BoxAt.dgDeg hb0_0, BoxAt.dgLev hb0_0, BoxAt.dgDeg0 hb0_0, BoxAt.dgLev0 hb0_0, BoxAt.dgDifL hb0_0, BoxAt.dgTabL hb0_0, BoxAt.dgTabL0 hb0_0, BoxAt.dgTabL1 hb0_0, BoxAt.dgTabL1' hb0_0, BoxAt.dgDifB hb0_0, BoxAt.dgTabB hb0_0, wrap_id, cv_u8, cv_i64, Nat.zero_add, wrap_u8, eq_el, ne_el, build_el, Int.toNat_zero]
     try simp -implicitDefEqProofs (disch := first | decide | assumption | omega) only [go_sem, wrap_id, cv_u8, cv_i64, Nat.zero_add, wrap_u8, eq_el, ne_el, build_el, Int.toNat_zero]
     refine CallA.mono (sAdd8_ok  X.p z8 ((X.tab i) j) ((1 : Int) - ((2 : Int) * (Int.tmod ((X.deg i) * (X.deg j)) (2 : Int)))) _  hpG (by first | assumption | exact e8_by _ | exact By.z8 | exact hBd _ | exact hBt _ _ | exact tmJ_by (by omega) (tmI_by (by omega) _) _ | exact timesP_by (by omega) | exact dfI_by (by omega) _ | exact plusN_by (by omega) (timesP_by (by omega)) | exact dfI_by (by omega) 8) (by first | assumption | exact e8_by _ | exact By.z8 | exact hBd _ | exact hBt _ _ | exact tmJ_by (by omega) (tmI_by (by omega) _) _ | exact timesP_by (by omega) | exact dfI_by (by omega) _ | exact plusN_by (by omega) (timesP_by (by omega)) | exact dfI_by (by omega) 8) (by omega)) ?_
     intro v_ h8_16
     rintro ⟨rfl, e8_16⟩
     replace hb0_0 := BoxAt.ext hb0_0 e8_16
     have := Ext.size e8_16
     replace eB := Ext.trans eB e8_16
     replace cL2 := Ext.trans cL2 e8_16
     replace cL6 := Ext.trans cL6 e8_16
     try simp (disch := decide) only [outv_some, outv_none, put_puts]
     refine plK_pres (Ext.pres e8_16) ?_
     try simp -implicitDefEqProofs (disch := first | decide | assumption | omega) only [go_sem, wrap_id, cv_u8, cv_i64, Nat.zero_add, wrap_u8, eq_el, ne_el, build_el, Int.toNat_zero]
     refine hK _ _ ?_
     clear hK K
     refine den_cond rfl (fun c2 => ?_) (fun c2 => ?_)
     ·try simp only [decide_eq_true_eq, decide_eq_false_iff_not, beq_iff_eq, beq_eq_false_iff_ne, bne_iff_ne, ne_eq, Bool.not_eq_true', Bool.not_eq_false', Bool.and_eq_true, Bool.or_eq_true, bne_eq_false_iff_eq, Bool.not_eq_true, Bool.not_eq_false] at c2
      refine den_seq ?_
      refine den_region TTok ?_
      intro K hK
      simp -implicitDefEqProofs (disch := first | decide | assumption | omega) only [go_sem, wrap_id, cv_u8, cv_i64, Nat.zero_add, wrap_u8, eq_el, ne_el, build_el, Int.toNat_zero]
      refine hK _ _ ?_
      clear hK K
      refine den_ret ?_
      simp (disch := decide) only [resP_1, puts_same, puts_ne]
      rw [gcB_n (i := i) (j := j) (by omega) (by omega) (fun h => by have h2 := c2; unfold GcF at h; rw [Int.mul_comm _ 2] at h; rw [h] at h2; cases h2)]
      exact ⟨by first | rfl | trivial, eB⟩
     ·try simp only [decide_eq_true_eq, decide_eq_false_iff_not, beq_iff_eq, beq_eq_false_iff_ne, bne_iff_ne, ne_eq, Bool.not_eq_true', Bool.not_eq_false', Bool.and_eq_true, Bool.or_eq_true, bne_eq_false_iff_eq, Bool.not_eq_true, Bool.not_eq_false] at c2
      refine den_skip ?_
      refine den_blk ?_
      refine den_region TTok ?_
      intro K hK
      simp -implicitDefEqProofs (disch := first | decide | assumption | omega) only [go_sem, wrap_id, cv_u8, cv_i64, Nat.zero_add, wrap_u8, eq_el, ne_el, build_el, Int.toNat_zero]
      refine hK _ _ ?_
      clear hK K
      refine den_stop ?_
      exact ⟨j + 1, by simp [HasL, puts_at], ⟨by first | omega | (dsimp only; omega), fun b hb => by
 by_cases hab : b < j
 ·exact hzj b hab
 ·have e : b = j := by omega
  subst e
  exact (by unfold GcF; rw [Int.mul_comm _ 2]; exact c2), cL6⟩, by first | omega | (dsimp only; omega)⟩
    ·try simp only [decide_eq_true_eq, decide_eq_false_iff_not, beq_iff_eq, beq_eq_false_iff_ne, bne_iff_ne, ne_eq, Bool.not_eq_true', Bool.not_eq_false', Bool.and_eq_true, Bool.or_eq_true, bne_eq_false_iff_eq, Bool.not_eq_true, Bool.not_eq_false] at c1
     refine den_exit ?_
     refine denX_code ?_
     refine denX_stop ?_
     refine denX_hit ?_
     refine den_blk ?_
     refine den_region TTok ?_
     intro K hK
     simp -implicitDefEqProofs (disch := first | decide | assumption | omega) only [go_sem, wrap_id, cv_u8, cv_i64, Nat.zero_add, wrap_u8, eq_el, ne_el, build_el, Int.toNat_zero]
     refine hK _ _ ?_
     clear hK K
     refine den_stop ?_
     exact ⟨i + 1, by simp [HasL, puts_at], ⟨by first | omega | (dsimp only; omega), fun a ha => by
 by_cases hai : a < i
 ·exact hz a hai
 ·have e : a = i := by omega
  subst e
  exact fun b hb => hzj b (by omega), cL2⟩, by first | omega | (dsimp only; omega)⟩
  ·try simp only [decide_eq_true_eq, decide_eq_false_iff_not, beq_iff_eq, beq_eq_false_iff_ne, bne_iff_ne, ne_eq, Bool.not_eq_true', Bool.not_eq_false', Bool.and_eq_true, Bool.or_eq_true, bne_eq_false_iff_eq, Bool.not_eq_true, Bool.not_eq_false] at c0
   refine den_exit ?_
   refine denX_code ?_
   refine denX_stop ?_
   refine denX_hit ?_
   refine den_seq ?_
   refine den_region TTok ?_
   intro K hK
   simp -implicitDefEqProofs (disch := first | decide | assumption | omega) only [go_sem, wrap_id, cv_u8, cv_i64, Nat.zero_add, wrap_u8, eq_el, ne_el, build_el, Int.toNat_zero]
   refine hK _ _ ?_
   clear hK K
   refine den_ret ?_
   simp (disch := decide) only [resP_1, puts_same, puts_ne]
   rw [gcB_y (fun i hi j hj => hz i (by omega) j hj)]
   exact ⟨by first | rfl | trivial, eB⟩

set_option maxRecDepth 100000 in
theorem sCd_ok (X : Dg) (h : Heap) (hB : DgB X) : CallA Try.prog 38 #[.agg (dgA X), .slice none 0 0] h fun v' h' => v' = .int .i64 (if dgB X = true then 0 else 1) ∧ Ext h h' := by
 refine callA_intro TTok (args := [_, _]) Try.func38 (by kernel_rfl) rfl 25 rfl (by simp) [.tmp 4] rfl ?_
 simp only [idxs, Nat.reduceAdd]
 refine den_seq ?_
 refine den_region TTok ?_
 intro K hK
 simp -implicitDefEqProofs (disch := first | decide | assumption | omega) only [go_sem, wrap_id, lenNE, cv_u8, cv_i64, Nat.zero_add, wrap_u8, eq_el, ne_el, build_el, Int.toNat_zero]
 refine op_box (cs := dgA X) rfl ?_
 intro h0_0 e0_0 hb0_0 z0_0
 have := Ext.size e0_0
 have eB := e0_0
 have hfhb0_0 : Fresh h.size [h.size] := Fresh.one _
 have hlhb0_0 := one_lt (show h.size < h0_0.size by omega)
 try simp -implicitDefEqProofs (disch := first | decide | assumption | omega) only [go_sem, wrap_id, lenNE, cv_u8, cv_i64, Nat.zero_add, wrap_u8, eq_el, ne_el, build_el, Int.toNat_zero]
 refine hK _ _ ?_
 clear hK K
 refine den_seq ?_
 refine den_seq ?_
 refine den_region TTok ?_
 intro K hK
 simp -implicitDefEqProofs (disch := first | decide | assumption | omega) only [go_sem, BoxAt.dgL hb0_0, BoxAt.dgP hb0_0, BoxAt.dgS hb0_0, BoxAt.dgDeg hb0_0, BoxAt.dgLev hb0_0, BoxAt.dgDeg0 hb0_0, BoxAt.dgLev0 hb0_0, BoxAt.dgDifL hb0_0, BoxAt.dgTabL hb0_0, BoxAt.dgTabL0 hb0_0, BoxAt.dgTabL1 hb0_0, BoxAt.dgTabL1' hb0_0, BoxAt.dgDifB hb0_0, BoxAt.dgTabB hb0_0, wrap_id, lenNE, cv_u8, cv_i64, Nat.zero_add, wrap_u8, eq_el, ne_el, build_el, Int.toNat_zero]
 try simp -implicitDefEqProofs (disch := first | decide | assumption | omega) only [go_sem, wrap_id, lenNE, cv_u8, cv_i64, Nat.zero_add, wrap_u8, eq_el, ne_el, build_el, Int.toNat_zero]
 refine CallA.mono (sDg_ok  X _  hB) ?_
 intro v_ h1_1
 rintro ⟨rfl, e1_1⟩
 replace hb0_0 := BoxAt.ext hb0_0 e1_1
 have := Ext.size e1_1
 replace eB := Ext.trans eB e1_1
 try simp -implicitDefEqProofs (disch := first | decide | assumption | omega) only [go_sem, wrap_id, lenNE, cv_u8, cv_i64, Nat.zero_add, wrap_u8, eq_el, ne_el, build_el, Int.toNat_zero]
 refine hK _ _ ?_
 clear hK K
 refine den_cond rfl (fun c0 => ?_) (fun c0 => ?_)
 ·try simp only [decide_eq_true_eq, decide_eq_false_iff_not, beq_iff_eq, beq_eq_false_iff_ne, bne_iff_ne, ne_eq, Bool.not_eq_true', Bool.not_eq_false', Bool.and_eq_true, Bool.or_eq_true, bne_eq_false_iff_eq, Bool.not_eq_true, Bool.not_eq_false] at c0
  refine den_seq ?_
  refine den_region TTok ?_
  intro K hK
  simp -implicitDefEqProofs (disch := first | decide | assumption | omega) only [go_sem, wrap_id, lenNE, cv_u8, cv_i64, Nat.zero_add, wrap_u8, eq_el, ne_el, build_el, Int.toNat_zero]
  refine hK _ _ ?_
  clear hK K
  refine den_ret ?_
  simp (disch := decide) only [resP_1, puts_same, puts_ne]
  exact ⟨by rw [if_neg (by rw [c0]; decide)], eB⟩
 ·try simp only [decide_eq_true_eq, decide_eq_false_iff_not, beq_iff_eq, beq_eq_false_iff_ne, bne_iff_ne, ne_eq, Bool.not_eq_true', Bool.not_eq_false', Bool.and_eq_true, Bool.or_eq_true, bne_eq_false_iff_eq, Bool.not_eq_true, Bool.not_eq_false] at c0
  refine den_skip ?_
  refine den_seq ?_
  refine den_seq ?_
  refine den_region TTok ?_
  intro K hK
  simp -implicitDefEqProofs (disch := first | decide | assumption | omega) only [go_sem, wrap_id, lenNE, cv_u8, cv_i64, Nat.zero_add, wrap_u8, eq_el, ne_el, build_el, Int.toNat_zero]
  refine hK _ _ ?_
  clear hK K
  refine den_block ?_
  refine den_sel [5, 1, 2] ?_
  intro env_1
  simp only [go_sem]
  refine den_loopS (σ := Nat) (fun st_ => [(5, .int .i64 (st_ : Int))]) (fun st_ H => (st_ = 0) ∧ (Ext h1_1 H)) (fun st_ => 0) 0 ?_ ?_
  ·exact ⟨by first | (simp; done) | (dsimp only; omega) | (simp; omega), Ext.refl _⟩
  ·rintro k h4 ee3 ⟨hi0, cL2⟩
   replace hb0_0 := BoxAt.ext hb0_0 cL2
   have := Ext.size cL2
   replace eB := Ext.trans eB cL2
   simp only [List.cons_append, List.nil_append]
   refine den_seq ?_
   refine den_seq ?_
   refine den_region TTok ?_
   intro K hK
   simp -implicitDefEqProofs (disch := first | decide | assumption | omega) only [go_sem, wrap_id, lenNE, cv_u8, cv_i64, Nat.zero_add, wrap_u8, eq_el, ne_el, build_el, Int.toNat_zero]
   refine hK _ _ ?_
   clear hK K
   refine den_cond rfl (fun c1 => ?_) (fun c1 => ?_)
   ·try simp only [decide_eq_true_eq, decide_eq_false_iff_not, beq_iff_eq, beq_eq_false_iff_ne, bne_iff_ne, ne_eq, Bool.not_eq_true', Bool.not_eq_false', Bool.and_eq_true, Bool.or_eq_true, bne_eq_false_iff_eq, Bool.not_eq_true, Bool.not_eq_false] at c1
    exact absurd c1 (by omega)
   ·try simp only [decide_eq_true_eq, decide_eq_false_iff_not, beq_iff_eq, beq_eq_false_iff_ne, bne_iff_ne, ne_eq, Bool.not_eq_true', Bool.not_eq_false', Bool.and_eq_true, Bool.or_eq_true, bne_eq_false_iff_eq, Bool.not_eq_true, Bool.not_eq_false] at c1
    refine den_exit ?_
    refine denX_code ?_
    refine denX_stop ?_
    refine denX_hit ?_
    refine den_seq ?_
    refine den_region TTok ?_
    intro K hK
    simp -implicitDefEqProofs (disch := first | decide | assumption | omega) only [go_sem, wrap_id, lenNE, cv_u8, cv_i64, Nat.zero_add, wrap_u8, eq_el, ne_el, build_el, Int.toNat_zero]
    refine hK _ _ ?_
    clear hK K
    refine den_ret ?_
    simp (disch := decide) only [resP_1, puts_same, puts_ne]
    exact ⟨by rw [if_pos c0], eB⟩

set_option maxRecDepth 100000 in
set_option maxHeartbeats 4000000 in
theorem sGC_ok (X : Dg) (h : Heap)  (hB : DgB X) : CallA Try.prog 8 #[.agg (dgA X)] h fun v' h' => v' = .tuple #[.bool ((gcR X).1), .int .i64 ((gcR X).2)] ∧ Ext h h' := by
 refine callA_intro TTok (args := [_]) Try.func8 (by kernel_rfl) rfl 12 rfl (by simp) [.tmp 2, .tmp 3] rfl ?_
 simp only [idxs, Nat.reduceAdd]
 refine den_seq ?_
 refine den_region TTok ?_
 intro K hK
 simp -implicitDefEqProofs (disch := first | decide | assumption | omega) only [go_sem, wrap_id, cv_u8, cv_i64, Nat.zero_add, wrap_u8, eq_el, ne_el, build_el, Int.toNat_zero]
 refine op_box (cs := dgA X) rfl ?_
 intro h0_0 e0_0 hb0_0 z0_0
 have := Ext.size e0_0
 have eB := e0_0
 have hfhb0_0 : Fresh h.size [h.size] := Fresh.one _
 have hlhb0_0 := one_lt (show h.size < h0_0.size by omega)
 try simp -implicitDefEqProofs (disch := first | decide | assumption | omega) only [go_sem, wrap_id, cv_u8, cv_i64, Nat.zero_add, wrap_u8, eq_el, ne_el, build_el, Int.toNat_zero]
 refine hK _ _ ?_
 clear hK K
 refine den_seq ?_
 refine den_seq ?_
 refine den_region TTok ?_
 intro K hK
 simp -implicitDefEqProofs (disch := first | decide | assumption | omega) only [go_sem, BoxAt.dgL hb0_0, BoxAt.dgP hb0_0, BoxAt.dgS hb0_0, BoxAt.dgDeg hb0_0, BoxAt.dgLev hb0_0, BoxAt.dgDeg0 hb0_0, BoxAt.dgLev0 hb0_0, BoxAt.dgDifL hb0_0, BoxAt.dgTabL hb0_0, BoxAt.dgTabL0 hb0_0, BoxAt.dgTabL1 hb0_0, BoxAt.dgTabL1' hb0_0, BoxAt.dgDifB hb0_0, BoxAt.dgTabB hb0_0, wrap_id, cv_u8, cv_i64, Nat.zero_add, wrap_u8, eq_el, ne_el, build_el, Int.toNat_zero]
 try simp -implicitDefEqProofs (disch := first | decide | assumption | omega) only [go_sem, wrap_id, cv_u8, cv_i64, Nat.zero_add, wrap_u8, eq_el, ne_el, build_el, Int.toNat_zero]
 refine CallA.mono (sCd_ok X _ hB) ?_
 intro v_ h1_1
 rintro ⟨rfl, e1_1⟩
 replace hb0_0 := BoxAt.ext hb0_0 e1_1
 have := Ext.size e1_1
 replace eB := Ext.trans eB e1_1
 try simp -implicitDefEqProofs (disch := first | decide | assumption | omega) only [go_sem, wrap_id, cv_u8, cv_i64, Nat.zero_add, wrap_u8, eq_el, ne_el, build_el, Int.toNat_zero]
 refine hK _ _ ?_
 clear hK K
 refine den_seq ?_
 refine den_region TTok ?_
 intro K hK
 simp -implicitDefEqProofs (disch := first | decide | assumption | omega) only [go_sem, wrap_id, cv_u8, cv_i64, Nat.zero_add, wrap_u8, eq_el, ne_el, build_el, Int.toNat_zero]
 refine hK _ _ ?_
 clear hK K
 refine den_cond rfl (fun c0 => ?_) (fun c0 => ?_)
 ·try simp only [decide_eq_true_eq, decide_eq_false_iff_not, beq_iff_eq, beq_eq_false_iff_ne, bne_iff_ne, ne_eq, Bool.not_eq_true', Bool.not_eq_false', Bool.and_eq_true, Bool.or_eq_true, bne_eq_false_iff_eq, Bool.not_eq_true, Bool.not_eq_false] at c0
  refine den_seq ?_
  refine den_region TTok ?_
  intro K hK
  simp -implicitDefEqProofs (disch := first | decide | assumption | omega) only [go_sem, wrap_id, cv_u8, cv_i64, Nat.zero_add, wrap_u8, eq_el, ne_el, build_el, Int.toNat_zero]
  refine hK _ _ ?_
  clear hK K
  refine den_ret ?_
  simp (disch := decide) only [resP_2, puts_same, puts_ne]
  have hq : ¬ dgB X = true := fun hq => by rw [if_pos hq] at c0; exact c0 rfl
  rw [gcR_n hq, if_neg hq]
  exact ⟨by first | rfl | trivial, eB⟩
 ·try simp only [decide_eq_true_eq, decide_eq_false_iff_not, beq_iff_eq, beq_eq_false_iff_ne, bne_iff_ne, ne_eq, Bool.not_eq_true', Bool.not_eq_false', Bool.and_eq_true, Bool.or_eq_true, bne_eq_false_iff_eq, Bool.not_eq_true, Bool.not_eq_false] at c0
  have hdb : dgB X = true := by
   by_cases hq : dgB X = true
   ·exact hq
   ·rw [if_neg hq] at c0; exact absurd c0 (by decide)
  have hfm := (dgB_t.1 hdb).fm
  refine den_skip ?_
  refine den_seq ?_
  refine den_region TTok ?_
  intro K hK
  simp -implicitDefEqProofs (disch := first | decide | assumption | omega) only [go_sem, BoxAt.dgL hb0_0, BoxAt.dgP hb0_0, BoxAt.dgS hb0_0, BoxAt.dgDeg hb0_0, BoxAt.dgLev hb0_0, BoxAt.dgDeg0 hb0_0, BoxAt.dgLev0 hb0_0, BoxAt.dgDifL hb0_0, BoxAt.dgTabL hb0_0, BoxAt.dgTabL0 hb0_0, BoxAt.dgTabL1 hb0_0, BoxAt.dgTabL1' hb0_0, BoxAt.dgDifB hb0_0, BoxAt.dgTabB hb0_0, wrap_id, cv_u8, cv_i64, Nat.zero_add, wrap_u8, eq_el, ne_el, build_el, Int.toNat_zero]
  try simp -implicitDefEqProofs (disch := first | decide | assumption | omega) only [go_sem, wrap_id, cv_u8, cv_i64, Nat.zero_add, wrap_u8, eq_el, ne_el, build_el, Int.toNat_zero]
  refine CallA.mono (sGc_ok  X _  hB hfm) ?_
  intro v_ h4_1
  rintro ⟨rfl, e4_1⟩
  replace hb0_0 := BoxAt.ext hb0_0 e4_1
  have := Ext.size e4_1
  replace eB := Ext.trans eB e4_1
  try simp -implicitDefEqProofs (disch := first | decide | assumption | omega) only [go_sem, wrap_id, cv_u8, cv_i64, Nat.zero_add, wrap_u8, eq_el, ne_el, build_el, Int.toNat_zero]
  refine hK _ _ ?_
  clear hK K
  refine den_ret ?_
  simp (disch := decide) only [resP_2, puts_same, puts_ne]
  rw [gcR_y hdb]
  exact ⟨by first | rfl | trivial, eB⟩
end Go.Proofs.Ytacajcjibhifmaa

namespace Go.Proofs.Ytacajcjibhifmaa
open Go
def in8A (u : Nat → Int) : Array Value := Array.ofFn (n := 8) fun i => .int .i64 (u i)
def el8A (f : Nat → Nat → Int) : Array Value := Array.ofFn (n := 64) fun i => .int .u8 (f (i / 8) (i % 8))
def el88A (f : Nat → Nat → Nat → Int) : Array Value := Array.ofFn (n := 512) fun i => .int .u8 (f (i / 64) (i / 8 % 8) (i % 8))
def z64 : Nat → Nat → Int := fun _ => z8
def z512 : Nat → Nat → Nat → Int := fun _ => z64
def dgZ : Dg := ⟨0, 0, z8, z8, z64, z512⟩
def updF {α : Type} (f : Nat → α) (i : Nat) (x : α) : Nat → α := fun k => if k = i then x else f k
theorem in8_at {u : Nat → Int} {i : Nat} (h : i < 8) : (in8A u)[i]? = some (.int .i64 (u i)) := by rw [in8A, Array.getElem?_ofFn, dif_pos h]
theorem el8_at {f : Nat → Nat → Int} {o : Nat} (h : o < 64) : (el8A f)[o]? = some (.int .u8 (f (o / 8) (o % 8))) := by rw [el8A, Array.getElem?_ofFn, dif_pos h]
theorem el88_at {f : Nat → Nat → Nat → Int} {o : Nat} (h : o < 512) : (el88A f)[o]? = some (.int .u8 (f (o / 64) (o / 8 % 8) (o % 8))) := by rw [el88A, Array.getElem?_ofFn, dif_pos h]
theorem ofFn_one {n : Nat} {f : Fin n → Value} (h : ∀ i, (f i).oneCell' = true) : ∀ v ∈ (Array.ofFn f).toList, v.oneCell' = true := by
 intro v hv
 rw [Array.mem_toList_iff, Array.mem_ofFn] at hv
 obtain ⟨i, rfl⟩ := hv
 exact h i
theorem splice_at {l vs : List Value} {o m : Nat} (hm : vs.length = m) (hl : o + m ≤ l.length) (q : Nat) : (l.take o ++ vs ++ l.drop (o + m))[q]? = if q < o then l[q]? else if q < o + m then vs[q - o]? else l[q]? := by
 have h1 : (l.take o).length = o := by rw [List.length_take]; omega
 by_cases h : q < o
 ·rw [if_pos h, List.append_assoc, List.getElem?_append_left (by omega), List.getElem?_take, if_pos h]
 ·rw [if_neg h]
  by_cases h2 : q < o + m
  ·rw [if_pos h2, List.append_assoc, List.getElem?_append_right (by omega), h1, List.getElem?_append_left (by omega)]
  ·rw [if_neg h2, List.getElem?_append_right (by rw [List.length_append]; omega), List.getElem?_drop, List.length_append, h1, hm]
   congr 1; omega
/-- What a store leaves, cell by cell. -/
theorem splice_eq {cs vs cs' : Array Value} {o m : Nat} (hm : vs.size = m) (hl : o + m ≤ cs.size) (h : ∀ q : Nat, (if q < o then cs[q]? else if q < o + m then vs[q - o]? else cs[q]?) = cs'[q]?) : (cs.toList.take o ++ vs.toList ++ cs.toList.drop (o + m)).toArray = cs' := by
 refine Array.ext_getElem? fun q => ?_
 rw [List.getElem?_toArray, splice_at (by simpa using hm) (by simpa using hl), ← h q]
 simp only [Array.getElem?_toList]
section
variable {h : Heap} {b : Nat} {cs : Array Value} {t tb : TypeId}
theorem ldArr {n : Nat} (hl : ∀ (h : Heap) (a : Addr), loadV TT h t a = (hcells h a 0 n).map fun cs => .agg cs.toArray) (hb : BoxAt h b cs tb) (f : Nat → Value) (o : Nat) (hf : ∀ q, q < n → cs[o + q]? = some (f q)) : loadV TT h t ⟨b, o, none⟩ = some (.agg (Array.ofFn (n := n) fun q => f q)) := by
 rw [hl, hcells_arr hb f o n 0 (fun q _ h2 => hf q (by omega)), Option.map_some]
 refine congrArg (fun z => some (Value.agg z)) (Array.ext_getElem? fun q => ?_)
 rw [Array.getElem?_ofFn, List.getElem?_toArray, List.getElem?_map]
 by_cases hq : q < n
 ·rw [dif_pos hq, List.getElem?_range' hq, Option.map_some]
  simp
 ·rw [dif_neg hq, List.getElem?_eq_none (by rw [List.length_range']; omega)]; rfl
end
/-! An algebra as an argument. -/
theorem get_1 {l : List Value} {i : Nat} {v : Value} (h : (l.drop i).take 1 = [v]) : l[i]? = some v := by
 have : ((l.drop i).take 1)[0]? = some v := by rw [h]; rfl
 rw [List.getElem?_take, if_pos (by omega), List.getElem?_drop] at this
 exact this
theorem get_sub {l : List Value} {a m i : Nat} {v : Value} (h : ((l.drop a).take m)[i]? = some v) : l[a + i]? = some v := by
 rw [List.getElem?_take] at h
 split at h
 ·rwa [List.getElem?_drop] at h
 ·cases h
theorem pick8 {α : Type} (d : α) {Q : Nat → α → Prop} (h : ∀ i, i < 8 → ∃ a, Q i a) : ∃ f : Nat → α, (∀ i, i < 8 → Q i (f i)) ∧ ∀ i, ¬ i < 8 → f i = d :=
 ⟨fun i => if hi : i < 8 then Classical.choose (h i hi) else d, fun i hi => by dsimp only; rw [dif_pos hi]; exact Classical.choose_spec (h i hi), fun i hi => by dsimp only; rw [dif_neg hi]⟩
theorem wf_u8 {n : Int} (h : (Lit.int .u8 n).wf = true) : 0 ≤ n ∧ n ≤ 255 := by
 simp [Lit.wf, IntKind.min, IntKind.max, IntKind.signed, IntKind.bits] at h
 omega
theorem wf_i64 {n : Int} (h : (Lit.int .i64 n).wf = true) : -9223372036854775808 ≤ n ∧ n ≤ 9223372036854775807 := by
 simp [Lit.wf, IntKind.min, IntKind.max, IntKind.signed, IntKind.bits] at h
 omega
section
variable {H : Type} {enc : TypeId × Value → H} {w : World} {base : Nat} {spare : Nat → Bool} {held : Bool} {fuel : Nat} {cs : List Value} {x : DataW H × List MemPlace}
theorem op_in8 (h : DataW.trod enc Try.prog w base spare held fuel 22 cs = some x) : ∃ u : Nat → Int, (∀ i, i < 8 → cs[i]? = some (.int .i64 (u i))) ∧ ∀ i, -9223372036854775808 ≤ u i ∧ u i ≤ 9223372036854775807 := by
 obtain ⟨xs, m, _, _, _, hl, hel⟩ := DataW.trod_array Try.underlying22 h
 have hc : Try.prog.cellsOf 2 = 1 := by kernel_rfl
 obtain ⟨u, hu, hu2⟩ := pick8 (0 : Int) (Q := fun i a => cs[i]? = some (.int .i64 a) ∧ -9223372036854775808 ≤ a ∧ a ≤ 9223372036854775807) (fun i hi => by
  have h1 := hel i hi
  rw [hc, Nat.mul_one, List.getElem?_eq_getElem (by omega)] at h1
  obtain ⟨n, e, _, hw⟩ := DataW.trod_int Try.underlying2 h1
  exact ⟨n, get_1 e, wf_i64 hw⟩)
 refine ⟨u, fun i hi => (hu i hi).1, fun i => ?_⟩
 by_cases hi : i < 8
 ·exact (hu i hi).2
 ·rw [hu2 i hi]; omega
theorem op_el (h : DataW.trod enc Try.prog w base spare held fuel 23 cs = some x) : ∃ u : Nat → Int, (∀ i, i < 8 → cs[i]? = some (.int .u8 (u i))) ∧ By u := by
 obtain ⟨xs, m, _, _, _, hl, hel⟩ := DataW.trod_array Try.underlying23 h
 have hc : Try.prog.cellsOf 5 = 1 := by kernel_rfl
 obtain ⟨u, hu, hu2⟩ := pick8 (0 : Int) (Q := fun i a => cs[i]? = some (.int .u8 a) ∧ 0 ≤ a ∧ a ≤ 255) (fun i hi => by
  have h1 := hel i hi
  rw [hc, Nat.mul_one, List.getElem?_eq_getElem (by omega)] at h1
  obtain ⟨n, e, _, hw⟩ := DataW.trod_int Try.underlying5 h1
  exact ⟨n, get_1 e, wf_u8 hw⟩)
 refine ⟨u, fun i hi => (hu i hi).1, fun i => ?_⟩
 by_cases hi : i < 8
 ·exact (hu i hi).2
 ·rw [hu2 i hi]; omega
theorem op_el8 (h : DataW.trod enc Try.prog w base spare held fuel 24 cs = some x) : ∃ f : Nat → Nat → Int, (∀ i, i < 8 → ∀ k, k < 8 → cs[i * 8 + k]? = some (.int .u8 (f i k))) ∧ ∀ i, By (f i) := by
 obtain ⟨xs, m, _, _, _, hl, hel⟩ := DataW.trod_array Try.underlying24 h
 have hc : Try.prog.cellsOf 23 = 8 := by kernel_rfl
 obtain ⟨f, hu, hu2⟩ := pick8 z8 (Q := fun i a => (∀ k, k < 8 → cs[i * 8 + k]? = some (.int .u8 (a k))) ∧ By a) (fun i hi => by
  have h1 := hel i hi
  rw [hc, List.getElem?_eq_getElem (by omega)] at h1
  obtain ⟨u, e, hb⟩ := op_el h1
  exact ⟨u, fun k hk => get_sub (e k hk), hb⟩)
 refine ⟨f, fun i hi => (hu i hi).1, fun i => ?_⟩
 by_cases hi : i < 8
 ·exact (hu i hi).2
 ·rw [hu2 i hi]; exact By.z8
theorem op_el88 (h : DataW.trod enc Try.prog w base spare held fuel 25 cs = some x) : ∃ f : Nat → Nat → Nat → Int, (∀ i, i < 8 → ∀ j, j < 8 → ∀ k, k < 8 → cs[i * 64 + (j * 8 + k)]? = some (.int .u8 (f i j k))) ∧ ∀ i j, By (f i j) := by
 obtain ⟨xs, m, _, _, _, hl, hel⟩ := DataW.trod_array Try.underlying25 h
 have hc : Try.prog.cellsOf 24 = 64 := by kernel_rfl
 obtain ⟨f, hu, hu2⟩ := pick8 z64 (Q := fun i a => (∀ j, j < 8 → ∀ k, k < 8 → cs[i * 64 + (j * 8 + k)]? = some (.int .u8 (a j k))) ∧ ∀ j, By (a j)) (fun i hi => by
  have h1 := hel i hi
  rw [hc, List.getElem?_eq_getElem (by omega)] at h1
  obtain ⟨u, e, hb⟩ := op_el8 h1
  exact ⟨u, fun j hj k hk => get_sub (e j hj k hk), hb⟩)
 refine ⟨f, fun i hi => (hu i hi).1, fun i => ?_⟩
 by_cases hi : i < 8
 ·exact (hu i hi).2
 ·rw [hu2 i hi]; exact fun _ => By.z8
end
set_option maxRecDepth 100000 in
theorem open_dga {H : Type} {enc : TypeId × Value → H} {w : World} {base : Nat} {spare : Nat → Bool} {held : Bool} {r : Reach} {b0 : Nat} {v : Value} {d : DataW H} {p : List MemPlace}
  (hv : Value.okWide Try.prog w r b0 27 v) (h : DataW.Trod enc Try.prog w base spare held 27 v d p) : ∃ X, v = .agg (dgA X) ∧ DgB X := by
 obtain ⟨cs, rfl, hsz⟩ := Go.WideShapes.okWide_struct Try.underlying27 hv
 have hc : Try.prog.cellsOf 27 = 594 := by kernel_rfl
 rw [hc] at hsz
 obtain ⟨fuel, hf⟩ := h
 obtain ⟨xs, n, _, _, _, hl, hg⟩ := DataW.trod_struct Try.underlying27 hf
 have k1 : Try.prog.cellsOf 2 = 1 := by kernel_rfl
 have k2 : Try.prog.cellsOf 22 = 8 := by kernel_rfl
 have k3 : Try.prog.cellsOf 24 = 64 := by kernel_rfl
 have k4 : Try.prog.cellsOf 25 = 512 := by kernel_rfl
 have hn : ∀ q, q < 6 → ∃ y, xs[q]? = some y := fun q hq => ⟨_, List.getElem?_eq_getElem (by rw [hl]; exact hq)⟩
 obtain ⟨y0, e0⟩ := hn 0 (by decide)
 obtain ⟨y1, e1⟩ := hn 1 (by decide)
 obtain ⟨y2, e2⟩ := hn 2 (by decide)
 obtain ⟨y3, e3⟩ := hn 3 (by decide)
 obtain ⟨y4, e4⟩ := hn 4 (by decide)
 obtain ⟨y5, e5⟩ := hn 5 (by decide)
 have g0 := hg 0 _ rfl
 have g1 := hg 1 _ rfl
 have g2_ := hg 2 _ rfl
 have g3 := hg 3 _ rfl
 have g4 := hg 4 _ rfl
 have g5 := hg 5 _ rfl
 simp only [k1, k2, k3, k4, Value.cells, e0, e1, e2, e3, e4, e5] at g0 g1 g2_ g3 g4 g5
 obtain ⟨a0, q0, _, _⟩ := DataW.trod_int Try.underlying2 g0
 obtain ⟨a1, q1, _, _⟩ := DataW.trod_int Try.underlying2 g1
 obtain ⟨a2, q2, b2⟩ := op_in8 g2_
 obtain ⟨a3, q3, b3⟩ := op_in8 g3
 obtain ⟨a4, q4, b4⟩ := op_el8 g4
 obtain ⟨a5, q5, b5⟩ := op_el88 g5
 refine ⟨⟨a0, a1, a2, a3, a4, a5⟩, congrArg Value.agg (Array.ext_getElem? fun o => ?_), ⟨b4, b5, b2, b3⟩⟩
 by_cases ho : o < 594
 ·rw [dgA_at ho, ← Array.getElem?_toList]
  unfold dgF
  split
  ·rename_i h; subst h; exact get_1 q0
  ·split
   ·rename_i h; subst h; exact get_1 q1
   ·split
    ·have this : cs.toList[2 + (o - 2)]? = some (.int .i64 (a2 (o - 2))) := get_sub (q2 (o - 2) (by omega)); rwa [show 2 + (o - 2) = o by omega] at this
    ·split
     ·have this : cs.toList[10 + (o - 10)]? = some (.int .i64 (a3 (o - 10))) := get_sub (q3 (o - 10) (by omega)); rwa [show 10 + (o - 10) = o by omega] at this
     ·split
      ·have this : cs.toList[18 + ((o - 18) / 8 * 8 + (o - 18) % 8)]? = some (.int .u8 (a4 ((o - 18) / 8) ((o - 18) % 8))) := get_sub (q4 ((o - 18) / 8) (by omega) ((o - 18) % 8) (by omega)); rwa [show 18 + ((o - 18) / 8 * 8 + (o - 18) % 8) = o by omega] at this
      ·have this : cs.toList[82 + ((o - 82) / 64 * 64 + ((o - 82) / 8 % 8 * 8 + (o - 82) % 8))]? = some (.int .u8 (a5 ((o - 82) / 64) ((o - 82) / 8 % 8) ((o - 82) % 8))) := get_sub (q5 ((o - 82) / 64) (by omega) ((o - 82) / 8 % 8) (by omega) ((o - 82) % 8) (by omega)); rwa [show 82 + ((o - 82) / 64 * 64 + ((o - 82) / 8 % 8 * 8 + (o - 82) % 8)) = o by omega] at this
 ·rw [Array.getElem?_eq_none (by omega), Array.getElem?_eq_none (by rw [dgA_size]; omega)]
end Go.Proofs.Ytacajcjibhifmaa

namespace Go.Proofs.Ytacajcjibhifmaa
open Go
theorem in8A_sz (u : Nat → Int) : (in8A u).size = 8 := Array.size_ofFn
theorem el8A_sz (f : Nat → Nat → Int) : (el8A f).size = 64 := Array.size_ofFn
theorem el88A_sz (f : Nat → Nat → Nat → Int) : (el88A f).size = 512 := Array.size_ofFn
theorem dgA_sz (X : Dg) : (dgA X).size = 594 := Array.size_ofFn
theorem in8A_one {u : Nat → Int} : ∀ v ∈ (in8A u).toList, v.oneCell' = true := ofFn_one fun _ => rfl
theorem el8A_one {f : Nat → Nat → Int} : ∀ v ∈ (el8A f).toList, v.oneCell' = true := ofFn_one fun _ => rfl
theorem el88A_one {f : Nat → Nat → Nat → Int} : ∀ v ∈ (el88A f).toList, v.oneCell' = true := ofFn_one fun _ => rfl
theorem dgF_one (X : Dg) (o : Nat) : (dgF X o).oneCell' = true := by
 unfold dgF
 split
 ·rfl
 ·split
  ·rfl
  ·split
   ·rfl
   ·split
    ·rfl
    ·split <;> rfl
theorem dgA_one {X : Dg} : ∀ v ∈ (dgA X).toList, v.oneCell' = true := ofFn_one fun i => dgF_one X i
theorem i64_one {x : Int} : ∀ v ∈ (#[Value.int .i64 x] : Array Value).toList, v.oneCell' = true := by
 intro v hv
 simp only [List.mem_cons, List.not_mem_nil, or_false] at hv
 subst hv; rfl
theorem all_eq {cs vs : Array Value} {n : Nat} (h1 : cs.size = n) (h2 : vs.size = n) : (cs.toList.take 0 ++ vs.toList ++ cs.toList.drop (0 + n)).toArray = vs := by
 rw [List.take_zero, List.nil_append, List.drop_of_length_le (by rw [Array.length_toList]; omega), List.append_nil]
theorem in8A_all {u v : Nat → Int} : ((in8A u).toList.take 0 ++ (in8A v).toList ++ (in8A u).toList.drop (0 + 8)).toArray = in8A v := all_eq (in8A_sz u) (in8A_sz v)
theorem el8A_all {u v : Nat → Nat → Int} : ((el8A u).toList.take 0 ++ (el8A v).toList ++ (el8A u).toList.drop (0 + 64)).toArray = el8A v := all_eq (el8A_sz u) (el8A_sz v)
theorem el88A_all {u v : Nat → Nat → Nat → Int} : ((el88A u).toList.take 0 ++ (el88A v).toList ++ (el88A u).toList.drop (0 + 512)).toArray = el88A v := all_eq (el88A_sz u) (el88A_sz v)
theorem dgA_all {X Y : Dg} : ((dgA X).toList.take 0 ++ (dgA Y).toList ++ (dgA X).toList.drop (0 + 594)).toArray = dgA Y := all_eq (dgA_sz X) (dgA_sz Y)
theorem none_of {cs : Array Value} {n q : Nat} (h : cs.size = n) (hq : ¬ q < n) : cs[q]? = none := Array.getElem?_eq_none (by omega)
/-- Stores by cells: F before, G after. -/
theorem store_eq {cs vs cs' : Array Value} {o m n : Nat} {F G W : Nat → Value} (h1 : cs.size = n) (h2 : cs'.size = n) (hm : vs.size = m) (hl : o + m ≤ n) (f : ∀ q, q < n → cs[q]? = some (F q)) (g : ∀ q, q < n → cs'[q]? = some (G q)) (w : ∀ q, q < m → vs[q]? = some (W q)) (ha : ∀ q, q < n → (q < o ∨ o + m ≤ q) → G q = F q) (hb : ∀ q, q < m → G (o + q) = W q) : (cs.toList.take o ++ vs.toList ++ cs.toList.drop (o + m)).toArray = cs' := by
 refine splice_eq hm (by omega) fun q => ?_
 by_cases hq : q < n
 ·rw [g q hq]
  by_cases c1 : q < o
  ·rw [if_pos c1, f q hq, ha q hq (.inl c1)]
  ·rw [if_neg c1]
   by_cases c2 : q < o + m
   ·rw [if_pos c2, w (q - o) (by omega), ← hb (q - o) (by omega), show o + (q - o) = q by omega]
   ·rw [if_neg c2, f q hq, ha q hq (.inr (by omega))]
 ·rw [if_neg (by omega), if_neg (by omega), none_of h1 hq, none_of h2 hq]
theorem one_at {x : Value} : ∀ q, q < 1 → (#[x] : Array Value)[q]? = some ((fun _ => x) q) := fun q hq => by
 obtain rfl : q = 0 := by omega
 rfl
theorem in8_upd {u : Nat → Int} {i : Nat} {x : Int} (h : i < 8) : ((in8A u).toList.take i ++ (#[Value.int .i64 x] : Array Value).toList ++ (in8A u).toList.drop (i + 1)).toArray = in8A (upd u i x) :=
 store_eq (in8A_sz _) (in8A_sz _) rfl (by omega) (fun q hq => in8_at hq) (fun q hq => in8_at hq) one_at (fun q hq hc => by show Value.int .i64 (upd u i x q) = _; rw [upd, if_neg (by omega)]) (fun q hq => by
  obtain rfl : q = 0 := by omega
  show Value.int .i64 (upd u i x (i + 0)) = _; rw [upd, if_pos (by omega)])
theorem el8_upd {f : Nat → Nat → Int} {i : Nat} {v : Nat → Int} (h : i < 8) : ((el8A f).toList.take (i * 8) ++ (elA v).toList ++ (el8A f).toList.drop (i * 8 + 8)).toArray = el8A (updF f i v) :=
 store_eq (el8A_sz _) (el8A_sz _) (elA_sz v) (by omega) (fun q hq => el8_at hq) (fun q hq => el8_at hq) (fun q hq => elA_at hq) (fun q hq hc => by show Value.int .u8 (updF f i v (q / 8) (q % 8)) = _; rw [updF, if_neg (by omega)]) (fun q hq => by
  show Value.int .u8 (updF f i v ((i * 8 + q) / 8) ((i * 8 + q) % 8)) = _; rw [updF, if_pos (by omega), show (i * 8 + q) % 8 = q by omega])
theorem el88_upd {f : Nat → Nat → Nat → Int} {i : Nat} {v : Nat → Nat → Int} (h : i < 8) : ((el88A f).toList.take (i * 64) ++ (el8A v).toList ++ (el88A f).toList.drop (i * 64 + 64)).toArray = el88A (updF f i v) :=
 store_eq (el88A_sz _) (el88A_sz _) (el8A_sz v) (by omega) (fun q hq => el88_at hq) (fun q hq => el88_at hq) (fun q hq => el8_at hq) (fun q hq hc => by show Value.int .u8 (updF f i v (q / 64) (q / 8 % 8) (q % 8)) = _; rw [updF, if_neg (by omega)]) (fun q hq => by
  show Value.int .u8 (updF f i v ((i * 64 + q) / 64) ((i * 64 + q) / 8 % 8) ((i * 64 + q) % 8)) = _; rw [updF, if_pos (by omega), show (i * 64 + q) % 8 = q % 8 by omega, show (i * 64 + q) / 8 % 8 = q / 8 by omega])
section
variable {X : Dg}
theorem dg_p {x : Int} : ((dgA X).toList.take 0 ++ (#[Value.int .i64 x] : Array Value).toList ++ (dgA X).toList.drop (0 + 1)).toArray = dgA { X with p := x } :=
 store_eq (dgA_sz _) (dgA_sz _) rfl (by omega) (fun q hq => dgA_at hq) (fun q hq => dgA_at hq) one_at (fun q hq hc => by
  unfold dgF
  by_cases h0 : q = 0 <;> by_cases h1 : q = 1 <;> by_cases h2 : q < 10 <;> by_cases h3 : q < 18 <;> first | (exfalso; omega) | simp [h0, h1, h2, h3]) (fun q hq => by
  obtain rfl : q = 0 := by omega
  rfl)
theorem dg_s {x : Int} : ((dgA X).toList.take 1 ++ (#[Value.int .i64 x] : Array Value).toList ++ (dgA X).toList.drop (1 + 1)).toArray = dgA { X with s := x } :=
 store_eq (dgA_sz _) (dgA_sz _) rfl (by omega) (fun q hq => dgA_at hq) (fun q hq => dgA_at hq) one_at (fun q hq hc => by
  unfold dgF
  by_cases h0 : q = 0 <;> by_cases h1 : q = 1 <;> by_cases h2 : q < 10 <;> by_cases h3 : q < 18 <;> first | (exfalso; omega) | simp [h0, h1, h2, h3]) (fun q hq => by
  obtain rfl : q = 0 := by omega
  rfl)
theorem dg_deg {u : Nat → Int} : ((dgA X).toList.take 2 ++ (in8A u).toList ++ (dgA X).toList.drop (2 + 8)).toArray = dgA { X with deg := u } :=
 store_eq (dgA_sz _) (dgA_sz _) (in8A_sz u) (by omega) (fun q hq => dgA_at hq) (fun q hq => dgA_at hq) (fun q hq => in8_at hq) (fun q hq hc => by
  unfold dgF
  by_cases h0 : q = 0 <;> by_cases h1 : q = 1 <;> by_cases h2 : q < 10 <;> by_cases h3 : q < 18 <;> first | (exfalso; omega) | simp [h0, h1, h2, h3]) (fun q hq => dgF_deg (X := { X with deg := u }) hq)
theorem dg_lev {u : Nat → Int} : ((dgA X).toList.take 10 ++ (in8A u).toList ++ (dgA X).toList.drop (10 + 8)).toArray = dgA { X with lev := u } :=
 store_eq (dgA_sz _) (dgA_sz _) (in8A_sz u) (by omega) (fun q hq => dgA_at hq) (fun q hq => dgA_at hq) (fun q hq => in8_at hq) (fun q hq hc => by
  unfold dgF
  by_cases h0 : q = 0 <;> by_cases h1 : q = 1 <;> by_cases h2 : q < 10 <;> by_cases h3 : q < 18 <;> first | (exfalso; omega) | simp [h0, h1, h2, h3]) (fun q hq => dgF_lev (X := { X with lev := u }) hq)
theorem dgF_diff {o : Nat} (h : 18 ≤ o ∧ o < 82) : dgF X o = .int .u8 (X.dif ((o - 18) / 8) ((o - 18) % 8)) := by
 unfold dgF
 rw [if_neg (by omega), if_neg (by omega), if_neg (by omega), if_neg (by omega), if_pos (by omega)]
theorem dgF_table {o : Nat} (h : 82 ≤ o) : dgF X o = .int .u8 (X.tab ((o - 82) / 64) ((o - 82) / 8 % 8) ((o - 82) % 8)) := by
 unfold dgF
 rw [if_neg (by omega), if_neg (by omega), if_neg (by omega), if_neg (by omega), if_neg (by omega)]
theorem dgF_low {Y : Dg} (hp : Y.p = X.p) (hs : Y.s = X.s) (hd : Y.deg = X.deg) (hl : Y.lev = X.lev) {o : Nat} (h : o < 18) : dgF Y o = dgF X o := by
 unfold dgF
 rw [hp, hs, hd, hl]
 by_cases h0 : o = 0 <;> by_cases h1 : o = 1 <;> by_cases h2 : o < 10 <;> simp [h0, h1, h2, h]
theorem dg_dif {f : Nat → Nat → Int} : ((dgA X).toList.take 18 ++ (el8A f).toList ++ (dgA X).toList.drop (18 + 64)).toArray = dgA { X with dif := f } :=
 store_eq (dgA_sz _) (dgA_sz _) (el8A_sz f) (by omega) (fun q hq => dgA_at hq) (fun q hq => dgA_at hq) (fun q hq => el8_at hq) (fun q hq hc => by
  by_cases h2 : q < 18
  ·exact dgF_low (X := X) (Y := { X with dif := f }) rfl rfl rfl rfl h2
  ·rw [dgF_table (by omega), dgF_table (by omega)]) (fun q hq => by
  rw [dgF_diff (by omega), show 18 + q - 18 = q by omega])
theorem dg_tab {f : Nat → Nat → Nat → Int} : ((dgA X).toList.take 82 ++ (el88A f).toList ++ (dgA X).toList.drop (82 + 512)).toArray = dgA { X with tab := f } :=
 store_eq (dgA_sz _) (dgA_sz _) (el88A_sz f) (by omega) (fun q hq => dgA_at hq) (fun q hq => dgA_at hq) (fun q hq => el88_at hq) (fun q hq hc => by
  by_cases h2 : q < 18
  ·exact dgF_low (X := X) (Y := { X with tab := f }) rfl rfl rfl rfl h2
  ·rw [dgF_diff (by omega), dgF_diff (by omega)]) (fun q hq => by
  rw [dgF_table (by omega), show 82 + q - 82 = q by omega])
variable {h : Heap} {b : Nat} {t : TypeId} {u : Nat → Int} {f : Nat → Nat → Int} {g : Nat → Nat → Nat → Int}
theorem BoxAt.in8C (hb : BoxAt h b (in8A u) t) {i : Nat} (hi : i < 8) : hcell h ⟨b, i, none⟩ = some (.int .i64 (u i)) := by rw [hb.cell, in8_at hi]
theorem BoxAt.in8L (hb : BoxAt h b (in8A u) t) : loadV TT h 22 ⟨b, 0, none⟩ = some (.agg (in8A u)) := ldArr ld22 hb (fun q => .int .i64 (u q)) 0 (fun q hq => by rw [Nat.zero_add]; exact in8_at hq)
theorem BoxAt.elL2 (hb : BoxAt h b (elA u) t) : loadV TT h 23 ⟨b, 0, none⟩ = some (.agg (elA u)) := ldArr ld23 hb (fun q => .int .u8 (u q)) 0 (fun q hq => by rw [Nat.zero_add]; exact elA_at hq)
theorem BoxAt.el8E (hb : BoxAt h b (el8A f) t) {i : Nat} (hi : i < 8) : loadV TT h 23 ⟨b, i * 8, none⟩ = some (.agg (elA (f i))) := ldArr ld23 hb (fun q => .int .u8 (f i q)) (i * 8) (fun q hq => by rw [el8_at (by omega), show (i * 8 + q) / 8 = i by omega, show (i * 8 + q) % 8 = q by omega])
theorem BoxAt.el8L (hb : BoxAt h b (el8A f) t) : loadV TT h 24 ⟨b, 0, none⟩ = some (.agg (el8A f)) := ldArr ld24 hb (fun q => .int .u8 (f (q / 8) (q % 8))) 0 (fun q hq => by rw [Nat.zero_add]; exact el8_at hq)
theorem BoxAt.el8L2 (hb : BoxAt h b (el8A f) t) : loadV TT h 31 ⟨b, 0, none⟩ = some (.agg (el8A f)) := ldArr ld31 hb (fun q => .int .u8 (f (q / 8) (q % 8))) 0 (fun q hq => by rw [Nat.zero_add]; exact el8_at hq)
theorem BoxAt.el88R (hb : BoxAt h b (el88A g) t) {i : Nat} (hi : i < 8) : loadV TT h 24 ⟨b, i * 64, none⟩ = some (.agg (el8A (g i))) := ldArr ld24 hb (fun q => .int .u8 (g i (q / 8) (q % 8))) (i * 64) (fun q hq => by rw [el88_at (by omega), show (i * 64 + q) / 64 = i by omega, show (i * 64 + q) / 8 % 8 = q / 8 by omega, show (i * 64 + q) % 8 = q % 8 by omega])
theorem BoxAt.el88L (hb : BoxAt h b (el88A g) t) : loadV TT h 32 ⟨b, 0, none⟩ = some (.agg (el88A g)) := ldArr ld32 hb (fun q => .int .u8 (g (q / 64) (q / 8 % 8) (q % 8))) 0 (fun q hq => by rw [Nat.zero_add]; exact el88_at hq)
theorem BoxAt.dgLL (hb : BoxAt h b (dgA X) t) : loadV TT h 27 ⟨b, 0, none⟩ = some (.agg (dgA X)) := ldArr ld27 hb (fun q => dgF X q) 0 (fun q hq => by rw [Nat.zero_add]; exact dgA_at hq)
theorem BoxAt.dgDegL (hb : BoxAt h b (dgA X) t) : loadV TT h 22 ⟨b, 2, none⟩ = some (.agg (in8A X.deg)) := ldArr ld22 hb (fun q => .int .i64 (X.deg q)) 2 (fun q hq => by rw [dgA_at (by omega), dgF_deg hq])
theorem BoxAt.dgLevL (hb : BoxAt h b (dgA X) t) : loadV TT h 22 ⟨b, 10, none⟩ = some (.agg (in8A X.lev)) := ldArr ld22 hb (fun q => .int .i64 (X.lev q)) 10 (fun q hq => by rw [dgA_at (by omega), dgF_lev hq])
theorem BoxAt.dgDifA (hb : BoxAt h b (dgA X) t) : loadV TT h 24 ⟨b, 18, none⟩ = some (.agg (el8A X.dif)) := ldArr ld24 hb (fun q => .int .u8 (X.dif (q / 8) (q % 8))) 18 (fun q hq => by rw [dgA_at (by omega), dgF_diff (by omega), show 18 + q - 18 = q by omega])
theorem BoxAt.dgTabA (hb : BoxAt h b (dgA X) t) : loadV TT h 25 ⟨b, 82, none⟩ = some (.agg (el88A X.tab)) := ldArr ld25 hb (fun q => .int .u8 (X.tab (q / 64) (q / 8 % 8) (q % 8))) 82 (fun q hq => by rw [dgA_at (by omega), dgF_table (by omega), show 82 + q - 82 = q by omega])
end
end Go.Proofs.Ytacajcjibhifmaa

namespace Go.Proofs.Ytacajcjibhifmaa
open Go
def cpF {α : Type} (d : α) (u : Nat → α) (n : Nat) : Nat → α := fun k => if k < n then u k else d
theorem cpF_z8 (u : Nat → Int) : cpF 0 u 0 = z8 := by funext k; simp [cpF, z8]
theorem cpF_z64 (u : Nat → Nat → Int) : cpF z8 u 0 = z64 := by funext k; simp [cpF, z64]
theorem cpF_z512 (u : Nat → Nat → Nat → Int) : cpF z64 u 0 = z512 := by funext k; simp [cpF, z512]
theorem cpF_step {α : Type} (d : α) (u : Nat → α) (n : Nat) : (fun k => if k = n then u n else cpF d u n k) = cpF d u (n + 1) := by
 funext k
 unfold cpF
 by_cases h : k = n
 ·subst h; rw [if_pos rfl, if_pos (by omega)]
 ·rw [if_neg h]
  by_cases h2 : k < n
  ·rw [if_pos h2, if_pos (by omega)]
  ·rw [if_neg h2, if_neg (by omega)]
theorem cp_upd (u : Nat → Int) (n : Nat) : upd (cpF 0 u n) n (u n) = cpF 0 u (n + 1) := cpF_step 0 u n
theorem cp_updF {α : Type} (d : α) (u : Nat → α) (n : Nat) : updF (cpF d u n) n (u n) = cpF d u (n + 1) := cpF_step d u n
theorem el_cp (u : Nat → Int) : elA (cpF 0 u 8) = elA u := rfl
theorem in8_cp (u : Nat → Int) : in8A (cpF 0 u 8) = in8A u := by
 refine Array.ext_getElem? fun q => ?_
 by_cases h : q < 8
 ·rw [in8_at h, in8_at h, cpF, if_pos h]
 ·rw [none_of (in8A_sz _) h, none_of (in8A_sz _) h]
theorem el8_cp (u : Nat → Nat → Int) : el8A (cpF z8 u 8) = el8A u := by
 refine Array.ext_getElem? fun q => ?_
 by_cases h : q < 64
 ·rw [el8_at h, el8_at h, cpF, if_pos (by omega)]
 ·rw [none_of (el8A_sz _) h, none_of (el8A_sz _) h]
theorem el88_cp (u : Nat → Nat → Nat → Int) : el88A (cpF z64 u 8) = el88A u := by
 refine Array.ext_getElem? fun q => ?_
 by_cases h : q < 512
 ·rw [el88_at h, el88_at h, cpF, if_pos (by omega)]
 ·rw [none_of (el88A_sz _) h, none_of (el88A_sz _) h]

attribute [local irreducible] el8A el88A in8A dgA
set_option maxRecDepth 100000 in
set_option maxHeartbeats 4000000 in
theorem toEl_ok (u : Nat → Int) (h : Heap)   : CallA Try.prog 85 #[.agg (elA u)] h fun v' h' => v' = .agg (elA (u)) ∧ Ext h h' := by
 refine callA_intro TTok (args := [_]) Try.func85 (by kernel_rfl) rfl 15 rfl (by simp) [.cell 2 30] rfl ?_
 simp only [idxs, Nat.reduceAdd]
 refine den_seq ?_
 refine den_region TTok ?_
 intro K hK
 simp -implicitDefEqProofs (disch := first | decide | assumption | omega) only [go_sem, wrap_id, cv_u8, cv_i64, Nat.zero_add, wrap_u8, eq_el, ne_el, build_el, Int.toNat_zero]
 refine op_box (cs := elA u) rfl ?_
 intro h0_0 e0_0 hb0_0 z0_0
 have := Ext.size e0_0
 have eB := e0_0
 have hfhb0_0 : Fresh h.size [h.size] := Fresh.one _
 have hlhb0_0 := one_lt (show h.size < h0_0.size by omega)
 try simp -implicitDefEqProofs (disch := first | decide | assumption | omega) only [go_sem, wrap_id, cv_u8, cv_i64, Nat.zero_add, wrap_u8, eq_el, ne_el, build_el, Int.toNat_zero]
 refine op_alloc (cs := elA z8) (by kernel_rfl) ?_
 intro h0_1 e0_1 hb0_1 z0_1
 replace hb0_0 := BoxAt.ext hb0_0 e0_1
 have := Ext.size e0_1
 replace eB := Ext.trans eB e0_1
 have hfhb0_1 : Fresh h0_0.size [h0_0.size] := Fresh.one _
 have hlhb0_1 := one_lt (show h0_0.size < h0_1.size by omega)
 try simp -implicitDefEqProofs (disch := first | decide | assumption | omega) only [go_sem, BoxAt.elC hb0_1, BoxAt.elL hb0_1, BoxAt.elL2 hb0_1, wrap_id, cv_u8, cv_i64, Nat.zero_add, wrap_u8, eq_el, ne_el, build_el, Int.toNat_zero]
 refine hK _ _ ?_
 clear hK K
 refine den_seq ?_
 refine den_region TTok ?_
 intro K hK
 simp -implicitDefEqProofs (disch := first | decide | assumption | omega) only [go_sem, BoxAt.elC hb0_1, BoxAt.elL hb0_1, BoxAt.elL2 hb0_1, wrap_id, cv_u8, cv_i64, Nat.zero_add, wrap_u8, eq_el, ne_el, build_el, Int.toNat_zero]
 refine op_alloc (cs := elA z8) (by kernel_rfl) ?_
 intro h1_0 e1_0 hb1_0 z1_0
 replace hb0_0 := BoxAt.ext hb0_0 e1_0
 replace hb0_1 := BoxAt.ext hb0_1 e1_0
 have := Ext.size e1_0
 replace eB := Ext.trans eB e1_0
 have hfhb1_0 : Fresh h0_1.size [h0_1.size] := Fresh.one _
 have hlhb1_0 := one_lt (show h0_1.size < h1_0.size by omega)
 try simp -implicitDefEqProofs (disch := first | decide | assumption | omega) only [go_sem, BoxAt.elC hb0_1, BoxAt.elL hb0_1, BoxAt.elL2 hb0_1, wrap_id, cv_u8, cv_i64, Nat.zero_add, wrap_u8, eq_el, ne_el, build_el, Int.toNat_zero]
 refine hK _ _ ?_
 clear hK K
 refine den_seq ?_
 refine den_seq ?_
 refine den_region TTok ?_
 intro K hK
 simp -implicitDefEqProofs (disch := first | decide | assumption | omega) only [go_sem, wrap_id, cv_u8, cv_i64, Nat.zero_add, wrap_u8, eq_el, ne_el, build_el, Int.toNat_zero]
 refine hK _ _ ?_
 clear hK K
 refine den_block ?_
 refine den_sel [4, 1, 2, 3] ?_
 intro env_1
 simp only [go_sem]
 refine den_loopS (σ := Nat) (fun st_ => [(4, .int .i64 (st_ : Int))]) (fun st_ H => (st_ ≤ 8) ∧ (BoxAt H (h0_1.size) (elA (cpF 0 u st_)) 30) ∧ (Chg [h0_1.size] h1_0 H)) (fun st_ => 8 - st_) 0 ?_ ?_
 ·exact ⟨by first | (simp; done) | (dsimp only; omega) | (simp; omega), by rw [cpF_z8]; exact hb1_0, Chg.refl _ _⟩
 ·rintro i h4 ee3 ⟨hi0, hbx3, cL2⟩
  replace hb0_0 := BoxAt.chgA hb0_0 cL2 (apart_lt hlhb0_0 hfhb1_0 (by omega))
  replace hb0_1 := BoxAt.chgA hb0_1 cL2 (apart_lt hlhb0_1 hfhb1_0 (by omega))
  have := cL2.size
  replace eB := Ext.then eB cL2 (ge_of hfhb1_0 (by omega))
  have hfhbx3 := hfhb1_0
  have hlhbx3 := hlhb1_0
  simp only [List.cons_append, List.nil_append]
  refine den_seq ?_
  refine den_seq ?_
  refine den_region TTok ?_
  intro K hK
  simp -implicitDefEqProofs (disch := first | decide | assumption | omega) only [go_sem, wrap_id, cv_u8, cv_i64, Nat.zero_add, wrap_u8, eq_el, ne_el, build_el, Int.toNat_zero]
  refine hK _ _ ?_
  clear hK K
  refine den_cond rfl (fun c0 => ?_) (fun c0 => ?_)
  ·try simp only [decide_eq_true_eq, decide_eq_false_iff_not, beq_iff_eq, beq_eq_false_iff_ne, bne_iff_ne, ne_eq, Bool.not_eq_true', Bool.not_eq_false', Bool.and_eq_true, Bool.or_eq_true, bne_eq_false_iff_eq] at c0
   refine den_skip ?_
   refine den_seq ?_
   refine den_block ?_
   refine den_region TTok ?_
   intro K hK
   simp -implicitDefEqProofs (disch := first | decide | assumption | omega) only [go_sem, Int.toNat_zero, ia23, ia30, ld5, BoxAt.elC hb0_0, BoxAt.elL hb0_0, BoxAt.elL2 hb0_0, BoxAt.elC hbx3, BoxAt.elL hbx3, BoxAt.elL2 hbx3, wrap_id, cv_u8, cv_i64, Nat.zero_add, wrap_u8, eq_el, ne_el, build_el, Int.toNat_zero]
   refine op_storeB (o := i) (vs := #[.int .u8 (u i)]) (cs' := elA (upd (cpF 0 u i) i (u i))) st5 hbx3 rfl rfl rfl (by show _ + 1 ≤ 8; omega) u8_one (elA_upd (by omega)) ?_
   intro h5_5 hbx3 c5_5
   replace hb0_0 := BoxAt.chgA hb0_0 c5_5 (apart_lt hlhb0_0 hfhbx3 (by omega))
   replace hb0_1 := BoxAt.chgA hb0_1 c5_5 (apart_lt hlhb0_1 hfhbx3 (by omega))
   have := c5_5.size
   replace eB := Ext.then eB c5_5 (ge_of hfhbx3 (by omega))
   replace cL2 := Chg.step cL2 c5_5 Sub.refl
   try simp -implicitDefEqProofs (disch := first | decide | assumption | omega) only [go_sem, BoxAt.elC hb0_1, BoxAt.elL hb0_1, BoxAt.elL2 hb0_1, wrap_id, cv_u8, cv_i64, Nat.zero_add, wrap_u8, eq_el, ne_el, build_el, Int.toNat_zero]
   refine hK _ _ ?_
   clear hK K
   refine den_blk ?_
   refine den_region TTok ?_
   intro K hK
   simp -implicitDefEqProofs (disch := first | decide | assumption | omega) only [go_sem, wrap_id, cv_u8, cv_i64, Nat.zero_add, wrap_u8, eq_el, ne_el, build_el, Int.toNat_zero]
   refine hK _ _ ?_
   clear hK K
   refine den_stop ?_
   rw [cp_upd] at hbx3
   exact ⟨i + 1, by simp [HasL, puts_at], ⟨by first | omega | (dsimp only; omega), hbx3, cL2⟩, by first | omega | (dsimp only; omega)⟩
  ·try simp only [decide_eq_true_eq, decide_eq_false_iff_not, beq_iff_eq, beq_eq_false_iff_ne, bne_iff_ne, ne_eq, Bool.not_eq_true', Bool.not_eq_false', Bool.and_eq_true, Bool.or_eq_true, bne_eq_false_iff_eq] at c0
   refine den_exit ?_
   refine denX_code ?_
   refine denX_stop ?_
   refine denX_hit ?_
   refine den_seq ?_
   refine den_region TTok ?_
   intro K hK
   simp -implicitDefEqProofs (disch := first | decide | assumption | omega) only [go_sem, BoxAt.elC hbx3, BoxAt.elL hbx3, BoxAt.elL2 hbx3, wrap_id, cv_u8, cv_i64, Nat.zero_add, wrap_u8, eq_el, ne_el, build_el, Int.toNat_zero]
   refine op_storeB (o := 0) (vs := elA (cpF 0 u i)) (cs' := elA (cpF 0 u i)) st30 hb0_1 rfl rfl (elA_sz _) (by rw [elA_sz]; decide) elA_one elA_all ?_
   intro h6_1 hb0_1 c6_1
   replace hbx3 := BoxAt.chgA hbx3 c6_1 (apart_gt hfhbx3 hlhb0_1 (by omega))
   have := c6_1.size
   replace eB := Ext.then eB c6_1 (ge_of hfhb0_1 (by omega))
   try simp -implicitDefEqProofs (disch := first | decide | assumption | omega) only [go_sem, BoxAt.elC hb0_1, BoxAt.elL hb0_1, BoxAt.elL2 hb0_1, wrap_id, cv_u8, cv_i64, Nat.zero_add, wrap_u8, eq_el, ne_el, build_el, Int.toNat_zero]
   refine hK _ _ ?_
   clear hK K
   refine den_ret ?_
   simp -implicitDefEqProofs (disch := first | decide | assumption | omega) only [go_sem, BoxAt.elC hb0_1, BoxAt.elL hb0_1, BoxAt.elL2 hb0_1, wrap_id, cv_u8, cv_i64, Nat.zero_add, wrap_u8, eq_el, ne_el, build_el, Int.toNat_zero, resP_c1, ld30]
   rw [show i = 8 by omega]
   exact ⟨by rw [el_cp], eB⟩

set_option maxRecDepth 100000 in
set_option maxHeartbeats 4000000 in
theorem toI8_ok (u : Nat → Int) (h : Heap)   : CallA Try.prog 40 #[.agg (in8A u)] h fun v' h' => v' = .agg (in8A (u)) ∧ Ext h h' := by
 refine callA_intro TTok (args := [_]) Try.func40 (by kernel_rfl) rfl 15 rfl (by simp) [.cell 2 22] rfl ?_
 simp only [idxs, Nat.reduceAdd]
 refine den_seq ?_
 refine den_region TTok ?_
 intro K hK
 simp -implicitDefEqProofs (disch := first | decide | assumption | omega) only [go_sem, wrap_id, cv_u8, cv_i64, Nat.zero_add, wrap_u8, eq_el, ne_el, build_el, Int.toNat_zero]
 refine op_box (cs := in8A u) rfl ?_
 intro h0_0 e0_0 hb0_0 z0_0
 have := Ext.size e0_0
 have eB := e0_0
 have hfhb0_0 : Fresh h.size [h.size] := Fresh.one _
 have hlhb0_0 := one_lt (show h.size < h0_0.size by omega)
 try simp -implicitDefEqProofs (disch := first | decide | assumption | omega) only [go_sem, wrap_id, cv_u8, cv_i64, Nat.zero_add, wrap_u8, eq_el, ne_el, build_el, Int.toNat_zero]
 refine op_alloc (cs := in8A z8) (by kernel_rfl) ?_
 intro h0_1 e0_1 hb0_1 z0_1
 replace hb0_0 := BoxAt.ext hb0_0 e0_1
 have := Ext.size e0_1
 replace eB := Ext.trans eB e0_1
 have hfhb0_1 : Fresh h0_0.size [h0_0.size] := Fresh.one _
 have hlhb0_1 := one_lt (show h0_0.size < h0_1.size by omega)
 try simp -implicitDefEqProofs (disch := first | decide | assumption | omega) only [go_sem, BoxAt.in8C hb0_1, BoxAt.in8L hb0_1, wrap_id, cv_u8, cv_i64, Nat.zero_add, wrap_u8, eq_el, ne_el, build_el, Int.toNat_zero]
 refine hK _ _ ?_
 clear hK K
 refine den_seq ?_
 refine den_region TTok ?_
 intro K hK
 simp -implicitDefEqProofs (disch := first | decide | assumption | omega) only [go_sem, BoxAt.in8C hb0_1, BoxAt.in8L hb0_1, wrap_id, cv_u8, cv_i64, Nat.zero_add, wrap_u8, eq_el, ne_el, build_el, Int.toNat_zero]
 refine op_alloc (cs := in8A z8) (by kernel_rfl) ?_
 intro h1_0 e1_0 hb1_0 z1_0
 replace hb0_0 := BoxAt.ext hb0_0 e1_0
 replace hb0_1 := BoxAt.ext hb0_1 e1_0
 have := Ext.size e1_0
 replace eB := Ext.trans eB e1_0
 have hfhb1_0 : Fresh h0_1.size [h0_1.size] := Fresh.one _
 have hlhb1_0 := one_lt (show h0_1.size < h1_0.size by omega)
 try simp -implicitDefEqProofs (disch := first | decide | assumption | omega) only [go_sem, BoxAt.in8C hb0_1, BoxAt.in8L hb0_1, wrap_id, cv_u8, cv_i64, Nat.zero_add, wrap_u8, eq_el, ne_el, build_el, Int.toNat_zero]
 refine hK _ _ ?_
 clear hK K
 refine den_seq ?_
 refine den_seq ?_
 refine den_region TTok ?_
 intro K hK
 simp -implicitDefEqProofs (disch := first | decide | assumption | omega) only [go_sem, wrap_id, cv_u8, cv_i64, Nat.zero_add, wrap_u8, eq_el, ne_el, build_el, Int.toNat_zero]
 refine hK _ _ ?_
 clear hK K
 refine den_block ?_
 refine den_sel [4, 1, 2, 3] ?_
 intro env_1
 simp only [go_sem]
 refine den_loopS (σ := Nat) (fun st_ => [(4, .int .i64 (st_ : Int))]) (fun st_ H => (st_ ≤ 8) ∧ (BoxAt H (h0_1.size) (in8A (cpF 0 u st_)) 22) ∧ (Chg [h0_1.size] h1_0 H)) (fun st_ => 8 - st_) 0 ?_ ?_
 ·exact ⟨by first | (simp; done) | (dsimp only; omega) | (simp; omega), by rw [cpF_z8]; exact hb1_0, Chg.refl _ _⟩
 ·rintro i h4 ee3 ⟨hi0, hbx3, cL2⟩
  replace hb0_0 := BoxAt.chgA hb0_0 cL2 (apart_lt hlhb0_0 hfhb1_0 (by omega))
  replace hb0_1 := BoxAt.chgA hb0_1 cL2 (apart_lt hlhb0_1 hfhb1_0 (by omega))
  have := cL2.size
  replace eB := Ext.then eB cL2 (ge_of hfhb1_0 (by omega))
  have hfhbx3 := hfhb1_0
  have hlhbx3 := hlhb1_0
  simp only [List.cons_append, List.nil_append]
  refine den_seq ?_
  refine den_seq ?_
  refine den_region TTok ?_
  intro K hK
  simp -implicitDefEqProofs (disch := first | decide | assumption | omega) only [go_sem, wrap_id, cv_u8, cv_i64, Nat.zero_add, wrap_u8, eq_el, ne_el, build_el, Int.toNat_zero]
  refine hK _ _ ?_
  clear hK K
  refine den_cond rfl (fun c0 => ?_) (fun c0 => ?_)
  ·try simp only [decide_eq_true_eq, decide_eq_false_iff_not, beq_iff_eq, beq_eq_false_iff_ne, bne_iff_ne, ne_eq, Bool.not_eq_true', Bool.not_eq_false', Bool.and_eq_true, Bool.or_eq_true, bne_eq_false_iff_eq] at c0
   refine den_skip ?_
   refine den_seq ?_
   refine den_block ?_
   refine den_region TTok ?_
   intro K hK
   simp -implicitDefEqProofs (disch := first | decide | assumption | omega) only [go_sem, Int.toNat_zero, ia22, ld2, BoxAt.in8C hb0_0, BoxAt.in8L hb0_0, BoxAt.in8C hbx3, BoxAt.in8L hbx3, wrap_id, cv_u8, cv_i64, Nat.zero_add, wrap_u8, eq_el, ne_el, build_el, Int.toNat_zero]
   refine op_storeB (o := i) (vs := #[.int .i64 (u i)]) (cs' := in8A (upd (cpF 0 u i) i (u i))) st2 hbx3 rfl rfl rfl (by rw [in8A_sz]; omega) i64_one (in8_upd (by omega)) ?_
   intro h5_5 hbx3 c5_5
   replace hb0_0 := BoxAt.chgA hb0_0 c5_5 (apart_lt hlhb0_0 hfhbx3 (by omega))
   replace hb0_1 := BoxAt.chgA hb0_1 c5_5 (apart_lt hlhb0_1 hfhbx3 (by omega))
   have := c5_5.size
   replace eB := Ext.then eB c5_5 (ge_of hfhbx3 (by omega))
   replace cL2 := Chg.step cL2 c5_5 Sub.refl
   try simp -implicitDefEqProofs (disch := first | decide | assumption | omega) only [go_sem, BoxAt.in8C hb0_1, BoxAt.in8L hb0_1, wrap_id, cv_u8, cv_i64, Nat.zero_add, wrap_u8, eq_el, ne_el, build_el, Int.toNat_zero]
   refine hK _ _ ?_
   clear hK K
   refine den_blk ?_
   refine den_region TTok ?_
   intro K hK
   simp -implicitDefEqProofs (disch := first | decide | assumption | omega) only [go_sem, wrap_id, cv_u8, cv_i64, Nat.zero_add, wrap_u8, eq_el, ne_el, build_el, Int.toNat_zero]
   refine hK _ _ ?_
   clear hK K
   refine den_stop ?_
   rw [cp_upd] at hbx3
   exact ⟨i + 1, by simp [HasL, puts_at], ⟨by first | omega | (dsimp only; omega), hbx3, cL2⟩, by first | omega | (dsimp only; omega)⟩
  ·try simp only [decide_eq_true_eq, decide_eq_false_iff_not, beq_iff_eq, beq_eq_false_iff_ne, bne_iff_ne, ne_eq, Bool.not_eq_true', Bool.not_eq_false', Bool.and_eq_true, Bool.or_eq_true, bne_eq_false_iff_eq] at c0
   refine den_exit ?_
   refine denX_code ?_
   refine denX_stop ?_
   refine denX_hit ?_
   refine den_seq ?_
   refine den_region TTok ?_
   intro K hK
   simp -implicitDefEqProofs (disch := first | decide | assumption | omega) only [go_sem, BoxAt.in8C hbx3, BoxAt.in8L hbx3, wrap_id, cv_u8, cv_i64, Nat.zero_add, wrap_u8, eq_el, ne_el, build_el, Int.toNat_zero]
   refine op_storeB (o := 0) (vs := in8A (cpF 0 u i)) (cs' := in8A (cpF 0 u i)) st22 hb0_1 rfl rfl (in8A_sz _) (by rw [in8A_sz]; decide) in8A_one in8A_all ?_
   intro h6_1 hb0_1 c6_1
   replace hbx3 := BoxAt.chgA hbx3 c6_1 (apart_gt hfhbx3 hlhb0_1 (by omega))
   have := c6_1.size
   replace eB := Ext.then eB c6_1 (ge_of hfhb0_1 (by omega))
   try simp -implicitDefEqProofs (disch := first | decide | assumption | omega) only [go_sem, BoxAt.in8C hb0_1, BoxAt.in8L hb0_1, wrap_id, cv_u8, cv_i64, Nat.zero_add, wrap_u8, eq_el, ne_el, build_el, Int.toNat_zero]
   refine hK _ _ ?_
   clear hK K
   refine den_ret ?_
   simp -implicitDefEqProofs (disch := first | decide | assumption | omega) only [go_sem, BoxAt.in8C hb0_1, BoxAt.in8L hb0_1, wrap_id, cv_u8, cv_i64, Nat.zero_add, wrap_u8, eq_el, ne_el, build_el, Int.toNat_zero, resP_c1, ld22]
   rw [show i = 8 by omega]
   exact ⟨by rw [in8_cp], eB⟩

set_option maxRecDepth 100000 in
set_option maxHeartbeats 4000000 in
theorem toE8_ok (f : Nat → Nat → Int) (h : Heap)   : CallA Try.prog 41 #[.agg (el8A f)] h fun v' h' => v' = .agg (el8A (f)) ∧ Ext h h' := by
 refine callA_intro TTok (args := [_]) Try.func41 (by kernel_rfl) rfl 16 rfl (by simp) [.cell 2 31] rfl ?_
 simp only [idxs, Nat.reduceAdd]
 refine den_seq ?_
 refine den_region TTok ?_
 intro K hK
 simp -implicitDefEqProofs (disch := first | decide | assumption | omega) only [go_sem, wrap_id, cv_u8, cv_i64, Nat.zero_add, wrap_u8, eq_el, ne_el, build_el, Int.toNat_zero]
 refine op_box (cs := el8A f) rfl ?_
 intro h0_0 e0_0 hb0_0 z0_0
 have := Ext.size e0_0
 have eB := e0_0
 have hfhb0_0 : Fresh h.size [h.size] := Fresh.one _
 have hlhb0_0 := one_lt (show h.size < h0_0.size by omega)
 try simp -implicitDefEqProofs (disch := first | decide | assumption | omega) only [go_sem, wrap_id, cv_u8, cv_i64, Nat.zero_add, wrap_u8, eq_el, ne_el, build_el, Int.toNat_zero]
 refine op_alloc (cs := el8A z64) (by kernel_rfl) ?_
 intro h0_1 e0_1 hb0_1 z0_1
 replace hb0_0 := BoxAt.ext hb0_0 e0_1
 have := Ext.size e0_1
 replace eB := Ext.trans eB e0_1
 have hfhb0_1 : Fresh h0_0.size [h0_0.size] := Fresh.one _
 have hlhb0_1 := one_lt (show h0_0.size < h0_1.size by omega)
 try simp -implicitDefEqProofs (disch := first | decide | assumption | omega) only [go_sem, BoxAt.el8E hb0_1, BoxAt.el8L hb0_1, BoxAt.el8L2 hb0_1, wrap_id, cv_u8, cv_i64, Nat.zero_add, wrap_u8, eq_el, ne_el, build_el, Int.toNat_zero]
 refine hK _ _ ?_
 clear hK K
 refine den_seq ?_
 refine den_region TTok ?_
 intro K hK
 simp -implicitDefEqProofs (disch := first | decide | assumption | omega) only [go_sem, BoxAt.el8E hb0_1, BoxAt.el8L hb0_1, BoxAt.el8L2 hb0_1, wrap_id, cv_u8, cv_i64, Nat.zero_add, wrap_u8, eq_el, ne_el, build_el, Int.toNat_zero]
 refine op_alloc (cs := el8A z64) (by kernel_rfl) ?_
 intro h1_0 e1_0 hb1_0 z1_0
 replace hb0_0 := BoxAt.ext hb0_0 e1_0
 replace hb0_1 := BoxAt.ext hb0_1 e1_0
 have := Ext.size e1_0
 replace eB := Ext.trans eB e1_0
 have hfhb1_0 : Fresh h0_1.size [h0_1.size] := Fresh.one _
 have hlhb1_0 := one_lt (show h0_1.size < h1_0.size by omega)
 try simp -implicitDefEqProofs (disch := first | decide | assumption | omega) only [go_sem, BoxAt.el8E hb0_1, BoxAt.el8L hb0_1, BoxAt.el8L2 hb0_1, wrap_id, cv_u8, cv_i64, Nat.zero_add, wrap_u8, eq_el, ne_el, build_el, Int.toNat_zero]
 refine hK _ _ ?_
 clear hK K
 refine den_seq ?_
 refine den_seq ?_
 refine den_region TTok ?_
 intro K hK
 simp -implicitDefEqProofs (disch := first | decide | assumption | omega) only [go_sem, wrap_id, cv_u8, cv_i64, Nat.zero_add, wrap_u8, eq_el, ne_el, build_el, Int.toNat_zero]
 refine hK _ _ ?_
 clear hK K
 refine den_block ?_
 refine den_sel [4, 1, 2, 3] ?_
 intro env_1
 simp only [go_sem]
 refine den_loopS (σ := Nat) (fun st_ => [(4, .int .i64 (st_ : Int))]) (fun st_ H => (st_ ≤ 8) ∧ (BoxAt H (h0_1.size) (el8A (cpF z8 f st_)) 31) ∧ (Chg [h0_1.size] h1_0 H)) (fun st_ => 8 - st_) 0 ?_ ?_
 ·exact ⟨by first | (simp; done) | (dsimp only; omega) | (simp; omega), by rw [cpF_z64]; exact hb1_0, Chg.refl _ _⟩
 ·rintro i h4 ee3 ⟨hi0, hbx3, cL2⟩
  replace hb0_0 := BoxAt.chgA hb0_0 cL2 (apart_lt hlhb0_0 hfhb1_0 (by omega))
  replace hb0_1 := BoxAt.chgA hb0_1 cL2 (apart_lt hlhb0_1 hfhb1_0 (by omega))
  have := cL2.size
  replace eB := Ext.then eB cL2 (ge_of hfhb1_0 (by omega))
  have hfhbx3 := hfhb1_0
  have hlhbx3 := hlhb1_0
  simp only [List.cons_append, List.nil_append]
  refine den_seq ?_
  refine den_seq ?_
  refine den_region TTok ?_
  intro K hK
  simp -implicitDefEqProofs (disch := first | decide | assumption | omega) only [go_sem, wrap_id, cv_u8, cv_i64, Nat.zero_add, wrap_u8, eq_el, ne_el, build_el, Int.toNat_zero]
  refine hK _ _ ?_
  clear hK K
  refine den_cond rfl (fun c0 => ?_) (fun c0 => ?_)
  ·try simp only [decide_eq_true_eq, decide_eq_false_iff_not, beq_iff_eq, beq_eq_false_iff_ne, bne_iff_ne, ne_eq, Bool.not_eq_true', Bool.not_eq_false', Bool.and_eq_true, Bool.or_eq_true, bne_eq_false_iff_eq] at c0
   refine den_skip ?_
   refine den_seq ?_
   refine den_block ?_
   refine den_region TTok ?_
   intro K hK
   simp -implicitDefEqProofs (disch := first | decide | assumption | omega) only [go_sem, Int.toNat_zero, ia24, BoxAt.el8E hb0_0, BoxAt.el8L hb0_0, BoxAt.el8L2 hb0_0, wrap_id, cv_u8, cv_i64, Nat.zero_add, wrap_u8, eq_el, ne_el, build_el, Int.toNat_zero]
   try simp -implicitDefEqProofs (disch := first | decide | assumption | omega) only [go_sem, BoxAt.el8E hb0_1, BoxAt.el8L hb0_1, BoxAt.el8L2 hb0_1, wrap_id, cv_u8, cv_i64, Nat.zero_add, wrap_u8, eq_el, ne_el, build_el, Int.toNat_zero]
   refine CallA.mono (toEl_ok  (f i) _  ) ?_
   intro v_ h5_4
   rintro ⟨rfl, e5_4⟩
   replace hb0_0 := BoxAt.ext hb0_0 e5_4
   replace hb0_1 := BoxAt.ext hb0_1 e5_4
   replace hbx3 := BoxAt.ext hbx3 e5_4
   have := Ext.size e5_4
   replace eB := Ext.trans eB e5_4
   replace cL2 := Chg.stepE cL2 e5_4
   try simp -implicitDefEqProofs (disch := first | decide | assumption | omega) only [go_sem, Int.toNat_zero, ia31, BoxAt.el8E hbx3, BoxAt.el8L hbx3, BoxAt.el8L2 hbx3, wrap_id, cv_u8, cv_i64, Nat.zero_add, wrap_u8, eq_el, ne_el, build_el, Int.toNat_zero]
   refine op_storeB (o := i * 8) (vs := elA (f i)) (cs' := el8A (updF (cpF z8 f i) i (f i))) st30 hbx3 rfl rfl (elA_sz _) (by rw [el8A_sz]; omega) elA_one (el8_upd (by omega)) ?_
   intro h5_6 hbx3 c5_6
   replace hb0_0 := BoxAt.chgA hb0_0 c5_6 (apart_lt hlhb0_0 hfhbx3 (by omega))
   replace hb0_1 := BoxAt.chgA hb0_1 c5_6 (apart_lt hlhb0_1 hfhbx3 (by omega))
   have := c5_6.size
   replace eB := Ext.then eB c5_6 (ge_of hfhbx3 (by omega))
   replace cL2 := Chg.step cL2 c5_6 Sub.refl
   try simp -implicitDefEqProofs (disch := first | decide | assumption | omega) only [go_sem, BoxAt.el8E hb0_1, BoxAt.el8L hb0_1, BoxAt.el8L2 hb0_1, wrap_id, cv_u8, cv_i64, Nat.zero_add, wrap_u8, eq_el, ne_el, build_el, Int.toNat_zero]
   refine hK _ _ ?_
   clear hK K
   refine den_blk ?_
   refine den_region TTok ?_
   intro K hK
   simp -implicitDefEqProofs (disch := first | decide | assumption | omega) only [go_sem, wrap_id, cv_u8, cv_i64, Nat.zero_add, wrap_u8, eq_el, ne_el, build_el, Int.toNat_zero]
   refine hK _ _ ?_
   clear hK K
   refine den_stop ?_
   rw [cp_updF] at hbx3
   exact ⟨i + 1, by simp [HasL, puts_at], ⟨by first | omega | (dsimp only; omega), hbx3, cL2⟩, by first | omega | (dsimp only; omega)⟩
  ·try simp only [decide_eq_true_eq, decide_eq_false_iff_not, beq_iff_eq, beq_eq_false_iff_ne, bne_iff_ne, ne_eq, Bool.not_eq_true', Bool.not_eq_false', Bool.and_eq_true, Bool.or_eq_true, bne_eq_false_iff_eq] at c0
   refine den_exit ?_
   refine denX_code ?_
   refine denX_stop ?_
   refine denX_hit ?_
   refine den_seq ?_
   refine den_region TTok ?_
   intro K hK
   simp -implicitDefEqProofs (disch := first | decide | assumption | omega) only [go_sem, BoxAt.el8E hbx3, BoxAt.el8L hbx3, BoxAt.el8L2 hbx3, wrap_id, cv_u8, cv_i64, Nat.zero_add, wrap_u8, eq_el, ne_el, build_el, Int.toNat_zero]
   refine op_storeB (o := 0) (vs := el8A (cpF z8 f i)) (cs' := el8A (cpF z8 f i)) st31 hb0_1 rfl rfl (el8A_sz _) (by rw [el8A_sz]; decide) el8A_one el8A_all ?_
   intro h6_1 hb0_1 c6_1
   replace hbx3 := BoxAt.chgA hbx3 c6_1 (apart_gt hfhbx3 hlhb0_1 (by omega))
   have := c6_1.size
   replace eB := Ext.then eB c6_1 (ge_of hfhb0_1 (by omega))
   try simp -implicitDefEqProofs (disch := first | decide | assumption | omega) only [go_sem, BoxAt.el8E hb0_1, BoxAt.el8L hb0_1, BoxAt.el8L2 hb0_1, wrap_id, cv_u8, cv_i64, Nat.zero_add, wrap_u8, eq_el, ne_el, build_el, Int.toNat_zero]
   refine hK _ _ ?_
   clear hK K
   refine den_ret ?_
   simp -implicitDefEqProofs (disch := first | decide | assumption | omega) only [go_sem, BoxAt.el8E hb0_1, BoxAt.el8L hb0_1, BoxAt.el8L2 hb0_1, wrap_id, cv_u8, cv_i64, Nat.zero_add, wrap_u8, eq_el, ne_el, build_el, Int.toNat_zero, resP_c1, ld31]
   rw [show i = 8 by omega]
   exact ⟨by rw [el8_cp], eB⟩

set_option maxRecDepth 100000 in
set_option maxHeartbeats 4000000 in
theorem toE88_ok (f : Nat → Nat → Nat → Int) (h : Heap)   : CallA Try.prog 42 #[.agg (el88A f)] h fun v' h' => v' = .agg (el88A (f)) ∧ Ext h h' := by
 refine callA_intro TTok (args := [_]) Try.func42 (by kernel_rfl) rfl 16 rfl (by simp) [.cell 2 32] rfl ?_
 simp only [idxs, Nat.reduceAdd]
 refine den_seq ?_
 refine den_region TTok ?_
 intro K hK
 simp -implicitDefEqProofs (disch := first | decide | assumption | omega) only [go_sem, wrap_id, cv_u8, cv_i64, Nat.zero_add, wrap_u8, eq_el, ne_el, build_el, Int.toNat_zero]
 refine op_box (cs := el88A f) rfl ?_
 intro h0_0 e0_0 hb0_0 z0_0
 have := Ext.size e0_0
 have eB := e0_0
 have hfhb0_0 : Fresh h.size [h.size] := Fresh.one _
 have hlhb0_0 := one_lt (show h.size < h0_0.size by omega)
 try simp -implicitDefEqProofs (disch := first | decide | assumption | omega) only [go_sem, wrap_id, cv_u8, cv_i64, Nat.zero_add, wrap_u8, eq_el, ne_el, build_el, Int.toNat_zero]
 refine op_alloc (cs := el88A z512) (by kernel_rfl) ?_
 intro h0_1 e0_1 hb0_1 z0_1
 replace hb0_0 := BoxAt.ext hb0_0 e0_1
 have := Ext.size e0_1
 replace eB := Ext.trans eB e0_1
 have hfhb0_1 : Fresh h0_0.size [h0_0.size] := Fresh.one _
 have hlhb0_1 := one_lt (show h0_0.size < h0_1.size by omega)
 try simp -implicitDefEqProofs (disch := first | decide | assumption | omega) only [go_sem, BoxAt.el88R hb0_1, BoxAt.el88L hb0_1, wrap_id, cv_u8, cv_i64, Nat.zero_add, wrap_u8, eq_el, ne_el, build_el, Int.toNat_zero]
 refine hK _ _ ?_
 clear hK K
 refine den_seq ?_
 refine den_region TTok ?_
 intro K hK
 simp -implicitDefEqProofs (disch := first | decide | assumption | omega) only [go_sem, BoxAt.el88R hb0_1, BoxAt.el88L hb0_1, wrap_id, cv_u8, cv_i64, Nat.zero_add, wrap_u8, eq_el, ne_el, build_el, Int.toNat_zero]
 refine op_alloc (cs := el88A z512) (by kernel_rfl) ?_
 intro h1_0 e1_0 hb1_0 z1_0
 replace hb0_0 := BoxAt.ext hb0_0 e1_0
 replace hb0_1 := BoxAt.ext hb0_1 e1_0
 have := Ext.size e1_0
 replace eB := Ext.trans eB e1_0
 have hfhb1_0 : Fresh h0_1.size [h0_1.size] := Fresh.one _
 have hlhb1_0 := one_lt (show h0_1.size < h1_0.size by omega)
 try simp -implicitDefEqProofs (disch := first | decide | assumption | omega) only [go_sem, BoxAt.el88R hb0_1, BoxAt.el88L hb0_1, wrap_id, cv_u8, cv_i64, Nat.zero_add, wrap_u8, eq_el, ne_el, build_el, Int.toNat_zero]
 refine hK _ _ ?_
 clear hK K
 refine den_seq ?_
 refine den_seq ?_
 refine den_region TTok ?_
 intro K hK
 simp -implicitDefEqProofs (disch := first | decide | assumption | omega) only [go_sem, wrap_id, cv_u8, cv_i64, Nat.zero_add, wrap_u8, eq_el, ne_el, build_el, Int.toNat_zero]
 refine hK _ _ ?_
 clear hK K
 refine den_block ?_
 refine den_sel [4, 1, 2, 3] ?_
 intro env_1
 simp only [go_sem]
 refine den_loopS (σ := Nat) (fun st_ => [(4, .int .i64 (st_ : Int))]) (fun st_ H => (st_ ≤ 8) ∧ (BoxAt H (h0_1.size) (el88A (cpF z64 f st_)) 32) ∧ (Chg [h0_1.size] h1_0 H)) (fun st_ => 8 - st_) 0 ?_ ?_
 ·exact ⟨by first | (simp; done) | (dsimp only; omega) | (simp; omega), by rw [cpF_z512]; exact hb1_0, Chg.refl _ _⟩
 ·rintro i h4 ee3 ⟨hi0, hbx3, cL2⟩
  replace hb0_0 := BoxAt.chgA hb0_0 cL2 (apart_lt hlhb0_0 hfhb1_0 (by omega))
  replace hb0_1 := BoxAt.chgA hb0_1 cL2 (apart_lt hlhb0_1 hfhb1_0 (by omega))
  have := cL2.size
  replace eB := Ext.then eB cL2 (ge_of hfhb1_0 (by omega))
  have hfhbx3 := hfhb1_0
  have hlhbx3 := hlhb1_0
  simp only [List.cons_append, List.nil_append]
  refine den_seq ?_
  refine den_seq ?_
  refine den_region TTok ?_
  intro K hK
  simp -implicitDefEqProofs (disch := first | decide | assumption | omega) only [go_sem, wrap_id, cv_u8, cv_i64, Nat.zero_add, wrap_u8, eq_el, ne_el, build_el, Int.toNat_zero]
  refine hK _ _ ?_
  clear hK K
  refine den_cond rfl (fun c0 => ?_) (fun c0 => ?_)
  ·try simp only [decide_eq_true_eq, decide_eq_false_iff_not, beq_iff_eq, beq_eq_false_iff_ne, bne_iff_ne, ne_eq, Bool.not_eq_true', Bool.not_eq_false', Bool.and_eq_true, Bool.or_eq_true, bne_eq_false_iff_eq] at c0
   refine den_skip ?_
   refine den_seq ?_
   refine den_block ?_
   refine den_region TTok ?_
   intro K hK
   simp -implicitDefEqProofs (disch := first | decide | assumption | omega) only [go_sem, Int.toNat_zero, ia25, BoxAt.el88R hb0_0, BoxAt.el88L hb0_0, wrap_id, cv_u8, cv_i64, Nat.zero_add, wrap_u8, eq_el, ne_el, build_el, Int.toNat_zero]
   try simp -implicitDefEqProofs (disch := first | decide | assumption | omega) only [go_sem, BoxAt.el88R hb0_1, BoxAt.el88L hb0_1, wrap_id, cv_u8, cv_i64, Nat.zero_add, wrap_u8, eq_el, ne_el, build_el, Int.toNat_zero]
   refine CallA.mono (toE8_ok  (f i) _  ) ?_
   intro v_ h5_4
   rintro ⟨rfl, e5_4⟩
   replace hb0_0 := BoxAt.ext hb0_0 e5_4
   replace hb0_1 := BoxAt.ext hb0_1 e5_4
   replace hbx3 := BoxAt.ext hbx3 e5_4
   have := Ext.size e5_4
   replace eB := Ext.trans eB e5_4
   replace cL2 := Chg.stepE cL2 e5_4
   try simp -implicitDefEqProofs (disch := first | decide | assumption | omega) only [go_sem, Int.toNat_zero, ia32, BoxAt.el88R hbx3, BoxAt.el88L hbx3, wrap_id, cv_u8, cv_i64, Nat.zero_add, wrap_u8, eq_el, ne_el, build_el, Int.toNat_zero]
   refine op_storeB (o := i * 64) (vs := el8A (f i)) (cs' := el88A (updF (cpF z64 f i) i (f i))) st31 hbx3 rfl rfl (el8A_sz _) (by rw [el88A_sz]; omega) el8A_one (el88_upd (by omega)) ?_
   intro h5_6 hbx3 c5_6
   replace hb0_0 := BoxAt.chgA hb0_0 c5_6 (apart_lt hlhb0_0 hfhbx3 (by omega))
   replace hb0_1 := BoxAt.chgA hb0_1 c5_6 (apart_lt hlhb0_1 hfhbx3 (by omega))
   have := c5_6.size
   replace eB := Ext.then eB c5_6 (ge_of hfhbx3 (by omega))
   replace cL2 := Chg.step cL2 c5_6 Sub.refl
   try simp -implicitDefEqProofs (disch := first | decide | assumption | omega) only [go_sem, BoxAt.el88R hb0_1, BoxAt.el88L hb0_1, wrap_id, cv_u8, cv_i64, Nat.zero_add, wrap_u8, eq_el, ne_el, build_el, Int.toNat_zero]
   refine hK _ _ ?_
   clear hK K
   refine den_blk ?_
   refine den_region TTok ?_
   intro K hK
   simp -implicitDefEqProofs (disch := first | decide | assumption | omega) only [go_sem, wrap_id, cv_u8, cv_i64, Nat.zero_add, wrap_u8, eq_el, ne_el, build_el, Int.toNat_zero]
   refine hK _ _ ?_
   clear hK K
   refine den_stop ?_
   rw [cp_updF] at hbx3
   exact ⟨i + 1, by simp [HasL, puts_at], ⟨by first | omega | (dsimp only; omega), hbx3, cL2⟩, by first | omega | (dsimp only; omega)⟩
  ·try simp only [decide_eq_true_eq, decide_eq_false_iff_not, beq_iff_eq, beq_eq_false_iff_ne, bne_iff_ne, ne_eq, Bool.not_eq_true', Bool.not_eq_false', Bool.and_eq_true, Bool.or_eq_true, bne_eq_false_iff_eq] at c0
   refine den_exit ?_
   refine denX_code ?_
   refine denX_stop ?_
   refine denX_hit ?_
   refine den_seq ?_
   refine den_region TTok ?_
   intro K hK
   simp -implicitDefEqProofs (disch := first | decide | assumption | omega) only [go_sem, BoxAt.el88R hbx3, BoxAt.el88L hbx3, wrap_id, cv_u8, cv_i64, Nat.zero_add, wrap_u8, eq_el, ne_el, build_el, Int.toNat_zero]
   refine op_storeB (o := 0) (vs := el88A (cpF z64 f i)) (cs' := el88A (cpF z64 f i)) st32 hb0_1 rfl rfl (el88A_sz _) (by rw [el88A_sz]; decide) el88A_one el88A_all ?_
   intro h6_1 hb0_1 c6_1
   replace hbx3 := BoxAt.chgA hbx3 c6_1 (apart_gt hfhbx3 hlhb0_1 (by omega))
   have := c6_1.size
   replace eB := Ext.then eB c6_1 (ge_of hfhb0_1 (by omega))
   try simp -implicitDefEqProofs (disch := first | decide | assumption | omega) only [go_sem, BoxAt.el88R hb0_1, BoxAt.el88L hb0_1, wrap_id, cv_u8, cv_i64, Nat.zero_add, wrap_u8, eq_el, ne_el, build_el, Int.toNat_zero]
   refine hK _ _ ?_
   clear hK K
   refine den_ret ?_
   simp -implicitDefEqProofs (disch := first | decide | assumption | omega) only [go_sem, BoxAt.el88R hb0_1, BoxAt.el88L hb0_1, wrap_id, cv_u8, cv_i64, Nat.zero_add, wrap_u8, eq_el, ne_el, build_el, Int.toNat_zero, resP_c1, ld32]
   rw [show i = 8 by omega]
   exact ⟨by rw [el88_cp], eB⟩

set_option maxRecDepth 100000 in
set_option maxHeartbeats 4000000 in
theorem toDg_ok (X : Dg) (h : Heap)   : CallA Try.prog 9 #[.agg (dgA X)] h fun v' h' => v' = .agg (dgA (X)) ∧ Ext h h' := by
 refine callA_intro TTok (args := [_]) Try.func9 (by kernel_rfl) rfl 27 rfl (by simp) [.cell 2 34] rfl ?_
 simp only [idxs, Nat.reduceAdd]
 refine den_seq ?_
 refine den_region TTok ?_
 intro K hK
 simp -implicitDefEqProofs (disch := first | decide | assumption | omega) only [go_sem, wrap_id, cv_u8, cv_i64, Nat.zero_add, wrap_u8, eq_el, ne_el, build_el, Int.toNat_zero]
 refine op_box (cs := dgA X) rfl ?_
 intro h0_0 e0_0 hb0_0 z0_0
 have := Ext.size e0_0
 have eB := e0_0
 have hfhb0_0 : Fresh h.size [h.size] := Fresh.one _
 have hlhb0_0 := one_lt (show h.size < h0_0.size by omega)
 try simp -implicitDefEqProofs (disch := first | decide | assumption | omega) only [go_sem, wrap_id, cv_u8, cv_i64, Nat.zero_add, wrap_u8, eq_el, ne_el, build_el, Int.toNat_zero]
 refine op_alloc (cs := dgA dgZ) (by kernel_rfl) ?_
 intro h0_1 e0_1 hb0_1 z0_1
 replace hb0_0 := BoxAt.ext hb0_0 e0_1
 have := Ext.size e0_1
 replace eB := Ext.trans eB e0_1
 have hfhb0_1 : Fresh h0_0.size [h0_0.size] := Fresh.one _
 have hlhb0_1 := one_lt (show h0_0.size < h0_1.size by omega)
 try simp -implicitDefEqProofs (disch := first | decide | assumption | omega) only [go_sem, BoxAt.dgL hb0_1, BoxAt.dgP hb0_1, BoxAt.dgS hb0_1, BoxAt.dgDeg hb0_1, BoxAt.dgLev hb0_1, BoxAt.dgDeg0 hb0_1, BoxAt.dgLev0 hb0_1, BoxAt.dgDifL hb0_1, BoxAt.dgTabL hb0_1, BoxAt.dgTabL0 hb0_1, BoxAt.dgTabL1 hb0_1, BoxAt.dgTabL1' hb0_1, BoxAt.dgDifB hb0_1, BoxAt.dgTabB hb0_1, BoxAt.dgLL hb0_1, BoxAt.dgDegL hb0_1, BoxAt.dgLevL hb0_1, BoxAt.dgDifA hb0_1, BoxAt.dgTabA hb0_1, wrap_id, cv_u8, cv_i64, Nat.zero_add, wrap_u8, eq_el, ne_el, build_el, Int.toNat_zero]
 refine hK _ _ ?_
 clear hK K
 refine den_seq ?_
 refine den_region TTok ?_
 intro K hK
 simp -implicitDefEqProofs (disch := first | decide | assumption | omega) only [go_sem, BoxAt.dgL hb0_1, BoxAt.dgP hb0_1, BoxAt.dgS hb0_1, BoxAt.dgDeg hb0_1, BoxAt.dgLev hb0_1, BoxAt.dgDeg0 hb0_1, BoxAt.dgLev0 hb0_1, BoxAt.dgDifL hb0_1, BoxAt.dgTabL hb0_1, BoxAt.dgTabL0 hb0_1, BoxAt.dgTabL1 hb0_1, BoxAt.dgTabL1' hb0_1, BoxAt.dgDifB hb0_1, BoxAt.dgTabB hb0_1, BoxAt.dgLL hb0_1, BoxAt.dgDegL hb0_1, BoxAt.dgLevL hb0_1, BoxAt.dgDifA hb0_1, BoxAt.dgTabA hb0_1, wrap_id, cv_u8, cv_i64, Nat.zero_add, wrap_u8, eq_el, ne_el, build_el, Int.toNat_zero]
 refine op_alloc (cs := dgA dgZ) (by kernel_rfl) ?_
 intro h1_0 e1_0 hb1_0 z1_0
 replace hb0_0 := BoxAt.ext hb0_0 e1_0
 replace hb0_1 := BoxAt.ext hb0_1 e1_0
 have := Ext.size e1_0
 replace eB := Ext.trans eB e1_0
 have hfhb1_0 : Fresh h0_1.size [h0_1.size] := Fresh.one _
 have hlhb1_0 := one_lt (show h0_1.size < h1_0.size by omega)
 try simp -implicitDefEqProofs (disch := first | decide | assumption | omega) only [go_sem, BoxAt.dgL hb0_1, BoxAt.dgP hb0_1, BoxAt.dgS hb0_1, BoxAt.dgDeg hb0_1, BoxAt.dgLev hb0_1, BoxAt.dgDeg0 hb0_1, BoxAt.dgLev0 hb0_1, BoxAt.dgDifL hb0_1, BoxAt.dgTabL hb0_1, BoxAt.dgTabL0 hb0_1, BoxAt.dgTabL1 hb0_1, BoxAt.dgTabL1' hb0_1, BoxAt.dgDifB hb0_1, BoxAt.dgTabB hb0_1, BoxAt.dgLL hb0_1, BoxAt.dgDegL hb0_1, BoxAt.dgLevL hb0_1, BoxAt.dgDifA hb0_1, BoxAt.dgTabA hb0_1, wrap_id, cv_u8, cv_i64, Nat.zero_add, wrap_u8, eq_el, ne_el, build_el, Int.toNat_zero]
 refine hK _ _ ?_
 clear hK K
 refine den_seq ?_
 refine den_region TTok ?_
 intro K hK
 simp -implicitDefEqProofs (disch := first | decide | assumption | omega) only [go_sem, fa34_0, fa27_0, ld2, BoxAt.dgL hb0_0, BoxAt.dgP hb0_0, BoxAt.dgS hb0_0, BoxAt.dgDeg hb0_0, BoxAt.dgLev hb0_0, BoxAt.dgDeg0 hb0_0, BoxAt.dgLev0 hb0_0, BoxAt.dgDifL hb0_0, BoxAt.dgTabL hb0_0, BoxAt.dgTabL0 hb0_0, BoxAt.dgTabL1 hb0_0, BoxAt.dgTabL1' hb0_0, BoxAt.dgDifB hb0_0, BoxAt.dgTabB hb0_0, BoxAt.dgLL hb0_0, BoxAt.dgDegL hb0_0, BoxAt.dgLevL hb0_0, BoxAt.dgDifA hb0_0, BoxAt.dgTabA hb0_0, BoxAt.dgL hb1_0, BoxAt.dgP hb1_0, BoxAt.dgS hb1_0, BoxAt.dgDeg hb1_0, BoxAt.dgLev hb1_0, BoxAt.dgDeg0 hb1_0, BoxAt.dgLev0 hb1_0, BoxAt.dgDifL hb1_0, BoxAt.dgTabL hb1_0, BoxAt.dgTabL0 hb1_0, BoxAt.dgTabL1 hb1_0, BoxAt.dgTabL1' hb1_0, BoxAt.dgDifB hb1_0, BoxAt.dgTabB hb1_0, BoxAt.dgLL hb1_0, BoxAt.dgDegL hb1_0, BoxAt.dgLevL hb1_0, BoxAt.dgDifA hb1_0, BoxAt.dgTabA hb1_0, wrap_id, cv_u8, cv_i64, Nat.zero_add, wrap_u8, eq_el, ne_el, build_el, Int.toNat_zero]
 refine op_storeB (o := 0) (vs := #[.int .i64 X.p]) (cs' := dgA ({ dgZ with p := X.p })) st2 hb1_0 rfl rfl rfl (by rw [dgA_sz]; decide) i64_one dg_p ?_
 intro h2_3 hb1_0 c2_3
 replace hb0_0 := BoxAt.chgA hb0_0 c2_3 (apart_lt hlhb0_0 hfhb1_0 (by omega))
 replace hb0_1 := BoxAt.chgA hb0_1 c2_3 (apart_lt hlhb0_1 hfhb1_0 (by omega))
 have := c2_3.size
 replace eB := Ext.then eB c2_3 (ge_of hfhb1_0 (by omega))
 try simp -implicitDefEqProofs (disch := first | decide | assumption | omega) only [go_sem, BoxAt.dgL hb0_1, BoxAt.dgP hb0_1, BoxAt.dgS hb0_1, BoxAt.dgDeg hb0_1, BoxAt.dgLev hb0_1, BoxAt.dgDeg0 hb0_1, BoxAt.dgLev0 hb0_1, BoxAt.dgDifL hb0_1, BoxAt.dgTabL hb0_1, BoxAt.dgTabL0 hb0_1, BoxAt.dgTabL1 hb0_1, BoxAt.dgTabL1' hb0_1, BoxAt.dgDifB hb0_1, BoxAt.dgTabB hb0_1, BoxAt.dgLL hb0_1, BoxAt.dgDegL hb0_1, BoxAt.dgLevL hb0_1, BoxAt.dgDifA hb0_1, BoxAt.dgTabA hb0_1, wrap_id, cv_u8, cv_i64, Nat.zero_add, wrap_u8, eq_el, ne_el, build_el, Int.toNat_zero]
 refine hK _ _ ?_
 clear hK K
 refine den_seq ?_
 refine den_region TTok ?_
 intro K hK
 simp -implicitDefEqProofs (disch := first | decide | assumption | omega) only [go_sem, fa34_1, fa27_1, ld2, BoxAt.dgL hb0_0, BoxAt.dgP hb0_0, BoxAt.dgS hb0_0, BoxAt.dgDeg hb0_0, BoxAt.dgLev hb0_0, BoxAt.dgDeg0 hb0_0, BoxAt.dgLev0 hb0_0, BoxAt.dgDifL hb0_0, BoxAt.dgTabL hb0_0, BoxAt.dgTabL0 hb0_0, BoxAt.dgTabL1 hb0_0, BoxAt.dgTabL1' hb0_0, BoxAt.dgDifB hb0_0, BoxAt.dgTabB hb0_0, BoxAt.dgLL hb0_0, BoxAt.dgDegL hb0_0, BoxAt.dgLevL hb0_0, BoxAt.dgDifA hb0_0, BoxAt.dgTabA hb0_0, BoxAt.dgL hb1_0, BoxAt.dgP hb1_0, BoxAt.dgS hb1_0, BoxAt.dgDeg hb1_0, BoxAt.dgLev hb1_0, BoxAt.dgDeg0 hb1_0, BoxAt.dgLev0 hb1_0, BoxAt.dgDifL hb1_0, BoxAt.dgTabL hb1_0, BoxAt.dgTabL0 hb1_0, BoxAt.dgTabL1 hb1_0, BoxAt.dgTabL1' hb1_0, BoxAt.dgDifB hb1_0, BoxAt.dgTabB hb1_0, BoxAt.dgLL hb1_0, BoxAt.dgDegL hb1_0, BoxAt.dgLevL hb1_0, BoxAt.dgDifA hb1_0, BoxAt.dgTabA hb1_0, wrap_id, cv_u8, cv_i64, Nat.zero_add, wrap_u8, eq_el, ne_el, build_el, Int.toNat_zero]
 refine op_storeB (o := 1) (vs := #[.int .i64 X.s]) (cs' := dgA ({ { dgZ with p := X.p } with s := X.s })) st2 hb1_0 rfl rfl rfl (by rw [dgA_sz]; decide) i64_one dg_s ?_
 intro h3_3 hb1_0 c3_3
 replace hb0_0 := BoxAt.chgA hb0_0 c3_3 (apart_lt hlhb0_0 hfhb1_0 (by omega))
 replace hb0_1 := BoxAt.chgA hb0_1 c3_3 (apart_lt hlhb0_1 hfhb1_0 (by omega))
 have := c3_3.size
 replace eB := Ext.then eB c3_3 (ge_of hfhb1_0 (by omega))
 try simp -implicitDefEqProofs (disch := first | decide | assumption | omega) only [go_sem, BoxAt.dgL hb0_1, BoxAt.dgP hb0_1, BoxAt.dgS hb0_1, BoxAt.dgDeg hb0_1, BoxAt.dgLev hb0_1, BoxAt.dgDeg0 hb0_1, BoxAt.dgLev0 hb0_1, BoxAt.dgDifL hb0_1, BoxAt.dgTabL hb0_1, BoxAt.dgTabL0 hb0_1, BoxAt.dgTabL1 hb0_1, BoxAt.dgTabL1' hb0_1, BoxAt.dgDifB hb0_1, BoxAt.dgTabB hb0_1, BoxAt.dgLL hb0_1, BoxAt.dgDegL hb0_1, BoxAt.dgLevL hb0_1, BoxAt.dgDifA hb0_1, BoxAt.dgTabA hb0_1, wrap_id, cv_u8, cv_i64, Nat.zero_add, wrap_u8, eq_el, ne_el, build_el, Int.toNat_zero]
 refine hK _ _ ?_
 clear hK K
 refine den_seq ?_
 refine den_region TTok ?_
 intro K hK
 simp -implicitDefEqProofs (disch := first | decide | assumption | omega) only [go_sem, fa27_2, BoxAt.dgL hb0_0, BoxAt.dgP hb0_0, BoxAt.dgS hb0_0, BoxAt.dgDeg hb0_0, BoxAt.dgLev hb0_0, BoxAt.dgDeg0 hb0_0, BoxAt.dgLev0 hb0_0, BoxAt.dgDifL hb0_0, BoxAt.dgTabL hb0_0, BoxAt.dgTabL0 hb0_0, BoxAt.dgTabL1 hb0_0, BoxAt.dgTabL1' hb0_0, BoxAt.dgDifB hb0_0, BoxAt.dgTabB hb0_0, BoxAt.dgLL hb0_0, BoxAt.dgDegL hb0_0, BoxAt.dgLevL hb0_0, BoxAt.dgDifA hb0_0, BoxAt.dgTabA hb0_0, wrap_id, cv_u8, cv_i64, Nat.zero_add, wrap_u8, eq_el, ne_el, build_el, Int.toNat_zero]
 try simp -implicitDefEqProofs (disch := first | decide | assumption | omega) only [go_sem, BoxAt.dgL hb0_1, BoxAt.dgP hb0_1, BoxAt.dgS hb0_1, BoxAt.dgDeg hb0_1, BoxAt.dgLev hb0_1, BoxAt.dgDeg0 hb0_1, BoxAt.dgLev0 hb0_1, BoxAt.dgDifL hb0_1, BoxAt.dgTabL hb0_1, BoxAt.dgTabL0 hb0_1, BoxAt.dgTabL1 hb0_1, BoxAt.dgTabL1' hb0_1, BoxAt.dgDifB hb0_1, BoxAt.dgTabB hb0_1, BoxAt.dgLL hb0_1, BoxAt.dgDegL hb0_1, BoxAt.dgLevL hb0_1, BoxAt.dgDifA hb0_1, BoxAt.dgTabA hb0_1, wrap_id, cv_u8, cv_i64, Nat.zero_add, wrap_u8, eq_el, ne_el, build_el, Int.toNat_zero]
 refine CallA.mono (toI8_ok  X.deg _  ) ?_
 intro v_ h4_2
 rintro ⟨rfl, e4_2⟩
 replace hb0_0 := BoxAt.ext hb0_0 e4_2
 replace hb0_1 := BoxAt.ext hb0_1 e4_2
 replace hb1_0 := BoxAt.ext hb1_0 e4_2
 have := Ext.size e4_2
 replace eB := Ext.trans eB e4_2
 try simp -implicitDefEqProofs (disch := first | decide | assumption | omega) only [go_sem, fa34_2, BoxAt.dgL hb1_0, BoxAt.dgP hb1_0, BoxAt.dgS hb1_0, BoxAt.dgDeg hb1_0, BoxAt.dgLev hb1_0, BoxAt.dgDeg0 hb1_0, BoxAt.dgLev0 hb1_0, BoxAt.dgDifL hb1_0, BoxAt.dgTabL hb1_0, BoxAt.dgTabL0 hb1_0, BoxAt.dgTabL1 hb1_0, BoxAt.dgTabL1' hb1_0, BoxAt.dgDifB hb1_0, BoxAt.dgTabB hb1_0, BoxAt.dgLL hb1_0, BoxAt.dgDegL hb1_0, BoxAt.dgLevL hb1_0, BoxAt.dgDifA hb1_0, BoxAt.dgTabA hb1_0, wrap_id, cv_u8, cv_i64, Nat.zero_add, wrap_u8, eq_el, ne_el, build_el, Int.toNat_zero]
 refine op_storeB (o := 2) (vs := in8A X.deg) (cs' := dgA ({ { { dgZ with p := X.p } with s := X.s } with deg := X.deg })) st22 hb1_0 rfl rfl (in8A_sz _) (by rw [dgA_sz]; decide) in8A_one dg_deg ?_
 intro h4_4 hb1_0 c4_4
 replace hb0_0 := BoxAt.chgA hb0_0 c4_4 (apart_lt hlhb0_0 hfhb1_0 (by omega))
 replace hb0_1 := BoxAt.chgA hb0_1 c4_4 (apart_lt hlhb0_1 hfhb1_0 (by omega))
 have := c4_4.size
 replace eB := Ext.then eB c4_4 (ge_of hfhb1_0 (by omega))
 try simp -implicitDefEqProofs (disch := first | decide | assumption | omega) only [go_sem, BoxAt.dgL hb0_1, BoxAt.dgP hb0_1, BoxAt.dgS hb0_1, BoxAt.dgDeg hb0_1, BoxAt.dgLev hb0_1, BoxAt.dgDeg0 hb0_1, BoxAt.dgLev0 hb0_1, BoxAt.dgDifL hb0_1, BoxAt.dgTabL hb0_1, BoxAt.dgTabL0 hb0_1, BoxAt.dgTabL1 hb0_1, BoxAt.dgTabL1' hb0_1, BoxAt.dgDifB hb0_1, BoxAt.dgTabB hb0_1, BoxAt.dgLL hb0_1, BoxAt.dgDegL hb0_1, BoxAt.dgLevL hb0_1, BoxAt.dgDifA hb0_1, BoxAt.dgTabA hb0_1, wrap_id, cv_u8, cv_i64, Nat.zero_add, wrap_u8, eq_el, ne_el, build_el, Int.toNat_zero]
 refine hK _ _ ?_
 clear hK K
 refine den_seq ?_
 refine den_region TTok ?_
 intro K hK
 simp -implicitDefEqProofs (disch := first | decide | assumption | omega) only [go_sem, fa27_3, BoxAt.dgL hb0_0, BoxAt.dgP hb0_0, BoxAt.dgS hb0_0, BoxAt.dgDeg hb0_0, BoxAt.dgLev hb0_0, BoxAt.dgDeg0 hb0_0, BoxAt.dgLev0 hb0_0, BoxAt.dgDifL hb0_0, BoxAt.dgTabL hb0_0, BoxAt.dgTabL0 hb0_0, BoxAt.dgTabL1 hb0_0, BoxAt.dgTabL1' hb0_0, BoxAt.dgDifB hb0_0, BoxAt.dgTabB hb0_0, BoxAt.dgLL hb0_0, BoxAt.dgDegL hb0_0, BoxAt.dgLevL hb0_0, BoxAt.dgDifA hb0_0, BoxAt.dgTabA hb0_0, wrap_id, cv_u8, cv_i64, Nat.zero_add, wrap_u8, eq_el, ne_el, build_el, Int.toNat_zero]
 try simp -implicitDefEqProofs (disch := first | decide | assumption | omega) only [go_sem, BoxAt.dgL hb0_1, BoxAt.dgP hb0_1, BoxAt.dgS hb0_1, BoxAt.dgDeg hb0_1, BoxAt.dgLev hb0_1, BoxAt.dgDeg0 hb0_1, BoxAt.dgLev0 hb0_1, BoxAt.dgDifL hb0_1, BoxAt.dgTabL hb0_1, BoxAt.dgTabL0 hb0_1, BoxAt.dgTabL1 hb0_1, BoxAt.dgTabL1' hb0_1, BoxAt.dgDifB hb0_1, BoxAt.dgTabB hb0_1, BoxAt.dgLL hb0_1, BoxAt.dgDegL hb0_1, BoxAt.dgLevL hb0_1, BoxAt.dgDifA hb0_1, BoxAt.dgTabA hb0_1, wrap_id, cv_u8, cv_i64, Nat.zero_add, wrap_u8, eq_el, ne_el, build_el, Int.toNat_zero]
 refine CallA.mono (toI8_ok  X.lev _  ) ?_
 intro v_ h5_2
 rintro ⟨rfl, e5_2⟩
 replace hb0_0 := BoxAt.ext hb0_0 e5_2
 replace hb0_1 := BoxAt.ext hb0_1 e5_2
 replace hb1_0 := BoxAt.ext hb1_0 e5_2
 have := Ext.size e5_2
 replace eB := Ext.trans eB e5_2
 try simp -implicitDefEqProofs (disch := first | decide | assumption | omega) only [go_sem, fa34_3, BoxAt.dgL hb1_0, BoxAt.dgP hb1_0, BoxAt.dgS hb1_0, BoxAt.dgDeg hb1_0, BoxAt.dgLev hb1_0, BoxAt.dgDeg0 hb1_0, BoxAt.dgLev0 hb1_0, BoxAt.dgDifL hb1_0, BoxAt.dgTabL hb1_0, BoxAt.dgTabL0 hb1_0, BoxAt.dgTabL1 hb1_0, BoxAt.dgTabL1' hb1_0, BoxAt.dgDifB hb1_0, BoxAt.dgTabB hb1_0, BoxAt.dgLL hb1_0, BoxAt.dgDegL hb1_0, BoxAt.dgLevL hb1_0, BoxAt.dgDifA hb1_0, BoxAt.dgTabA hb1_0, wrap_id, cv_u8, cv_i64, Nat.zero_add, wrap_u8, eq_el, ne_el, build_el, Int.toNat_zero]
 refine op_storeB (o := 10) (vs := in8A X.lev) (cs' := dgA ({ { { { dgZ with p := X.p } with s := X.s } with deg := X.deg } with lev := X.lev })) st22 hb1_0 rfl rfl (in8A_sz _) (by rw [dgA_sz]; decide) in8A_one dg_lev ?_
 intro h5_4 hb1_0 c5_4
 replace hb0_0 := BoxAt.chgA hb0_0 c5_4 (apart_lt hlhb0_0 hfhb1_0 (by omega))
 replace hb0_1 := BoxAt.chgA hb0_1 c5_4 (apart_lt hlhb0_1 hfhb1_0 (by omega))
 have := c5_4.size
 replace eB := Ext.then eB c5_4 (ge_of hfhb1_0 (by omega))
 try simp -implicitDefEqProofs (disch := first | decide | assumption | omega) only [go_sem, BoxAt.dgL hb0_1, BoxAt.dgP hb0_1, BoxAt.dgS hb0_1, BoxAt.dgDeg hb0_1, BoxAt.dgLev hb0_1, BoxAt.dgDeg0 hb0_1, BoxAt.dgLev0 hb0_1, BoxAt.dgDifL hb0_1, BoxAt.dgTabL hb0_1, BoxAt.dgTabL0 hb0_1, BoxAt.dgTabL1 hb0_1, BoxAt.dgTabL1' hb0_1, BoxAt.dgDifB hb0_1, BoxAt.dgTabB hb0_1, BoxAt.dgLL hb0_1, BoxAt.dgDegL hb0_1, BoxAt.dgLevL hb0_1, BoxAt.dgDifA hb0_1, BoxAt.dgTabA hb0_1, wrap_id, cv_u8, cv_i64, Nat.zero_add, wrap_u8, eq_el, ne_el, build_el, Int.toNat_zero]
 refine hK _ _ ?_
 clear hK K
 refine den_seq ?_
 refine den_region TTok ?_
 intro K hK
 simp -implicitDefEqProofs (disch := first | decide | assumption | omega) only [go_sem, fa27_4, BoxAt.dgL hb0_0, BoxAt.dgP hb0_0, BoxAt.dgS hb0_0, BoxAt.dgDeg hb0_0, BoxAt.dgLev hb0_0, BoxAt.dgDeg0 hb0_0, BoxAt.dgLev0 hb0_0, BoxAt.dgDifL hb0_0, BoxAt.dgTabL hb0_0, BoxAt.dgTabL0 hb0_0, BoxAt.dgTabL1 hb0_0, BoxAt.dgTabL1' hb0_0, BoxAt.dgDifB hb0_0, BoxAt.dgTabB hb0_0, BoxAt.dgLL hb0_0, BoxAt.dgDegL hb0_0, BoxAt.dgLevL hb0_0, BoxAt.dgDifA hb0_0, BoxAt.dgTabA hb0_0, wrap_id, cv_u8, cv_i64, Nat.zero_add, wrap_u8, eq_el, ne_el, build_el, Int.toNat_zero]
 try simp -implicitDefEqProofs (disch := first | decide | assumption | omega) only [go_sem, BoxAt.dgL hb0_1, BoxAt.dgP hb0_1, BoxAt.dgS hb0_1, BoxAt.dgDeg hb0_1, BoxAt.dgLev hb0_1, BoxAt.dgDeg0 hb0_1, BoxAt.dgLev0 hb0_1, BoxAt.dgDifL hb0_1, BoxAt.dgTabL hb0_1, BoxAt.dgTabL0 hb0_1, BoxAt.dgTabL1 hb0_1, BoxAt.dgTabL1' hb0_1, BoxAt.dgDifB hb0_1, BoxAt.dgTabB hb0_1, BoxAt.dgLL hb0_1, BoxAt.dgDegL hb0_1, BoxAt.dgLevL hb0_1, BoxAt.dgDifA hb0_1, BoxAt.dgTabA hb0_1, wrap_id, cv_u8, cv_i64, Nat.zero_add, wrap_u8, eq_el, ne_el, build_el, Int.toNat_zero]
 refine CallA.mono (toE8_ok  X.dif _  ) ?_
 intro v_ h6_2
 rintro ⟨rfl, e6_2⟩
 replace hb0_0 := BoxAt.ext hb0_0 e6_2
 replace hb0_1 := BoxAt.ext hb0_1 e6_2
 replace hb1_0 := BoxAt.ext hb1_0 e6_2
 have := Ext.size e6_2
 replace eB := Ext.trans eB e6_2
 try simp -implicitDefEqProofs (disch := first | decide | assumption | omega) only [go_sem, fa34_4, BoxAt.dgL hb1_0, BoxAt.dgP hb1_0, BoxAt.dgS hb1_0, BoxAt.dgDeg hb1_0, BoxAt.dgLev hb1_0, BoxAt.dgDeg0 hb1_0, BoxAt.dgLev0 hb1_0, BoxAt.dgDifL hb1_0, BoxAt.dgTabL hb1_0, BoxAt.dgTabL0 hb1_0, BoxAt.dgTabL1 hb1_0, BoxAt.dgTabL1' hb1_0, BoxAt.dgDifB hb1_0, BoxAt.dgTabB hb1_0, BoxAt.dgLL hb1_0, BoxAt.dgDegL hb1_0, BoxAt.dgLevL hb1_0, BoxAt.dgDifA hb1_0, BoxAt.dgTabA hb1_0, wrap_id, cv_u8, cv_i64, Nat.zero_add, wrap_u8, eq_el, ne_el, build_el, Int.toNat_zero]
 refine op_storeB (o := 18) (vs := el8A X.dif) (cs' := dgA ({ { { { { dgZ with p := X.p } with s := X.s } with deg := X.deg } with lev := X.lev } with dif := X.dif })) st31 hb1_0 rfl rfl (el8A_sz _) (by rw [dgA_sz]; decide) el8A_one dg_dif ?_
 intro h6_4 hb1_0 c6_4
 replace hb0_0 := BoxAt.chgA hb0_0 c6_4 (apart_lt hlhb0_0 hfhb1_0 (by omega))
 replace hb0_1 := BoxAt.chgA hb0_1 c6_4 (apart_lt hlhb0_1 hfhb1_0 (by omega))
 have := c6_4.size
 replace eB := Ext.then eB c6_4 (ge_of hfhb1_0 (by omega))
 try simp -implicitDefEqProofs (disch := first | decide | assumption | omega) only [go_sem, BoxAt.dgL hb0_1, BoxAt.dgP hb0_1, BoxAt.dgS hb0_1, BoxAt.dgDeg hb0_1, BoxAt.dgLev hb0_1, BoxAt.dgDeg0 hb0_1, BoxAt.dgLev0 hb0_1, BoxAt.dgDifL hb0_1, BoxAt.dgTabL hb0_1, BoxAt.dgTabL0 hb0_1, BoxAt.dgTabL1 hb0_1, BoxAt.dgTabL1' hb0_1, BoxAt.dgDifB hb0_1, BoxAt.dgTabB hb0_1, BoxAt.dgLL hb0_1, BoxAt.dgDegL hb0_1, BoxAt.dgLevL hb0_1, BoxAt.dgDifA hb0_1, BoxAt.dgTabA hb0_1, wrap_id, cv_u8, cv_i64, Nat.zero_add, wrap_u8, eq_el, ne_el, build_el, Int.toNat_zero]
 refine hK _ _ ?_
 clear hK K
 refine den_seq ?_
 refine den_region TTok ?_
 intro K hK
 simp -implicitDefEqProofs (disch := first | decide | assumption | omega) only [go_sem, fa27_5, BoxAt.dgL hb0_0, BoxAt.dgP hb0_0, BoxAt.dgS hb0_0, BoxAt.dgDeg hb0_0, BoxAt.dgLev hb0_0, BoxAt.dgDeg0 hb0_0, BoxAt.dgLev0 hb0_0, BoxAt.dgDifL hb0_0, BoxAt.dgTabL hb0_0, BoxAt.dgTabL0 hb0_0, BoxAt.dgTabL1 hb0_0, BoxAt.dgTabL1' hb0_0, BoxAt.dgDifB hb0_0, BoxAt.dgTabB hb0_0, BoxAt.dgLL hb0_0, BoxAt.dgDegL hb0_0, BoxAt.dgLevL hb0_0, BoxAt.dgDifA hb0_0, BoxAt.dgTabA hb0_0, wrap_id, cv_u8, cv_i64, Nat.zero_add, wrap_u8, eq_el, ne_el, build_el, Int.toNat_zero]
 try simp -implicitDefEqProofs (disch := first | decide | assumption | omega) only [go_sem, BoxAt.dgL hb0_1, BoxAt.dgP hb0_1, BoxAt.dgS hb0_1, BoxAt.dgDeg hb0_1, BoxAt.dgLev hb0_1, BoxAt.dgDeg0 hb0_1, BoxAt.dgLev0 hb0_1, BoxAt.dgDifL hb0_1, BoxAt.dgTabL hb0_1, BoxAt.dgTabL0 hb0_1, BoxAt.dgTabL1 hb0_1, BoxAt.dgTabL1' hb0_1, BoxAt.dgDifB hb0_1, BoxAt.dgTabB hb0_1, BoxAt.dgLL hb0_1, BoxAt.dgDegL hb0_1, BoxAt.dgLevL hb0_1, BoxAt.dgDifA hb0_1, BoxAt.dgTabA hb0_1, wrap_id, cv_u8, cv_i64, Nat.zero_add, wrap_u8, eq_el, ne_el, build_el, Int.toNat_zero]
 refine CallA.mono (toE88_ok  X.tab _  ) ?_
 intro v_ h7_2
 rintro ⟨rfl, e7_2⟩
 replace hb0_0 := BoxAt.ext hb0_0 e7_2
 replace hb0_1 := BoxAt.ext hb0_1 e7_2
 replace hb1_0 := BoxAt.ext hb1_0 e7_2
 have := Ext.size e7_2
 replace eB := Ext.trans eB e7_2
 try simp -implicitDefEqProofs (disch := first | decide | assumption | omega) only [go_sem, fa34_5, BoxAt.dgL hb1_0, BoxAt.dgP hb1_0, BoxAt.dgS hb1_0, BoxAt.dgDeg hb1_0, BoxAt.dgLev hb1_0, BoxAt.dgDeg0 hb1_0, BoxAt.dgLev0 hb1_0, BoxAt.dgDifL hb1_0, BoxAt.dgTabL hb1_0, BoxAt.dgTabL0 hb1_0, BoxAt.dgTabL1 hb1_0, BoxAt.dgTabL1' hb1_0, BoxAt.dgDifB hb1_0, BoxAt.dgTabB hb1_0, BoxAt.dgLL hb1_0, BoxAt.dgDegL hb1_0, BoxAt.dgLevL hb1_0, BoxAt.dgDifA hb1_0, BoxAt.dgTabA hb1_0, wrap_id, cv_u8, cv_i64, Nat.zero_add, wrap_u8, eq_el, ne_el, build_el, Int.toNat_zero]
 refine op_storeB (o := 82) (vs := el88A X.tab) (cs' := dgA ({ { { { { { dgZ with p := X.p } with s := X.s } with deg := X.deg } with lev := X.lev } with dif := X.dif } with tab := X.tab })) st32 hb1_0 rfl rfl (el88A_sz _) (by rw [dgA_sz]; decide) el88A_one dg_tab ?_
 intro h7_4 hb1_0 c7_4
 replace hb0_0 := BoxAt.chgA hb0_0 c7_4 (apart_lt hlhb0_0 hfhb1_0 (by omega))
 replace hb0_1 := BoxAt.chgA hb0_1 c7_4 (apart_lt hlhb0_1 hfhb1_0 (by omega))
 have := c7_4.size
 replace eB := Ext.then eB c7_4 (ge_of hfhb1_0 (by omega))
 try simp -implicitDefEqProofs (disch := first | decide | assumption | omega) only [go_sem, BoxAt.dgL hb0_1, BoxAt.dgP hb0_1, BoxAt.dgS hb0_1, BoxAt.dgDeg hb0_1, BoxAt.dgLev hb0_1, BoxAt.dgDeg0 hb0_1, BoxAt.dgLev0 hb0_1, BoxAt.dgDifL hb0_1, BoxAt.dgTabL hb0_1, BoxAt.dgTabL0 hb0_1, BoxAt.dgTabL1 hb0_1, BoxAt.dgTabL1' hb0_1, BoxAt.dgDifB hb0_1, BoxAt.dgTabB hb0_1, BoxAt.dgLL hb0_1, BoxAt.dgDegL hb0_1, BoxAt.dgLevL hb0_1, BoxAt.dgDifA hb0_1, BoxAt.dgTabA hb0_1, wrap_id, cv_u8, cv_i64, Nat.zero_add, wrap_u8, eq_el, ne_el, build_el, Int.toNat_zero]
 refine hK _ _ ?_
 clear hK K
 refine den_seq ?_
 refine den_region TTok ?_
 intro K hK
 simp -implicitDefEqProofs (disch := first | decide | assumption | omega) only [go_sem, BoxAt.dgL hb1_0, BoxAt.dgP hb1_0, BoxAt.dgS hb1_0, BoxAt.dgDeg hb1_0, BoxAt.dgLev hb1_0, BoxAt.dgDeg0 hb1_0, BoxAt.dgLev0 hb1_0, BoxAt.dgDifL hb1_0, BoxAt.dgTabL hb1_0, BoxAt.dgTabL0 hb1_0, BoxAt.dgTabL1 hb1_0, BoxAt.dgTabL1' hb1_0, BoxAt.dgDifB hb1_0, BoxAt.dgTabB hb1_0, BoxAt.dgLL hb1_0, BoxAt.dgDegL hb1_0, BoxAt.dgLevL hb1_0, BoxAt.dgDifA hb1_0, BoxAt.dgTabA hb1_0, wrap_id, cv_u8, cv_i64, Nat.zero_add, wrap_u8, eq_el, ne_el, build_el, Int.toNat_zero]
 refine op_storeB (o := 0) (vs := dgA ({ { { { { { dgZ with p := X.p } with s := X.s } with deg := X.deg } with lev := X.lev } with dif := X.dif } with tab := X.tab })) (cs' := dgA ({ { { { { { dgZ with p := X.p } with s := X.s } with deg := X.deg } with lev := X.lev } with dif := X.dif } with tab := X.tab })) st34 hb0_1 rfl rfl (dgA_sz _) (by rw [dgA_sz]; decide) dgA_one dgA_all ?_
 intro h8_1 hb0_1 c8_1
 replace hb1_0 := BoxAt.chgA hb1_0 c8_1 (apart_gt hfhb1_0 hlhb0_1 (by omega))
 have := c8_1.size
 replace eB := Ext.then eB c8_1 (ge_of hfhb0_1 (by omega))
 try simp -implicitDefEqProofs (disch := first | decide | assumption | omega) only [go_sem, BoxAt.dgL hb0_1, BoxAt.dgP hb0_1, BoxAt.dgS hb0_1, BoxAt.dgDeg hb0_1, BoxAt.dgLev hb0_1, BoxAt.dgDeg0 hb0_1, BoxAt.dgLev0 hb0_1, BoxAt.dgDifL hb0_1, BoxAt.dgTabL hb0_1, BoxAt.dgTabL0 hb0_1, BoxAt.dgTabL1 hb0_1, BoxAt.dgTabL1' hb0_1, BoxAt.dgDifB hb0_1, BoxAt.dgTabB hb0_1, BoxAt.dgLL hb0_1, BoxAt.dgDegL hb0_1, BoxAt.dgLevL hb0_1, BoxAt.dgDifA hb0_1, BoxAt.dgTabA hb0_1, wrap_id, cv_u8, cv_i64, Nat.zero_add, wrap_u8, eq_el, ne_el, build_el, Int.toNat_zero]
 refine hK _ _ ?_
 clear hK K
 refine den_ret ?_
 simp -implicitDefEqProofs (disch := first | decide | assumption | omega) only [go_sem, BoxAt.dgL hb0_1, BoxAt.dgP hb0_1, BoxAt.dgS hb0_1, BoxAt.dgDeg hb0_1, BoxAt.dgLev hb0_1, BoxAt.dgDeg0 hb0_1, BoxAt.dgLev0 hb0_1, BoxAt.dgDifL hb0_1, BoxAt.dgTabL hb0_1, BoxAt.dgTabL0 hb0_1, BoxAt.dgTabL1 hb0_1, BoxAt.dgTabL1' hb0_1, BoxAt.dgDifB hb0_1, BoxAt.dgTabB hb0_1, BoxAt.dgLL hb0_1, BoxAt.dgDegL hb0_1, BoxAt.dgLevL hb0_1, BoxAt.dgDifA hb0_1, BoxAt.dgTabA hb0_1, wrap_id, cv_u8, cv_i64, Nat.zero_add, wrap_u8, eq_el, ne_el, build_el, Int.toNat_zero, resP_c1, ld34]
 first | exact eB | exact ⟨by first | rfl | trivial, eB⟩
end Go.Proofs.Ytacajcjibhifmaa

namespace Go.Proofs.Ytacajcjibhifmaa
open Go
set_option maxRecDepth 100000 in
theorem exactIsGradedCommutative_law (X : Dg) (h : Heap) (hB : DgB X) : CallA Try.prog 3 #[.agg (dgA X)] h fun v' h' => v' = .bool true ∧ Ext h h' := by
 refine callA_intro TTok (args := [_]) Try.func3 (by kernel_rfl) rfl 27 rfl (by simp) [.tmp 2] rfl ?_
 simp only [idxs, Nat.reduceAdd]
 refine den_seq ?_
 refine den_region TTok ?_
 intro K hK
 simp -implicitDefEqProofs (disch := first | decide | assumption | omega) only [go_sem, wrap_id, cv_u8, cv_i64, Nat.zero_add, wrap_u8, eq_el, ne_el, build_el, Int.toNat_zero]
 refine op_box (cs := dgA X) rfl ?_
 intro h0_0 e0_0 hb0_0 z0_0
 have := Ext.size e0_0
 have eB := e0_0
 have hfhb0_0 : Fresh h.size [h.size] := Fresh.one _
 have hlhb0_0 := one_lt (show h.size < h0_0.size by omega)
 try simp -implicitDefEqProofs (disch := first | decide | assumption | omega) only [go_sem, wrap_id, cv_u8, cv_i64, Nat.zero_add, wrap_u8, eq_el, ne_el, build_el, Int.toNat_zero]
 refine hK _ _ ?_
 clear hK K
 refine den_seq ?_
 refine den_region TTok ?_
 intro K hK
 simp -implicitDefEqProofs (disch := first | decide | assumption | omega) only [go_sem, BoxAt.dgL hb0_0, BoxAt.dgP hb0_0, BoxAt.dgS hb0_0, BoxAt.dgDeg hb0_0, BoxAt.dgLev hb0_0, BoxAt.dgDeg0 hb0_0, BoxAt.dgLev0 hb0_0, BoxAt.dgDifL hb0_0, BoxAt.dgTabL hb0_0, BoxAt.dgTabL0 hb0_0, BoxAt.dgTabL1 hb0_0, BoxAt.dgTabL1' hb0_0, BoxAt.dgDifB hb0_0, BoxAt.dgTabB hb0_0, BoxAt.dgLL hb0_0, BoxAt.dgDegL hb0_0, BoxAt.dgLevL hb0_0, BoxAt.dgDifA hb0_0, BoxAt.dgTabA hb0_0, wrap_id, cv_u8, cv_i64, Nat.zero_add, wrap_u8, eq_el, ne_el, build_el, Int.toNat_zero]
 try simp -implicitDefEqProofs (disch := first | decide | assumption | omega) only [go_sem, wrap_id, cv_u8, cv_i64, Nat.zero_add, wrap_u8, eq_el, ne_el, build_el, Int.toNat_zero]
 refine CallA.mono (toDg_ok  X _  ) ?_
 intro v_ h1_1
 rintro ⟨rfl, e1_1⟩
 replace hb0_0 := BoxAt.ext hb0_0 e1_1
 have := Ext.size e1_1
 replace eB := Ext.trans eB e1_1
 try simp -implicitDefEqProofs (disch := first | decide | assumption | omega) only [go_sem, wrap_id, cv_u8, cv_i64, Nat.zero_add, wrap_u8, eq_el, ne_el, build_el, Int.toNat_zero]
 try simp -implicitDefEqProofs (disch := first | decide | assumption | omega) only [go_sem, wrap_id, cv_u8, cv_i64, Nat.zero_add, wrap_u8, eq_el, ne_el, build_el, Int.toNat_zero]
 refine CallA.mono (sGC_ok  X _  hB) ?_
 intro v_ h1_2
 rintro ⟨rfl, e1_2⟩
 replace hb0_0 := BoxAt.ext hb0_0 e1_2
 have := Ext.size e1_2
 replace eB := Ext.trans eB e1_2
 try simp -implicitDefEqProofs (disch := first | decide | assumption | omega) only [go_sem, wrap_id, cv_u8, cv_i64, Nat.zero_add, wrap_u8, eq_el, ne_el, build_el, Int.toNat_zero]
 refine hK _ _ ?_
 clear hK K
 refine den_seq ?_
 refine den_region TTok ?_
 intro K hK
 simp -implicitDefEqProofs (disch := first | decide | assumption | omega) only [go_sem, BoxAt.dgL hb0_0, BoxAt.dgP hb0_0, BoxAt.dgS hb0_0, BoxAt.dgDeg hb0_0, BoxAt.dgLev hb0_0, BoxAt.dgDeg0 hb0_0, BoxAt.dgLev0 hb0_0, BoxAt.dgDifL hb0_0, BoxAt.dgTabL hb0_0, BoxAt.dgTabL0 hb0_0, BoxAt.dgTabL1 hb0_0, BoxAt.dgTabL1' hb0_0, BoxAt.dgDifB hb0_0, BoxAt.dgTabB hb0_0, BoxAt.dgLL hb0_0, BoxAt.dgDegL hb0_0, BoxAt.dgLevL hb0_0, BoxAt.dgDifA hb0_0, BoxAt.dgTabA hb0_0, wrap_id, cv_u8, cv_i64, Nat.zero_add, wrap_u8, eq_el, ne_el, build_el, Int.toNat_zero]
 try simp -implicitDefEqProofs (disch := first | decide | assumption | omega) only [go_sem, wrap_id, cv_u8, cv_i64, Nat.zero_add, wrap_u8, eq_el, ne_el, build_el, Int.toNat_zero]
 refine CallA.mono (toDg_ok  X _  ) ?_
 intro v_ h2_1
 rintro ⟨rfl, e2_1⟩
 replace hb0_0 := BoxAt.ext hb0_0 e2_1
 have := Ext.size e2_1
 replace eB := Ext.trans eB e2_1
 try simp -implicitDefEqProofs (disch := first | decide | assumption | omega) only [go_sem, wrap_id, cv_u8, cv_i64, Nat.zero_add, wrap_u8, eq_el, ne_el, build_el, Int.toNat_zero]
 try simp -implicitDefEqProofs (disch := first | decide | assumption | omega) only [go_sem, wrap_id, cv_u8, cv_i64, Nat.zero_add, wrap_u8, eq_el, ne_el, build_el, Int.toNat_zero]
 refine CallA.mono (iGC_ok  X _  hB) ?_
 intro v_ h2_2
 rintro ⟨rfl, e2_2⟩
 replace hb0_0 := BoxAt.ext hb0_0 e2_2
 have := Ext.size e2_2
 replace eB := Ext.trans eB e2_2
 try simp -implicitDefEqProofs (disch := first | decide | assumption | omega) only [go_sem, wrap_id, cv_u8, cv_i64, Nat.zero_add, wrap_u8, eq_el, ne_el, build_el, Int.toNat_zero]
 refine hK _ _ ?_
 clear hK K
 refine den_seq ?_
 refine den_seq ?_
 refine den_mergeH [(26, .bool (((!(((gcR X).1) == ((gcR X).1))) || (((gcR X).2) != ((gcR X).2)))))] [] ?_ ?_
  -- a way
 ·refine den_region TTok ?_
  intro K hK
  simp -implicitDefEqProofs (disch := first | decide | assumption | (simp (disch := decide) only [slotOf_zero, slotOf_succ, Option.map_some, puts_same, puts_ne, gv_bool, gv_undef, tt, tf, ft, ff, eq_self, if_true, if_false, Bool.false_eq_true, Bool.not_true, Bool.not_false]; done) | omega) only [go_sem, wrap_id, cv_u8, cv_i64, Nat.zero_add, wrap_u8, eq_el, ne_el, build_el, Int.toNat_zero]
  refine opsP_F (by simp (disch := decide) only [slotOf_zero, slotOf_succ, Option.map_some, puts_same, puts_ne, gv_bool, gv_undef, tt, tf, ft, ff, eq_self, if_true, if_false, Bool.false_eq_true, Bool.not_true, Bool.not_false]; rfl) (fun g1 => ?_) (fun g1 => ?_)
  ·try simp -implicitDefEqProofs (disch := first | decide | assumption | (simp (disch := decide) only [slotOf_zero, slotOf_succ, Option.map_some, puts_same, puts_ne, gv_bool, gv_undef, tt, tf, ft, ff, eq_self, if_true, if_false, Bool.false_eq_true, Bool.not_true, Bool.not_false, g1]; done) | omega) only [go_sem, wrap_id, cv_u8, cv_i64, Nat.zero_add, wrap_u8, eq_el, ne_el, build_el, Int.toNat_zero, g1, eq_self, if_true, if_false, Bool.false_eq_true]
   refine hK _ _ ?_
   clear hK K
   refine den_stop ?_
   refine ⟨?_, rfl⟩
   first | (simp (disch := decide) only [go_sem, g1, eq_self, Bool.true_and, Bool.and_true, Bool.false_and, Bool.and_false, Bool.true_or, Bool.or_true, Bool.false_or, Bool.or_false, if_true, if_false, Bool.false_eq_true]; done) | simp [HasL, sel, puts_at, g1]
  ·try simp -implicitDefEqProofs (disch := first | decide | assumption | (simp (disch := decide) only [slotOf_zero, slotOf_succ, Option.map_some, puts_same, puts_ne, gv_bool, gv_undef, tt, tf, ft, ff, eq_self, if_true, if_false, Bool.false_eq_true, Bool.not_true, Bool.not_false, g1]; done) | omega) only [go_sem, wrap_id, cv_u8, cv_i64, Nat.zero_add, wrap_u8, eq_el, ne_el, build_el, Int.toNat_zero, g1, eq_self, if_true, if_false, Bool.false_eq_true]
   refine hK _ _ ?_
   clear hK K
   refine den_stop ?_
   refine ⟨?_, rfl⟩
   first | (simp (disch := decide) only [go_sem, g1, eq_self, Bool.true_and, Bool.and_true, Bool.false_and, Bool.and_false, Bool.true_or, Bool.or_true, Bool.false_or, Bool.or_false, if_true, if_false, Bool.false_eq_true]; done) | simp [HasL, sel, puts_at, g1]
 intro en2
 simp (disch := decide) only [go_sem]
 refine den_cond rfl (fun c0 => ?_) (fun c0 => ?_)
 ·try simp only [decide_eq_true_eq, decide_eq_false_iff_not, beq_iff_eq, beq_eq_false_iff_ne, bne_iff_ne, ne_eq, Bool.not_eq_true', Bool.not_eq_false', Bool.and_eq_true, Bool.or_eq_true, bne_eq_false_iff_eq] at c0
  exact absurd c0 (by simp)
 ·try simp only [decide_eq_true_eq, decide_eq_false_iff_not, beq_iff_eq, beq_eq_false_iff_ne, bne_iff_ne, ne_eq, Bool.not_eq_true', Bool.not_eq_false', Bool.and_eq_true, Bool.or_eq_true, bne_eq_false_iff_eq] at c0
  refine den_skip ?_
  refine den_seq ?_
  refine den_region TTok ?_
  intro K hK
  simp -implicitDefEqProofs (disch := first | decide | assumption | omega) only [go_sem, wrap_id, cv_u8, cv_i64, Nat.zero_add, wrap_u8, eq_el, ne_el, build_el, Int.toNat_zero]
  refine hK _ _ ?_
  clear hK K
  refine den_ret ?_
  simp (disch := decide) only [resP_1, puts_same, puts_ne]
  exact ⟨by first | rfl | trivial, eB⟩
end Go.Proofs.Ytacajcjibhifmaa
