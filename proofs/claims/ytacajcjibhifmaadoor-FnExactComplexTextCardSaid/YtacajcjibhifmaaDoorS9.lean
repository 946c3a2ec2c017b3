/-
  Walks: complexes.
  Conditions: each theorem's own.
-/
import Derived.Test.YtacajcjibhifmaaDoorS8
set_option linter.unusedVariables false
set_option linter.unusedSimpArgs false
namespace Go.Proofs.YtacajcjibhifmaaDoor
open Go
def tbAt (X : Cx) (k : Nat) : Prop := tableP X.p (X.maps.getD k default) (X.dims.getD ((k : Int) + 1).toNat 0) (X.dims.getD k 0) = true
/-- Row i of map k, sent on by the map before. -/
def sqv (X : Cx) (k i : Nat) : List Int := accP X.p ((X.maps.getD k default).getD i default) (X.maps.getD ((k : Int) - 1).toNat default) (List.replicate (X.dims.getD ((k : Int) - 1).toNat 0).toNat 0)
structure IsC (X : Cx) : Prop where
  p : isP X.p = true
  len : 1 ≤ X.dims.length ∧ X.dims.length ≤ 6
  ml : X.maps.length + 1 = X.dims.length
  dm : X.dims.all (fun x => in3 x 0 8) = true
  tb : ∀ k, k < X.maps.length → tbAt X k
  sq : ∀ k, k < X.maps.length → 0 < k → ∀ i, i < (X.maps.getD k default).length → leadP (sqv X k i) < 0
noncomputable def isC (X : Cx) : Bool := @decide (IsC X) (Classical.propDecidable _)
theorem isC_t {X : Cx} : isC X = true ↔ IsC X := by
  unfold isC
  exact @decide_eq_true_iff _ (Classical.propDecidable _)
theorem isC_no {X : Cx} (h : ¬ IsC X) : false = isC X := by
  cases e : isC X
  · rfl
  · exact absurd (isC_t.1 e) h
theorem isC_yes {X : Cx} (h : IsC X) : true = isC X := (isC_t.2 h).symm
theorem app_pre {X : Cx} {k i : Nat} (ht : ∀ j, j ≤ k → tbAt X j) (h0 : 0 < k) (hi : i < (X.maps.getD k default).length) :
    ((X.maps.getD k default).getD i default).length ≤ (X.maps.getD ((k : Int) - 1).toNat default).length ∧ Bnd X.p ((X.maps.getD k default).getD i default) ∧ Tbl X.p (X.dims.getD ((k : Int) - 1).toNat 0) (X.maps.getD ((k : Int) - 1).toNat default) := by
  have t1 := tableP_iff.1 (ht k (Nat.le_refl _))
  have t2 := tableP_iff.1 (ht ((k : Int) - 1).toNat (by omega))
  have e : (((((k : Int) - 1).toNat : Nat) : Int) + 1).toNat = k := by omega
  rw [e] at t2
  have t3 := t1.2.at hi
  exact ⟨by omega, t3.2, t2.2⟩
theorem dm_at {X : Cx} (h : X.dims.all (fun x => in3 x 0 8) = true) {k : Nat} (hk : k < X.dims.length) : 0 ≤ X.dims.getD k 0 ∧ X.dims.getD k 0 ≤ 8 := in3_iff.1 (all_at (d := 0) h hk)

set_option maxRecDepth 100000 in
theorem sIs_ok (v : Value) (X : Cx) (h : Heap) (hv : RC h v X) : CallA Tryd.prog 11 #[v] h fun v' h' => v' = .bool (isC X) ∧ Ext h h' := by
  obtain ⟨vd, vm, rfl, hd, hm⟩ := hv
  have hle := RdS.le hd
  have hlm := RdS.le hm
  refine callA_intro TTok (args := [_]) Tryd.func11 (by kernel_rfl) rfl 112 rfl (by simp) [.tmp 2] rfl ?_
  simp only [idxs, Nat.reduceAdd]
  refine den_seq ?_
  refine den_region TTok ?_
  intro K hK
  simp -implicitDefEqProofs (disch := first | decide | assumption | omega) only [go_sem, RdS.len hd sl22, RdS.idx hd sl22, R1.intB hd (HPres.refl _), RdS.cells hd, RdS.len hm sl23, RdS.idx hm sl23, RdS.cellB hm (HPres.refl _), RdS.cells hm, wrap_id]
  refine op_box (cs := #[.int .i64 (X.p), vd, vm]) rfl ?_
  intro h0_0 e0_0 hb0_0 z0_0
  replace hd := RdS.pres hd (Ext.pres e0_0)
  replace hm := RdS.pres hm (Ext.pres e0_0)
  try simp -implicitDefEqProofs (disch := first | decide | assumption | omega) only [go_sem, RdS.len hd sl22, RdS.idx hd sl22, R1.intB hd (HPres.refl _), RdS.cells hd, RdS.len hm sl23, RdS.idx hm sl23, RdS.cellB hm (HPres.refl _), RdS.cells hm, BoxAt.cell hb0_0, wrap_id]
  refine hK _ _ ?_
  clear hK K
  refine den_seq ?_
  refine den_seq ?_
  refine den_mergeH [(31, .bool (((((!((isP X.p))) || (decide (((X.dims).length : Int) < (1 : Int)))) || (decide ((6 : Int) < ((X.dims).length : Int)))) || (((X.maps).length : Int) != (((X.dims).length : Int) - (1 : Int))))))] [1] ?_ ?_
    -- a way
  · refine den_region TTok ?_
    intro K hK
    simp -implicitDefEqProofs (disch := first | decide | assumption | (simp (disch := decide) only [slotOf_zero, slotOf_succ, Option.map_some, puts_same, puts_ne, gv_bool, gv_undef, tt, tf, ft, ff, eq_self, if_true, if_false, Bool.false_eq_true, Bool.not_true, Bool.not_false]; done) | omega) only [go_sem, fa29_0, ld2, RdS.len hd sl22, RdS.idx hd sl22, R1.intB hd (HPres.refl _), RdS.cells hd, RdS.len hm sl23, RdS.idx hm sl23, RdS.cellB hm (HPres.refl _), RdS.cells hm, BoxAt.cell hb0_0, wrap_id]
    try simp -implicitDefEqProofs (disch := first | decide | assumption | omega) only [go_sem, RdS.len hd sl22, RdS.idx hd sl22, R1.intB hd (HPres.refl _), RdS.cells hd, RdS.len hm sl23, RdS.idx hm sl23, RdS.cellB hm (HPres.refl _), RdS.cells hm, BoxAt.cell hb0_0, wrap_id]
    refine CallA.pure (sPrime_ok _ _) ?_
    try simp -implicitDefEqProofs (disch := first | decide | assumption | (simp (disch := decide) only [slotOf_zero, slotOf_succ, Option.map_some, puts_same, puts_ne, gv_bool, gv_undef, tt, tf, ft, ff, eq_self, if_true, if_false, Bool.false_eq_true, Bool.not_true, Bool.not_false]; done) | omega) only [go_sem, RdS.len hd sl22, RdS.idx hd sl22, R1.intB hd (HPres.refl _), RdS.cells hd, RdS.len hm sl23, RdS.idx hm sl23, RdS.cellB hm (HPres.refl _), RdS.cells hm, BoxAt.cell hb0_0, wrap_id]
    refine opsP_F (by simp (disch := decide) only [slotOf_zero, slotOf_succ, Option.map_some, puts_same, puts_ne, gv_bool, gv_undef, tt, tf, ft, ff, eq_self, if_true, if_false, Bool.false_eq_true, Bool.not_true, Bool.not_false]; rfl) (fun g1 => ?_) (fun g1 => ?_)
    · try simp -implicitDefEqProofs (disch := first | decide | assumption | (simp (disch := decide) only [slotOf_zero, slotOf_succ, Option.map_some, puts_same, puts_ne, gv_bool, gv_undef, tt, tf, ft, ff, eq_self, if_true, if_false, Bool.false_eq_true, Bool.not_true, Bool.not_false, g1]; done) | omega) only [go_sem, fa29_1, ld22, RdS.len hd sl22, RdS.idx hd sl22, R1.intB hd (HPres.refl _), RdS.cells hd, RdS.len hm sl23, RdS.idx hm sl23, RdS.cellB hm (HPres.refl _), RdS.cells hm, BoxAt.cell hb0_0, wrap_id, g1, eq_self, if_true, if_false, Bool.false_eq_true]
      refine opsP_F (by simp (disch := decide) only [slotOf_zero, slotOf_succ, Option.map_some, puts_same, puts_ne, gv_bool, gv_undef, tt, tf, ft, ff, eq_self, if_true, if_false, Bool.false_eq_true, Bool.not_true, Bool.not_false, g1]; rfl) (fun g2 => ?_) (fun g2 => ?_)
      · try simp -implicitDefEqProofs (disch := first | decide | assumption | (simp (disch := decide) only [slotOf_zero, slotOf_succ, Option.map_some, puts_same, puts_ne, gv_bool, gv_undef, tt, tf, ft, ff, eq_self, if_true, if_false, Bool.false_eq_true, Bool.not_true, Bool.not_false, g1, g2]; done) | omega) only [go_sem, fa29_1, ld22, RdS.len hd sl22, RdS.idx hd sl22, R1.intB hd (HPres.refl _), RdS.cells hd, RdS.len hm sl23, RdS.idx hm sl23, RdS.cellB hm (HPres.refl _), RdS.cells hm, BoxAt.cell hb0_0, wrap_id, g1, g2, eq_self, if_true, if_false, Bool.false_eq_true]
        refine opsP_F (by simp (disch := decide) only [slotOf_zero, slotOf_succ, Option.map_some, puts_same, puts_ne, gv_bool, gv_undef, tt, tf, ft, ff, eq_self, if_true, if_false, Bool.false_eq_true, Bool.not_true, Bool.not_false, g1, g2]; rfl) (fun g3 => ?_) (fun g3 => ?_)
        · try simp -implicitDefEqProofs (disch := first | decide | assumption | (simp (disch := decide) only [slotOf_zero, slotOf_succ, Option.map_some, puts_same, puts_ne, gv_bool, gv_undef, tt, tf, ft, ff, eq_self, if_true, if_false, Bool.false_eq_true, Bool.not_true, Bool.not_false, g1, g2, g3]; done) | omega) only [go_sem, fa29_1, fa29_2, ld23, ld22, RdS.len hd sl22, RdS.idx hd sl22, R1.intB hd (HPres.refl _), RdS.cells hd, RdS.len hm sl23, RdS.idx hm sl23, RdS.cellB hm (HPres.refl _), RdS.cells hm, BoxAt.cell hb0_0, wrap_id, g1, g2, g3, eq_self, if_true, if_false, Bool.false_eq_true]
          refine hK _ _ ?_
          clear hK K
          refine den_stop ?_
          refine ⟨?_, rfl⟩
          first | (simp (disch := decide) only [go_sem, g1, g2, g3, eq_self, Bool.true_and, Bool.and_true, Bool.false_and, Bool.and_false, Bool.true_or, Bool.or_true, Bool.false_or, Bool.or_false, if_true, if_false, Bool.false_eq_true]; done) | simp [HasL, sel, puts_at, g1, g2, g3]
        · try simp -implicitDefEqProofs (disch := first | decide | assumption | (simp (disch := decide) only [slotOf_zero, slotOf_succ, Option.map_some, puts_same, puts_ne, gv_bool, gv_undef, tt, tf, ft, ff, eq_self, if_true, if_false, Bool.false_eq_true, Bool.not_true, Bool.not_false, g1, g2, g3]; done) | omega) only [go_sem, RdS.len hd sl22, RdS.idx hd sl22, R1.intB hd (HPres.refl _), RdS.cells hd, RdS.len hm sl23, RdS.idx hm sl23, RdS.cellB hm (HPres.refl _), RdS.cells hm, BoxAt.cell hb0_0, wrap_id, g1, g2, g3, eq_self, if_true, if_false, Bool.false_eq_true]
          refine hK _ _ ?_
          clear hK K
          refine den_stop ?_
          refine ⟨?_, rfl⟩
          first | (simp (disch := decide) only [go_sem, g1, g2, g3, eq_self, Bool.true_and, Bool.and_true, Bool.false_and, Bool.and_false, Bool.true_or, Bool.or_true, Bool.false_or, Bool.or_false, if_true, if_false, Bool.false_eq_true]; done) | simp [HasL, sel, puts_at, g1, g2, g3]
      · try simp -implicitDefEqProofs (disch := first | decide | assumption | (simp (disch := decide) only [slotOf_zero, slotOf_succ, Option.map_some, puts_same, puts_ne, gv_bool, gv_undef, tt, tf, ft, ff, eq_self, if_true, if_false, Bool.false_eq_true, Bool.not_true, Bool.not_false, g1, g2]; done) | omega) only [go_sem, RdS.len hd sl22, RdS.idx hd sl22, R1.intB hd (HPres.refl _), RdS.cells hd, RdS.len hm sl23, RdS.idx hm sl23, RdS.cellB hm (HPres.refl _), RdS.cells hm, BoxAt.cell hb0_0, wrap_id, g1, g2, eq_self, if_true, if_false, Bool.false_eq_true]
        try simp -implicitDefEqProofs (disch := first | decide | assumption | (simp (disch := decide) only [slotOf_zero, slotOf_succ, Option.map_some, puts_same, puts_ne, gv_bool, gv_undef, tt, tf, ft, ff, eq_self, if_true, if_false, Bool.false_eq_true, Bool.not_true, Bool.not_false, g1, g2]; done) | omega) only [go_sem, RdS.len hd sl22, RdS.idx hd sl22, R1.intB hd (HPres.refl _), RdS.cells hd, RdS.len hm sl23, RdS.idx hm sl23, RdS.cellB hm (HPres.refl _), RdS.cells hm, BoxAt.cell hb0_0, wrap_id, g1, g2, eq_self, if_true, if_false, Bool.false_eq_true]
        refine hK _ _ ?_
        clear hK K
        refine den_stop ?_
        refine ⟨?_, rfl⟩
        first | (simp (disch := decide) only [go_sem, g1, g2, eq_self, Bool.true_and, Bool.and_true, Bool.false_and, Bool.and_false, Bool.true_or, Bool.or_true, Bool.false_or, Bool.or_false, if_true, if_false, Bool.false_eq_true]; done) | simp [HasL, sel, puts_at, g1, g2]
    · try simp -implicitDefEqProofs (disch := first | decide | assumption | (simp (disch := decide) only [slotOf_zero, slotOf_succ, Option.map_some, puts_same, puts_ne, gv_bool, gv_undef, tt, tf, ft, ff, eq_self, if_true, if_false, Bool.false_eq_true, Bool.not_true, Bool.not_false, g1]; done) | omega) only [go_sem, RdS.len hd sl22, RdS.idx hd sl22, R1.intB hd (HPres.refl _), RdS.cells hd, RdS.len hm sl23, RdS.idx hm sl23, RdS.cellB hm (HPres.refl _), RdS.cells hm, BoxAt.cell hb0_0, wrap_id, g1, eq_self, if_true, if_false, Bool.false_eq_true]
      try simp -implicitDefEqProofs (disch := first | decide | assumption | (simp (disch := decide) only [slotOf_zero, slotOf_succ, Option.map_some, puts_same, puts_ne, gv_bool, gv_undef, tt, tf, ft, ff, eq_self, if_true, if_false, Bool.false_eq_true, Bool.not_true, Bool.not_false, g1]; done) | omega) only [go_sem, RdS.len hd sl22, RdS.idx hd sl22, R1.intB hd (HPres.refl _), RdS.cells hd, RdS.len hm sl23, RdS.idx hm sl23, RdS.cellB hm (HPres.refl _), RdS.cells hm, BoxAt.cell hb0_0, wrap_id, g1, eq_self, if_true, if_false, Bool.false_eq_true]
      try simp -implicitDefEqProofs (disch := first | decide | assumption | (simp (disch := decide) only [slotOf_zero, slotOf_succ, Option.map_some, puts_same, puts_ne, gv_bool, gv_undef, tt, tf, ft, ff, eq_self, if_true, if_false, Bool.false_eq_true, Bool.not_true, Bool.not_false, g1]; done) | omega) only [go_sem, RdS.len hd sl22, RdS.idx hd sl22, R1.intB hd (HPres.refl _), RdS.cells hd, RdS.len hm sl23, RdS.idx hm sl23, RdS.cellB hm (HPres.refl _), RdS.cells hm, BoxAt.cell hb0_0, wrap_id, g1, eq_self, if_true, if_false, Bool.false_eq_true]
      refine hK _ _ ?_
      clear hK K
      refine den_stop ?_
      refine ⟨?_, rfl⟩
      first | (simp (disch := decide) only [go_sem, g1, eq_self, Bool.true_and, Bool.and_true, Bool.false_and, Bool.and_false, Bool.true_or, Bool.or_true, Bool.false_or, Bool.or_false, if_true, if_false, Bool.false_eq_true]; done) | simp [HasL, sel, puts_at, g1]
  intro en4
  simp (disch := decide) only [go_sem]
  refine den_cond rfl (fun c0 => ?_) (fun c0 => ?_)
  · try simp only [decide_eq_true_eq, decide_eq_false_iff_not, beq_iff_eq, beq_eq_false_iff_ne, bne_iff_ne, ne_eq, Bool.not_eq_true', Bool.not_eq_false', Bool.and_eq_true, Bool.or_eq_true, bne_eq_false_iff_eq, Bool.or_eq_false_iff, Bool.and_eq_false_iff] at c0
    refine den_seq ?_
    refine den_region TTok ?_
    intro K hK
    simp -implicitDefEqProofs (disch := first | decide | assumption | omega) only [go_sem, RdS.len hd sl22, RdS.idx hd sl22, R1.intB hd (HPres.refl _), RdS.cells hd, RdS.len hm sl23, RdS.idx hm sl23, RdS.cellB hm (HPres.refl _), RdS.cells hm, BoxAt.cell hb0_0, wrap_id]
    refine hK _ _ ?_
    clear hK K
    refine den_ret ?_
    simp (disch := decide) only [resP_1, puts_same, puts_ne]
    exact ⟨vbool (isC_no fun hC => by
      have h1 := hC.p; have h2 := hC.len; have h3 := hC.ml
      rcases c0 with ((c | c) | c) | c
      · rw [h1] at c; cases c
      all_goals omega), e0_0⟩
  · try simp only [decide_eq_true_eq, decide_eq_false_iff_not, beq_iff_eq, beq_eq_false_iff_ne, bne_iff_ne, ne_eq, Bool.not_eq_true', Bool.not_eq_false', Bool.and_eq_true, Bool.or_eq_true, bne_eq_false_iff_eq, Bool.or_eq_false_iff, Bool.and_eq_false_iff] at c0
    refine den_skip ?_
    refine den_seq ?_
    refine den_seq ?_
    refine den_region TTok ?_
    intro K hK
    simp -implicitDefEqProofs (disch := first | decide | assumption | omega) only [go_sem, RdS.len hd sl22, RdS.idx hd sl22, R1.intB hd (HPres.refl _), RdS.cells hd, RdS.len hm sl23, RdS.idx hm sl23, RdS.cellB hm (HPres.refl _), RdS.cells hm, BoxAt.cell hb0_0, wrap_id]
    refine hK _ _ ?_
    clear hK K
    refine den_block ?_
    refine den_sel [3, 1] ?_
    intro env_7
    simp only [go_sem]
    refine den_loopP (σ := Nat) (fun s => [(3, .int .i64 (s : Int))]) (fun s => s ≤ X.dims.length ∧ (X.dims.take s).all (fun x => in3 x 0 8) = true) (fun s => X.dims.length - s) 0 ?_ ?_
    · exact ⟨rfl, by omega, by simp⟩
    · rintro k ee9 ⟨hk, ha⟩
      simp only [List.cons_append, List.nil_append]
      refine den_seq ?_
      refine den_seq ?_
      have hp7 := isP_bnd c0.1.1.1
      refine den_region TTok ?_
      intro K hK
      simp -implicitDefEqProofs (disch := first | decide | assumption | omega) only [go_sem, fa29_1, ld22, RdS.len hd sl22, RdS.idx hd sl22, R1.intB hd (HPres.refl _), RdS.cells hd, RdS.len hm sl23, RdS.idx hm sl23, RdS.cellB hm (HPres.refl _), RdS.cells hm, BoxAt.cell hb0_0, wrap_id]
      refine hK _ _ ?_
      clear hK K
      refine den_cond rfl (fun c1 => ?_) (fun c1 => ?_)
      · try simp only [decide_eq_true_eq, decide_eq_false_iff_not, beq_iff_eq, beq_eq_false_iff_ne, bne_iff_ne, ne_eq, Bool.not_eq_true', Bool.not_eq_false', Bool.and_eq_true, Bool.or_eq_true, bne_eq_false_iff_eq, Bool.or_eq_false_iff, Bool.and_eq_false_iff] at c1
        refine den_skip ?_
        refine den_seq ?_
        refine den_block ?_
        refine den_seq ?_
        refine den_region TTok ?_
        intro K hK
        simp -implicitDefEqProofs (disch := first | decide | assumption | omega) only [go_sem, fa29_1, ld22, ld2, RdS.len hd sl22, RdS.idx hd sl22, R1.intB hd (HPres.refl _), RdS.cells hd, RdS.len hm sl23, RdS.idx hm sl23, RdS.cellB hm (HPres.refl _), RdS.cells hm, BoxAt.cell hb0_0, wrap_id]
        try simp -implicitDefEqProofs (disch := first | decide | assumption | omega) only [go_sem, RdS.len hd sl22, RdS.idx hd sl22, R1.intB hd (HPres.refl _), RdS.cells hd, RdS.len hm sl23, RdS.idx hm sl23, RdS.cellB hm (HPres.refl _), RdS.cells hm, BoxAt.cell hb0_0, wrap_id]
        refine CallA.pure (sIn_ok _ _ _ _) ?_
        try simp -implicitDefEqProofs (disch := first | decide | assumption | omega) only [go_sem, RdS.len hd sl22, RdS.idx hd sl22, R1.intB hd (HPres.refl _), RdS.cells hd, RdS.len hm sl23, RdS.idx hm sl23, RdS.cellB hm (HPres.refl _), RdS.cells hm, BoxAt.cell hb0_0, wrap_id]
        refine hK _ _ ?_
        clear hK K
        refine den_cond rfl (fun c2 => ?_) (fun c2 => ?_)
        · try simp only [decide_eq_true_eq, decide_eq_false_iff_not, beq_iff_eq, beq_eq_false_iff_ne, bne_iff_ne, ne_eq, Bool.not_eq_true', Bool.not_eq_false', Bool.and_eq_true, Bool.or_eq_true, bne_eq_false_iff_eq, Bool.or_eq_false_iff, Bool.and_eq_false_iff] at c2
          refine den_seq ?_
          refine den_region TTok ?_
          intro K hK
          simp -implicitDefEqProofs (disch := first | decide | assumption | omega) only [go_sem, RdS.len hd sl22, RdS.idx hd sl22, R1.intB hd (HPres.refl _), RdS.cells hd, RdS.len hm sl23, RdS.idx hm sl23, RdS.cellB hm (HPres.refl _), RdS.cells hm, BoxAt.cell hb0_0, wrap_id]
          refine hK _ _ ?_
          clear hK K
          refine den_ret ?_
          simp (disch := decide) only [resP_1, puts_same, puts_ne]
          exact ⟨vbool (isC_no fun hC => by have h := all_at (d := 0) hC.dm (k := k) (by omega); rw [c2] at h; cases h), e0_0⟩
        · try simp only [decide_eq_true_eq, decide_eq_false_iff_not, beq_iff_eq, beq_eq_false_iff_ne, bne_iff_ne, ne_eq, Bool.not_eq_true', Bool.not_eq_false', Bool.and_eq_true, Bool.or_eq_true, bne_eq_false_iff_eq, Bool.or_eq_false_iff, Bool.and_eq_false_iff] at c2
          refine den_skip ?_
          refine den_blk ?_
          refine den_region TTok ?_
          intro K hK
          simp -implicitDefEqProofs (disch := first | decide | assumption | omega) only [go_sem, RdS.len hd sl22, RdS.idx hd sl22, R1.intB hd (HPres.refl _), RdS.cells hd, RdS.len hm sl23, RdS.idx hm sl23, RdS.cellB hm (HPres.refl _), RdS.cells hm, BoxAt.cell hb0_0, wrap_id]
          refine hK _ _ ?_
          clear hK K
          refine den_stop ?_
          exact ⟨k + 1, by simp [HasL, puts_at], ⟨rfl, by omega, all_step (d := 0) (by omega) ha (by simpa using c2)⟩, by omega⟩
      · try simp only [decide_eq_true_eq, decide_eq_false_iff_not, beq_iff_eq, beq_eq_false_iff_ne, bne_iff_ne, ne_eq, Bool.not_eq_true', Bool.not_eq_false', Bool.and_eq_true, Bool.or_eq_true, bne_eq_false_iff_eq, Bool.or_eq_false_iff, Bool.and_eq_false_iff] at c1
        refine den_exit ?_
        refine denX_code ?_
        refine denX_stop ?_
        refine denX_hit ?_
        refine den_seq ?_
        refine den_seq ?_
        have hda := all_end (by omega) ha
        refine den_region TTok ?_
        intro K hK
        simp -implicitDefEqProofs (disch := first | decide | assumption | omega) only [go_sem, RdS.len hd sl22, RdS.idx hd sl22, R1.intB hd (HPres.refl _), RdS.cells hd, RdS.len hm sl23, RdS.idx hm sl23, RdS.cellB hm (HPres.refl _), RdS.cells hm, BoxAt.cell hb0_0, wrap_id]
        refine hK _ _ ?_
        clear hK K
        refine den_block ?_
        refine den_sel [4, 1] ?_
        intro env_10
        simp only [go_sem]
        refine den_loopS (σ := Nat) (fun s => [(4, .int .i64 (s : Int))]) (fun s H => Ext h0_0 H ∧ s ≤ X.maps.length ∧ ∀ j, j < s → tbAt X j ∧ (0 < j → ∀ i, i < (X.maps.getD j default).length → leadP (sqv X j i) < 0)) (fun s => X.maps.length - s) 0 ?_ ?_
        · exact ⟨Ext.refl _, by omega, fun j hj => by omega⟩
        · rintro k h13 ee12 ⟨eB, hk, hz⟩
          simp only [List.cons_append, List.nil_append]
          have := Ext.size eB
          refine den_seq ?_
          refine den_seq ?_
          refine den_region TTok ?_
          intro K hK
          simp -implicitDefEqProofs (disch := first | decide | assumption | omega) only [go_sem, fa29_2, ld23, RdS.len hd sl22, RdS.idx hd sl22, R1.intB hd (Ext.pres eB), RdS.cells hd, RdS.len hm sl23, RdS.idx hm sl23, RdS.cellB hm (Ext.pres eB), RdS.cells hm, BoxAt.cellB hb0_0 eB, wrap_id]
          refine hK _ _ ?_
          clear hK K
          refine den_cond rfl (fun c3 => ?_) (fun c3 => ?_)
          · try simp only [decide_eq_true_eq, decide_eq_false_iff_not, beq_iff_eq, beq_eq_false_iff_ne, bne_iff_ne, ne_eq, Bool.not_eq_true', Bool.not_eq_false', Bool.and_eq_true, Bool.or_eq_true, bne_eq_false_iff_eq, Bool.or_eq_false_iff, Bool.and_eq_false_iff] at c3
            refine den_skip ?_
            refine den_seq ?_
            refine den_block ?_
            refine den_seq ?_
            refine den_seq ?_
            refine den_draw TTok mixed [] [(0, true), (1, true), (2, true), (3, true), (4, true), (5, true), (6, true), (7, true), (8, true), (9, true), (10, true), (11, true), (12, true), (13, true), (14, true), (15, true), (16, true), (17, true), (18, false), (19, true)] (by kernel_rfl) ?_
            intro K hK
            have hr14 := RdS.rowN hm k (by omega)
            have hlhr14 := RdS.le hr14
            simp -implicitDefEqProofs (disch := first | decide | assumption | omega) only [go_sem, fa29_0, fa29_1, fa29_2, ld23, ld43, ld22, ld2, RdS.len hd sl22, RdS.idx hd sl22, R1.intB hd (Ext.pres eB), RdS.cells hd, RdS.len hm sl23, RdS.idx hm sl23, RdS.cellB hm (Ext.pres eB), RdS.cells hm, RdS.len hr14 sl43, RdS.idx hr14 sl43, RdS.cellB hr14 (Ext.pres eB), RdS.cells hr14, BoxAt.cellB hb0_0 eB, wrap_id]
            try simp -implicitDefEqProofs (disch := first | decide | assumption | omega) only [go_sem, RdS.len hd sl22, RdS.idx hd sl22, R1.intB hd (Ext.pres eB), RdS.cells hd, RdS.len hm sl23, RdS.idx hm sl23, RdS.cellB hm (Ext.pres eB), RdS.cells hm, RdS.len hr14 sl43, RdS.idx hr14 sl43, RdS.cellB hr14 (Ext.pres eB), RdS.cells hr14, BoxAt.cellB hb0_0 eB, wrap_id]
            refine CallA.pure (sTable_ok _ _ _ _ _ _ (RdS.pres hr14 (Ext.pres eB)) (by omega)) ?_
            try simp -implicitDefEqProofs (disch := first | decide | assumption | omega) only [go_sem, RdS.len hd sl22, RdS.idx hd sl22, R1.intB hd (Ext.pres eB), RdS.cells hd, RdS.len hm sl23, RdS.idx hm sl23, RdS.cellB hm (Ext.pres eB), RdS.cells hm, RdS.len hr14 sl43, RdS.idx hr14 sl43, RdS.cellB hr14 (Ext.pres eB), RdS.cells hr14, BoxAt.cellB hb0_0 eB, wrap_id]
            refine hK _ _ ?_
            clear hK K
            refine den_cond rfl (fun c4 => ?_) (fun c4 => ?_)
            · try simp only [decide_eq_true_eq, decide_eq_false_iff_not, beq_iff_eq, beq_eq_false_iff_ne, bne_iff_ne, ne_eq, Bool.not_eq_true', Bool.not_eq_false', Bool.and_eq_true, Bool.or_eq_true, bne_eq_false_iff_eq, Bool.or_eq_false_iff, Bool.and_eq_false_iff] at c4
              refine den_seq ?_
              refine den_region TTok ?_
              intro K hK
              simp -implicitDefEqProofs (disch := first | decide | assumption | omega) only [go_sem, RdS.len hd sl22, RdS.idx hd sl22, R1.intB hd (Ext.pres eB), RdS.cells hd, RdS.len hm sl23, RdS.idx hm sl23, RdS.cellB hm (Ext.pres eB), RdS.cells hm, RdS.len hr14 sl43, RdS.idx hr14 sl43, RdS.cellB hr14 (Ext.pres eB), RdS.cells hr14, BoxAt.cellB hb0_0 eB, wrap_id]
              refine hK _ _ ?_
              clear hK K
              refine den_ret ?_
              simp (disch := decide) only [resP_1, puts_same, puts_ne]
              exact ⟨vbool (isC_no fun hC => by have h := hC.tb k (by omega); unfold tbAt at h; rw [c4] at h; cases h), (Ext.trans e0_0 eB)⟩
            · try simp only [decide_eq_true_eq, decide_eq_false_iff_not, beq_iff_eq, beq_eq_false_iff_ne, bne_iff_ne, ne_eq, Bool.not_eq_true', Bool.not_eq_false', Bool.and_eq_true, Bool.or_eq_true, bne_eq_false_iff_eq, Bool.or_eq_false_iff, Bool.and_eq_false_iff] at c4
              refine den_skip ?_
              refine den_seq ?_
              refine den_region TTok ?_
              intro K hK
              simp -implicitDefEqProofs (disch := first | decide | assumption | omega) only [go_sem, RdS.len hd sl22, RdS.idx hd sl22, R1.intB hd (Ext.pres eB), RdS.cells hd, RdS.len hm sl23, RdS.idx hm sl23, RdS.cellB hm (Ext.pres eB), RdS.cells hm, RdS.len hr14 sl43, RdS.idx hr14 sl43, RdS.cellB hr14 (Ext.pres eB), RdS.cells hr14, BoxAt.cellB hb0_0 eB, wrap_id]
              refine hK _ _ ?_
              clear hK K
              refine den_block ?_
              refine den_sel [5, 1, 4] ?_
              intro env_15
              simp only [go_sem]
              refine den_loopS (σ := Nat) (fun s => [(5, .int .i64 (s : Int))]) (fun s H => Ext h0_0 H ∧ s ≤ (X.maps.getD k default).length ∧ ∀ i, i < s → leadP (sqv X k i) < 0) (fun s => (X.maps.getD k default).length - s) 0 ?_ ?_
              · exact ⟨eB, by omega, fun j hj => by omega⟩
              · rintro m h18 ee17 ⟨eB, hm2, hy⟩
                simp only [List.cons_append, List.nil_append]
                have := Ext.size eB
                refine den_seq ?_
                refine den_seq ?_
                refine den_mergeH [(84, .bool (((decide ((m : Int) < (((X.maps).getD k default).length : Int))) && (decide ((0 : Int) < (k : Int))))))] [1, 4, 5] ?_ ?_
                  -- a way
                · refine den_region TTok ?_
                  intro K hK
                  have hr19 := RdS.rowN hm k (by omega)
                  have hlhr19 := RdS.le hr19
                  simp -implicitDefEqProofs (disch := first | decide | assumption | (simp (disch := decide) only [slotOf_zero, slotOf_succ, Option.map_some, puts_same, puts_ne, gv_bool, gv_undef, tt, tf, ft, ff, eq_self, if_true, if_false, Bool.false_eq_true, Bool.not_true, Bool.not_false]; done) | omega) only [go_sem, fa29_2, ld23, ld43, RdS.len hd sl22, RdS.idx hd sl22, R1.intB hd (Ext.pres eB), RdS.cells hd, RdS.len hm sl23, RdS.idx hm sl23, RdS.cellB hm (Ext.pres eB), RdS.cells hm, RdS.len hr14 sl43, RdS.idx hr14 sl43, RdS.cellB hr14 (Ext.pres eB), RdS.cells hr14, RdS.len hr19 sl43, RdS.idx hr19 sl43, RdS.cellB hr19 (Ext.pres eB), RdS.cells hr19, BoxAt.cellB hb0_0 eB, wrap_id]
                  refine opsP_T (by simp (disch := decide) only [slotOf_zero, slotOf_succ, Option.map_some, puts_same, puts_ne, gv_bool, gv_undef, tt, tf, ft, ff, eq_self, if_true, if_false, Bool.false_eq_true, Bool.not_true, Bool.not_false]; rfl) (fun g20 => ?_) (fun g20 => ?_)
                  · try simp -implicitDefEqProofs (disch := first | decide | assumption | (simp (disch := decide) only [slotOf_zero, slotOf_succ, Option.map_some, puts_same, puts_ne, gv_bool, gv_undef, tt, tf, ft, ff, eq_self, if_true, if_false, Bool.false_eq_true, Bool.not_true, Bool.not_false, g20]; done) | omega) only [go_sem, RdS.len hd sl22, RdS.idx hd sl22, R1.intB hd (Ext.pres eB), RdS.cells hd, RdS.len hm sl23, RdS.idx hm sl23, RdS.cellB hm (Ext.pres eB), RdS.cells hm, RdS.len hr14 sl43, RdS.idx hr14 sl43, RdS.cellB hr14 (Ext.pres eB), RdS.cells hr14, RdS.len hr19 sl43, RdS.idx hr19 sl43, RdS.cellB hr19 (Ext.pres eB), RdS.cells hr19, BoxAt.cellB hb0_0 eB, wrap_id, g20, eq_self, if_true, if_false, Bool.false_eq_true]
                    refine hK _ _ ?_
                    clear hK K
                    refine den_stop ?_
                    refine ⟨?_, rfl⟩
                    first | (simp (disch := decide) only [go_sem, g20, eq_self, Bool.true_and, Bool.and_true, Bool.false_and, Bool.and_false, Bool.true_or, Bool.or_true, Bool.false_or, Bool.or_false, if_true, if_false, Bool.false_eq_true]; done) | simp [HasL, sel, puts_at, g20]
                  · try simp -implicitDefEqProofs (disch := first | decide | assumption | (simp (disch := decide) only [slotOf_zero, slotOf_succ, Option.map_some, puts_same, puts_ne, gv_bool, gv_undef, tt, tf, ft, ff, eq_self, if_true, if_false, Bool.false_eq_true, Bool.not_true, Bool.not_false, g20]; done) | omega) only [go_sem, RdS.len hd sl22, RdS.idx hd sl22, R1.intB hd (Ext.pres eB), RdS.cells hd, RdS.len hm sl23, RdS.idx hm sl23, RdS.cellB hm (Ext.pres eB), RdS.cells hm, RdS.len hr14 sl43, RdS.idx hr14 sl43, RdS.cellB hr14 (Ext.pres eB), RdS.cells hr14, RdS.len hr19 sl43, RdS.idx hr19 sl43, RdS.cellB hr19 (Ext.pres eB), RdS.cells hr19, BoxAt.cellB hb0_0 eB, wrap_id, g20, eq_self, if_true, if_false, Bool.false_eq_true]
                    refine hK _ _ ?_
                    clear hK K
                    refine den_stop ?_
                    refine ⟨?_, rfl⟩
                    first | (simp (disch := decide) only [go_sem, g20, eq_self, Bool.true_and, Bool.and_true, Bool.false_and, Bool.and_false, Bool.true_or, Bool.or_true, Bool.false_or, Bool.or_false, if_true, if_false, Bool.false_eq_true]; done) | simp [HasL, sel, puts_at, g20]
                intro en21
                simp (disch := decide) only [go_sem]
                refine den_cond rfl (fun c5 => ?_) (fun c5 => ?_)
                · try simp only [decide_eq_true_eq, decide_eq_false_iff_not, beq_iff_eq, beq_eq_false_iff_ne, bne_iff_ne, ne_eq, Bool.not_eq_true', Bool.not_eq_false', Bool.and_eq_true, Bool.or_eq_true, bne_eq_false_iff_eq, Bool.or_eq_false_iff, Bool.and_eq_false_iff] at c5
                  refine den_skip ?_
                  refine den_seq ?_
                  refine den_block ?_
                  refine den_seq ?_
                  have hq := app_pre (X := X) (k := k) (i := m) (fun j hj => by
                    rcases Nat.lt_or_eq_of_le hj with h1 | h1
                    · exact (hz j h1).1
                    · subst h1; exact c4) (by omega) (by omega)
                  have hdk := dm_at (X := X) hda (k := ((k : Int) - 1).toNat) (by omega)
                  refine den_draw TTok mixed [] [(0, true), (1, true), (2, true), (3, true), (4, true), (5, true), (6, true), (7, true), (8, true), (9, true), (10, true), (11, true), (12, true), (13, true), (14, true), (15, true), (16, true), (17, true), (18, true), (19, true), (20, true), (21, true), (22, false), (23, false), (24, true)] (by kernel_rfl) ?_
                  intro K hK
                  have hr24 := RdS.rowN hm (((k : Int) - (1 : Int))).toNat (by omega)
                  have hlhr24 := RdS.le hr24
                  have hr25 := RdS.rowN hm k (by omega)
                  have hlhr25 := RdS.le hr25
                  have hr26 := RdS.rowN hr25 m (by omega)
                  have hlhr26 := RdS.le hr26
                  simp -implicitDefEqProofs (disch := first | decide | assumption | omega) only [go_sem, fa29_0, fa29_1, fa29_2, ld23, ld43, ld22, ld2, RdS.len hd sl22, RdS.idx hd sl22, R1.intB hd (Ext.pres eB), RdS.cells hd, RdS.len hm sl23, RdS.idx hm sl23, RdS.cellB hm (Ext.pres eB), RdS.cells hm, RdS.len hr14 sl43, RdS.idx hr14 sl43, RdS.cellB hr14 (Ext.pres eB), RdS.cells hr14, RdS.len hr24 sl43, RdS.idx hr24 sl43, RdS.cellB hr24 (Ext.pres eB), RdS.cells hr24, RdS.len hr25 sl43, RdS.idx hr25 sl43, RdS.cellB hr25 (Ext.pres eB), RdS.cells hr25, RdS.len hr26 sl22, RdS.idx hr26 sl22, R1.intB hr26 (Ext.pres eB), RdS.cells hr26, BoxAt.cellB hb0_0 eB, wrap_id]
                  try simp -implicitDefEqProofs (disch := first | decide | assumption | omega) only [go_sem, RdS.len hd sl22, RdS.idx hd sl22, R1.intB hd (Ext.pres eB), RdS.cells hd, RdS.len hm sl23, RdS.idx hm sl23, RdS.cellB hm (Ext.pres eB), RdS.cells hm, RdS.len hr14 sl43, RdS.idx hr14 sl43, RdS.cellB hr14 (Ext.pres eB), RdS.cells hr14, RdS.len hr24 sl43, RdS.idx hr24 sl43, RdS.cellB hr24 (Ext.pres eB), RdS.cells hr24, RdS.len hr25 sl43, RdS.idx hr25 sl43, RdS.cellB hr25 (Ext.pres eB), RdS.cells hr25, RdS.len hr26 sl22, RdS.idx hr26 sl22, R1.intB hr26 (Ext.pres eB), RdS.cells hr26, BoxAt.cellB hb0_0 eB, wrap_id]
                  refine CallA.mono (sApply_ok _ _ _ _ _ _ _ (RdS.pres hr26 (Ext.pres eB)) (RdS.pres hr24 (Ext.pres eB)) hp7 (by omega) hq.1 hq.2.1 hq.2.2) ?_
                  intro v16_22 h16_22
                  rintro ⟨f16_22, ho16_22, hf16_22, e16_22⟩
                  have := Ext.size e16_22
                  replace eB := Ext.trans eB e16_22
                  change O1 _ _ (sqv X k m) _ at ho16_22
                  have hlho16_22 := OS.lt ho16_22
                  try simp (disch := decide) only [outv_some, outv_none, put_puts]
                  refine plK_pres (Ext.pres e16_22) ?_
                  try simp -implicitDefEqProofs (disch := first | decide | assumption | omega) only [go_sem, RdS.len hd sl22, RdS.idx hd sl22, R1.intB hd (Ext.pres eB), RdS.cells hd, RdS.len hm sl23, RdS.idx hm sl23, RdS.cellB hm (Ext.pres eB), RdS.cells hm, RdS.len hr14 sl43, RdS.idx hr14 sl43, RdS.cellB hr14 (Ext.pres eB), RdS.cells hr14, RdS.len hr24 sl43, RdS.idx hr24 sl43, RdS.cellB hr24 (Ext.pres eB), RdS.cells hr24, RdS.len hr25 sl43, RdS.idx hr25 sl43, RdS.cellB hr25 (Ext.pres eB), RdS.cells hr25, RdS.len hr26 sl22, RdS.idx hr26 sl22, R1.intB hr26 (Ext.pres eB), RdS.cells hr26, RdS.len (OS.rd ho16_22) sl22, RdS.idx (OS.rd ho16_22) sl22, R1.intN (OS.rd ho16_22), RdS.cells (OS.rd ho16_22), BoxAt.cellB hb0_0 eB, wrap_id]
                  try simp -implicitDefEqProofs (disch := first | decide | assumption | omega) only [go_sem, RdS.len hd sl22, RdS.idx hd sl22, R1.intB hd (Ext.pres eB), RdS.cells hd, RdS.len hm sl23, RdS.idx hm sl23, RdS.cellB hm (Ext.pres eB), RdS.cells hm, RdS.len hr14 sl43, RdS.idx hr14 sl43, RdS.cellB hr14 (Ext.pres eB), RdS.cells hr14, RdS.len hr24 sl43, RdS.idx hr24 sl43, RdS.cellB hr24 (Ext.pres eB), RdS.cells hr24, RdS.len hr25 sl43, RdS.idx hr25 sl43, RdS.cellB hr25 (Ext.pres eB), RdS.cells hr25, RdS.len hr26 sl22, RdS.idx hr26 sl22, R1.intB hr26 (Ext.pres eB), RdS.cells hr26, RdS.len (OS.rd ho16_22) sl22, RdS.idx (OS.rd ho16_22) sl22, R1.intN (OS.rd ho16_22), RdS.cells (OS.rd ho16_22), BoxAt.cellB hb0_0 eB, wrap_id]
                  refine CallA.pure (sLead_ok _ _ _ (OS.rd ho16_22)) ?_
                  try simp -implicitDefEqProofs (disch := first | decide | assumption | omega) only [go_sem, RdS.len hd sl22, RdS.idx hd sl22, R1.intB hd (Ext.pres eB), RdS.cells hd, RdS.len hm sl23, RdS.idx hm sl23, RdS.cellB hm (Ext.pres eB), RdS.cells hm, RdS.len hr14 sl43, RdS.idx hr14 sl43, RdS.cellB hr14 (Ext.pres eB), RdS.cells hr14, RdS.len hr24 sl43, RdS.idx hr24 sl43, RdS.cellB hr24 (Ext.pres eB), RdS.cells hr24, RdS.len hr25 sl43, RdS.idx hr25 sl43, RdS.cellB hr25 (Ext.pres eB), RdS.cells hr25, RdS.len hr26 sl22, RdS.idx hr26 sl22, R1.intB hr26 (Ext.pres eB), RdS.cells hr26, RdS.len (OS.rd ho16_22) sl22, RdS.idx (OS.rd ho16_22) sl22, R1.intN (OS.rd ho16_22), RdS.cells (OS.rd ho16_22), BoxAt.cellB hb0_0 eB, wrap_id]
                  refine hK _ _ ?_
                  clear hK K
                  refine den_cond rfl (fun c6 => ?_) (fun c6 => ?_)
                  · try simp only [decide_eq_true_eq, decide_eq_false_iff_not, beq_iff_eq, beq_eq_false_iff_ne, bne_iff_ne, ne_eq, Bool.not_eq_true', Bool.not_eq_false', Bool.and_eq_true, Bool.or_eq_true, bne_eq_false_iff_eq, Bool.or_eq_false_iff, Bool.and_eq_false_iff] at c6
                    refine den_seq ?_
                    refine den_region TTok ?_
                    intro K hK
                    simp -implicitDefEqProofs (disch := first | decide | assumption | omega) only [go_sem, RdS.len hd sl22, RdS.idx hd sl22, R1.intB hd (Ext.pres eB), RdS.cells hd, RdS.len hm sl23, RdS.idx hm sl23, RdS.cellB hm (Ext.pres eB), RdS.cells hm, RdS.len hr14 sl43, RdS.idx hr14 sl43, RdS.cellB hr14 (Ext.pres eB), RdS.cells hr14, RdS.len hr24 sl43, RdS.idx hr24 sl43, RdS.cellB hr24 (Ext.pres eB), RdS.cells hr24, RdS.len hr25 sl43, RdS.idx hr25 sl43, RdS.cellB hr25 (Ext.pres eB), RdS.cells hr25, RdS.len hr26 sl22, RdS.idx hr26 sl22, R1.intB hr26 (Ext.pres eB), RdS.cells hr26, RdS.len (OS.rd ho16_22) sl22, RdS.idx (OS.rd ho16_22) sl22, R1.intN (OS.rd ho16_22), RdS.cells (OS.rd ho16_22), BoxAt.cellB hb0_0 eB, wrap_id]
                    refine hK _ _ ?_
                    clear hK K
                    refine den_ret ?_
                    simp (disch := decide) only [resP_1, puts_same, puts_ne]
                    exact ⟨vbool (isC_no fun hC => by have h := hC.sq k (by omega) (by omega) m (by omega); omega), (Ext.trans e0_0 eB)⟩
                  · try simp only [decide_eq_true_eq, decide_eq_false_iff_not, beq_iff_eq, beq_eq_false_iff_ne, bne_iff_ne, ne_eq, Bool.not_eq_true', Bool.not_eq_false', Bool.and_eq_true, Bool.or_eq_true, bne_eq_false_iff_eq, Bool.or_eq_false_iff, Bool.and_eq_false_iff] at c6
                    refine den_skip ?_
                    refine den_blk ?_
                    refine den_region TTok ?_
                    intro K hK
                    simp -implicitDefEqProofs (disch := first | decide | assumption | omega) only [go_sem, RdS.len hd sl22, RdS.idx hd sl22, R1.intB hd (Ext.pres eB), RdS.cells hd, RdS.len hm sl23, RdS.idx hm sl23, RdS.cellB hm (Ext.pres eB), RdS.cells hm, RdS.len hr14 sl43, RdS.idx hr14 sl43, RdS.cellB hr14 (Ext.pres eB), RdS.cells hr14, RdS.len hr24 sl43, RdS.idx hr24 sl43, RdS.cellB hr24 (Ext.pres eB), RdS.cells hr24, RdS.len hr25 sl43, RdS.idx hr25 sl43, RdS.cellB hr25 (Ext.pres eB), RdS.cells hr25, RdS.len hr26 sl22, RdS.idx hr26 sl22, R1.intB hr26 (Ext.pres eB), RdS.cells hr26, RdS.len (OS.rd ho16_22) sl22, RdS.idx (OS.rd ho16_22) sl22, R1.intN (OS.rd ho16_22), RdS.cells (OS.rd ho16_22), BoxAt.cellB hb0_0 eB, wrap_id]
                    refine hK _ _ ?_
                    clear hK K
                    refine den_stop ?_
                    exact ⟨m + 1, by simp [HasL, puts_at], ⟨eB, by omega, fun i hi => by
                      rcases Nat.lt_succ_iff_lt_or_eq.1 hi with h1 | h1
                      · exact hy i h1
                      · subst h1; omega⟩, by omega⟩
                · try simp only [decide_eq_true_eq, decide_eq_false_iff_not, beq_iff_eq, beq_eq_false_iff_ne, bne_iff_ne, ne_eq, Bool.not_eq_true', Bool.not_eq_false', Bool.and_eq_true, Bool.or_eq_true, bne_eq_false_iff_eq, Bool.or_eq_false_iff, Bool.and_eq_false_iff] at c5
                  refine den_exit ?_
                  refine denX_code ?_
                  refine denX_stop ?_
                  refine denX_hit ?_
                  refine den_blk ?_
                  refine den_region TTok ?_
                  intro K hK
                  simp -implicitDefEqProofs (disch := first | decide | assumption | omega) only [go_sem, RdS.len hd sl22, RdS.idx hd sl22, R1.intB hd (Ext.pres eB), RdS.cells hd, RdS.len hm sl23, RdS.idx hm sl23, RdS.cellB hm (Ext.pres eB), RdS.cells hm, RdS.len hr14 sl43, RdS.idx hr14 sl43, RdS.cellB hr14 (Ext.pres eB), RdS.cells hr14, BoxAt.cellB hb0_0 eB, wrap_id]
                  refine hK _ _ ?_
                  clear hK K
                  refine den_stop ?_
                  exact ⟨k + 1, by simp [HasL, puts_at], ⟨eB, by omega, fun j hj => by
                    rcases Nat.lt_succ_iff_lt_or_eq.1 hj with h1 | h1
                    · exact hz j h1
                    · subst h1; exact ⟨c4, fun h0 i hi => hy i (by omega)⟩⟩, by omega⟩
          · try simp only [decide_eq_true_eq, decide_eq_false_iff_not, beq_iff_eq, beq_eq_false_iff_ne, bne_iff_ne, ne_eq, Bool.not_eq_true', Bool.not_eq_false', Bool.and_eq_true, Bool.or_eq_true, bne_eq_false_iff_eq, Bool.or_eq_false_iff, Bool.and_eq_false_iff] at c3
            refine den_exit ?_
            refine denX_code ?_
            refine denX_stop ?_
            refine denX_hit ?_
            refine den_seq ?_
            refine den_region TTok ?_
            intro K hK
            simp -implicitDefEqProofs (disch := first | decide | assumption | omega) only [go_sem, RdS.len hd sl22, RdS.idx hd sl22, R1.intB hd (Ext.pres eB), RdS.cells hd, RdS.len hm sl23, RdS.idx hm sl23, RdS.cellB hm (Ext.pres eB), RdS.cells hm, BoxAt.cellB hb0_0 eB, wrap_id]
            refine hK _ _ ?_
            clear hK K
            refine den_ret ?_
            simp (disch := decide) only [resP_1, puts_same, puts_ne]
            exact ⟨vbool (isC_yes ⟨c0.1.1.1, by omega, by omega, hda, fun j hj => (hz j (by omega)).1, fun j hj h0 => (hz j (by omega)).2 h0⟩), (Ext.trans e0_0 eB)⟩

end Go.Proofs.YtacajcjibhifmaaDoor
